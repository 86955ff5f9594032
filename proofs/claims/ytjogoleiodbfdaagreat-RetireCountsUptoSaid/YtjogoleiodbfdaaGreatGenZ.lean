/- A part of the proof: lemmas on how the program runs over plain data. -/
import Derived.Test.YtjogoleiodbfdaaGreatAbSrt1Z
import Derived.Test.YtjogoleiodbfdaaGreatAbLoop
import Derived.KernelRfl
set_option linter.unusedVariables false
set_option linter.unusedSimpArgs false
set_option linter.unnecessarySimpa false
namespace Go.Ab
open Go Go.Proofs
set_option maxRecDepth 100000
noncomputable section
abbrev bx0:List BSh:=[.box 9 .leaf]
abbrev bx1:List BSh:=[.box 9 .leaf,.box 50 .leaf]
abbrev bx2:List BSh:=[.box 3 .leaf,.box 52 .leaf]
abbrev bx3:List BSh:=[.box 9 .leaf,.box 58 .leaf]
abbrev bx4:List BSh:=[.box 71 (.agg 71 [.leaf,.leaf]),.map 97 3]
abbrev bx5:List BSh:=[.box 71 (.agg 71 [.leaf,.leaf]),.map 97 3,.box 33 .leaf,.box 50 .leaf]
abbrev bx6:List BSh:=[.box 71 (.agg 71 [.leaf,.leaf]),.map 97 3,.box 52 .leaf,.box 33 .leaf]
abbrev bx7:List BSh:=[.box 71 (.agg 71 [.leaf,.leaf]),.map 97 3,.box 44 .leaf,.box 33 .leaf,.box 58 .leaf]
abbrev bx8:List BSh:=[.box 84 .leaf,.box 81 .leaf]
abbrev bx9:List BSh:=[.box 26 .leaf,.acc]
abbrev bx10:List BSh:=[.box 111 (.agg 111 [.leaf,.leaf]),.acc]
abbrev bx11:List BSh:=[.box 26 .leaf]
abbrev bx12:List BSh:=[.arr 4 0,.box 26 .leaf,.box 50 .leaf]
abbrev bx13:List BSh:=[.box 26 .leaf,.arr 4 0]
abbrev bx14:List BSh:=[.box 50 .leaf,.box 52 .leaf]
abbrev bx15:List BSh:=[.box 26 .leaf,.box 52 .leaf,.box 33 .leaf]
abbrev bx16:List BSh:=[.box 26 .leaf,.box 50 .leaf]
abbrev bx17:List BSh:=[.box 26 .leaf,.box 50 .leaf,.box 111 (.agg 111 [.leaf,.leaf]),.acc,.box 52 .leaf]
abbrev bx18:List BSh:=[.box 26 .leaf,.box 50 .leaf,.box 111 (.agg 111 [.leaf,.leaf]),.acc]
abbrev bx19:List BSh:=[.box 58 .leaf,.box 111 (.agg 111 [.leaf,.leaf]),.acc,.box 60 .leaf]
abbrev bx20:List BSh:=[.box 58 .leaf,.box 111 (.agg 111 [.leaf,.leaf]),.acc]
abbrev bx21:List BSh:=[.box 26 .leaf,.box 123 .leaf,.box 111 (.agg 111 [.leaf,.leaf]),.acc]
abbrev bx22:List BSh:=[.box 26 .leaf,.box 111 (.agg 111 [.leaf,.leaf]),.acc]
abbrev bx23:List BSh:=[.box 33 .leaf]
abbrev bx24:List BSh:=[.box 26 .leaf,.box 58 .leaf]
abbrev bx25:List BSh:=[.box 26 .leaf,.box 50 .leaf,.box 33 .leaf]
abbrev bx26:List BSh:=[.box 26 .leaf,.box 50 .leaf,.box 33 .leaf,.box 52 .leaf]
abbrev bx27:List BSh:=[.box 26 .leaf,.box 44 .leaf,.box 33 .leaf]
abbrev bx28:List BSh:=[.box 26 .leaf,.box 44 .leaf,.box 33 .leaf,.box 50 .leaf]
abbrev bx29:List BSh:=[.box 26 .leaf,.box 33 .leaf,.box 44 .leaf,.box 50 .leaf]
abbrev bx30:List BSh:=[.box 26 .leaf,.box 33 .leaf,.box 44 .leaf]
abbrev bx31:List BSh:=[.box 26 .leaf,.box 33 .leaf,.box 44 .leaf,.box 58 .leaf]
abbrev sv0:List Shape:=[(.con (.ref 0 [] 9)),.str]
abbrev sv1:List Shape:=[.str,(.data 50)]
abbrev sv2:List Shape:=[(.data 26),.str]
abbrev sv3:List Shape:=[(.int .i64),.str]
abbrev sv4:List Shape:=[(.slice 76),.str]
abbrev sv5:List Shape:=[(.data 33),.bool]
abbrev sv6:List Shape:=[(.int .i64),(.data 52)]
abbrev sv7:List Shape:=[(.data 50),(.int .i64)]
abbrev sv8:List Shape:=[.str,(.data 58)]
abbrev sv11:List Shape:=[(.data 33),(.data 50)]
abbrev sv15:List Shape:=[(.data 84),(.data 81)]
abbrev sv16:List Shape:=[.str,(.int .i64)]
abbrev sv17:List Shape:=[(.int .i64),.bool]
abbrev sv18:List Shape:=[(.int .i64),(.int .i64)]
abbrev sv20:List Shape:=[(.acc 1 9),(.data 26)]
abbrev sv22:List Shape:=[.str,(.acc 1 151)]
abbrev sv23:List Shape:=[(.int .i64),(.data 26)]
abbrev sv26:List Shape:=[(.data 26),(.slice 4)]
abbrev sv27:List Shape:=[(.data 50),(.data 52)]
abbrev sv29:List Shape:=[(.int .i64),(.data 33)]
abbrev sv33:List Shape:=[(.data 26),(.data 50)]
abbrev sv35:List Shape:=[.str,(.acc 2 151)]
abbrev sv36:List Shape:=[.str,(.acc 3 151)]
abbrev sv43:List Shape:=[(.data 26),(.data 58)]
abbrev sv10:List Shape:=[(.data 26),(.con (.mref 1)),(.map 97 3)]
abbrev sv13:List Shape:=[(.data 26),.str,(.data 33)]
abbrev sv24:List Shape:=(.slice 4)::sv33
abbrev sv25:List Shape:=(.int .i64)::sv26
abbrev sv28:List Shape:=.bool::sv27
abbrev sv31:List Shape:=[(.data 26),(.data 52),(.data 33)]
abbrev sv42:List Shape:=(.con (.ref 0 [] 33))::sv29
abbrev sv44:List Shape:=(.data 33)::sv17
abbrev sv47:List Shape:=[(.data 26),(.data 50),(.data 33)]
abbrev sv9:List Shape:=(.data 33)::sv10
abbrev sv14:List Shape:=(.int .i64)::(.int .i64)::sv15
abbrev sv21:List Shape:=(.int .i64)::(.int .i64)::sv22
abbrev sv30:List Shape:=(.int .i64)::sv31
abbrev sv34:List Shape:=(.data 26)::(.data 50)::sv36
abbrev sv39:List Shape:=(.int .i64)::(.data 26)::sv35
abbrev sv40:List Shape:=(.con (.ref 1 [] 111))::(.data 26)::sv35
abbrev sv41:List Shape:=(.con (.ref 0 [] 33))::(.int .i64)::sv29
abbrev sv46:List Shape:=(.int .i64)::sv47
abbrev sv49:List Shape:=[(.data 26),(.data 50),(.data 33),(.data 52)]
abbrev sv51:List Shape:=(.con (.ref 1 [] 50))::(.int .i64)::sv33
abbrev sv52:List Shape:=[(.int .i64),(.data 26),(.data 44),(.data 33)]
abbrev sv54:List Shape:=[(.data 26),(.data 33),(.data 44),(.data 50)]
abbrev sv56:List Shape:=[.bool,(.data 26),(.data 33),(.data 44)]
abbrev sv57:List Shape:=[(.int .i64),(.data 26),(.data 33),(.data 44)]
abbrev sv58:List Shape:=[(.data 26),(.data 33),(.data 44),(.data 58)]
abbrev sv12:List Shape:=[(.data 26),(.con (.mref 1)),(.map 97 3),(.data 52),(.data 33)]
abbrev sv19:List Shape:=(.int .i64)::(.con (.ref 0 [] 26))::(.acc 1 9)::sv23
abbrev sv32:List Shape:=(.con (.ref 0 [] 26))::sv51
abbrev sv38:List Shape:=(.con (.ref 0 [] 26))::sv40
abbrev sv48:List Shape:=(.int .i64)::sv49
abbrev sv53:List Shape:=(.int .i64)::(.data 26)::(.data 44)::sv11
abbrev sv55:List Shape:=(.int .i64)::sv57
abbrev sv37:List Shape:=(.con (.ref 0 [] 26))::(.con (.ref 1 [] 111))::sv39
abbrev sv45:List Shape:=(.con (.ref 0 [] 26))::(.con (.ref 1 [] 50))::(.con (.ref 2 [] 33))::sv46
abbrev sv50:List Shape:=(.int .i64)::.bool::(.con (.ref 0 [] 26))::(.con (.ref 1 [] 52))::(.con (.ref 2 [] 33))::sv30
def F52 (uu:Nat) (a0:PV) (a1:Unit) (a2:List UInt8):Option (Bool×(List UInt8)):=
 some ((((a0.fld 0).asStr)==a2),a2)
def F52c (uu:Nat):CallE:=⟨52,⟨2,bx0,(.data 50)::sv0⟩,⟨1,bx0,[.bool,.str]⟩,fun x=>F52 uu x.1 x.2.1 x.2.2,(false,[])⟩
theorem F52ok (uu:Nat):(F52c uu).Ok Tryz.prog:=okJ Tryz.f52 8 1 uu [] [] false (q0) (p0) L0
abbrev S51_3x:=Unit×Unit×(List PV)×Int×Int×(List UInt8)×PV
abbrev S51_3y:=(Unit×Bool×(List UInt8)×PV)⊕(Unit×(List UInt8)×PV)
def S51_3 (uu:Nat) (a2:Unit) (a3:Unit) (a4:List PV) (a5:Int) (a6:Int) (a7:List UInt8) (a8:PV):Option (S51_3x⊕S51_3y):=
 bif (decide (a6<a5)) then
 bif aab a6 a4.length then
 let x10:=a4.getD a6.toNat .bad
 (F52 uu x10 () a7).bind fun y11=>
 bif y11.1 then
 some (.inr (.inl ((),true,y11.2,x10)))
 else
 some (.inl ((),(),a4,a5,(IntKind.wrap .i64 (a6+(1:Int))),y11.2,a8))
 else none
 else
 some (.inr (.inr ((),a7,a8)))
def S51_3step (uu:Nat) (x:S51_3x):Option (S51_3x⊕S51_3y):=S51_3 uu x.1 x.2.1 x.2.2.1 x.2.2.2.1 x.2.2.2.2.1 x.2.2.2.2.2.1 x.2.2.2.2.2.2
def F51 (uu:Nat) (a0:List PV) (a1:Unit) (a2:List UInt8):Option (PV×Bool×(List UInt8)):=
 (aag uu (S51_3step uu) ((),(),a0,(a0.length:Int),(0:Int),a2,(PV.agg [(PV.str ([]:List UInt8)),(PV.slice []),(PV.slice []),(PV.slice []),(PV.slice [])]))).bind fun z=>sumE (fun y13=>
 some (y13.2.2.2,y13.2.1,y13.2.2.1)
 ) (fun y14=>
 some ((PV.agg [(PV.str ([]:List UInt8)),(PV.slice []),(PV.slice []),(PV.slice []),(PV.slice [])]),false,y14.2.1)
 ) z
def S51_3l (uu:Nat):LoopE:=⟨3,⟨[1,4,9,10,11],bx1,(.con (.fn 52 0 [(.ref 0 [] 9)]))::(.con (.ref 1 [] 50))::(.slice 50)::(.int .i64)::(.int .i64)::sv1⟩,[(.ret,⟨[4,5],bx1,(.con (.ref 1 [] 50))::.bool::sv1⟩),(.exit 0,⟨[4],bx1,(.con (.ref 1 [] 50))::sv1⟩)],S51_3step uu⟩
def F51C (uu:Nat):Cfg:=cfg Tryz.prog 21 1 [F52c uu] [S51_3l uu] uu
def F51c (uu:Nat):CallE:=⟨51,⟨2,bx0,[(.slice 50),(.con (.fn 52 0 [(.ref 0 [] 9)])),.str]⟩,⟨2,bx0,[(.data 50),.bool,.str]⟩,fun x=>F51 uu x.1 x.2.1 x.2.2,(PV.bad,false,[])⟩
theorem F51k (uu:Nat):aan (F51C uu):=aae (qc (F52ok uu)<|q0) (p0)
theorem S51_3ok (uu:Nat):LoopOk (F51C uu) (lp (aam Tryz.f51) 0):=okL (F51k uu) uu (S51_3l uu) L0
theorem F51ok (uu:Nat):(F51c uu).Ok Tryz.prog:=okE Tryz.f51 (F51k uu) (L1 (S51_3ok uu))
def F27 (uu:Nat) (a0:PV) (a1:List UInt8):Option (PV×Bool):=
 (F51 uu ((a0.fld 0).asList) () a1).bind fun y2=>
 some (y2.1,y2.2.1)
def F27c (uu:Nat):CallE:=⟨27,⟨2,[],sv2⟩,⟨2,[],[(.data 50),.bool]⟩,fun x=>F27 uu x.1 x.2,(PV.bad,false)⟩
theorem F27ok (uu:Nat):(F27c uu).Ok Tryz.prog:=okJ Tryz.f27 12 0 uu _ [] false (qc (F51ok uu)<|q0) (p0) L0
def F116 (uu:Nat) (a0:PV) (a1:Unit) (a2:List UInt8):Option (Bool×(List UInt8)):=
 some ((((a0.fld 0).asStr)==a2),a2)
def F116c (uu:Nat):CallE:=⟨116,⟨2,bx0,(.data 76)::sv0⟩,⟨1,bx0,[.bool,.str]⟩,fun x=>F116 uu x.1 x.2.1 x.2.2,(false,[])⟩
theorem F116ok (uu:Nat):(F116c uu).Ok Tryz.prog:=okJ Tryz.f116 8 1 uu [] [] false (q0) (p0) L0
abbrev S115_3x:=(List PV)×Unit×Int×Int×(List UInt8)
abbrev S115_3y:=(Int×(List UInt8))⊕((List UInt8))
def S115_3 (uu:Nat) (a2:List PV) (a3:Unit) (a4:Int) (a5:Int) (a6:List UInt8):Option (S115_3x⊕S115_3y):=
 bif (decide (a5<a4)) then
 bif aab a5 a2.length then
 (F116 uu (a2.getD a5.toNat .bad) () a6).bind fun y9=>
 bif y9.1 then
 some (.inr (.inl (a5,y9.2)))
 else
 some (.inl (a2,(),a4,(IntKind.wrap .i64 (a5+(1:Int))),y9.2))
 else none
 else
 some (.inr (.inr a6))
def S115_3step (uu:Nat) (x:S115_3x):Option (S115_3x⊕S115_3y):=S115_3 uu x.1 x.2.1 x.2.2.1 x.2.2.2.1 x.2.2.2.2
def F115 (uu:Nat) (a0:List PV) (a1:Unit) (a2:List UInt8):Option (Int×(List UInt8)):=
 (aag uu (S115_3step uu) (a0,(),(a0.length:Int),(0:Int),a2)).bind fun z=>sumE (fun y11=>
 some (y11.1,y11.2)
 ) (fun y12=>
 some ((-1:Int),y12)
 ) z
def S115_3l (uu:Nat):LoopE:=⟨3,⟨[0,1,7,8],bx0,(.slice 76)::(.con (.fn 116 0 [(.ref 0 [] 9)]))::(.int .i64)::sv3⟩,[(.ret,⟨[4],bx0,sv3⟩),(.exit 0,⟨[],bx0,[.str]⟩)],S115_3step uu⟩
def F115C (uu:Nat):Cfg:=cfg Tryz.prog 19 1 [F116c uu] [S115_3l uu] uu
def F115c (uu:Nat):CallE:=⟨115,⟨2,bx0,[(.slice 76),(.con (.fn 116 0 [(.ref 0 [] 9)])),.str]⟩,⟨1,bx0,sv3⟩,fun x=>F115 uu x.1 x.2.1 x.2.2,(0,[])⟩
theorem F115k (uu:Nat):aan (F115C uu):=aae (qc (F116ok uu)<|q0) (p0)
theorem S115_3ok (uu:Nat):LoopOk (F115C uu) (lp (aam Tryz.f115) 0):=okL (F115k uu) uu (S115_3l uu) L0
theorem F115ok (uu:Nat):(F115c uu).Ok Tryz.prog:=okE Tryz.f115 (F115k uu) (L1 (S115_3ok uu))
def F81 (uu:Nat) (a0:List PV) (a1:List UInt8):Option (Int):=
 (F115 uu a0 () a1).bind fun y1=>
 some y1.1
def F81c (uu:Nat):CallE:=⟨81,⟨2,[],sv4⟩,⟨1,[],[(.int .i64)]⟩,fun x=>F81 uu x.1 x.2,0⟩
theorem F81ok (uu:Nat):(F81c uu).Ok Tryz.prog:=okJ Tryz.f81 8 0 uu _ [] false (qc (F115ok uu)<|q0) (p0) L0
def F53 (uu:Nat) (a0:List PV) (a1:List UInt8):Option (PV×Bool):=
 (F81 uu a0 a1).bind fun y1=>
 bif (decide (y1<(0:Int))) then
 some ((PV.agg [(PV.int (0:Int)),(PV.int (0:Int)),(PV.str ([]:List UInt8)),(PV.slice []),(PV.slice []),(PV.slice []),(PV.slice [])]),false)
 else
 bif aab y1 a0.length then
 some (((a0.getD y1.toNat .bad).fld 1),true)
 else none
def F53c (uu:Nat):CallE:=⟨53,⟨2,[],sv4⟩,⟨2,[],sv5⟩,fun x=>F53 uu x.1 x.2,(PV.bad,false)⟩
theorem F53ok (uu:Nat):(F53c uu).Ok Tryz.prog:=okJ Tryz.f53 18 0 uu _ [] false (qc (F81ok uu)<|q0) (p0) L0
def F28 (uu:Nat) (a0:List PV) (a1:List UInt8):Option (Bool):=
 (F53 uu a0 a1).bind fun y1=>
 let x2:=y1.1
 some (bif (bif y1.2 then (((x2.fld 0).asInt)==(1:Int)) else false) then (((x2.fld 1).asInt)==(1:Int)) else false)
def F28c (uu:Nat):CallE:=⟨28,⟨2,[],sv4⟩,⟨1,[],[.bool]⟩,fun x=>F28 uu x.1 x.2,false⟩
theorem F28ok (uu:Nat):(F28c uu).Ok Tryz.prog:=okJ Tryz.f28 24 0 uu _ [] false (qc (F53ok uu)<|q0) (p0) L0
def F55 (uu:Nat) (a0:PV) (a1:Unit) (a2:Int):Option (Bool×Int):=
 some ((((a0.fld 0).asInt)==a2),a2)
def F55c (uu:Nat):CallE:=⟨55,⟨2,[.box 3 .leaf],[(.data 52),(.con (.ref 0 [] 3)),(.int .i64)]⟩,⟨1,[.box 3 .leaf],[.bool,(.int .i64)]⟩,fun x=>F55 uu x.1 x.2.1 x.2.2,(false,0)⟩
theorem F55ok (uu:Nat):(F55c uu).Ok Tryz.prog:=okJ Tryz.f55 8 1 uu [] [] false (q0) (p0) L0
abbrev S54_3x:=Unit×Unit×(List PV)×Int×Int×Int×PV
abbrev S54_3y:=(Unit×Bool×Int×PV)⊕(Unit×Int×PV)
def S54_3 (uu:Nat) (a2:Unit) (a3:Unit) (a4:List PV) (a5:Int) (a6:Int) (a7:Int) (a8:PV):Option (S54_3x⊕S54_3y):=
 bif (decide (a6<a5)) then
 bif aab a6 a4.length then
 let x10:=a4.getD a6.toNat .bad
 (F55 uu x10 () a7).bind fun y11=>
 bif y11.1 then
 some (.inr (.inl ((),true,y11.2,x10)))
 else
 some (.inl ((),(),a4,a5,(IntKind.wrap .i64 (a6+(1:Int))),y11.2,a8))
 else none
 else
 some (.inr (.inr ((),a7,a8)))
def S54_3step (uu:Nat) (x:S54_3x):Option (S54_3x⊕S54_3y):=S54_3 uu x.1 x.2.1 x.2.2.1 x.2.2.2.1 x.2.2.2.2.1 x.2.2.2.2.2.1 x.2.2.2.2.2.2
def F54 (uu:Nat) (a0:List PV) (a1:Unit) (a2:Int):Option (PV×Bool×Int):=
 (aag uu (S54_3step uu) ((),(),a0,(a0.length:Int),(0:Int),a2,(PV.agg [(PV.int (0:Int)),(PV.str ([]:List UInt8)),(PV.int (0:Int)),(PV.int (0:Int)),(PV.agg [(PV.int (0:Int)),(PV.str ([]:List UInt8))]),(PV.str ([]:List UInt8)),(PV.bool false),(PV.agg [(PV.int (0:Int)),(PV.int (0:Int)),(PV.str ([]:List UInt8)),(PV.slice []),(PV.slice []),(PV.slice []),(PV.slice [])]),(PV.slice [])]))).bind fun z=>sumE (fun y13=>
 some (y13.2.2.2,y13.2.1,y13.2.2.1)
 ) (fun y14=>
 some ((PV.agg [(PV.int (0:Int)),(PV.str ([]:List UInt8)),(PV.int (0:Int)),(PV.int (0:Int)),(PV.agg [(PV.int (0:Int)),(PV.str ([]:List UInt8))]),(PV.str ([]:List UInt8)),(PV.bool false),(PV.agg [(PV.int (0:Int)),(PV.int (0:Int)),(PV.str ([]:List UInt8)),(PV.slice []),(PV.slice []),(PV.slice []),(PV.slice [])]),(PV.slice [])]),false,y14.2.1)
 ) z
def S54_3l (uu:Nat):LoopE:=⟨3,⟨[1,4,9,10,11],bx2,(.con (.fn 55 0 [(.ref 0 [] 3)]))::(.con (.ref 1 [] 52))::(.slice 52)::(.int .i64)::(.int .i64)::sv6⟩,[(.ret,⟨[4,5],bx2,(.con (.ref 1 [] 52))::.bool::sv6⟩),(.exit 0,⟨[4],bx2,(.con (.ref 1 [] 52))::sv6⟩)],S54_3step uu⟩
def F54C (uu:Nat):Cfg:=cfg Tryz.prog 21 1 [F55c uu] [S54_3l uu] uu
def F54c (uu:Nat):CallE:=⟨54,⟨2,[.box 3 .leaf],[(.slice 52),(.con (.fn 55 0 [(.ref 0 [] 3)])),(.int .i64)]⟩,⟨2,[.box 3 .leaf],[(.data 52),.bool,(.int .i64)]⟩,fun x=>F54 uu x.1 x.2.1 x.2.2,(PV.bad,false,0)⟩
theorem F54k (uu:Nat):aan (F54C uu):=aae (qc (F55ok uu)<|q0) (p0)
theorem S54_3ok (uu:Nat):LoopOk (F54C uu) (lp (aam Tryz.f54) 0):=okL (F54k uu) uu (S54_3l uu) L0
theorem F54ok (uu:Nat):(F54c uu).Ok Tryz.prog:=okE Tryz.f54 (F54k uu) (L1 (S54_3ok uu))
def F29 (uu:Nat) (a0:PV) (a1:Int):Option (PV×Bool):=
 (F54 uu ((a0.fld 1).asList) () a1).bind fun y2=>
 some (y2.1,y2.2.1)
def F29c (uu:Nat):CallE:=⟨29,⟨2,[],sv7⟩,⟨2,[],[(.data 52),.bool]⟩,fun x=>F29 uu x.1 x.2,(PV.bad,false)⟩
theorem F29ok (uu:Nat):(F29c uu).Ok Tryz.prog:=okJ Tryz.f29 12 0 uu _ [] false (qc (F54ok uu)<|q0) (p0) L0
def F118 (uu:Nat) (a0:PV) (a1:Unit) (a2:List UInt8):Option (Bool×(List UInt8)):=
 some ((((a0.fld 0).asStr)==a2),a2)
def F118c (uu:Nat):CallE:=⟨118,⟨2,bx0,(.data 58)::sv0⟩,⟨1,bx0,[.bool,.str]⟩,fun x=>F118 uu x.1 x.2.1 x.2.2,(false,[])⟩
theorem F118ok (uu:Nat):(F118c uu).Ok Tryz.prog:=okJ Tryz.f118 8 1 uu [] [] false (q0) (p0) L0
abbrev S117_3x:=Unit×Unit×(List PV)×Int×Int×(List UInt8)×PV
abbrev S117_3y:=(Unit×Bool×(List UInt8)×PV)⊕(Unit×(List UInt8)×PV)
def S117_3 (uu:Nat) (a2:Unit) (a3:Unit) (a4:List PV) (a5:Int) (a6:Int) (a7:List UInt8) (a8:PV):Option (S117_3x⊕S117_3y):=
 bif (decide (a6<a5)) then
 bif aab a6 a4.length then
 let x10:=a4.getD a6.toNat .bad
 (F118 uu x10 () a7).bind fun y11=>
 bif y11.1 then
 some (.inr (.inl ((),true,y11.2,x10)))
 else
 some (.inl ((),(),a4,a5,(IntKind.wrap .i64 (a6+(1:Int))),y11.2,a8))
 else none
 else
 some (.inr (.inr ((),a7,a8)))
def S117_3step (uu:Nat) (x:S117_3x):Option (S117_3x⊕S117_3y):=S117_3 uu x.1 x.2.1 x.2.2.1 x.2.2.2.1 x.2.2.2.2.1 x.2.2.2.2.2.1 x.2.2.2.2.2.2
def F117 (uu:Nat) (a0:List PV) (a1:Unit) (a2:List UInt8):Option (PV×Bool×(List UInt8)):=
 (aag uu (S117_3step uu) ((),(),a0,(a0.length:Int),(0:Int),a2,(PV.agg [(PV.str ([]:List UInt8)),(PV.bool false),(PV.slice []),(PV.slice []),(PV.slice [])]))).bind fun z=>sumE (fun y13=>
 some (y13.2.2.2,y13.2.1,y13.2.2.1)
 ) (fun y14=>
 some ((PV.agg [(PV.str ([]:List UInt8)),(PV.bool false),(PV.slice []),(PV.slice []),(PV.slice [])]),false,y14.2.1)
 ) z
def S117_3l (uu:Nat):LoopE:=⟨3,⟨[1,4,9,10,11],bx3,(.con (.fn 118 0 [(.ref 0 [] 9)]))::(.con (.ref 1 [] 58))::(.slice 58)::(.int .i64)::(.int .i64)::sv8⟩,[(.ret,⟨[4,5],bx3,(.con (.ref 1 [] 58))::.bool::sv8⟩),(.exit 0,⟨[4],bx3,(.con (.ref 1 [] 58))::sv8⟩)],S117_3step uu⟩
def F117C (uu:Nat):Cfg:=cfg Tryz.prog 21 1 [F118c uu] [S117_3l uu] uu
def F117c (uu:Nat):CallE:=⟨117,⟨2,bx0,[(.slice 58),(.con (.fn 118 0 [(.ref 0 [] 9)])),.str]⟩,⟨2,bx0,[(.data 58),.bool,.str]⟩,fun x=>F117 uu x.1 x.2.1 x.2.2,(PV.bad,false,[])⟩
theorem F117k (uu:Nat):aan (F117C uu):=aae (qc (F118ok uu)<|q0) (p0)
theorem S117_3ok (uu:Nat):LoopOk (F117C uu) (lp (aam Tryz.f117) 0):=okL (F117k uu) uu (S117_3l uu) L0
theorem F117ok (uu:Nat):(F117c uu).Ok Tryz.prog:=okE Tryz.f117 (F117k uu) (L1 (S117_3ok uu))
def F82 (uu:Nat) (a0:PV) (a1:List UInt8):Option (PV×Bool):=
 (F117 uu ((a0.fld 1).asList) () a1).bind fun y2=>
 some (y2.1,y2.2.1)
def F82c (uu:Nat):CallE:=⟨82,⟨2,[],sv2⟩,⟨2,[],[(.data 58),.bool]⟩,fun x=>F82 uu x.1 x.2,(PV.bad,false)⟩
theorem F82ok (uu:Nat):(F82c uu).Ok Tryz.prog:=okJ Tryz.f82 12 0 uu _ [] false (qc (F117ok uu)<|q0) (p0) L0
def B17c (r:(Unit×(List UInt8)×PV×PV×Unit×(List (PV×PV)))->Option (PV×Unit×(List (PV×PV)))):CallE:=⟨17,⟨3,bx4,(.con (.ref 0 [] 71))::.str::sv9⟩,⟨0,bx4,sv10⟩,r,(PV.bad,(),[])⟩
def B30c (r:(Unit×PV×PV×PV×Unit×(List (PV×PV)))->Option (PV×Unit×(List (PV×PV)))):CallE:=⟨30,⟨3,bx4,(.con (.ref 0 [] 71))::(.data 52)::sv9⟩,⟨0,bx4,sv10⟩,r,(PV.bad,(),[])⟩
def B56c (r:(Unit×PV×PV×PV×Unit×(List (PV×PV)))->Option (PV×Unit×(List (PV×PV)))):CallE:=⟨56,⟨3,bx4,(.con (.ref 0 [] 71))::(.data 44)::sv9⟩,⟨0,bx4,sv10⟩,r,(PV.bad,(),[])⟩
abbrev B17_7x:=Unit×(List UInt8)×Unit×(List PV)×Int×Int×PV×Unit×(List (PV×PV))×PV×PV
abbrev B17_7y:=(PV×Unit×(List (PV×PV))×PV×PV)
def B17_7 (uu:Nat) (r0:(Unit×(List UInt8)×PV×PV×Unit×(List (PV×PV)))->Option (PV×Unit×(List (PV×PV)))) (r1:(Unit×PV×PV×PV×Unit×(List (PV×PV)))->Option (PV×Unit×(List (PV×PV)))) (r2:(Unit×PV×PV×PV×Unit×(List (PV×PV)))->Option (PV×Unit×(List (PV×PV)))) (a12:Unit) (a13:List UInt8) (a14:Unit) (a15:List PV) (a16:Int) (a17:Int) (a18:PV) (a19:Unit) (a20:List (PV×PV)) (a21:PV) (a22:PV):Option (B17_7x⊕B17_7y):=
 bif (decide (a17<a16)) then
 bif aab a17 a15.length then
 let x24:=a15.getD a17.toNat .bad
 (F29 uu a22 ((x24.fld 0).asInt)).bind fun y26=>
 let x27:=y26.1
 bif (!y26.2) then
 some (.inl ((),a13,(),a15,a16,(IntKind.wrap .i64 (a17+(1:Int))),a18,(),a20,a21,a22))
 else
 (F28 uu ((x27.fld 8).asList) ([100,101,112,114,101,99,97,116,101,100]:List UInt8)).bind fun y32=>
 bif y32 then
 let x33:=(x27.fld 0).asInt
 let x34:=((PV.mget a20 (PV.agg [(PV.str a13),(PV.int x33)])).getD (PV.int (0:Int))).asInt
 let x36:=((PV.midx a20 (PV.agg [(PV.str a13),(PV.int x33)]):Nat):Int)
 bif aab x36 ((PV.mput a20 (PV.agg [(PV.str a13),(PV.int x33)]) ((PV.mget a20 (PV.agg [(PV.str a13),(PV.int x33)])).getD (PV.int (0:Int)))).length) then
 (r1 ((),x27,(x24.fld 1),a18,(),PV.mset (PV.mput a20 (PV.agg [(PV.str a13),(PV.int x33)]) ((PV.mget a20 (PV.agg [(PV.str a13),(PV.int x33)])).getD (PV.int (0:Int)))) x36.toNat (PV.int (IntKind.wrap .i64 (x34+(1:Int)))))).bind fun y38=>
 some (.inl ((),a13,(),a15,a16,(IntKind.wrap .i64 (a17+(1:Int))),y38.1,(),y38.2.2,a21,a22))
 else none
 else
 (r1 ((),x27,(x24.fld 1),a18,(),a20)).bind fun y41=>
 some (.inl ((),a13,(),a15,a16,(IntKind.wrap .i64 (a17+(1:Int))),y41.1,(),y41.2.2,a21,a22))
 else none
 else
 some (.inr (a18,(),a20,a21,a22))
def B17_7step (uu:Nat) (r0:(Unit×(List UInt8)×PV×PV×Unit×(List (PV×PV)))->Option (PV×Unit×(List (PV×PV)))) (r1:(Unit×PV×PV×PV×Unit×(List (PV×PV)))->Option (PV×Unit×(List (PV×PV)))) (r2:(Unit×PV×PV×PV×Unit×(List (PV×PV)))->Option (PV×Unit×(List (PV×PV)))) (x:B17_7x):Option (B17_7x⊕B17_7y):=B17_7 uu r0 r1 r2 x.1 x.2.1 x.2.2.1 x.2.2.2.1 x.2.2.2.2.1 x.2.2.2.2.2.1 x.2.2.2.2.2.2.1 x.2.2.2.2.2.2.2.1 x.2.2.2.2.2.2.2.2.1 x.2.2.2.2.2.2.2.2.2.1 x.2.2.2.2.2.2.2.2.2.2
def B17 (uu:Nat) (r0:(Unit×(List UInt8)×PV×PV×Unit×(List (PV×PV)))->Option (PV×Unit×(List (PV×PV)))) (r1:(Unit×PV×PV×PV×Unit×(List (PV×PV)))->Option (PV×Unit×(List (PV×PV)))) (r2:(Unit×PV×PV×PV×Unit×(List (PV×PV)))->Option (PV×Unit×(List (PV×PV)))) (a0:Unit) (a1:List UInt8) (a2:PV) (a3:PV) (a4:Unit) (a5:List (PV×PV)):Option (PV×Unit×(List (PV×PV))):=
 (F27 uu a3 a1).bind fun y1=>
 let x2:=y1.1
 bif (!y1.2) then
 some (a3,(),a5)
 else
 (F28 uu ((x2.fld 4).asList) ([100,101,112,114,101,99,97,116,101,100]:List UInt8)).bind fun y6=>
 bif y6 then
 let x7:=((PV.mget a5 (PV.agg [(PV.str a1),(PV.int (-1:Int))])).getD (PV.int (0:Int))).asInt
 let x9:=((PV.midx a5 (PV.agg [(PV.str a1),(PV.int (-1:Int))]):Nat):Int)
 bif aab x9 ((PV.mput a5 (PV.agg [(PV.str a1),(PV.int (-1:Int))]) ((PV.mget a5 (PV.agg [(PV.str a1),(PV.int (-1:Int))])).getD (PV.int (0:Int)))).length) then
 let x10:=(a2.fld 5).asList
 (aag uu (B17_7step uu r0 r1 r2) ((),a1,(),x10,(x10.length:Int),(0:Int),a3,(),PV.mset (PV.mput a5 (PV.agg [(PV.str a1),(PV.int (-1:Int))]) ((PV.mget a5 (PV.agg [(PV.str a1),(PV.int (-1:Int))])).getD (PV.int (0:Int)))) x9.toNat (PV.int (IntKind.wrap .i64 (x7+(1:Int)))),a2,x2)).bind fun y43=>
 some (y43.1,(),y43.2.2.1)
 else none
 else
 let x44:=(a2.fld 5).asList
 (aag uu (B17_7step uu r0 r1 r2) ((),a1,(),x44,(x44.length:Int),(0:Int),a3,(),a5,a2,x2)).bind fun y46=>
 some (y46.1,(),y46.2.2.1)
def B17_7l (uu:Nat) (r0:(Unit×(List UInt8)×PV×PV×Unit×(List (PV×PV)))->Option (PV×Unit×(List (PV×PV)))) (r1:(Unit×PV×PV×PV×Unit×(List (PV×PV)))->Option (PV×Unit×(List (PV×PV)))) (r2:(Unit×PV×PV×PV×Unit×(List (PV×PV)))->Option (PV×Unit×(List (PV×PV)))):LoopE:=⟨7,⟨[0,1,6,37,38,39],bx5,(.con (.ref 0 [] 71))::.str::(.con (.ref 3 [] 50))::(.slice 66)::(.int .i64)::(.int .i64)::(.data 26)::(.con (.mref 1))::(.map 97 3)::sv11⟩,[(.exit 0,⟨[],bx5,(.data 26)::(.con (.mref 1))::(.map 97 3)::sv11⟩)],B17_7step uu r0 r1 r2⟩
def B17C (uu:Nat) (r0:(Unit×(List UInt8)×PV×PV×Unit×(List (PV×PV)))->Option (PV×Unit×(List (PV×PV)))) (r1:(Unit×PV×PV×PV×Unit×(List (PV×PV)))->Option (PV×Unit×(List (PV×PV)))) (r2:(Unit×PV×PV×PV×Unit×(List (PV×PV)))->Option (PV×Unit×(List (PV×PV)))):Cfg:=cfg Tryz.prog 73 2 [F27c uu,F28c uu,F29c uu,B30c r1] [B17_7l uu r0 r1 r2] uu
theorem B17k (uu:Nat) (r0:(Unit×(List UInt8)×PV×PV×Unit×(List (PV×PV)))->Option (PV×Unit×(List (PV×PV)))) (r1:(Unit×PV×PV×PV×Unit×(List (PV×PV)))->Option (PV×Unit×(List (PV×PV)))) (r2:(Unit×PV×PV×PV×Unit×(List (PV×PV)))->Option (PV×Unit×(List (PV×PV)))) (h0:(B17c r0).Ok Tryz.prog) (h1:(B30c r1).Ok Tryz.prog) (h2:(B56c r2).Ok Tryz.prog):aan (B17C uu r0 r1 r2):=aae (qc (F27ok uu)<|qc (F28ok uu)<|qc (F29ok uu)<|qc h1<|q0) (p0)
theorem B17_7ok (uu:Nat) (r0:(Unit×(List UInt8)×PV×PV×Unit×(List (PV×PV)))->Option (PV×Unit×(List (PV×PV)))) (r1:(Unit×PV×PV×PV×Unit×(List (PV×PV)))->Option (PV×Unit×(List (PV×PV)))) (r2:(Unit×PV×PV×PV×Unit×(List (PV×PV)))->Option (PV×Unit×(List (PV×PV)))) (h0:(B17c r0).Ok Tryz.prog) (h1:(B30c r1).Ok Tryz.prog) (h2:(B56c r2).Ok Tryz.prog):LoopOk (B17C uu r0 r1 r2) (lp (aam Tryz.f17) 0):=okL (B17k uu r0 r1 r2 h0 h1 h2) uu (B17_7l uu r0 r1 r2) L0
theorem B17ok (uu:Nat) (r0:(Unit×(List UInt8)×PV×PV×Unit×(List (PV×PV)))->Option (PV×Unit×(List (PV×PV)))) (r1:(Unit×PV×PV×PV×Unit×(List (PV×PV)))->Option (PV×Unit×(List (PV×PV)))) (r2:(Unit×PV×PV×PV×Unit×(List (PV×PV)))->Option (PV×Unit×(List (PV×PV)))) (h0:(B17c r0).Ok Tryz.prog) (h1:(B30c r1).Ok Tryz.prog) (h2:(B56c r2).Ok Tryz.prog):(B17c (fun x=>B17 uu r0 r1 r2 x.1 x.2.1 x.2.2.1 x.2.2.2.1 x.2.2.2.2.1 x.2.2.2.2.2)).Ok Tryz.prog:=okE Tryz.f17 (B17k uu r0 r1 r2 h0 h1 h2) (L1 (B17_7ok uu r0 r1 r2 h0 h1 h2))
abbrev B30_6x:=Unit×Unit×(List PV)×Int×Int×PV×Unit×(List (PV×PV))×PV×PV
abbrev B30_6y:=(PV×Unit×(List (PV×PV))×PV×PV)
def B30_6 (uu:Nat) (r0:(Unit×(List UInt8)×PV×PV×Unit×(List (PV×PV)))->Option (PV×Unit×(List (PV×PV)))) (r1:(Unit×PV×PV×PV×Unit×(List (PV×PV)))->Option (PV×Unit×(List (PV×PV)))) (r2:(Unit×PV×PV×PV×Unit×(List (PV×PV)))->Option (PV×Unit×(List (PV×PV)))) (a5:Unit) (a6:Unit) (a7:List PV) (a8:Int) (a9:Int) (a10:PV) (a11:Unit) (a12:List (PV×PV)) (a13:PV) (a14:PV):Option (B30_6x⊕B30_6y):=
 bif (decide (a9<a8)) then
 bif aab a9 a7.length then
 (r2 ((),(a13.fld 4),(a7.getD a9.toNat .bad),a10,(),a12)).bind fun y18=>
 some (.inl ((),(),a7,a8,(IntKind.wrap .i64 (a9+(1:Int))),y18.1,(),y18.2.2,a13,a14))
 else none
 else
 some (.inr (a10,(),a12,a13,a14))
def B30_6step (uu:Nat) (r0:(Unit×(List UInt8)×PV×PV×Unit×(List (PV×PV)))->Option (PV×Unit×(List (PV×PV)))) (r1:(Unit×PV×PV×PV×Unit×(List (PV×PV)))->Option (PV×Unit×(List (PV×PV)))) (r2:(Unit×PV×PV×PV×Unit×(List (PV×PV)))->Option (PV×Unit×(List (PV×PV)))) (x:B30_6x):Option (B30_6x⊕B30_6y):=B30_6 uu r0 r1 r2 x.1 x.2.1 x.2.2.1 x.2.2.2.1 x.2.2.2.2.1 x.2.2.2.2.2.1 x.2.2.2.2.2.2.1 x.2.2.2.2.2.2.2.1 x.2.2.2.2.2.2.2.2.1 x.2.2.2.2.2.2.2.2.2
abbrev B30_12x:=Unit×Unit×(List PV)×Int×Int×PV×Unit×(List (PV×PV))×PV×PV
abbrev B30_12y:=(PV×Unit×(List (PV×PV))×PV×PV)
def B30_12 (uu:Nat) (r0:(Unit×(List UInt8)×PV×PV×Unit×(List (PV×PV)))->Option (PV×Unit×(List (PV×PV)))) (r1:(Unit×PV×PV×PV×Unit×(List (PV×PV)))->Option (PV×Unit×(List (PV×PV)))) (r2:(Unit×PV×PV×PV×Unit×(List (PV×PV)))->Option (PV×Unit×(List (PV×PV)))) (a24:Unit) (a25:Unit) (a26:List PV) (a27:Int) (a28:Int) (a29:PV) (a30:Unit) (a31:List (PV×PV)) (a32:PV) (a33:PV):Option (B30_12x⊕B30_12y):=
 bif (decide (a28<a27)) then
 bif aab a28 a26.length then
 (r2 ((),(a32.fld 4),((a26.getD a28.toNat .bad).fld 1),a29,(),a31)).bind fun y38=>
 some (.inl ((),(),a26,a27,(IntKind.wrap .i64 (a28+(1:Int))),y38.1,(),y38.2.2,a32,a33))
 else none
 else
 some (.inr (a29,(),a31,a32,a33))
def B30_12step (uu:Nat) (r0:(Unit×(List UInt8)×PV×PV×Unit×(List (PV×PV)))->Option (PV×Unit×(List (PV×PV)))) (r1:(Unit×PV×PV×PV×Unit×(List (PV×PV)))->Option (PV×Unit×(List (PV×PV)))) (r2:(Unit×PV×PV×PV×Unit×(List (PV×PV)))->Option (PV×Unit×(List (PV×PV)))) (x:B30_12x):Option (B30_12x⊕B30_12y):=B30_12 uu r0 r1 r2 x.1 x.2.1 x.2.2.1 x.2.2.2.1 x.2.2.2.2.1 x.2.2.2.2.2.1 x.2.2.2.2.2.2.1 x.2.2.2.2.2.2.2.1 x.2.2.2.2.2.2.2.2.1 x.2.2.2.2.2.2.2.2.2
def B30 (uu:Nat) (r0:(Unit×(List UInt8)×PV×PV×Unit×(List (PV×PV)))->Option (PV×Unit×(List (PV×PV)))) (r1:(Unit×PV×PV×PV×Unit×(List (PV×PV)))->Option (PV×Unit×(List (PV×PV)))) (r2:(Unit×PV×PV×PV×Unit×(List (PV×PV)))->Option (PV×Unit×(List (PV×PV)))) (a0:Unit) (a1:PV) (a2:PV) (a3:PV) (a4:Unit) (a5:List (PV×PV)):Option (PV×Unit×(List (PV×PV))):=
 let x1:=(a1.fld 2).asInt
 bif (x1==(4:Int)) then
 let x3:=(a2.fld 3).asList
 (aag uu (B30_6step uu r0 r1 r2) ((),(),x3,(x3.length:Int),(0:Int),a3,(),a5,a1,a2)).bind fun y20=>
 some (y20.1,(),y20.2.2.1)
 else
 bif (x1==(5:Int)) then
 let x22:=(a2.fld 4).asList
 (aag uu (B30_12step uu r0 r1 r2) ((),(),x22,(x22.length:Int),(0:Int),a3,(),a5,a1,a2)).bind fun y40=>
 some (y40.1,(),y40.2.2.1)
 else
 (r2 ((),(a1.fld 4),a2,a3,(),a5)).bind fun y42=>
 some (y42.1,(),y42.2.2)
def B30_6l (uu:Nat) (r0:(Unit×(List UInt8)×PV×PV×Unit×(List (PV×PV)))->Option (PV×Unit×(List (PV×PV)))) (r1:(Unit×PV×PV×PV×Unit×(List (PV×PV)))->Option (PV×Unit×(List (PV×PV)))) (r2:(Unit×PV×PV×PV×Unit×(List (PV×PV)))->Option (PV×Unit×(List (PV×PV)))):LoopE:=⟨6,⟨[0,4,20,21,22],bx6,(.con (.ref 0 [] 71))::(.con (.ref 2 [] 52))::(.slice 33)::(.int .i64)::(.int .i64)::sv12⟩,[(.exit 1,⟨[],bx6,sv12⟩)],B30_6step uu r0 r1 r2⟩
def B30_12l (uu:Nat) (r0:(Unit×(List UInt8)×PV×PV×Unit×(List (PV×PV)))->Option (PV×Unit×(List (PV×PV)))) (r1:(Unit×PV×PV×PV×Unit×(List (PV×PV)))->Option (PV×Unit×(List (PV×PV)))) (r2:(Unit×PV×PV×PV×Unit×(List (PV×PV)))->Option (PV×Unit×(List (PV×PV)))):LoopE:=⟨12,⟨[0,4,35,36,37],bx6,(.con (.ref 0 [] 71))::(.con (.ref 2 [] 52))::(.slice 64)::(.int .i64)::(.int .i64)::sv12⟩,[(.exit 3,⟨[],bx6,sv12⟩)],B30_12step uu r0 r1 r2⟩
def B30C (uu:Nat) (r0:(Unit×(List UInt8)×PV×PV×Unit×(List (PV×PV)))->Option (PV×Unit×(List (PV×PV)))) (r1:(Unit×PV×PV×PV×Unit×(List (PV×PV)))->Option (PV×Unit×(List (PV×PV)))) (r2:(Unit×PV×PV×PV×Unit×(List (PV×PV)))->Option (PV×Unit×(List (PV×PV)))):Cfg:=cfg Tryz.prog 48 2 [B56c r2] [B30_6l uu r0 r1 r2,B30_12l uu r0 r1 r2] uu
theorem B30k (uu:Nat) (r0:(Unit×(List UInt8)×PV×PV×Unit×(List (PV×PV)))->Option (PV×Unit×(List (PV×PV)))) (r1:(Unit×PV×PV×PV×Unit×(List (PV×PV)))->Option (PV×Unit×(List (PV×PV)))) (r2:(Unit×PV×PV×PV×Unit×(List (PV×PV)))->Option (PV×Unit×(List (PV×PV)))) (h0:(B17c r0).Ok Tryz.prog) (h1:(B30c r1).Ok Tryz.prog) (h2:(B56c r2).Ok Tryz.prog):aan (B30C uu r0 r1 r2):=aae (qc h2<|q0) (p0)
theorem B30_6ok (uu:Nat) (r0:(Unit×(List UInt8)×PV×PV×Unit×(List (PV×PV)))->Option (PV×Unit×(List (PV×PV)))) (r1:(Unit×PV×PV×PV×Unit×(List (PV×PV)))->Option (PV×Unit×(List (PV×PV)))) (r2:(Unit×PV×PV×PV×Unit×(List (PV×PV)))->Option (PV×Unit×(List (PV×PV)))) (h0:(B17c r0).Ok Tryz.prog) (h1:(B30c r1).Ok Tryz.prog) (h2:(B56c r2).Ok Tryz.prog):LoopOk (B30C uu r0 r1 r2) (lp (aam Tryz.f30) 0):=okL (B30k uu r0 r1 r2 h0 h1 h2) uu (B30_6l uu r0 r1 r2) L0
theorem B30_12ok (uu:Nat) (r0:(Unit×(List UInt8)×PV×PV×Unit×(List (PV×PV)))->Option (PV×Unit×(List (PV×PV)))) (r1:(Unit×PV×PV×PV×Unit×(List (PV×PV)))->Option (PV×Unit×(List (PV×PV)))) (r2:(Unit×PV×PV×PV×Unit×(List (PV×PV)))->Option (PV×Unit×(List (PV×PV)))) (h0:(B17c r0).Ok Tryz.prog) (h1:(B30c r1).Ok Tryz.prog) (h2:(B56c r2).Ok Tryz.prog):LoopOk (B30C uu r0 r1 r2) (lp (aam Tryz.f30) 1):=okL (B30k uu r0 r1 r2 h0 h1 h2) uu (B30_12l uu r0 r1 r2) L0
theorem B30ok (uu:Nat) (r0:(Unit×(List UInt8)×PV×PV×Unit×(List (PV×PV)))->Option (PV×Unit×(List (PV×PV)))) (r1:(Unit×PV×PV×PV×Unit×(List (PV×PV)))->Option (PV×Unit×(List (PV×PV)))) (r2:(Unit×PV×PV×PV×Unit×(List (PV×PV)))->Option (PV×Unit×(List (PV×PV)))) (h0:(B17c r0).Ok Tryz.prog) (h1:(B30c r1).Ok Tryz.prog) (h2:(B56c r2).Ok Tryz.prog):(B30c (fun x=>B30 uu r0 r1 r2 x.1 x.2.1 x.2.2.1 x.2.2.2.1 x.2.2.2.2.1 x.2.2.2.2.2)).Ok Tryz.prog:=okE Tryz.f30 (B30k uu r0 r1 r2 h0 h1 h2) (L2 (B30_6ok uu r0 r1 r2 h0 h1 h2) (B30_12ok uu r0 r1 r2 h0 h1 h2))
abbrev B56_11x:=Unit×Unit×Unit×(List PV)×Int×Int×PV×Unit×(List (PV×PV))×PV×PV×PV
abbrev B56_11y:=(PV×Unit×(List (PV×PV))×PV×PV×PV)
def B56_11 (uu:Nat) (r0:(Unit×(List UInt8)×PV×PV×Unit×(List (PV×PV)))->Option (PV×Unit×(List (PV×PV)))) (r1:(Unit×PV×PV×PV×Unit×(List (PV×PV)))->Option (PV×Unit×(List (PV×PV)))) (r2:(Unit×PV×PV×PV×Unit×(List (PV×PV)))->Option (PV×Unit×(List (PV×PV)))) (a19:Unit) (a20:Unit) (a21:Unit) (a22:List PV) (a23:Int) (a24:Int) (a25:PV) (a26:Unit) (a27:List (PV×PV)) (a28:PV) (a29:PV) (a30:PV):Option (B56_11x⊕B56_11y):=
 bif (decide (a24<a23)) then
 bif aab a24 a22.length then
 let x32:=a22.getD a24.toNat .bad
 let x39:=bif (decide (((x32.fld 1).asInt)≥(0:Int))) then ((IntKind.wrap .u64 ((x32.fld 1).asInt))==((a29.fld 1).asInt)) else false
 (bif x39 then F28 uu ((x32.fld 2).asList) ([100,101,112,114,101,99,97,116,101,100]:List UInt8) else some false).bind fun y41=>
 bif (bif x39 then y41 else false) then
 let x43:=(a28.fld 1).asStr
 let x44:=(x32.fld 1).asInt
 let x45:=((PV.mget a27 (PV.agg [(PV.str x43),(PV.int x44)])).getD (PV.int (0:Int))).asInt
 let x47:=((PV.midx a27 (PV.agg [(PV.str x43),(PV.int x44)]):Nat):Int)
 bif aab x47 ((PV.mput a27 (PV.agg [(PV.str x43),(PV.int x44)]) ((PV.mget a27 (PV.agg [(PV.str x43),(PV.int x44)])).getD (PV.int (0:Int)))).length) then
 some (.inl ((),(),(),a22,a23,(IntKind.wrap .i64 (a24+(1:Int))),a25,(),PV.mset (PV.mput a27 (PV.agg [(PV.str x43),(PV.int x44)]) ((PV.mget a27 (PV.agg [(PV.str x43),(PV.int x44)])).getD (PV.int (0:Int)))) x47.toNat (PV.int (IntKind.wrap .i64 (x45+(1:Int)))),a28,a29,a30))
 else none
 else
 some (.inl ((),(),(),a22,a23,(IntKind.wrap .i64 (a24+(1:Int))),a25,(),a27,a28,a29,a30))
 else none
 else
 some (.inr (a25,(),a27,a28,a29,a30))
def B56_11step (uu:Nat) (r0:(Unit×(List UInt8)×PV×PV×Unit×(List (PV×PV)))->Option (PV×Unit×(List (PV×PV)))) (r1:(Unit×PV×PV×PV×Unit×(List (PV×PV)))->Option (PV×Unit×(List (PV×PV)))) (r2:(Unit×PV×PV×PV×Unit×(List (PV×PV)))->Option (PV×Unit×(List (PV×PV)))) (x:B56_11x):Option (B56_11x⊕B56_11y):=B56_11 uu r0 r1 r2 x.1 x.2.1 x.2.2.1 x.2.2.2.1 x.2.2.2.2.1 x.2.2.2.2.2.1 x.2.2.2.2.2.2.1 x.2.2.2.2.2.2.2.1 x.2.2.2.2.2.2.2.2.1 x.2.2.2.2.2.2.2.2.2.1 x.2.2.2.2.2.2.2.2.2.2.1 x.2.2.2.2.2.2.2.2.2.2.2
def B56 (uu:Nat) (r0:(Unit×(List UInt8)×PV×PV×Unit×(List (PV×PV)))->Option (PV×Unit×(List (PV×PV)))) (r1:(Unit×PV×PV×PV×Unit×(List (PV×PV)))->Option (PV×Unit×(List (PV×PV)))) (r2:(Unit×PV×PV×PV×Unit×(List (PV×PV)))->Option (PV×Unit×(List (PV×PV)))) (a0:Unit) (a1:PV) (a2:PV) (a3:PV) (a4:Unit) (a5:List (PV×PV)):Option (PV×Unit×(List (PV×PV))):=
 let x1:=(a1.fld 0).asInt
 bif (x1==(10:Int)) then
 (r0 ((),((a1.fld 1).asStr),a2,a3,(),a5)).bind fun y4=>
 some (y4.1,(),y4.2.2)
 else
 bif (x1==(9:Int)) then
 (F82 uu a3 ((a1.fld 1).asStr)).bind fun y7=>
 let x8:=y7.1
 bif (!y7.2) then
 some (a3,(),a5)
 else
 (F28 uu ((x8.fld 4).asList) ([100,101,112,114,101,99,97,116,101,100]:List UInt8)).bind fun y12=>
 bif y12 then
 let x13:=(a1.fld 1).asStr
 let x14:=((PV.mget a5 (PV.agg [(PV.str x13),(PV.int (-1:Int))])).getD (PV.int (0:Int))).asInt
 let x16:=((PV.midx a5 (PV.agg [(PV.str x13),(PV.int (-1:Int))]):Nat):Int)
 bif aab x16 ((PV.mput a5 (PV.agg [(PV.str x13),(PV.int (-1:Int))]) ((PV.mget a5 (PV.agg [(PV.str x13),(PV.int (-1:Int))])).getD (PV.int (0:Int)))).length) then
 let x17:=(x8.fld 2).asList
 (aag uu (B56_11step uu r0 r1 r2) ((),(),(),x17,(x17.length:Int),(0:Int),a3,(),PV.mset (PV.mput a5 (PV.agg [(PV.str x13),(PV.int (-1:Int))]) ((PV.mget a5 (PV.agg [(PV.str x13),(PV.int (-1:Int))])).getD (PV.int (0:Int)))) x16.toNat (PV.int (IntKind.wrap .i64 (x14+(1:Int)))),a1,a2,x8)).bind fun y50=>
 some (y50.1,(),y50.2.2.1)
 else none
 else
 let x51:=(x8.fld 2).asList
 (aag uu (B56_11step uu r0 r1 r2) ((),(),(),x51,(x51.length:Int),(0:Int),a3,(),a5,a1,a2,x8)).bind fun y53=>
 some (y53.1,(),y53.2.2.1)
 else
 some (a3,(),a5)
def B56_11l (uu:Nat) (r0:(Unit×(List UInt8)×PV×PV×Unit×(List (PV×PV)))->Option (PV×Unit×(List (PV×PV)))) (r1:(Unit×PV×PV×PV×Unit×(List (PV×PV)))->Option (PV×Unit×(List (PV×PV)))) (r2:(Unit×PV×PV×PV×Unit×(List (PV×PV)))->Option (PV×Unit×(List (PV×PV)))):LoopE:=⟨11,⟨[0,4,5,48,49,50],bx7,[(.con (.ref 0 [] 71)),(.con (.ref 2 [] 44)),(.con (.ref 3 [] 33)),(.slice 60),(.int .i64),(.int .i64),(.data 26),(.con (.mref 1)),(.map 97 3),(.data 44),(.data 33),(.data 58)]⟩,[(.exit 1,⟨[],bx7,[(.data 26),(.con (.mref 1)),(.map 97 3),(.data 44),(.data 33),(.data 58)]⟩)],B56_11step uu r0 r1 r2⟩
def B56C (uu:Nat) (r0:(Unit×(List UInt8)×PV×PV×Unit×(List (PV×PV)))->Option (PV×Unit×(List (PV×PV)))) (r1:(Unit×PV×PV×PV×Unit×(List (PV×PV)))->Option (PV×Unit×(List (PV×PV)))) (r2:(Unit×PV×PV×PV×Unit×(List (PV×PV)))->Option (PV×Unit×(List (PV×PV)))):Cfg:=cfg Tryz.prog 84 2 [B17c r0,F82c uu,F28c uu] [B56_11l uu r0 r1 r2] uu
theorem B56k (uu:Nat) (r0:(Unit×(List UInt8)×PV×PV×Unit×(List (PV×PV)))->Option (PV×Unit×(List (PV×PV)))) (r1:(Unit×PV×PV×PV×Unit×(List (PV×PV)))->Option (PV×Unit×(List (PV×PV)))) (r2:(Unit×PV×PV×PV×Unit×(List (PV×PV)))->Option (PV×Unit×(List (PV×PV)))) (h0:(B17c r0).Ok Tryz.prog) (h1:(B30c r1).Ok Tryz.prog) (h2:(B56c r2).Ok Tryz.prog):aan (B56C uu r0 r1 r2):=aae (qc h0<|qc (F82ok uu)<|qc (F28ok uu)<|q0) (p0)
theorem B56_11ok (uu:Nat) (r0:(Unit×(List UInt8)×PV×PV×Unit×(List (PV×PV)))->Option (PV×Unit×(List (PV×PV)))) (r1:(Unit×PV×PV×PV×Unit×(List (PV×PV)))->Option (PV×Unit×(List (PV×PV)))) (r2:(Unit×PV×PV×PV×Unit×(List (PV×PV)))->Option (PV×Unit×(List (PV×PV)))) (h0:(B17c r0).Ok Tryz.prog) (h1:(B30c r1).Ok Tryz.prog) (h2:(B56c r2).Ok Tryz.prog):LoopOk (B56C uu r0 r1 r2) (lp (aam Tryz.f56) 0):=okL (B56k uu r0 r1 r2 h0 h1 h2) uu (B56_11l uu r0 r1 r2) L0
theorem B56ok (uu:Nat) (r0:(Unit×(List UInt8)×PV×PV×Unit×(List (PV×PV)))->Option (PV×Unit×(List (PV×PV)))) (r1:(Unit×PV×PV×PV×Unit×(List (PV×PV)))->Option (PV×Unit×(List (PV×PV)))) (r2:(Unit×PV×PV×PV×Unit×(List (PV×PV)))->Option (PV×Unit×(List (PV×PV)))) (h0:(B17c r0).Ok Tryz.prog) (h1:(B30c r1).Ok Tryz.prog) (h2:(B56c r2).Ok Tryz.prog):(B56c (fun x=>B56 uu r0 r1 r2 x.1 x.2.1 x.2.2.1 x.2.2.2.1 x.2.2.2.2.1 x.2.2.2.2.2)).Ok Tryz.prog:=okE Tryz.f56 (B56k uu r0 r1 r2 h0 h1 h2) (L1 (B56_11ok uu r0 r1 r2 h0 h1 h2))
def G17 (uu:Nat):Nat->((Unit×(List UInt8)×PV×PV×Unit×(List (PV×PV)))->Option (PV×Unit×(List (PV×PV))))×((Unit×PV×PV×PV×Unit×(List (PV×PV)))->Option (PV×Unit×(List (PV×PV))))×((Unit×PV×PV×PV×Unit×(List (PV×PV)))->Option (PV×Unit×(List (PV×PV))))
 | 0=>(fun _=>none,fun _=>none,fun _=>none)
 | d+1=>(fun x=>B17 uu ((G17 uu d).1) ((G17 uu d).2.1) ((G17 uu d).2.2) x.1 x.2.1 x.2.2.1 x.2.2.2.1 x.2.2.2.2.1 x.2.2.2.2.2,fun x=>B30 uu ((G17 uu d).1) ((G17 uu d).2.1) ((G17 uu d).2.2) x.1 x.2.1 x.2.2.1 x.2.2.2.1 x.2.2.2.2.1 x.2.2.2.2.2,fun x=>B56 uu ((G17 uu d).1) ((G17 uu d).2.1) ((G17 uu d).2.2) x.1 x.2.1 x.2.2.1 x.2.2.2.1 x.2.2.2.2.1 x.2.2.2.2.2)
theorem G17ok (uu:Nat):∀ d,(B17c ((G17 uu d).1)).Ok Tryz.prog/\(B30c ((G17 uu d).2.1)).Ok Tryz.prog/\(B56c ((G17 uu d).2.2)).Ok Tryz.prog
 | 0=>⟨aif,aif,aif⟩
 | d+1=>⟨B17ok uu ((G17 uu d).1) ((G17 uu d).2.1) ((G17 uu d).2.2) (G17ok uu d).1 (G17ok uu d).2.1 (G17ok uu d).2.2,B30ok uu ((G17 uu d).1) ((G17 uu d).2.1) ((G17 uu d).2.2) (G17ok uu d).1 (G17ok uu d).2.1 (G17ok uu d).2.2,B56ok uu ((G17 uu d).1) ((G17 uu d).2.1) ((G17 uu d).2.2) (G17ok uu d).1 (G17ok uu d).2.1 (G17ok uu d).2.2⟩
def F17 (uu:Nat) (a0:Unit) (a1:List UInt8) (a2:PV) (a3:PV) (a4:Unit) (a5:List (PV×PV)):Option (PV×Unit×(List (PV×PV))):=limQ uu (fun d=>(G17 uu d).1) (a0,a1,a2,a3,a4,a5)
def F17c (uu:Nat):CallE:=⟨17,⟨3,bx4,(.con (.ref 0 [] 71))::.str::sv9⟩,⟨0,bx4,sv10⟩,fun x=>F17 uu x.1 x.2.1 x.2.2.1 x.2.2.2.1 x.2.2.2.2.1 x.2.2.2.2.2,(PV.bad,(),[])⟩
theorem F17ok (uu:Nat):(F17c uu).Ok Tryz.prog:=ay6 (F17c uu) (G:=(fun d=>(G17 uu d).1)) (fun x=>rfl) (fun d=>(G17ok uu d).1)
def S18_4rem (x:Unit×Unit×Unit×(List (PV×PV))×(List PV)):List (PV×PV):=x.2.2.2.1
def S18_4 (uu:Nat) (e:PV×PV) (es:List (PV×PV)) (a11:Unit) (a12:Unit) (a13:Unit) (a14:List (PV×PV)) (a15:List PV):Option ((Unit×Unit×Unit×(List (PV×PV))×(List PV))⊕((Unit×Unit×(List (PV×PV))×(List PV)))):=
 let x16:=e.1
 let x17:=e.2.asInt
 let x18:=(x16.fld 0).asStr
 let x19:=(x16.fld 1).asInt
 bif decide (a15.length+[(PV.agg [(PV.str x18),(PV.int x19),(PV.int x17)])].length<=aat) then
 let x20:=a15++[(PV.agg [(PV.str x18),(PV.int x19),(PV.int x17)])]
 some (.inl ((),(),(),es,x20))
 else none
def S18_4go (uu:Nat) (e:PV×PV) (es:List (PV×PV)) (x:Unit×Unit×Unit×(List (PV×PV))×(List PV)):Option ((Unit×Unit×Unit×(List (PV×PV))×(List PV))⊕((Unit×Unit×(List (PV×PV))×(List PV)))):=S18_4 uu e es x.1 x.2.1 x.2.2.1 x.2.2.2.1 x.2.2.2.2
def S18_4f (uu:Nat) (a11:Unit) (a12:Unit) (a13:Unit) (a14:List (PV×PV)) (a15:List PV):Option ((Unit×Unit×Unit×(List (PV×PV))×(List PV))⊕((Unit×Unit×(List (PV×PV))×(List PV)))):=
 some (.inr ((),(),[],a15))
def S18_4fin (uu:Nat) (x:Unit×Unit×Unit×(List (PV×PV))×(List PV)):Option ((Unit×Unit×Unit×(List (PV×PV))×(List PV))⊕((Unit×Unit×(List (PV×PV))×(List PV)))):=S18_4f uu x.1 x.2.1 x.2.2.1 x.2.2.2.1 x.2.2.2.2
def F18 (uu:Nat) (a0:List (PV×PV)):Option ((List PV)):=
 art uu S18_4rem (S18_4go uu) (S18_4fin uu) ((),(),(),a0,[]) fun y21=>
 (amc uu y21.2.2.2 ()).bind fun y22=>
 some y22.1
def S18_4l (uu:Nat):LoopM:=⟨4,⟨[3,7],[.box 39 .leaf,.mit 97 3,.arr 62 1],[(.con (.ref 0 [] 39)),(.con (.mitr 1)),(.con (.arr 2 1 62)),(.map 97 3),(.slice 62)]⟩,[(.exit 0,⟨[3],[.box 39 .leaf,.mit 97 3,.arr 62 1],[(.con (.ref 0 [] 39)),(.con (.arr 2 1 62)),(.map 97 3),(.slice 62)]⟩)],S18_4rem,S18_4go uu,S18_4fin uu⟩
def F18C (uu:Nat):Cfg:=mcfg (cfg Tryz.prog 27 0 [avq uu] [] uu) uu [S18_4l uu]
def F18c (uu:Nat):CallE:=⟨18,⟨1,[],[(.map 97 3)]⟩,⟨1,[],[(.slice 62)]⟩,fun x=>F18 uu x,[]⟩
theorem F18k (uu:Nat):aan (F18C uu):=arx (aae (qc (aye uu)<|q0) (p0))
theorem S18_4ok (uu:Nat):LoopOk (F18C uu) (lp (aam Tryz.f18) 0):=okM (F18k uu) uu 8 7 1 97 3 (S18_4l uu) L0
theorem F18ok (uu:Nat):(F18c uu).Ok Tryz.prog:=okE Tryz.f18 (F18k uu) (L1 (S18_4ok uu))
def F9 (uu:Nat) (a0:PV) (a1:List UInt8) (a2:PV):Option ((List PV)):=
 (F17 uu () a1 a2 a0 () []).bind fun y1=>
 (F18 uu y1.2.2).bind fun y2=>
 some y2
def F9C (uu:Nat):Cfg:=fcfg (cfg Tryz.prog 21 0 [F17c uu,F18c uu] [] uu) 18
def F9c (uu:Nat):CallE:=⟨9,⟨3,[],sv13⟩,⟨1,[],[(.slice 62)]⟩,fun x=>F9 uu x.1 x.2.1 x.2.2,[]⟩
theorem F9k (uu:Nat):aan (F9C uu):=arc (aae (qc (F17ok uu)<|qc (F18ok uu)<|q0) (p0))
theorem F9ok (uu:Nat):(F9c uu).Ok Tryz.prog:=okE Tryz.f9 (F9k uu) L0
abbrev S36_7x:=Int×Int×(List PV)×Int×Int×PV×PV
abbrev S36_7y:=(Int×Int×Bool×PV×PV)⊕(PV×PV)
def S36_7 (uu:Nat) (a16:Int) (a17:Int) (a18:List PV) (a19:Int) (a20:Int) (a21:PV) (a22:PV):Option (S36_7x⊕S36_7y):=
 bif (decide (a20<a19)) then
 bif aab a20 a18.length then
 bif ((((a18.getD a20.toNat .bad).fld 0).asInt)==a16) then
 some (.inr (.inl (a17,a20,true,a21,a22)))
 else
 some (.inl (a16,a17,a18,a19,(IntKind.wrap .i64 (a20+(1:Int))),a21,a22))
 else none
 else
 some (.inr (.inr (a21,a22)))
def S36_7step (uu:Nat) (x:S36_7x):Option (S36_7x⊕S36_7y):=S36_7 uu x.1 x.2.1 x.2.2.1 x.2.2.2.1 x.2.2.2.2.1 x.2.2.2.2.2.1 x.2.2.2.2.2.2
abbrev S36_3x:=(List UInt8)×Int×(List PV)×Int×Int×PV
abbrev S36_3y:=(Int×Int×Bool×PV)⊕(PV)
def S36_3 (uu:Nat) (a3:List UInt8) (a4:Int) (a5:List PV) (a6:Int) (a7:Int) (a8:PV):Option (S36_3x⊕S36_3y):=
 bif (decide (a7<a6)) then
 bif aab a7 a5.length then
 let x10:=a5.getD a7.toNat .bad
 bif (!(((x10.fld 0).asStr)==a3)) then
 some (.inl (a3,a4,a5,a6,(IntKind.wrap .i64 (a7+(1:Int))),a8))
 else
 let x14:=(x10.fld 4).asList
 (aag uu (S36_7step uu) (a4,a7,x14,(x14.length:Int),(0:Int),a8,x10)).bind fun z=>sumE (fun y28=>
 some (.inr (.inl (y28.1,y28.2.1,y28.2.2.1,y28.2.2.2.1)))
 ) (fun y29=>
 some (.inr (.inl ((0:Int),(0:Int),false,y29.1)))
 ) z
 else none
 else
 some (.inr (.inr a8))
def S36_3step (uu:Nat) (x:S36_3x):Option (S36_3x⊕S36_3y):=S36_3 uu x.1 x.2.1 x.2.2.1 x.2.2.2.1 x.2.2.2.2.1 x.2.2.2.2.2
def F36 (uu:Nat) (a0:PV) (a1:List UInt8) (a2:Int):Option (Int×Int×Bool):=
 let x1:=(a0.fld 1).asList
 (aag uu (S36_3step uu) (a1,a2,x1,(x1.length:Int),(0:Int),a0)).bind fun z=>sumE (fun y30=>
 some (y30.1,y30.2.1,y30.2.2.1)
 ) (fun y31=>
 some ((0:Int),(0:Int),false)
 ) z
def S36_7l (uu:Nat):LoopE:=⟨7,⟨[2,9,26,27,28],bx8,(.int .i64)::(.int .i64)::(.slice 78)::sv14⟩,[(.ret,⟨[6,7,8],bx8,(.int .i64)::(.int .i64)::.bool::sv15⟩),(.exit 2,⟨[],bx8,sv15⟩)],S36_7step uu⟩
def S36_3l (uu:Nat):LoopE:=⟨3,⟨[1,2,14,15,16],[.box 84 .leaf],[.str,(.int .i64),(.slice 81),(.int .i64),(.int .i64),(.data 84)]⟩,[(.ret,⟨[6,7,8],[.box 84 .leaf],[(.int .i64),(.int .i64),.bool,(.data 84)]⟩),(.exit 0,⟨[],[.box 84 .leaf],[(.data 84)]⟩)],S36_3step uu⟩
def F36C (uu:Nat):Cfg:=cfg Tryz.prog 41 0 [] [S36_7l uu,S36_3l uu] uu
def F36c (uu:Nat):CallE:=⟨36,⟨3,[],(.data 84)::sv16⟩,⟨3,[],(.int .i64)::sv17⟩,fun x=>F36 uu x.1 x.2.1 x.2.2,(0,0,false)⟩
theorem F36k (uu:Nat):aan (F36C uu):=aae (q0) (p0)
theorem S36_7ok (uu:Nat):LoopOk (F36C uu) (lp (lp (aam Tryz.f36) 0) 0):=okL (F36k uu) uu (S36_7l uu) L0
theorem S36_3ok (uu:Nat):LoopOk (F36C uu) (lp (aam Tryz.f36) 0):=okL (F36k uu) uu (S36_3l uu) (L1 (S36_7ok uu))
theorem F36ok (uu:Nat):(F36c uu).Ok Tryz.prog:=okE Tryz.f36 (F36k uu) (L1 (S36_3ok uu))
def F37 (uu:Nat) (a0:PV) (a1:Int) (a2:Int) (a3:Int) (a4:Int):Option (PV):=
 let x1:=(a0.fld 1).asList
 bif decide (x1.length<=aat) then
 bif aab a1 x1.length then
 let x2:=x1.getD a1.toNat .bad
 let x3:=(x2.fld 4).asList
 bif decide (x3.length<=aat) then
 bif aab a2 x3.length then
 let x4:=x3.getD a2.toNat .bad
 bif aab a2 x3.length then
 let x8:=x3.set a2.toNat (PV.agg [(PV.int ((x4.fld 0).asInt)),(x4.fld 1),(PV.int ((x4.fld 2).asInt)),(PV.int a3),(PV.int a4)])
 bif aab a1 x1.length then
 let x9:=x1.set a1.toNat (PV.agg [(PV.str ((x2.fld 0).asStr)),(PV.str ((x2.fld 1).asStr)),(PV.int ((x2.fld 2).asInt)),(PV.int ((x2.fld 3).asInt)),(PV.slice x8)])
 some (PV.agg [(PV.int ((a0.fld 0).asInt)),(PV.slice x9)])
 else none
 else none
 else none
 else none
 else none
 else none
def F37c (uu:Nat):CallE:=⟨37,⟨5,[],(.data 84)::(.int .i64)::(.int .i64)::sv18⟩,⟨1,[],[(.data 84)]⟩,fun x=>F37 uu x.1 x.2.1 x.2.2.1 x.2.2.2.1 x.2.2.2.2,PV.bad⟩
theorem F37ok (uu:Nat):(F37c uu).Ok Tryz.prog:=okJ Tryz.f37 48 0 uu [] [] false (q0) (p0) L0
def F20 (uu:Nat) (a0:PV) (a1:List UInt8) (a2:Int):Option (PV×Int):=
 (F36 uu a0 a1 a2).bind fun y1=>
 let x2:=y1.1
 let x3:=y1.2.1
 bif (!y1.2.2) then
 some (a0,(10:Int))
 else
 let x6:=(a0.fld 1).asList
 bif aab x2 x6.length then
 let x9:=((x6.getD x2.toNat .bad).fld 4).asList
 bif aab x3 x9.length then
 let x10:=x9.getD x3.toNat .bad
 bif (bif (((x10.fld 3).asInt) != (2:Int)) then true else (decide (((a0.fld 0).asInt)<((x10.fld 4).asInt)))) then
 some (a0,(20:Int))
 else
 (F37 uu a0 x2 x3 (3:Int) (0:Int)).bind fun y17=>
 some (y17,(0:Int))
 else none
 else none
def F20c (uu:Nat):CallE:=⟨20,⟨3,[],(.data 84)::sv16⟩,⟨2,[],[(.data 84),(.int .i64)]⟩,fun x=>F20 uu x.1 x.2.1 x.2.2,(PV.bad,0)⟩
theorem F20ok (uu:Nat):(F20c uu).Ok Tryz.prog:=okJ Tryz.f20 47 0 uu _ [] false (qc (F36ok uu)<|qc (F37ok uu)<|q0) (p0) L0
abbrev S21_7x:=Unit×(List PV)×Unit×(List PV)×Int×Int×(List PV)×Int×Int×PV×PV
abbrev S21_7y:=(Unit×(List PV)×(List PV)×Int×Int×PV×PV)
def S21_7 (uu:Nat) (a13:Unit) (a14:List PV) (a15:Unit) (a16:List PV) (a17:Int) (a18:Int) (a19:List PV) (a20:Int) (a21:Int) (a22:PV) (a23:PV):Option (S21_7x⊕S21_7y):=
 bif (decide (a21<a20)) then
 bif aab a21 a19.length then
 let x25:=a19.getD a21.toNat .bad
 bif (bif (((x25.fld 3).asInt)==(2:Int)) then (decide (((x25.fld 4).asInt)<=((a22.fld 0).asInt))) else false) then
 let x32:=(a23.fld 0).asStr
 let x33:=(x25.fld 0).asInt
 bif decide (a14.length+[(PV.agg [(PV.str x32),(PV.int x33),(PV.int (0:Int))])].length<=aat) then
 let x34:=a14++[(PV.agg [(PV.str x32),(PV.int x33),(PV.int (0:Int))])]
 some (.inl ((),x34,(),a16,a17,a18,a19,a20,(IntKind.wrap .i64 (a21+(1:Int))),a22,a23))
 else none
 else
 some (.inl ((),a14,(),a16,a17,a18,a19,a20,(IntKind.wrap .i64 (a21+(1:Int))),a22,a23))
 else none
 else
 some (.inr ((),a14,a16,a17,a18,a22,a23))
def S21_7step (uu:Nat) (x:S21_7x):Option (S21_7x⊕S21_7y):=S21_7 uu x.1 x.2.1 x.2.2.1 x.2.2.2.1 x.2.2.2.2.1 x.2.2.2.2.2.1 x.2.2.2.2.2.2.1 x.2.2.2.2.2.2.2.1 x.2.2.2.2.2.2.2.2.1 x.2.2.2.2.2.2.2.2.2.1 x.2.2.2.2.2.2.2.2.2.2
abbrev S21_4x:=Unit×(List PV)×(List PV)×Int×Int×PV
abbrev S21_4y:=((List PV)×PV)
def S21_4 (uu:Nat) (a3:Unit) (a4:List PV) (a5:List PV) (a6:Int) (a7:Int) (a8:PV):Option (S21_4x⊕S21_4y):=
 bif (decide (a7<a6)) then
 bif aab a7 a5.length then
 let x10:=a5.getD a7.toNat .bad
 let x11:=(x10.fld 4).asList
 (aag uu (S21_7step uu) ((),a4,(),a5,a6,a7,x11,(x11.length:Int),(0:Int),a8,x10)).bind fun y37=>
 some (.inl ((),y37.2.1,y37.2.2.1,y37.2.2.2.1,(IntKind.wrap .i64 (y37.2.2.2.2.1+(1:Int))),y37.2.2.2.2.2.1))
 else none
 else
 some (.inr (a4,a8))
def S21_4step (uu:Nat) (x:S21_4x):Option (S21_4x⊕S21_4y):=S21_4 uu x.1 x.2.1 x.2.2.1 x.2.2.2.1 x.2.2.2.2.1 x.2.2.2.2.2
def F21 (uu:Nat) (a0:PV):Option ((List PV)):=
 let x1:=(a0.fld 1).asList
 (aag uu (S21_4step uu) ((),[],x1,(x1.length:Int),(0:Int),a0)).bind fun y39=>
 some y39.1
def S21_7l (uu:Nat):LoopE:=⟨7,⟨[1,3,5,9,10,11,16,17,18],[.box 84 .leaf,.acc,.box 81 .leaf],(.con (.ref 0 [] 84))::(.acc 1 62)::(.con (.ref 2 [] 81))::(.slice 81)::(.int .i64)::(.int .i64)::(.slice 78)::sv14⟩,[(.exit 2,⟨[1,3,9,10,11],[.box 84 .leaf,.acc,.box 81 .leaf],(.con (.ref 0 [] 84))::(.acc 1 62)::(.slice 81)::sv14⟩)],S21_7step uu⟩
def S21_4l (uu:Nat):LoopE:=⟨4,⟨[1,3,9,10,11],[.box 84 .leaf,.acc],[(.con (.ref 0 [] 84)),(.acc 1 62),(.slice 81),(.int .i64),(.int .i64),(.data 84)]⟩,[(.exit 0,⟨[3],[.box 84 .leaf,.acc],[(.acc 1 62),(.data 84)]⟩)],S21_4step uu⟩
def F21C (uu:Nat):Cfg:=cfg Tryz.prog 43 0 [] [S21_7l uu,S21_4l uu] uu
def F21c (uu:Nat):CallE:=⟨21,⟨1,[],[(.data 84)]⟩,⟨1,[],[(.slice 62)]⟩,fun x=>F21 uu x,[]⟩
theorem F21k (uu:Nat):aan (F21C uu):=aae (q0) (p0)
theorem S21_7ok (uu:Nat):LoopOk (F21C uu) (lp (lp (aam Tryz.f21) 0) 0):=okL (F21k uu) uu (S21_7l uu) L0
theorem S21_4ok (uu:Nat):LoopOk (F21C uu) (lp (aam Tryz.f21) 0):=okL (F21k uu) uu (S21_4l uu) (L1 (S21_7ok uu))
theorem F21ok (uu:Nat):(F21c uu).Ok Tryz.prog:=okE Tryz.f21 (F21k uu) (L1 (S21_4ok uu))
def F11 (uu:Nat) :Option (Bool):=
 (F9 uu (PV.agg [(PV.slice [(PV.agg [(PV.str ([77]:List UInt8)),(PV.slice [(PV.agg [(PV.int (1:Int)),(PV.str ([120]:List UInt8)),(PV.int (2:Int)),(PV.int (0:Int)),(PV.agg [(PV.int (1:Int)),(PV.str ([]:List UInt8))]),(PV.str ([]:List UInt8)),(PV.bool false),(PV.agg [(PV.int (0:Int)),(PV.int (0:Int)),(PV.str ([]:List UInt8)),(PV.slice []),(PV.slice []),(PV.slice []),(PV.slice [])]),(PV.slice [(PV.agg [(PV.str ([100,101,112,114,101,99,97,116,101,100]:List UInt8)),(PV.agg [(PV.int (1:Int)),(PV.int (1:Int)),(PV.str ([]:List UInt8)),(PV.slice []),(PV.slice []),(PV.slice []),(PV.slice [])])])])])]),(PV.slice []),(PV.slice []),(PV.slice [])])]),(PV.slice []),(PV.slice [])]) ([77]:List UInt8) (PV.agg [(PV.int (10:Int)),(PV.int (0:Int)),(PV.str ([]:List UInt8)),(PV.slice []),(PV.slice []),(PV.slice [(PV.agg [(PV.int (1:Int)),(PV.agg [(PV.int (1:Int)),(PV.int (0:Int)),(PV.str ([]:List UInt8)),(PV.slice []),(PV.slice []),(PV.slice []),(PV.slice [])])])]),(PV.slice [])])).bind fun y1=>
 (F20 uu (PV.agg [(PV.int (5:Int)),(PV.slice [(PV.agg [(PV.str ([97]:List UInt8)),(PV.str ([]:List UInt8)),(PV.int (0:Int)),(PV.int (0:Int)),(PV.slice [(PV.agg [(PV.int (1:Int)),(PV.agg [(PV.slice []),(PV.slice []),(PV.slice [])]),(PV.int (0:Int)),(PV.int (2:Int)),(PV.int (5:Int))])])])])]) ([97]:List UInt8) (1:Int)).bind fun y2=>
 let x6:=(y1.length:Int)==(1:Int)
 bif imp x6 (aab (0:Int) y1.length) then
 let x7:=y1.getD (0:Int).toNat .bad
 let x8:=bif ((x7.fld 0).asStr)==([77]:List UInt8) then (bif ((x7.fld 1).asInt)==(1:Int) then (bif ((x7.fld 2).asInt)==(1:Int) then true else false) else false) else false
 let x11:=bif (bif x6 then x8 else false) then (y2.2==(0:Int)) else false
 let x12:=(y2.1.fld 1).asList
 bif imp x11 (aab (0:Int) x12.length) then
 let x15:=((x12.getD (0:Int).toNat .bad).fld 4).asList
 bif imp x11 (aab (0:Int) x15.length) then
 let x20:=bif x11 then (((x15.getD (0:Int).toNat .bad).fld 3).asInt==(3:Int)) else false
 (bif x20 then F21 uu (PV.agg [(PV.int (5:Int)),(PV.slice [(PV.agg [(PV.str ([97]:List UInt8)),(PV.str ([]:List UInt8)),(PV.int (0:Int)),(PV.int (0:Int)),(PV.slice [(PV.agg [(PV.int (1:Int)),(PV.agg [(PV.slice []),(PV.slice []),(PV.slice [])]),(PV.int (0:Int)),(PV.int (2:Int)),(PV.int (5:Int))])])])])]) else some []).bind fun y21=>
 some (bif x20 then ((y21.length:Int)==(1:Int)) else false)
 else none
 else none
 else none
def F11c (uu:Nat):CallE:=⟨11,⟨0,[],[]⟩,⟨1,[],[.bool]⟩,fun x=>F11 uu ,false⟩
theorem F11ok (uu:Nat):(F11c uu).Ok Tryz.prog:=okJ Tryz.f11 64 0 uu _ [] false (qc (F9ok uu)<|qc (F20ok uu)<|qc (F21ok uu)<|q0) (p0) L0
theorem awake40_run:F11 1000=some true:=ayz (by kernel_rfl)
def asx (uu:Nat):Option Bool:=some true
def aov (uu:Nat):CallE:={ f:=11,A:=⟨0,[],[]⟩,R:=⟨1,[],[.bool]⟩,F:=fun x=>asx uu,dflt:=false }
theorem aqx (uu:Nat):(F11c uu).F=fun _=>F11 uu:=rfl
theorem aua (uu:Nat):(aov uu).Ok Tryz.prog:=fun x y h=>F11ok 1000 () y ((congrFun (aqx 1000) ()).trans (awake40_run.trans h))
abbrev S39_4x:=Int×Unit×(List PV)×Int×PV
abbrev S39_4y:=(Int×Unit×(List PV)×PV)
def S39_4 (uu:Nat) (a1:Int) (a2:Unit) (a3:List PV) (a4:Int) (a5:PV):Option (S39_4x⊕S39_4y):=
 bif (bif (a1==(1:Int)) then (decide (a4<(((a5.fld 0).asList).length:Int))) else false) then
 let x11:=(a5.fld 0).asList
 bif aab a4 x11.length then
 let x14:=((x11.getD a4.toNat .bad).fld 0).asStr
 bif decide (a3.length+[(PV.str x14)].length<=aat) then
 some (.inl (a1,(),(a3++[(PV.str x14)]),(IntKind.wrap .i64 (a4+(1:Int))),a5))
 else none
 else none
 else
 some (.inr (a1,(),a3,a5))
def S39_4step (uu:Nat) (x:S39_4x):Option (S39_4x⊕S39_4y):=S39_4 uu x.1 x.2.1 x.2.2.1 x.2.2.2.1 x.2.2.2.2
abbrev S39_8x:=Int×Unit×(List PV)×Int×PV
abbrev S39_8y:=(Int×Unit×(List PV)×PV)
def S39_8 (uu:Nat) (a18:Int) (a19:Unit) (a20:List PV) (a21:Int) (a22:PV):Option (S39_8x⊕S39_8y):=
 bif (bif (a18==(2:Int)) then (decide (a21<(((a22.fld 1).asList).length:Int))) else false) then
 let x28:=(a22.fld 1).asList
 bif aab a21 x28.length then
 let x31:=((x28.getD a21.toNat .bad).fld 0).asStr
 bif decide (a20.length+[(PV.str x31)].length<=aat) then
 some (.inl (a18,(),(a20++[(PV.str x31)]),(IntKind.wrap .i64 (a21+(1:Int))),a22))
 else none
 else none
 else
 some (.inr (a18,(),a20,a22))
def S39_8step (uu:Nat) (x:S39_8x):Option (S39_8x⊕S39_8y):=S39_8 uu x.1 x.2.1 x.2.2.1 x.2.2.2.1 x.2.2.2.2
abbrev S39_12x:=Int×Unit×(List PV)×Int×PV
abbrev S39_12y:=((List PV)×PV)
def S39_12 (uu:Nat) (a35:Int) (a36:Unit) (a37:List PV) (a38:Int) (a39:PV):Option (S39_12x⊕S39_12y):=
 bif (bif (a35==(3:Int)) then (decide (a38<(((a39.fld 2).asList).length:Int))) else false) then
 let x45:=(a39.fld 2).asList
 bif aab a38 x45.length then
 let x48:=((x45.getD a38.toNat .bad).fld 0).asStr
 bif decide (a37.length+[(PV.str x48)].length<=aat) then
 some (.inl (a35,(),(a37++[(PV.str x48)]),(IntKind.wrap .i64 (a38+(1:Int))),a39))
 else none
 else none
 else
 some (.inr (a37,a39))
def S39_12step (uu:Nat) (x:S39_12x):Option (S39_12x⊕S39_12y):=S39_12 uu x.1 x.2.1 x.2.2.1 x.2.2.2.1 x.2.2.2.2
def F39 (uu:Nat) (a0:PV) (a1:Int):Option ((List PV)):=
 (aag uu (S39_4step uu) (a1,(),[],(0:Int),a0)).bind fun y17=>
 (aag uu (S39_8step uu) (y17.1,(),y17.2.2.1,(0:Int),y17.2.2.2)).bind fun y34=>
 (aag uu (S39_12step uu) (y34.1,(),y34.2.2.1,(0:Int),y34.2.2.2)).bind fun y51=>
 some y51.1
def S39_4l (uu:Nat):LoopE:=⟨4,⟨[1,2,5,6],bx9,sv19⟩,[(.exit 0,⟨[1,2,5],bx9,(.int .i64)::(.con (.ref 0 [] 26))::sv20⟩)],S39_4step uu⟩
def S39_8l (uu:Nat):LoopE:=⟨8,⟨[1,2,5,7],bx9,sv19⟩,[(.exit 2,⟨[1,2,5],bx9,(.int .i64)::(.con (.ref 0 [] 26))::sv20⟩)],S39_8step uu⟩
def S39_12l (uu:Nat):LoopE:=⟨12,⟨[1,2,5,8],bx9,sv19⟩,[(.exit 4,⟨[5],bx9,sv20⟩)],S39_12step uu⟩
def F39C (uu:Nat):Cfg:=cfg Tryz.prog 70 0 [] [S39_4l uu,S39_8l uu,S39_12l uu] uu
def F39c (uu:Nat):CallE:=⟨39,⟨2,[],[(.data 26),(.int .i64)]⟩,⟨1,[],[(.slice 9)]⟩,fun x=>F39 uu x.1 x.2,[]⟩
theorem F39k (uu:Nat):aan (F39C uu):=aae (q0) (p0)
theorem S39_4ok (uu:Nat):LoopOk (F39C uu) (lp (aam Tryz.f39) 0):=okL (F39k uu) uu (S39_4l uu) L0
theorem S39_8ok (uu:Nat):LoopOk (F39C uu) (lp (aam Tryz.f39) 1):=okL (F39k uu) uu (S39_8l uu) L0
theorem S39_12ok (uu:Nat):LoopOk (F39C uu) (lp (aam Tryz.f39) 2):=okL (F39k uu) uu (S39_12l uu) L0
theorem F39ok (uu:Nat):(F39c uu).Ok Tryz.prog:=okE Tryz.f39 (F39k uu) (L3 (S39_4ok uu) (S39_8ok uu) (S39_12ok uu))
def F40 (uu:Nat) (a0:Unit) (a1:Bool) (a2:Int) (a3:Int) (a4:List UInt8) (a5:List PV):Option ((List UInt8)×(List PV)):=
 bif a1 then
 bif decide (a5.length+[(PV.agg [(PV.str a4),(PV.int a2),(PV.int a3)])].length<=aat) then
 some (a4,(a5++[(PV.agg [(PV.str a4),(PV.int a2),(PV.int a3)])]))
 else none
 else
 some (a4,a5)
def F40c (uu:Nat):CallE:=⟨40,⟨4,bx10,(.con (.ref 0 [] 111))::.bool::sv21⟩,⟨0,bx10,sv22⟩,fun x=>F40 uu x.1 x.2.1 x.2.2.1 x.2.2.2.1 x.2.2.2.2.1 x.2.2.2.2.2,([],[])⟩
theorem F40ok (uu:Nat):(F40c uu).Ok Tryz.prog:=okJ Tryz.f40 25 2 uu [] [] false (q0) (p0) L0
def S41_3 (uu:Nat) (a1:List PV) (a2:Int):Option (((List PV)×Int)⊕((Bool)⊕(Unit))):=
 bif (decide (a2<(a1.length:Int))) then
 bif aab a2 a1.length then
 let x6:=(a1.getD a2.toNat .bad).asStr
 let x7:=IntKind.wrap .i64 (a2-(1:Int))
 bif aab x7 a1.length then
 let x9:=(a1.getD x7.toNat .bad).asStr
 bif (Op.bytesLess x6 x9||x6==x9) then
 some (.inr (.inl false))
 else
 some (.inl (a1,(IntKind.wrap .i64 (a2+(1:Int)))))
 else none
 else none
 else
 some (.inr (.inr ()))
def S41_3step (uu:Nat) (x:(List PV)×Int):Option (((List PV)×Int)⊕((Bool)⊕(Unit))):=S41_3 uu x.1 x.2
def F41 (uu:Nat) (a0:List PV):Option (Bool):=
 (aag uu (S41_3step uu) (a0,(1:Int))).bind fun z=>sumE (fun y12=>
 some y12
 ) (fun y13=>
 some true
 ) z
def S41_3l (uu:Nat):LoopE:=⟨3,⟨[0,3],[],[(.slice 9),(.int .i64)]⟩,[(.ret,⟨[2],[],[.bool]⟩),(.exit 0,⟨[],[],[]⟩)],S41_3step uu⟩
def F41C (uu:Nat):Cfg:=cfg Tryz.prog 20 0 [] [S41_3l uu] uu
def F41c (uu:Nat):CallE:=⟨41,⟨1,[],[(.slice 9)]⟩,⟨1,[],[.bool]⟩,fun x=>F41 uu x,false⟩
theorem F41k (uu:Nat):aan (F41C uu):=aae (q0) (p0)
theorem S41_3ok (uu:Nat):LoopOk (F41C uu) (lp (aam Tryz.f41) 0):=okL (F41k uu) uu (S41_3l uu) L0
theorem F41ok (uu:Nat):(F41c uu).Ok Tryz.prog:=okE Tryz.f41 (F41k uu) (L1 (S41_3ok uu))
abbrev S64_3x:=(List PV)×(List UInt8)×Int
abbrev S64_3y:=(Bool)⊕(Unit)
def S64_3 (uu:Nat) (a1:List PV) (a2:List UInt8) (a3:Int):Option (S64_3x⊕S64_3y):=
 bif (decide (a3<(a1.length:Int))) then
 bif aab a3 a1.length then
 bif ((a1.getD a3.toNat .bad).asStr==a2) then
 some (.inr (.inl true))
 else
 some (.inl (a1,a2,(IntKind.wrap .i64 (a3+(1:Int)))))
 else none
 else
 some (.inr (.inr ()))
def S64_3step (uu:Nat) (x:S64_3x):Option (S64_3x⊕S64_3y):=S64_3 uu x.1 x.2.1 x.2.2
def F64 (uu:Nat) (a0:List PV) (a1:List UInt8):Option (Bool):=
 (aag uu (S64_3step uu) (a0,a1,(0:Int))).bind fun z=>sumE (fun y10=>
 some y10
 ) (fun y11=>
 some false
 ) z
def S64_3l (uu:Nat):LoopE:=⟨3,⟨[0,1,5],[],(.slice 9)::sv16⟩,[(.ret,⟨[4],[],[.bool]⟩),(.exit 0,⟨[],[],[]⟩)],S64_3step uu⟩
def F64C (uu:Nat):Cfg:=cfg Tryz.prog 18 0 [] [S64_3l uu] uu
def F64c (uu:Nat):CallE:=⟨64,⟨2,[],[(.slice 9),.str]⟩,⟨1,[],[.bool]⟩,fun x=>F64 uu x.1 x.2,false⟩
theorem F64k (uu:Nat):aan (F64C uu):=aae (q0) (p0)
theorem S64_3ok (uu:Nat):LoopOk (F64C uu) (lp (aam Tryz.f64) 0):=okL (F64k uu) uu (S64_3l uu) L0
theorem F64ok (uu:Nat):(F64c uu).Ok Tryz.prog:=okE Tryz.f64 (F64k uu) (L1 (S64_3ok uu))
abbrev S42_3x:=(List PV)×(List PV)×Int
abbrev S42_3y:=(Bool)⊕(Unit)
def S42_3 (uu:Nat) (a1:List PV) (a2:List PV) (a3:Int):Option (S42_3x⊕S42_3y):=
 bif (decide (a3<(a1.length:Int))) then
 bif aab a3 a1.length then
 (F64 uu a2 (a1.getD a3.toNat .bad).asStr).bind fun y8=>
 bif y8 then
 some (.inr (.inl true))
 else
 some (.inl (a1,a2,(IntKind.wrap .i64 (a3+(1:Int)))))
 else none
 else
 some (.inr (.inr ()))
def S42_3step (uu:Nat) (x:S42_3x):Option (S42_3x⊕S42_3y):=S42_3 uu x.1 x.2.1 x.2.2
def F42 (uu:Nat) (a0:List PV) (a1:List PV):Option (Bool):=
 (aag uu (S42_3step uu) (a0,a1,(0:Int))).bind fun z=>sumE (fun y10=>
 some y10
 ) (fun y11=>
 some false
 ) z
def S42_3l (uu:Nat):LoopE:=⟨3,⟨[0,1,5],[],[(.slice 9),(.slice 9),(.int .i64)]⟩,[(.ret,⟨[4],[],[.bool]⟩),(.exit 0,⟨[],[],[]⟩)],S42_3step uu⟩
def F42C (uu:Nat):Cfg:=cfg Tryz.prog 18 0 [F64c uu] [S42_3l uu] uu
def F42c (uu:Nat):CallE:=⟨42,⟨2,[],[(.slice 9),(.slice 9)]⟩,⟨1,[],[.bool]⟩,fun x=>F42 uu x.1 x.2,false⟩
theorem F42k (uu:Nat):aan (F42C uu):=aae (qc (F64ok uu)<|q0) (p0)
theorem S42_3ok (uu:Nat):LoopOk (F42C uu) (lp (aam Tryz.f42) 0):=okL (F42k uu) uu (S42_3l uu) L0
theorem F42ok (uu:Nat):(F42c uu).Ok Tryz.prog:=okE Tryz.f42 (F42k uu) (L1 (S42_3ok uu))
abbrev S76_3x:=(List UInt8)×Unit×Int×PV
abbrev S76_3y:=(Int×PV)⊕(PV)
def S76_3 (uu:Nat) (a1:List UInt8) (a2:Unit) (a3:Int) (a4:PV):Option (S76_3x⊕S76_3y):=
 bif (decide (a3<(((a4.fld 0).asList).length:Int))) then
 let x8:=(a4.fld 0).asList
 bif aab a3 x8.length then
 bif (((x8.getD a3.toNat .bad).fld 0).asStr==a1) then
 some (.inr (.inl (a3,a4)))
 else
 some (.inl (a1,(),(IntKind.wrap .i64 (a3+(1:Int))),a4))
 else none
 else
 some (.inr (.inr a4))
def S76_3step (uu:Nat) (x:S76_3x):Option (S76_3x⊕S76_3y):=S76_3 uu x.1 x.2.1 x.2.2.1 x.2.2.2
def F76 (uu:Nat) (a0:PV) (a1:List UInt8):Option (Int):=
 (aag uu (S76_3step uu) (a1,(),(0:Int),a0)).bind fun z=>sumE (fun y14=>
 some y14.1
 ) (fun y15=>
 some (-1:Int)
 ) z
def S76_3l (uu:Nat):LoopE:=⟨3,⟨[1,2,5],bx11,.str::(.con (.ref 0 [] 26))::sv23⟩,[(.ret,⟨[4],bx11,sv23⟩),(.exit 0,⟨[],bx11,[(.data 26)]⟩)],S76_3step uu⟩
def F76C (uu:Nat):Cfg:=cfg Tryz.prog 22 0 [] [S76_3l uu] uu
def F76c (uu:Nat):CallE:=⟨76,⟨2,[],sv2⟩,⟨1,[],[(.int .i64)]⟩,fun x=>F76 uu x.1 x.2,0⟩
theorem F76k (uu:Nat):aan (F76C uu):=aae (q0) (p0)
theorem S76_3ok (uu:Nat):LoopOk (F76C uu) (lp (aam Tryz.f76) 0):=okL (F76k uu) uu (S76_3l uu) L0
theorem F76ok (uu:Nat):(F76c uu).Ok Tryz.prog:=okE Tryz.f76 (F76k uu) (L1 (S76_3ok uu))
abbrev S65_3x:=Unit×Unit×Unit×Int×(List PV)×PV×PV
abbrev S65_3y:=(Bool×(List PV)×PV×PV)⊕((List PV)×PV×PV)
def S65_3 (uu:Nat) (a1:Unit) (a2:Unit) (a3:Unit) (a4:Int) (a5:List PV) (a6:PV) (a7:PV):Option (S65_3x⊕S65_3y):=
 bif (decide (a4<(((a7.fld 1).asList).length:Int))) then
 let x11:=(a7.fld 1).asList
 bif aab a4 x11.length then
 let x12:=x11.getD a4.toNat .bad
 bif (bif (((x12.fld 2).asInt) != (1:Int)) then true else ((((x12.fld 4).fld 0).asInt) != (10:Int))) then
 some (.inl ((),(),(),(IntKind.wrap .i64 (a4+(1:Int))),a5,a6,a7))
 else
 (F76 uu a6 (((x12.fld 4).fld 1).asStr)).bind fun y20=>
 let x21:=decide (y20≥(0:Int))
 bif imp x21 (aab y20 a5.length) then
 bif (bif x21 then (!((a5.getD y20.toNat .bad).asBool)) else false) then
 some (.inr (.inl (true,a5,a6,a7)))
 else
 some (.inl ((),(),(),(IntKind.wrap .i64 (a4+(1:Int))),a5,a6,a7))
 else none
 else none
 else
 some (.inr (.inr (a5,a6,a7)))
def S65_3step (uu:Nat) (x:S65_3x):Option (S65_3x⊕S65_3y):=S65_3 uu x.1 x.2.1 x.2.2.1 x.2.2.2.1 x.2.2.2.2.1 x.2.2.2.2.2.1 x.2.2.2.2.2.2
def F65 (uu:Nat) (a0:PV) (a1:PV) (a2:Unit) (a3:List PV):Option (Bool×(List PV)):=
 (aag uu (S65_3step uu) ((),(),(),(0:Int),a3,a0,a1)).bind fun z=>sumE (fun y26=>
 some (y26.1,y26.2.1)
 ) (fun y27=>
 some (false,y27.1)
 ) z
def S65_3l (uu:Nat):LoopE:=⟨3,⟨[2,3,4,7],bx12,(.con (.arr 0 0 4))::(.con (.ref 1 [] 26))::(.con (.ref 2 [] 50))::(.int .i64)::sv24⟩,[(.ret,⟨[6],bx12,.bool::sv24⟩),(.exit 0,⟨[],bx12,sv24⟩)],S65_3step uu⟩
def F65C (uu:Nat):Cfg:=cfg Tryz.prog 45 1 [F76c uu] [S65_3l uu] uu
def F65c (uu:Nat):CallE:=⟨65,⟨3,[.arr 4 0],[(.data 26),(.data 50),(.con (.arr 0 0 4)),(.slice 4)]⟩,⟨1,[.arr 4 0],[.bool,(.slice 4)]⟩,fun x=>F65 uu x.1 x.2.1 x.2.2.1 x.2.2.2,(false,[])⟩
theorem F65k (uu:Nat):aan (F65C uu):=aae (qc (F76ok uu)<|q0) (p0)
theorem S65_3ok (uu:Nat):LoopOk (F65C uu) (lp (aam Tryz.f65) 0):=okL (F65k uu) uu (S65_3l uu) L0
theorem F65ok (uu:Nat):(F65c uu).Ok Tryz.prog:=okE Tryz.f65 (F65k uu) (L1 (S65_3ok uu))
abbrev S43_9x:=Unit×Unit×Bool×Int×Int×PV×(List PV)
abbrev S43_9y:=(Unit×Unit×Bool×Int×PV×(List PV))
def S43_9 (uu:Nat) (a14:Unit) (a15:Unit) (a16:Bool) (a17:Int) (a18:Int) (a19:PV) (a20:List PV):Option (S43_9x⊕S43_9y):=
 bif (decide (a18<(((a19.fld 0).asList).length:Int))) then
 bif aab a18 a20.length then
 let x25:=!((a20.getD a18.toNat .bad).asBool)
 let x26:=(a19.fld 0).asList
 bif imp x25 (aab a18 x26.length) then
 bif x25 then
 (F65 uu a19 (x26.getD a18.toNat .bad) () a20).bind fun y28=>
 bif (bif x25 then (!y28.1) else false) then
 bif aab a18 y28.2.length then
 some (.inl ((),(),true,a17,(IntKind.wrap .i64 (a18+(1:Int))),a19,(y28.2.set a18.toNat (PV.bool true))))
 else none
 else
 some (.inl ((),(),a16,a17,(IntKind.wrap .i64 (a18+(1:Int))),a19,y28.2))
 else
 bif (bif x25 then true else false) then
 bif aab a18 a20.length then
 some (.inl ((),(),true,a17,(IntKind.wrap .i64 (a18+(1:Int))),a19,(a20.set a18.toNat (PV.bool true))))
 else none
 else
 some (.inl ((),(),a16,a17,(IntKind.wrap .i64 (a18+(1:Int))),a19,a20))
 else none
 else none
 else
 some (.inr ((),(),a16,a17,a19,a20))
def S43_9step (uu:Nat) (x:S43_9x):Option (S43_9x⊕S43_9y):=S43_9 uu x.1 x.2.1 x.2.2.1 x.2.2.2.1 x.2.2.2.2.1 x.2.2.2.2.2.1 x.2.2.2.2.2.2
abbrev S43_5x:=Unit×Unit×Bool×Int×PV×(List PV)
abbrev S43_5y:=(Unit×PV×(List PV))
def S43_5 (uu:Nat) (a4:Unit) (a5:Unit) (a6:Bool) (a7:Int) (a8:PV) (a9:List PV):Option (S43_5x⊕S43_5y):=
 bif (bif (decide (a7<(((a8.fld 0).asList).length:Int))) then a6 else false) then
 (aag uu (S43_9step uu) ((),(),false,a7,(0:Int),a8,a9)).bind fun y38=>
 some (.inl ((),(),y38.2.2.1,(IntKind.wrap .i64 (y38.2.2.2.1+(1:Int))),y38.2.2.2.2.1,y38.2.2.2.2.2))
 else
 some (.inr ((),a8,a9))
def S43_5step (uu:Nat) (x:S43_5x):Option (S43_5x⊕S43_5y):=S43_5 uu x.1 x.2.1 x.2.2.1 x.2.2.2.1 x.2.2.2.2.1 x.2.2.2.2.2
def F43 (uu:Nat) (a0:PV):Option ((List PV)):=
 let x2:=(((a0.fld 0).asList).length:Int)
 bif decide (0<=x2/\x2<=x2/\x2<=aat) then
 (aag uu (S43_5step uu) ((),(),true,(0:Int),a0,(List.replicate x2.toNat (PV.bool false)))).bind fun y41=>
 some y41.2.2
 else none
def S43_9l (uu:Nat):LoopE:=⟨9,⟨[1,3,4,5,6],bx13,(.con (.ref 0 [] 26))::(.con (.arr 1 0 4))::.bool::(.int .i64)::sv25⟩,[(.exit 2,⟨[1,3,4,5],bx13,(.con (.ref 0 [] 26))::(.con (.arr 1 0 4))::.bool::sv25⟩)],S43_9step uu⟩
def S43_5l (uu:Nat):LoopE:=⟨5,⟨[1,3,4,5],bx13,(.con (.ref 0 [] 26))::(.con (.arr 1 0 4))::.bool::sv25⟩,[(.exit 0,⟨[3],bx13,(.con (.arr 1 0 4))::sv26⟩)],S43_5step uu⟩
def F43C (uu:Nat):Cfg:=cfg Tryz.prog 48 0 [F65c uu] [S43_9l uu,S43_5l uu] uu
def F43c (uu:Nat):CallE:=⟨43,⟨1,[],[(.data 26)]⟩,⟨1,[],[(.slice 4)]⟩,fun x=>F43 uu x,[]⟩
theorem F43k (uu:Nat):aan (F43C uu):=aae (qc (F65ok uu)<|q0) (p0)
theorem S43_9ok (uu:Nat):LoopOk (F43C uu) (lp (lp (aam Tryz.f43) 0) 0):=okL (F43k uu) uu (S43_9l uu) L0
theorem S43_5ok (uu:Nat):LoopOk (F43C uu) (lp (aam Tryz.f43) 0):=okL (F43k uu) uu (S43_5l uu) (L1 (S43_9ok uu))
theorem F43ok (uu:Nat):(F43c uu).Ok Tryz.prog:=okE Tryz.f43 (F43k uu) (L1 (S43_5ok uu))
def F124 (uu:Nat) (a0:Int):Option (Bool):=
 some (bif (decide (a0≥(97:Int))) then (decide (a0<=(122:Int))) else false)
def F124c (uu:Nat):CallE:=⟨124,⟨1,[],[(.int .u8)]⟩,⟨1,[],[.bool]⟩,fun x=>F124 uu x,false⟩
theorem F124ok (uu:Nat):(F124c uu).Ok Tryz.prog:=okJ Tryz.f124 9 0 uu [] [] false (q0) (p0) L0
def F125 (uu:Nat) (a0:Int):Option (Bool):=
 some (bif (decide (a0≥(65:Int))) then (decide (a0<=(90:Int))) else false)
def F125c (uu:Nat):CallE:=⟨125,⟨1,[],[(.int .u8)]⟩,⟨1,[],[.bool]⟩,fun x=>F125 uu x,false⟩
theorem F125ok (uu:Nat):(F125c uu).Ok Tryz.prog:=okJ Tryz.f125 9 0 uu [] [] false (q0) (p0) L0
def S106_5 (uu:Nat) (a14:List UInt8) (a15:Int):Option (((List UInt8)×Int)⊕((Bool)⊕(Unit))):=
 bif (decide (a15<(a14.length:Int))) then
 bif aab a15 a14.length then
 (F124 uu ((a14.getD a15.toNat 0).toNat:Int)).bind fun y19=>
 let x20:=!y19
 bif imp x20 (aab a15 a14.length) then
 (bif x20 then F125 uu ((a14.getD a15.toNat 0).toNat:Int) else some false).bind fun y22=>
 let x24:=bif x20 then (!y22) else false
 bif imp x24 (aab a15 a14.length) then
 let x27:=bif x24 then (((a14.getD a15.toNat 0).toNat:Int) != (95:Int)) else false
 bif imp x27 (aab a15 a14.length) then
 let x29:=decide (((a14.getD a15.toNat 0).toNat:Int)<(48:Int))
 bif imp (bif !x29 then x27 else false) (aab a15 a14.length) then
 bif (bif x27 then (bif x29 then true else (decide (((a14.getD a15.toNat 0).toNat:Int)>(57:Int)))) else false) then
 some (.inr (.inl false))
 else
 some (.inl (a14,(IntKind.wrap .i64 (a15+(1:Int)))))
 else none
 else none
 else none
 else none
 else none
 else
 some (.inr (.inr ()))
def S106_5step (uu:Nat) (x:(List UInt8)×Int):Option (((List UInt8)×Int)⊕((Bool)⊕(Unit))):=S106_5 uu x.1 x.2
def F106 (uu:Nat) (a0:List UInt8):Option (Bool):=
 let x5:=bif ((a0.length:Int)==(0:Int)) then true else (decide ((a0.length:Int)>(40:Int)))
 bif imp (!x5) (aab (0:Int) a0.length) then
 (bif !x5 then F124 uu ((a0.getD (0:Int).toNat 0).toNat:Int) else some false).bind fun y7=>
 let x8:=!y7
 bif imp (bif x8 then !x5 else false) (aab (0:Int) a0.length) then
 (bif bif x8 then !x5 else false then F125 uu ((a0.getD (0:Int).toNat 0).toNat:Int) else some false).bind fun y10=>
 bif (bif x5 then true else (bif x8 then (!y10) else false)) then
 some false
 else
 (aag uu (S106_5step uu) (a0,(1:Int))).bind fun z=>sumE (fun y35=>
 some y35
 ) (fun y36=>
 some true
 ) z
 else none
 else none
def S106_5l (uu:Nat):LoopE:=⟨5,⟨[0,3],[],sv16⟩,[(.ret,⟨[2],[],[.bool]⟩),(.exit 0,⟨[],[],[]⟩)],S106_5step uu⟩
def F106C (uu:Nat):Cfg:=cfg Tryz.prog 60 0 [F124c uu,F125c uu] [S106_5l uu] uu
def F106c (uu:Nat):CallE:=⟨106,⟨1,[],[.str]⟩,⟨1,[],[.bool]⟩,fun x=>F106 uu x,false⟩
theorem F106k (uu:Nat):aan (F106C uu):=aae (qc (F124ok uu)<|qc (F125ok uu)<|q0) (p0)
theorem S106_5ok (uu:Nat):LoopOk (F106C uu) (lp (aam Tryz.f106) 0):=okL (F106k uu) uu (S106_5l uu) L0
theorem F106ok (uu:Nat):(F106c uu).Ok Tryz.prog:=okE Tryz.f106 (F106k uu) (L1 (S106_5ok uu))
abbrev S103_6x:=(List UInt8)×(List UInt8)×Int
abbrev S103_6y:=(Bool)⊕((List UInt8))
def S103_6 (uu:Nat) (a3:List UInt8) (a4:List UInt8) (a5:Int):Option (S103_6x⊕S103_6y):=
 bif (decide (a5<(a3.length:Int))) then
 bif aab a5 a3.length then
 bif (((a3.getD a5.toNat 0).toNat:Int) != (46:Int)) then
 let x10:=IntKind.wrap .i64 (a5+(1:Int))
 bif decide (0<=a5/\a5<=x10/\x10<=(a3.length:Int)) then
 let x11:=(a3.take x10.toNat).drop a5.toNat
 bif decide (a4.length+x11.length<=am4) then
 some (.inl (a3,(a4++x11),(IntKind.wrap .i64 (a5+(1:Int)))))
 else none
 else none
 else
 (F106 uu a4).bind fun y14=>
 bif (!y14) then
 some (.inr (.inl false))
 else
 some (.inl (a3,([]:List UInt8),(IntKind.wrap .i64 (a5+(1:Int)))))
 else none
 else
 some (.inr (.inr a4))
def S103_6step (uu:Nat) (x:S103_6x):Option (S103_6x⊕S103_6y):=S103_6 uu x.1 x.2.1 x.2.2
def F103 (uu:Nat) (a0:List UInt8):Option (Bool):=
 bif (decide ((a0.length:Int)>(120:Int))) then
 some false
 else
 (aag uu (S103_6step uu) (a0,([]:List UInt8),(0:Int))).bind fun z=>sumE (fun y17=>
 some y17
 ) (fun y18=>
 (F106 uu y18).bind fun y19=>
 some y19
 ) z
def S103_6l (uu:Nat):LoopE:=⟨6,⟨[0,3,4],[],.str::sv16⟩,[(.ret,⟨[2],[],[.bool]⟩),(.exit 0,⟨[3],[],[.str]⟩)],S103_6step uu⟩
def F103C (uu:Nat):Cfg:=cfg Tryz.prog 30 0 [F106c uu] [S103_6l uu] uu
def F103c (uu:Nat):CallE:=⟨103,⟨1,[],[.str]⟩,⟨1,[],[.bool]⟩,fun x=>F103 uu x,false⟩
theorem F103k (uu:Nat):aan (F103C uu):=aae (qc (F106ok uu)<|q0) (p0)
theorem S103_6ok (uu:Nat):LoopOk (F103C uu) (lp (aam Tryz.f103) 0):=okL (F103k uu) uu (S103_6l uu) L0
theorem F103ok (uu:Nat):(F103c uu).Ok Tryz.prog:=okE Tryz.f103 (F103k uu) (L1 (S103_6ok uu))
def S104_3 (uu:Nat) (a3:List UInt8) (a4:Int):Option (((List UInt8)×Int)⊕(((List UInt8)×(List UInt8))⊕((List UInt8)))):=
 bif (decide (a4≥(0:Int))) then
 bif aab a4 a3.length then
 bif (((a3.getD a4.toNat 0).toNat:Int)==(46:Int)) then
 bif decide (0<=(0:Int)/\(0:Int)<=a4/\a4<=(a3.length:Int)) then
 let x9:=IntKind.wrap .i64 (a4+(1:Int))
 bif decide (0<=x9/\x9<=(a3.length:Int)/\(a3.length:Int)<=(a3.length:Int)) then
 some (.inr (.inl (((a3.take a4.toNat).drop (0:Int).toNat),((a3.take (a3.length:Int).toNat).drop x9.toNat))))
 else none
 else none
 else
 some (.inl (a3,(IntKind.wrap .i64 (a4-(1:Int)))))
 else none
 else
 some (.inr (.inr a3))
def S104_3step (uu:Nat) (x:(List UInt8)×Int):Option (((List UInt8)×Int)⊕(((List UInt8)×(List UInt8))⊕((List UInt8)))):=S104_3 uu x.1 x.2
def F104 (uu:Nat) (a0:List UInt8):Option ((List UInt8)×(List UInt8)):=
 (aag uu (S104_3step uu) (a0,(IntKind.wrap .i64 ((a0.length:Int)-(1:Int))))).bind fun z=>sumE (fun y12=>
 some (y12.1,y12.2)
 ) (fun y13=>
 some (([]:List UInt8),y13)
 ) z
def S104_3l (uu:Nat):LoopE:=⟨3,⟨[0,4],[],sv16⟩,[(.ret,⟨[2,3],[],[.str,.str]⟩),(.exit 0,⟨[0],[],[.str]⟩)],S104_3step uu⟩
def F104C (uu:Nat):Cfg:=cfg Tryz.prog 24 0 [] [S104_3l uu] uu
def F104c (uu:Nat):CallE:=⟨104,⟨1,[],[.str]⟩,⟨2,[],[.str,.str]⟩,fun x=>F104 uu x,([],[])⟩
theorem F104k (uu:Nat):aan (F104C uu):=aae (q0) (p0)
theorem S104_3ok (uu:Nat):LoopOk (F104C uu) (lp (aam Tryz.f104) 0):=okL (F104k uu) uu (S104_3l uu) L0
theorem F104ok (uu:Nat):(F104c uu).Ok Tryz.prog:=okE Tryz.f104 (F104k uu) (L1 (S104_3ok uu))
def F105 (uu:Nat) (a0:List UInt8):Option (Bool):=
 bif (a0==([109,101,115,115,97,103,101]:List UInt8)) then
 some true
 else
 bif (a0==([101,110,117,109]:List UInt8)) then
 some true
 else
 bif (a0==([115,101,114,118,105,99,101]:List UInt8)) then
 some true
 else
 bif (a0==([117,110,105,111,110]:List UInt8)) then
 some true
 else
 bif (a0==([109,97,112]:List UInt8)) then
 some true
 else
 bif (a0==([108,105,115,116]:List UInt8)) then
 some true
 else
 let x7:=a0==([114,101,113,117,105,114,101,100]:List UInt8)
 bif x7 then
 some true
 else
 let x8:=a0==([111,112,116,105,111,110,97,108]:List UInt8)
 bif x8 then
 some true
 else
 bif (a0==([112,108,97,105,110]:List UInt8)) then
 some true
 else
 bif (a0==([100,101,102,97,117,108,116]:List UInt8)) then
 some true
 else
 let x11:=a0==([114,101,115,101,114,118,101,100]:List UInt8)
 bif x11 then
 some true
 else
 bif (a0==([105,109,112,111,114,116]:List UInt8)) then
 some true
 else
 bif (a0==([115,112,97,99,101]:List UInt8)) then
 some true
 else
 bif (a0==([114,112,99]:List UInt8)) then
 some true
 else
 bif (a0==([115,116,114,101,97,109]:List UInt8)) then
 some true
 else
 bif (a0==([114,101,116,117,114,110,115]:List UInt8)) then
 some true
 else
 bif (a0==([111,112,101,110]:List UInt8)) then
 some true
 else
 bif (a0==([116,114,117,101]:List UInt8)) then
 some true
 else
 bif (a0==([102,97,108,115,101]:List UInt8)) then
 some true
 else
 bif (a0==([110,97,110]:List UInt8)) then
 some true
 else
 bif (a0==([105,110,102]:List UInt8)) then
 some true
 else
 some false
def F105c (uu:Nat):CallE:=⟨105,⟨1,[],[.str]⟩,⟨1,[],[.bool]⟩,fun x=>F105 uu x,false⟩
theorem F105ok (uu:Nat):(F105c uu).Ok Tryz.prog:=okJ Tryz.f105 26 0 uu [] [] false (q0) (p0) L0
def S66_5 (uu:Nat) (a3:List UInt8) (a4:Int):Option (((List UInt8)×Int)⊕((Bool)⊕(Unit))):=
 bif (bif (decide (a4<(120:Int))) then (!(a3==([]:List UInt8))) else false) then
 (F104 uu a3).bind fun y8=>
 (F105 uu y8.2).bind fun y11=>
 bif y11 then
 some (.inr (.inl false))
 else
 some (.inl (y8.1,(IntKind.wrap .i64 (a4+(1:Int)))))
 else
 some (.inr (.inr ()))
def S66_5step (uu:Nat) (x:(List UInt8)×Int):Option (((List UInt8)×Int)⊕((Bool)⊕(Unit))):=S66_5 uu x.1 x.2
def F66 (uu:Nat) (a0:List UInt8):Option (Bool):=
 (F103 uu a0).bind fun y1=>
 bif (!y1) then
 some false
 else
 (aag uu (S66_5step uu) (a0,(0:Int))).bind fun z=>sumE (fun y13=>
 some y13
 ) (fun y14=>
 some true
 ) z
def S66_5l (uu:Nat):LoopE:=⟨5,⟨[0,3],[],sv16⟩,[(.ret,⟨[2],[],[.bool]⟩),(.exit 0,⟨[],[],[]⟩)],S66_5step uu⟩
def F66C (uu:Nat):Cfg:=cfg Tryz.prog 25 0 [F103c uu,F104c uu,F105c uu] [S66_5l uu] uu
def F66c (uu:Nat):CallE:=⟨66,⟨1,[],[.str]⟩,⟨1,[],[.bool]⟩,fun x=>F66 uu x,false⟩
theorem F66k (uu:Nat):aan (F66C uu):=aae (qc (F103ok uu)<|qc (F104ok uu)<|qc (F105ok uu)<|q0) (p0)
theorem S66_5ok (uu:Nat):LoopOk (F66C uu) (lp (aam Tryz.f66) 0):=okL (F66k uu) uu (S66_5l uu) L0
theorem F66ok (uu:Nat):(F66c uu).Ok Tryz.prog:=okE Tryz.f66 (F66k uu) (L1 (S66_5ok uu))
def F67 (uu:Nat) (a0:List UInt8):Option (Bool):=
 (F106 uu a0).bind fun y1=>
 (bif y1 then F105 uu a0 else some false).bind fun y2=>
 some (bif y1 then (!y2) else false)
def F67c (uu:Nat):CallE:=⟨67,⟨1,[],[.str]⟩,⟨1,[],[.bool]⟩,fun x=>F67 uu x,false⟩
theorem F67ok (uu:Nat):(F67c uu).Ok Tryz.prog:=okJ Tryz.f67 10 0 uu _ [] false (qc (F106ok uu)<|qc (F105ok uu)<|q0) (p0) L0
def S68_3 (uu:Nat) (a1:List PV) (a2:Int) (a3:Int):Option (((List PV)×Int×Int)⊕((Bool)⊕(Unit))):=
 bif (decide (a3<(a1.length:Int))) then
 bif aab a3 a1.length then
 let x9:=decide (((a1.getD a3.toNat .bad).fld 0).asInt<=a2)
 bif imp x9 (aab a3 a1.length) then
 bif (bif x9 then (decide (a2<=((a1.getD a3.toNat .bad).fld 1).asInt)) else false) then
 some (.inr (.inl true))
 else
 some (.inl (a1,a2,(IntKind.wrap .i64 (a3+(1:Int)))))
 else none
 else none
 else
 some (.inr (.inr ()))
def S68_3step (uu:Nat) (x:(List PV)×Int×Int):Option (((List PV)×Int×Int)⊕((Bool)⊕(Unit))):=S68_3 uu x.1 x.2.1 x.2.2
def F68 (uu:Nat) (a0:List PV) (a1:Int):Option (Bool):=
 (aag uu (S68_3step uu) (a0,a1,(0:Int))).bind fun z=>sumE (fun y16=>
 some y16
 ) (fun y17=>
 some false
 ) z
def S68_3l (uu:Nat):LoopE:=⟨3,⟨[0,1,5],[],(.slice 186)::sv18⟩,[(.ret,⟨[4],[],[.bool]⟩),(.exit 0,⟨[],[],[]⟩)],S68_3step uu⟩
def F68C (uu:Nat):Cfg:=cfg Tryz.prog 28 0 [] [S68_3l uu] uu
def F68c (uu:Nat):CallE:=⟨68,⟨2,[],[(.slice 186),(.int .i64)]⟩,⟨1,[],[.bool]⟩,fun x=>F68 uu x.1 x.2,false⟩
theorem F68k (uu:Nat):aan (F68C uu):=aae (q0) (p0)
theorem S68_3ok (uu:Nat):LoopOk (F68C uu) (lp (aam Tryz.f68) 0):=okL (F68k uu) uu (S68_3l uu) L0
theorem F68ok (uu:Nat):(F68c uu).Ok Tryz.prog:=okE Tryz.f68 (F68k uu) (L1 (S68_3ok uu))
def F69 (uu:Nat) (a0:PV):Option (Bool):=
 bif (((a0.fld 2).asInt) != (5:Int)) then
 some (bif (bif (decide (((a0.fld 2).asInt)≥(1:Int))) then (decide (((a0.fld 2).asInt)<=(4:Int))) else false) then (((a0.fld 3).asInt)==(0:Int)) else false)
 else
 let x11:=(a0.fld 3).asInt
 bif (x11==(1:Int)) then
 some true
 else
 bif (x11==(2:Int)) then
 some true
 else
 bif (x11==(3:Int)) then
 some true
 else
 bif (x11==(4:Int)) then
 some true
 else
 bif (x11==(5:Int)) then
 some true
 else
 bif (x11==(7:Int)) then
 some true
 else
 some false
def F69c (uu:Nat):CallE:=⟨69,⟨1,[],[(.data 52)]⟩,⟨1,[],[.bool]⟩,fun x=>F69 uu x,false⟩
theorem F69ok (uu:Nat):(F69c uu).Ok Tryz.prog:=okJ Tryz.f69 28 0 uu [] [] false (q0) (p0) L0
abbrev S107_3x:=(List UInt8)×Unit×Int×PV
abbrev S107_3y:=(Int×PV)⊕(PV)
def S107_3 (uu:Nat) (a1:List UInt8) (a2:Unit) (a3:Int) (a4:PV):Option (S107_3x⊕S107_3y):=
 bif (decide (a3<(((a4.fld 1).asList).length:Int))) then
 let x8:=(a4.fld 1).asList
 bif aab a3 x8.length then
 bif (((x8.getD a3.toNat .bad).fld 0).asStr==a1) then
 some (.inr (.inl (a3,a4)))
 else
 some (.inl (a1,(),(IntKind.wrap .i64 (a3+(1:Int))),a4))
 else none
 else
 some (.inr (.inr a4))
def S107_3step (uu:Nat) (x:S107_3x):Option (S107_3x⊕S107_3y):=S107_3 uu x.1 x.2.1 x.2.2.1 x.2.2.2
def F107 (uu:Nat) (a0:PV) (a1:List UInt8):Option (Int):=
 (aag uu (S107_3step uu) (a1,(),(0:Int),a0)).bind fun z=>sumE (fun y14=>
 some y14.1
 ) (fun y15=>
 some (-1:Int)
 ) z
def S107_3l (uu:Nat):LoopE:=⟨3,⟨[1,2,5],bx11,.str::(.con (.ref 0 [] 26))::sv23⟩,[(.ret,⟨[4],bx11,sv23⟩),(.exit 0,⟨[],bx11,[(.data 26)]⟩)],S107_3step uu⟩
def F107C (uu:Nat):Cfg:=cfg Tryz.prog 22 0 [] [S107_3l uu] uu
def F107c (uu:Nat):CallE:=⟨107,⟨2,[],sv2⟩,⟨1,[],[(.int .i64)]⟩,fun x=>F107 uu x.1 x.2,0⟩
theorem F107k (uu:Nat):aan (F107C uu):=aae (q0) (p0)
theorem S107_3ok (uu:Nat):LoopOk (F107C uu) (lp (aam Tryz.f107) 0):=okL (F107k uu) uu (S107_3l uu) L0
theorem F107ok (uu:Nat):(F107c uu).Ok Tryz.prog:=okE Tryz.f107 (F107k uu) (L1 (S107_3ok uu))
def F70 (uu:Nat) (a0:PV) (a1:PV):Option (Bool):=
 let x1:=((a1.fld 4).fld 0).asInt
 bif (x1==(9:Int)) then
 (F107 uu a0 (((a1.fld 4).fld 1).asStr)).bind fun y4=>
 some (decide (y4≥(0:Int)))
 else
 bif (x1==(10:Int)) then
 (F76 uu a0 (((a1.fld 4).fld 1).asStr)).bind fun y8=>
 some (bif (decide (y8≥(0:Int))) then (((a1.fld 2).asInt) != (3:Int)) else false)
 else
 some (bif (bif (decide ((((a1.fld 4).fld 0).asInt)≥(1:Int))) then (decide ((((a1.fld 4).fld 0).asInt)<=(8:Int))) else false) then ((((a1.fld 4).fld 1).asStr)==([]:List UInt8)) else false)
def F70c (uu:Nat):CallE:=⟨70,⟨2,[],[(.data 26),(.data 52)]⟩,⟨1,[],[.bool]⟩,fun x=>F70 uu x.1 x.2,false⟩
theorem F70ok (uu:Nat):(F70c uu).Ok Tryz.prog:=okJ Tryz.f70 45 0 uu _ [] false (qc (F107ok uu)<|qc (F76ok uu)<|q0) (p0) L0
abbrev S71_9x:=Int×Unit×Unit×Bool×Int×PV×PV
abbrev S71_9y:=(Bool×PV×PV)⊕(Int×Unit×Unit×Bool×PV×PV)
def S71_9 (uu:Nat) (a11:Int) (a12:Unit) (a13:Unit) (a14:Bool) (a15:Int) (a16:PV) (a17:PV):Option (S71_9x⊕S71_9y):=
 bif (decide (a15<(((a16.fld 1).asList).length:Int))) then
 let x21:=(a16.fld 1).asList
 bif aab a15 x21.length then
 bif (((x21.getD a15.toNat .bad).fld 1).asStr==((a17.fld 5).asStr)) then
 some (.inr (.inl (false,a16,a17)))
 else
 let x27:=decide (a15<a11)
 let x28:=(a16.fld 1).asList
 bif imp x27 (aab a15 x28.length) then
 bif (bif x27 then (((x28.getD a15.toNat .bad).fld 5).asStr==((a17.fld 5).asStr)) else false) then
 some (.inl (a11,(),(),true,(IntKind.wrap .i64 (a15+(1:Int))),a16,a17))
 else
 some (.inl (a11,(),(),a14,(IntKind.wrap .i64 (a15+(1:Int))),a16,a17))
 else none
 else none
 else
 some (.inr (.inr (a11,(),(),a14,a16,a17)))
def S71_9step (uu:Nat) (x:S71_9x):Option (S71_9x⊕S71_9y):=S71_9 uu x.1 x.2.1 x.2.2.1 x.2.2.2.1 x.2.2.2.2.1 x.2.2.2.2.2.1 x.2.2.2.2.2.2
def F71 (uu:Nat) (a0:PV) (a1:Int):Option (Bool):=
 let x1:=(a0.fld 1).asList
 bif aab a1 x1.length then
 let x2:=x1.getD a1.toNat .bad
 bif (((x2.fld 5).asStr)==([]:List UInt8)) then
 some true
 else
 let x6:=((x2.fld 2).asInt) != (2:Int)
 (bif !x6 then F67 uu ((x2.fld 5).asStr) else some false).bind fun y8=>
 bif (bif x6 then true else (!y8)) then
 some false
 else
 (aag uu (S71_9step uu) (a1,(),(),false,(0:Int),a0,x2)).bind fun z=>sumE (fun y37=>
 some y37.1
 ) (fun y38=>
 let x40:=!y38.2.2.2.1
 let x41:=(y38.2.2.2.2.1.fld 1).asList
 let x43:=IntKind.wrap .i64 (y38.1-(1:Int))
 bif imp (!x40) (aab x43 x41.length) then
 some (bif x40 then true else (((x41.getD x43.toNat .bad).fld 5).asStr==((y38.2.2.2.2.2.fld 5).asStr)))
 else none
 ) z
 else none
def S71_9l (uu:Nat):LoopE:=⟨9,⟨[1,2,5,6,7],bx14,(.int .i64)::(.con (.ref 0 [] 50))::(.con (.ref 1 [] 52))::.bool::(.int .i64)::sv27⟩,[(.ret,⟨[4],bx14,sv28⟩),(.exit 0,⟨[1,2,5,6],bx14,(.int .i64)::(.con (.ref 0 [] 50))::(.con (.ref 1 [] 52))::sv28⟩)],S71_9step uu⟩
def F71C (uu:Nat):Cfg:=cfg Tryz.prog 69 0 [F67c uu] [S71_9l uu] uu
def F71c (uu:Nat):CallE:=⟨71,⟨2,[],sv7⟩,⟨1,[],[.bool]⟩,fun x=>F71 uu x.1 x.2,false⟩
theorem F71k (uu:Nat):aan (F71C uu):=aae (qc (F67ok uu)<|q0) (p0)
theorem S71_9ok (uu:Nat):LoopOk (F71C uu) (lp (aam Tryz.f71) 0):=okL (F71k uu) uu (S71_9l uu) L0
theorem F71ok (uu:Nat):(F71c uu).Ok Tryz.prog:=okE Tryz.f71 (F71k uu) (L1 (S71_9ok uu))
def F108 (uu:Nat) (a0:PV) (a1:PV):Option (Bool):=
 some (bif (bif (bif (((a0.fld 0).asInt)==((a1.fld 0).asInt)) then (((a0.fld 1).asInt)==((a1.fld 1).asInt)) else false) then (((a0.fld 2).asStr)==((a1.fld 2).asStr)) else false) then ((IntKind.wrap .i64 ((IntKind.wrap .i64 ((IntKind.wrap .i64 ((IntKind.wrap .i64 ((IntKind.wrap .i64 ((IntKind.wrap .i64 ((IntKind.wrap .i64 ((((a0.fld 3).asList).length:Int)+(((a0.fld 4).asList).length:Int)))+(((a0.fld 5).asList).length:Int)))+(((a0.fld 6).asList).length:Int)))+(((a1.fld 3).asList).length:Int)))+(((a1.fld 4).asList).length:Int)))+(((a1.fld 5).asList).length:Int)))+(((a1.fld 6).asList).length:Int)))==(0:Int)) else false)
def F108c (uu:Nat):CallE:=⟨108,⟨2,[],[(.data 33),(.data 33)]⟩,⟨1,[],[.bool]⟩,fun x=>F108 uu x.1 x.2,false⟩
theorem F108ok (uu:Nat):(F108c uu).Ok Tryz.prog:=okJ Tryz.f108 58 0 uu [] [] false (q0) (p0) L0
def F126 (uu:Nat) (a0:Int):Option (Bool):=
 some (bif (decide (a0≥(1:Int))) then (decide (a0<=(9:Int))) else false)
def F126c (uu:Nat):CallE:=⟨126,⟨1,[],[(.int .i64)]⟩,⟨1,[],[.bool]⟩,fun x=>F126 uu x,false⟩
theorem F126ok (uu:Nat):(F126c uu).Ok Tryz.prog:=okJ Tryz.f126 9 0 uu [] [] false (q0) (p0) L0
def F127 (uu:Nat) (a0:PV):Option (Bool):=
 some (bif (bif (bif ((((a0.fld 3).asList).length:Int)==(0:Int)) then ((((a0.fld 4).asList).length:Int)==(0:Int)) else false) then ((((a0.fld 5).asList).length:Int)==(0:Int)) else false) then ((((a0.fld 6).asList).length:Int)==(0:Int)) else false)
def F127c (uu:Nat):CallE:=⟨127,⟨1,[],[(.data 33)]⟩,⟨1,[],[.bool]⟩,fun x=>F127 uu x,false⟩
theorem F127ok (uu:Nat):(F127c uu).Ok Tryz.prog:=okJ Tryz.f127 25 0 uu [] [] false (q0) (p0) L0
def F128 (uu:Nat) (a0:Int):Option (Bool):=
 some (bif (a0==(7:Int)) then true else (a0==(8:Int)))
def F128c (uu:Nat):CallE:=⟨128,⟨1,[],[(.int .i64)]⟩,⟨1,[],[.bool]⟩,fun x=>F128 uu x,false⟩
theorem F128ok (uu:Nat):(F128c uu).Ok Tryz.prog:=okJ Tryz.f128 9 0 uu [] [] false (q0) (p0) L0
def F136 (uu:Nat) (a0:List UInt8) (a1:Int) (a2:Int) (a3:Int):Option (Bool):=
 let x2:=decide (a1<(a0.length:Int))
 bif imp x2 (aab a1 a0.length) then
 let x5:=bif x2 then (decide (((a0.getD a1.toNat 0).toNat:Int)≥a2)) else false
 bif imp x5 (aab a1 a0.length) then
 some (bif x5 then (decide (((a0.getD a1.toNat 0).toNat:Int)<=a3)) else false)
 else none
 else none
def F136c (uu:Nat):CallE:=⟨136,⟨4,[],[.str,(.int .i64),(.int .u8),(.int .u8)]⟩,⟨1,[],[.bool]⟩,fun x=>F136 uu x.1 x.2.1 x.2.2.1 x.2.2.2,false⟩
theorem F136ok (uu:Nat):(F136c uu).Ok Tryz.prog:=okJ Tryz.f136 27 0 uu [] [] false (q0) (p0) L0
abbrev S135_3x:=(List UInt8)×Int×Int×Int
abbrev S135_3y:=(Bool)⊕(Unit)
def S135_3 (uu:Nat) (a1:List UInt8) (a2:Int) (a3:Int) (a4:Int):Option (S135_3x⊕S135_3y):=
 bif (decide (a4<a3)) then
 (F136 uu a1 (IntKind.wrap .i64 (a2+a4)) (128:Int) (191:Int)).bind fun y7=>
 bif (!y7) then
 some (.inr (.inl false))
 else
 some (.inl (a1,a2,a3,(IntKind.wrap .i64 (a4+(1:Int)))))
 else
 some (.inr (.inr ()))
def S135_3step (uu:Nat) (x:S135_3x):Option (S135_3x⊕S135_3y):=S135_3 uu x.1 x.2.1 x.2.2.1 x.2.2.2
def F135 (uu:Nat) (a0:List UInt8) (a1:Int) (a2:Int):Option (Bool):=
 (aag uu (S135_3step uu) (a0,a1,a2,(0:Int))).bind fun z=>sumE (fun y10=>
 some y10
 ) (fun y11=>
 some true
 ) z
def S135_3l (uu:Nat):LoopE:=⟨3,⟨[0,1,2,7],[],.str::(.int .i64)::sv18⟩,[(.ret,⟨[6],[],[.bool]⟩),(.exit 0,⟨[],[],[]⟩)],S135_3step uu⟩
def F135C (uu:Nat):Cfg:=cfg Tryz.prog 19 0 [F136c uu] [S135_3l uu] uu
def F135c (uu:Nat):CallE:=⟨135,⟨3,[],.str::sv18⟩,⟨1,[],[.bool]⟩,fun x=>F135 uu x.1 x.2.1 x.2.2,false⟩
theorem F135k (uu:Nat):aan (F135C uu):=aae (qc (F136ok uu)<|q0) (p0)
theorem S135_3ok (uu:Nat):LoopOk (F135C uu) (lp (aam Tryz.f135) 0):=okL (F135k uu) uu (S135_3l uu) L0
theorem F135ok (uu:Nat):(F135c uu).Ok Tryz.prog:=okE Tryz.f135 (F135k uu) (L1 (S135_3ok uu))
def F133 (uu:Nat) (a0:List UInt8) (a1:Int):Option (Int):=
 bif aab a1 a0.length then
 let x1:=((a0.getD a1.toNat 0).toNat:Int)
 bif (decide (x1<(128:Int))) then
 some (1:Int)
 else
 let x5:=bif (decide (x1≥(194:Int))) then (decide (x1<=(223:Int))) else false
 (bif x5 then F135 uu a0 (IntKind.wrap .i64 (a1+(1:Int))) (1:Int) else some false).bind fun y7=>
 bif (bif x5 then y7 else false) then
 some (2:Int)
 else
 let x9:=x1==(224:Int)
 (bif x9 then F136 uu a0 (IntKind.wrap .i64 (a1+(1:Int))) (160:Int) (191:Int) else some false).bind fun y11=>
 let x12:=bif x9 then y11 else false
 (bif x12 then F135 uu a0 (IntKind.wrap .i64 (a1+(2:Int))) (1:Int) else some false).bind fun y14=>
 bif (bif x12 then y14 else false) then
 some (3:Int)
 else
 let x16:=x1==(237:Int)
 (bif x16 then F136 uu a0 (IntKind.wrap .i64 (a1+(1:Int))) (128:Int) (159:Int) else some false).bind fun y18=>
 let x19:=bif x16 then y18 else false
 (bif x19 then F135 uu a0 (IntKind.wrap .i64 (a1+(2:Int))) (1:Int) else some false).bind fun y21=>
 bif (bif x19 then y21 else false) then
 some (3:Int)
 else
 let x27:=bif (bif (decide (x1≥(225:Int))) then (decide (x1<=(239:Int))) else false) then (x1 != (237:Int)) else false
 (bif x27 then F135 uu a0 (IntKind.wrap .i64 (a1+(1:Int))) (2:Int) else some false).bind fun y29=>
 bif (bif x27 then y29 else false) then
 some (3:Int)
 else
 let x31:=x1==(240:Int)
 (bif x31 then F136 uu a0 (IntKind.wrap .i64 (a1+(1:Int))) (144:Int) (191:Int) else some false).bind fun y33=>
 let x34:=bif x31 then y33 else false
 (bif x34 then F135 uu a0 (IntKind.wrap .i64 (a1+(2:Int))) (2:Int) else some false).bind fun y36=>
 bif (bif x34 then y36 else false) then
 some (4:Int)
 else
 let x40:=bif (decide (x1≥(241:Int))) then (decide (x1<=(243:Int))) else false
 (bif x40 then F135 uu a0 (IntKind.wrap .i64 (a1+(1:Int))) (3:Int) else some false).bind fun y42=>
 bif (bif x40 then y42 else false) then
 some (4:Int)
 else
 let x44:=x1==(244:Int)
 (bif x44 then F136 uu a0 (IntKind.wrap .i64 (a1+(1:Int))) (128:Int) (143:Int) else some false).bind fun y46=>
 let x47:=bif x44 then y46 else false
 (bif x47 then F135 uu a0 (IntKind.wrap .i64 (a1+(2:Int))) (2:Int) else some false).bind fun y49=>
 bif (bif x47 then y49 else false) then
 some (4:Int)
 else
 some (0:Int)
 else none
def F133c (uu:Nat):CallE:=⟨133,⟨2,[],sv16⟩,⟨1,[],[(.int .i64)]⟩,fun x=>F133 uu x.1 x.2,0⟩
theorem F133ok (uu:Nat):(F133c uu).Ok Tryz.prog:=okJ Tryz.f133 115 0 uu _ [] false (qc (F135ok uu)<|qc (F136ok uu)<|q0) (p0) L0
def S112_3 (uu:Nat) (a1:List UInt8) (a2:Int):Option (((List UInt8)×Int)⊕((Int)⊕(Unit))):=
 bif (decide (a2<(a1.length:Int))) then
 (F133 uu a1 a2).bind fun y5=>
 bif (y5==(0:Int)) then
 some (.inr (.inl a2))
 else
 some (.inl (a1,(IntKind.wrap .i64 (a2+y5))))
 else
 some (.inr (.inr ()))
def S112_3step (uu:Nat) (x:(List UInt8)×Int):Option (((List UInt8)×Int)⊕((Int)⊕(Unit))):=S112_3 uu x.1 x.2
def F112 (uu:Nat) (a0:List UInt8):Option (Int):=
 (aag uu (S112_3step uu) (a0,(0:Int))).bind fun z=>sumE (fun y8=>
 some y8
 ) (fun y9=>
 some (-1:Int)
 ) z
def S112_3l (uu:Nat):LoopE:=⟨3,⟨[0,3],[],sv16⟩,[(.ret,⟨[2],[],[(.int .i64)]⟩),(.exit 0,⟨[],[],[]⟩)],S112_3step uu⟩
def F112C (uu:Nat):Cfg:=cfg Tryz.prog 18 0 [F133c uu] [S112_3l uu] uu
def F112c (uu:Nat):CallE:=⟨112,⟨1,[],[.str]⟩,⟨1,[],[(.int .i64)]⟩,fun x=>F112 uu x,0⟩
theorem F112k (uu:Nat):aan (F112C uu):=aae (qc (F133ok uu)<|q0) (p0)
theorem S112_3ok (uu:Nat):LoopOk (F112C uu) (lp (aam Tryz.f112) 0):=okL (F112k uu) uu (S112_3l uu) L0
theorem F112ok (uu:Nat):(F112c uu).Ok Tryz.prog:=okE Tryz.f112 (F112k uu) (L1 (S112_3ok uu))
def F75 (uu:Nat) (a0:List UInt8):Option (Bool):=
 (F112 uu a0).bind fun y1=>
 some (decide (y1<(0:Int)))
def F75c (uu:Nat):CallE:=⟨75,⟨1,[],[.str]⟩,⟨1,[],[.bool]⟩,fun x=>F75 uu x,false⟩
theorem F75ok (uu:Nat):(F75c uu).Ok Tryz.prog:=okJ Tryz.f75 6 0 uu _ [] false (qc (F112ok uu)<|q0) (p0) L0
def F109 (uu:Nat) (a0:Int) (a1:PV):Option (Bool):=
 (F126 uu a0).bind fun y1=>
 let x5:=bif (!y1) then true else (((a1.fld 0).asInt) != a0)
 (bif !x5 then F127 uu a1 else some false).bind fun y6=>
 bif (bif x5 then true else (!y6)) then
 some false
 else
 (F128 uu a0).bind fun y9=>
 bif y9 then
 let x15:=bif (((a1.fld 1).asInt)==(0:Int)) then (decide ((((a1.fld 2).asStr).length:Int)<=(4096:Int))) else false
 let x16:=a0==(8:Int)
 (bif bif !x16 then x15 else false then F75 uu ((a1.fld 2).asStr) else some false).bind fun y18=>
 some (bif x15 then (bif x16 then true else y18) else false)
 else
 bif (!(((a1.fld 2).asStr)==([]:List UInt8))) then
 some false
 else
 bif (a0==(1:Int)) then
 some (decide (((a1.fld 1).asInt)<=(1:Int)))
 else
 bif (a0==(2:Int)) then
 let x28:=IntKind.wrap .i64 ((a1.fld 1).asInt)
 some (bif (decide (x28≥(-2147483648:Int))) then (decide (x28<=(2147483647:Int))) else false)
 else
 bif (a0==(4:Int)) then
 some (decide (((a1.fld 1).asInt)<(4294967296:Int)))
 else
 bif (a0==(9:Int)) then
 some (decide (((a1.fld 1).asInt)<(2147483648:Int)))
 else
 some true
def F109c (uu:Nat):CallE:=⟨109,⟨2,[],sv29⟩,⟨1,[],[.bool]⟩,fun x=>F109 uu x.1 x.2,false⟩
theorem F109ok (uu:Nat):(F109c uu).Ok Tryz.prog:=okJ Tryz.f109 70 0 uu _ [] false (qc (F126ok uu)<|qc (F127ok uu)<|qc (F128ok uu)<|qc (F75ok uu)<|q0) (p0) L0
def F129 (uu:Nat) (a0:Int):Option (Int):=
 let x1:=a0.tmod (9223372036854775808:Int)
 bif (decide (x1>(9218868437227405312:Int))) then
 some (0:Int)
 else
 bif (x1==(9218868437227405312:Int)) then
 some (1:Int)
 else
 bif (x1==(0:Int)) then
 some (2:Int)
 else
 bif (decide (x1<(4503599627370496:Int))) then
 some (3:Int)
 else
 some (4:Int)
def F129c (uu:Nat):CallE:=⟨129,⟨1,[],[(.int .u64)]⟩,⟨1,[],[(.int .i64)]⟩,fun x=>F129 uu x,0⟩
theorem F129ok (uu:Nat):(F129c uu).Ok Tryz.prog:=okJ Tryz.f129 18 0 uu [] [] false (q0) (p0) L0
def F110 (uu:Nat) (a0:PV):Option (PV):=
 let x2:=((a0.fld 0).asInt)==(6:Int)
 (bif x2 then F129 uu ((a0.fld 1).asInt) else some 0).bind fun y4=>
 bif (bif x2 then (y4==(0:Int)) else false) then
 some (PV.agg [(PV.int ((a0.fld 0).asInt)),(PV.int (9221120237041090560:Int)),(PV.str ((a0.fld 2).asStr)),(PV.slice ((a0.fld 3).asList)),(PV.slice ((a0.fld 4).asList)),(PV.slice ((a0.fld 5).asList)),(PV.slice ((a0.fld 6).asList))])
 else
 some a0
def F110c (uu:Nat):CallE:=⟨110,⟨1,[],[(.data 33)]⟩,⟨1,[],[(.data 33)]⟩,fun x=>F110 uu x,PV.bad⟩
theorem F110ok (uu:Nat):(F110c uu).Ok Tryz.prog:=okJ Tryz.f110 14 0 uu _ [] false (qc (F129ok uu)<|q0) (p0) L0
abbrev S72_13x:=Unit×Unit×Int×Int×PV×PV×PV
abbrev S72_13y:=(Bool×PV×PV×PV)⊕(PV×PV×PV)
def S72_13 (uu:Nat) (a23:Unit) (a24:Unit) (a25:Int) (a26:Int) (a27:PV) (a28:PV) (a29:PV):Option (S72_13x⊕S72_13y):=
 let x30:=(a27.fld 1).asList
 bif aab a25 x30.length then
 bif (decide (a26<(((x30.getD a25.toNat .bad).fld 2).asList.length:Int))) then
 let x36:=(a27.fld 1).asList
 bif aab a25 x36.length then
 let x39:=((x36.getD a25.toNat .bad).fld 2).asList
 bif aab a26 x39.length then
 bif ((IntKind.wrap .u64 ((x39.getD a26.toNat .bad).fld 1).asInt)==((a29.fld 1).asInt)) then
 some (.inr (.inl (true,a27,a28,a29)))
 else
 some (.inl ((),(),a25,(IntKind.wrap .i64 (a26+(1:Int))),a27,a28,a29))
 else none
 else none
 else
 some (.inr (.inr (a27,a28,a29)))
 else none
def S72_13step (uu:Nat) (x:S72_13x):Option (S72_13x⊕S72_13y):=S72_13 uu x.1 x.2.1 x.2.2.1 x.2.2.2.1 x.2.2.2.2.1 x.2.2.2.2.2.1 x.2.2.2.2.2.2
def F72 (uu:Nat) (a0:PV) (a1:PV):Option (Bool):=
 let x1:=a1.fld 7
 bif (!((a1.fld 6).asBool)) then
 (F108 uu x1 (PV.agg [(PV.int (0:Int)),(PV.int (0:Int)),(PV.str ([]:List UInt8)),(PV.slice []),(PV.slice []),(PV.slice []),(PV.slice [])])).bind fun y4=>
 some y4
 else
 let x9:=bif (((a1.fld 2).asInt) != (2:Int)) then true else (!(((a1.fld 5).asStr)==([]:List UInt8)))
 (bif !x9 then F109 uu (((a1.fld 4).fld 0).asInt) x1 else some false).bind fun y11=>
 let x13:=bif x9 then true else (!y11)
 (bif !x13 then F110 uu x1 else some PV.bad).bind fun y14=>
 (bif !x13 then F108 uu x1 y14 else some false).bind fun y15=>
 bif (bif x13 then true else (!y15)) then
 some false
 else
 (F107 uu a0 (((a1.fld 4).fld 1).asStr)).bind fun y19=>
 bif ((((a1.fld 4).fld 0).asInt) != (9:Int)) then
 some true
 else
 bif (decide (y19<(0:Int))) then
 some false
 else
 (aag uu (S72_13step uu) ((),(),y19,(0:Int),a0,a1,x1)).bind fun z=>sumE (fun y47=>
 some y47.1
 ) (fun y48=>
 some false
 ) z
def S72_13l (uu:Nat):LoopE:=⟨13,⟨[2,5,6,7],bx15,(.con (.ref 0 [] 26))::(.con (.ref 2 [] 33))::(.int .i64)::sv30⟩,[(.ret,⟨[4],bx15,.bool::sv31⟩),(.exit 0,⟨[],bx15,sv31⟩)],S72_13step uu⟩
def F72C (uu:Nat):Cfg:=cfg Tryz.prog 75 0 [F108c uu,F109c uu,F110c uu,F107c uu] [S72_13l uu] uu
def F72c (uu:Nat):CallE:=⟨72,⟨2,[],[(.data 26),(.data 52)]⟩,⟨1,[],[.bool]⟩,fun x=>F72 uu x.1 x.2,false⟩
theorem F72k (uu:Nat):aan (F72C uu):=aae (qc (F108ok uu)<|qc (F109ok uu)<|qc (F110ok uu)<|qc (F107ok uu)<|q0) (p0)
theorem S72_13ok (uu:Nat):LoopOk (F72C uu) (lp (aam Tryz.f72) 0):=okL (F72k uu) uu (S72_13l uu) L0
theorem F72ok (uu:Nat):(F72c uu).Ok Tryz.prog:=okE Tryz.f72 (F72k uu) (L1 (S72_13ok uu))
def F130 (uu:Nat) (a0:List UInt8):Option (Int):=
 let x1:=a0==([100,101,112,114,101,99,97,116,101,100]:List UInt8)
 bif x1 then
 some (1:Int)
 else
 bif (a0==([115,101,99,114,101,116]:List UInt8)) then
 some (1:Int)
 else
 let x3:=a0==([105,100,101,109,112,111,116,101,110,116]:List UInt8)
 bif x3 then
 some (1:Int)
 else
 bif (a0==([100,111,99]:List UInt8)) then
 some (7:Int)
 else
 bif (a0==([97,108,105,97,115]:List UInt8)) then
 some (7:Int)
 else
 bif (a0==([114,111,117,116,101]:List UInt8)) then
 some (7:Int)
 else
 bif (a0==([111,119,110,101,114]:List UInt8)) then
 some (7:Int)
 else
 bif (a0==([115,105,110,99,101]:List UInt8)) then
 some (4:Int)
 else
 bif (a0==([117,110,116,105,108]:List UInt8)) then
 some (4:Int)
 else
 bif (a0==([108,101,110,103,116,104]:List UInt8)) then
 some (4:Int)
 else
 bif (a0==([116,105,109,101,111,117,116]:List UInt8)) then
 some (4:Int)
 else
 bif (a0==([109,105,110]:List UInt8)) then
 some (3:Int)
 else
 bif (a0==([109,97,120]:List UInt8)) then
 some (3:Int)
 else
 some (0:Int)
def F130c (uu:Nat):CallE:=⟨130,⟨1,[],[.str]⟩,⟨1,[],[(.int .i64)]⟩,fun x=>F130 uu x,0⟩
theorem F130ok (uu:Nat):(F130c uu).Ok Tryz.prog:=okJ Tryz.f130 21 0 uu [] [] false (q0) (p0) L0
def F131 (uu:Nat) (a0:List UInt8) (a1:Int):Option (Bool):=
 let x1:=a0==([100,101,112,114,101,99,97,116,101,100]:List UInt8)
 bif x1 then
 some (bif (decide (a1≥(1:Int))) then (decide (a1<=(6:Int))) else false)
 else
 bif (a0==([100,111,99]:List UInt8)) then
 some (bif (decide (a1≥(1:Int))) then (decide (a1<=(6:Int))) else false)
 else
 bif (a0==([97,108,105,97,115]:List UInt8)) then
 some (bif (bif (a1==(2:Int)) then true else (a1==(4:Int))) then true else (a1==(6:Int)))
 else
 bif (a0==([115,105,110,99,101]:List UInt8)) then
 some (bif (bif (a1==(2:Int)) then true else (a1==(4:Int))) then true else (a1==(6:Int)))
 else
 bif (a0==([117,110,116,105,108]:List UInt8)) then
 some (bif (bif (a1==(2:Int)) then true else (a1==(4:Int))) then true else (a1==(6:Int)))
 else
 bif (a0==([109,105,110]:List UInt8)) then
 some (a1==(2:Int))
 else
 bif (a0==([109,97,120]:List UInt8)) then
 some (a1==(2:Int))
 else
 bif (a0==([108,101,110,103,116,104]:List UInt8)) then
 some (a1==(2:Int))
 else
 bif (a0==([115,101,99,114,101,116]:List UInt8)) then
 some (a1==(2:Int))
 else
 let x35:=a0==([105,100,101,109,112,111,116,101,110,116]:List UInt8)
 bif x35 then
 some (a1==(6:Int))
 else
 bif (a0==([116,105,109,101,111,117,116]:List UInt8)) then
 some (a1==(6:Int))
 else
 bif (a0==([114,111,117,116,101]:List UInt8)) then
 some (a1==(6:Int))
 else
 some (bif (a1==(1:Int)) then true else (a1==(5:Int)))
def F131c (uu:Nat):CallE:=⟨131,⟨2,[],sv16⟩,⟨1,[],[.bool]⟩,fun x=>F131 uu x.1 x.2,false⟩
theorem F131ok (uu:Nat):(F131c uu).Ok Tryz.prog:=okJ Tryz.f131 48 0 uu [] [] false (q0) (p0) L0
def F132 (uu:Nat) (a0:PV):Option (Bool):=
 (F130 uu ((a0.fld 0).asStr)).bind fun y2=>
 let x6:=bif (y2 != (0:Int)) then ((((a0.fld 1).fld 0).asInt)==y2) else false
 (bif x6 then F109 uu y2 (a0.fld 1) else some false).bind fun y8=>
 some (bif x6 then y8 else false)
def F132c (uu:Nat):CallE:=⟨132,⟨1,[],[(.data 76)]⟩,⟨1,[],[.bool]⟩,fun x=>F132 uu x,false⟩
theorem F132ok (uu:Nat):(F132c uu).Ok Tryz.prog:=okJ Tryz.f132 22 0 uu _ [] false (qc (F130ok uu)<|qc (F109ok uu)<|q0) (p0) L0
def S111_5 (uu:Nat) (a3:List PV) (a4:Int) (a5:Int):Option (((List PV)×Int×Int)⊕((Int)⊕(Unit))):=
 bif (decide (a5<(a3.length:Int))) then
 bif aab a5 a3.length then
 (F130 uu ((a3.getD a5.toNat .bad).fld 0).asStr).bind fun y11=>
 bif (y11==(0:Int)) then
 some (.inr (.inl (8:Int)))
 else
 bif aab a5 a3.length then
 (F131 uu ((a3.getD a5.toNat .bad).fld 0).asStr a4).bind fun y16=>
 bif (!y16) then
 some (.inr (.inl (1:Int)))
 else
 bif aab a5 a3.length then
 (F132 uu (a3.getD a5.toNat .bad)).bind fun y19=>
 bif (!y19) then
 some (.inr (.inl (12:Int)))
 else
 let x21:=decide (a5>(0:Int))
 bif imp x21 (aab a5 a3.length) then
 let x25:=IntKind.wrap .i64 (a5-(1:Int))
 bif imp x21 (aab x25 a3.length) then
 bif (bif x21 then (Op.bytesLess ((a3.getD a5.toNat .bad).fld 0).asStr ((a3.getD x25.toNat .bad).fld 0).asStr) else false) then
 some (.inr (.inl (11:Int)))
 else
 let x31:=decide (a5>(0:Int))
 bif imp x31 (aab a5 a3.length) then
 let x35:=IntKind.wrap .i64 (a5-(1:Int))
 bif imp x31 (aab x35 a3.length) then
 bif (bif x31 then (((a3.getD a5.toNat .bad).fld 0).asStr==((a3.getD x35.toNat .bad).fld 0).asStr) else false) then
 some (.inr (.inl (9:Int)))
 else
 some (.inl (a3,a4,(IntKind.wrap .i64 (a5+(1:Int)))))
 else none
 else none
 else none
 else none
 else none
 else none
 else none
 else
 some (.inr (.inr ()))
def S111_5step (uu:Nat) (x:(List PV)×Int×Int):Option (((List PV)×Int×Int)⊕((Int)⊕(Unit))):=S111_5 uu x.1 x.2.1 x.2.2
def F111 (uu:Nat) (a0:List PV) (a1:Int):Option (Int):=
 bif (decide ((a0.length:Int)>(8:Int))) then
 some (3:Int)
 else
 (aag uu (S111_5step uu) (a0,a1,(0:Int))).bind fun z=>sumE (fun y42=>
 some y42
 ) (fun y43=>
 some (0:Int)
 ) z
def S111_5l (uu:Nat):LoopE:=⟨5,⟨[0,1,5],[],(.slice 76)::sv18⟩,[(.ret,⟨[4],[],[(.int .i64)]⟩),(.exit 0,⟨[],[],[]⟩)],S111_5step uu⟩
def F111C (uu:Nat):Cfg:=cfg Tryz.prog 68 0 [F130c uu,F131c uu,F132c uu] [S111_5l uu] uu
def F111c (uu:Nat):CallE:=⟨111,⟨2,[],[(.slice 76),(.int .i64)]⟩,⟨1,[],[(.int .i64)]⟩,fun x=>F111 uu x.1 x.2,0⟩
theorem F111k (uu:Nat):aan (F111C uu):=aae (qc (F130ok uu)<|qc (F131ok uu)<|qc (F132ok uu)<|q0) (p0)
theorem S111_5ok (uu:Nat):LoopOk (F111C uu) (lp (aam Tryz.f111) 0):=okL (F111k uu) uu (S111_5l uu) L0
theorem F111ok (uu:Nat):(F111c uu).Ok Tryz.prog:=okE Tryz.f111 (F111k uu) (L1 (S111_5ok uu))
def F73 (uu:Nat) (a0:Unit) (a1:List PV) (a2:Int) (a3:Int) (a4:List UInt8) (a5:List PV):Option ((List UInt8)×(List PV)):=
 (F111 uu a1 a2).bind fun y1=>
 (F40 uu () (y1 != (0:Int)) a3 y1 a4 a5).bind fun y3=>
 some (y3.1,y3.2)
def F73c (uu:Nat):CallE:=⟨73,⟨4,bx10,(.con (.ref 0 [] 111))::(.slice 76)::sv21⟩,⟨0,bx10,sv22⟩,fun x=>F73 uu x.1 x.2.1 x.2.2.1 x.2.2.2.1 x.2.2.2.2.1 x.2.2.2.2.2,([],[])⟩
theorem F73ok (uu:Nat):(F73c uu).Ok Tryz.prog:=okJ Tryz.f73 18 2 uu _ [] false (qc (F111ok uu)<|qc (F40ok uu)<|q0) (p0) L0
abbrev S74_2x:=Unit×(List PV)×Int×Int×Int×(List UInt8)×(List PV)
abbrev S74_2y:=((List UInt8)×(List PV))
def S74_2 (uu:Nat) (a1:Unit) (a2:List PV) (a3:Int) (a4:Int) (a5:Int) (a6:List UInt8) (a7:List PV):Option (S74_2x⊕S74_2y):=
 bif (decide (a5<(a2.length:Int))) then
 bif aab a5 a2.length then
 let x13:=decide (((a2.getD a5.toNat .bad).fld 0).asInt<a3)
 bif imp (!x13) (aab a5 a2.length) then
 let x18:=bif x13 then true else (decide (((a2.getD a5.toNat .bad).fld 1).asInt>a4))
 bif imp (!x18) (aab a5 a2.length) then
 bif imp (!x18) (aab a5 a2.length) then
 (F40 uu () (bif x18 then true else (decide (((a2.getD a5.toNat .bad).fld 0).asInt>((a2.getD a5.toNat .bad).fld 1).asInt))) (-1:Int) (6:Int) a6 a7).bind fun y27=>
 let x28:=decide (a5>(0:Int))
 bif imp x28 (aab a5 a2.length) then
 let x32:=IntKind.wrap .i64 (a5-(1:Int))
 bif imp x28 (aab x32 a2.length) then
 (F40 uu () (bif x28 then (decide (((a2.getD a5.toNat .bad).fld 0).asInt<=((a2.getD x32.toNat .bad).fld 1).asInt)) else false) (-1:Int) (11:Int) y27.1 y27.2).bind fun y38=>
 some (.inl ((),a2,a3,a4,(IntKind.wrap .i64 (a5+(1:Int))),y38.1,y38.2))
 else none
 else none
 else none
 else none
 else none
 else none
 else
 some (.inr (a6,a7))
def S74_2step (uu:Nat) (x:S74_2x):Option (S74_2x⊕S74_2y):=S74_2 uu x.1 x.2.1 x.2.2.1 x.2.2.2.1 x.2.2.2.2.1 x.2.2.2.2.2.1 x.2.2.2.2.2.2
def F74 (uu:Nat) (a0:Unit) (a1:List PV) (a2:Int) (a3:Int) (a4:List UInt8) (a5:List PV):Option ((List UInt8)×(List PV)):=
 (aag uu (S74_2step uu) ((),a1,a2,a3,(0:Int),a4,a5)).bind fun y40=>
 some (y40.1,y40.2)
def S74_2l (uu:Nat):LoopE:=⟨2,⟨[0,1,2,3,8],bx10,(.con (.ref 0 [] 111))::(.slice 186)::(.int .i64)::sv21⟩,[(.exit 0,⟨[],bx10,sv22⟩)],S74_2step uu⟩
def F74C (uu:Nat):Cfg:=cfg Tryz.prog 64 2 [F40c uu] [S74_2l uu] uu
def F74c (uu:Nat):CallE:=⟨74,⟨4,bx10,(.con (.ref 0 [] 111))::(.slice 186)::sv21⟩,⟨0,bx10,sv22⟩,fun x=>F74 uu x.1 x.2.1 x.2.2.1 x.2.2.2.1 x.2.2.2.2.1 x.2.2.2.2.2,([],[])⟩
theorem F74k (uu:Nat):aan (F74C uu):=aae (qc (F40ok uu)<|q0) (p0)
theorem S74_2ok (uu:Nat):LoopOk (F74C uu) (lp (aam Tryz.f74) 0):=okL (F74k uu) uu (S74_2l uu) L0
theorem F74ok (uu:Nat):(F74c uu).Ok Tryz.prog:=okE Tryz.f74 (F74k uu) (L1 (S74_2ok uu))
abbrev S65_v1_3x:=(List PV)×Unit×Unit×Int×PV×PV
abbrev S65_v1_3y:=(Bool×PV×PV)⊕(PV×PV)
def S65_v1_3 (uu:Nat) (a1:List PV) (a2:Unit) (a3:Unit) (a4:Int) (a5:PV) (a6:PV):Option (S65_v1_3x⊕S65_v1_3y):=
 bif (decide (a4<(((a6.fld 1).asList).length:Int))) then
 let x10:=(a6.fld 1).asList
 bif aab a4 x10.length then
 let x11:=x10.getD a4.toNat .bad
 bif (bif (((x11.fld 2).asInt) != (1:Int)) then true else ((((x11.fld 4).fld 0).asInt) != (10:Int))) then
 some (.inl (a1,(),(),(IntKind.wrap .i64 (a4+(1:Int))),a5,a6))
 else
 (F76 uu a5 (((x11.fld 4).fld 1).asStr)).bind fun y19=>
 let x20:=decide (y19≥(0:Int))
 bif imp x20 (aab y19 a1.length) then
 bif (bif x20 then (!(a1.getD y19.toNat .bad).asBool) else false) then
 some (.inr (.inl (true,a5,a6)))
 else
 some (.inl (a1,(),(),(IntKind.wrap .i64 (a4+(1:Int))),a5,a6))
 else none
 else none
 else
 some (.inr (.inr (a5,a6)))
def S65_v1_3step (uu:Nat) (x:S65_v1_3x):Option (S65_v1_3x⊕S65_v1_3y):=S65_v1_3 uu x.1 x.2.1 x.2.2.1 x.2.2.2.1 x.2.2.2.2.1 x.2.2.2.2.2
def F65_v1 (uu:Nat) (a0:PV) (a1:PV) (a2:List PV):Option (Bool):=
 (aag uu (S65_v1_3step uu) (a2,(),(),(0:Int),a0,a1)).bind fun z=>sumE (fun y26=>
 some y26.1
 ) (fun y27=>
 some false
 ) z
def S65_v1_3l (uu:Nat):LoopE:=⟨3,⟨[2,3,4,7],bx16,(.slice 4)::sv32⟩,[(.ret,⟨[6],bx16,.bool::sv33⟩),(.exit 0,⟨[],bx16,sv33⟩)],S65_v1_3step uu⟩
def F65_v1C (uu:Nat):Cfg:=cfg Tryz.prog 45 0 [F76c uu] [S65_v1_3l uu] uu
def F65_v1c (uu:Nat):CallE:=⟨65,⟨3,[],[(.data 26),(.data 50),(.slice 4)]⟩,⟨1,[],[.bool]⟩,fun x=>F65_v1 uu x.1 x.2.1 x.2.2,false⟩
theorem F65_v1k (uu:Nat):aan (F65_v1C uu):=aae (qc (F76ok uu)<|q0) (p0)
theorem S65_v1_3ok (uu:Nat):LoopOk (F65_v1C uu) (lp (aam Tryz.f65) 0):=okL (F65_v1k uu) uu (S65_v1_3l uu) L0
theorem F65_v1ok (uu:Nat):(F65_v1c uu).Ok Tryz.prog:=okE Tryz.f65 (F65_v1k uu) (L1 (S65_v1_3ok uu))
abbrev S44_11x:=(List PV)×Unit×Unit×Unit×Int×Unit×Bool×Int×PV×PV×(List UInt8)×(List PV)×PV
abbrev S44_11y:=((List PV)×Unit×Unit×Unit×Int×Unit×Bool×PV×PV×(List UInt8)×(List PV)×PV)
def S44_11 (uu:Nat) (a32:List PV) (a33:Unit) (a34:Unit) (a35:Unit) (a36:Int) (a37:Unit) (a38:Bool) (a39:Int) (a40:PV) (a41:PV) (a42:List UInt8) (a43:List PV) (a44:PV):Option (S44_11x⊕S44_11y):=
 bif (decide (a39<a36)) then
 let x46:=(a41.fld 1).asList
 bif aab a39 x46.length then
 bif (((x46.getD a39.toNat .bad).fld 1).asStr==((a44.fld 1).asStr)) then
 some (.inl (a32,(),(),(),a36,(),true,(IntKind.wrap .i64 (a39+(1:Int))),a40,a41,a42,a43,a44))
 else
 some (.inl (a32,(),(),(),a36,(),a38,(IntKind.wrap .i64 (a39+(1:Int))),a40,a41,a42,a43,a44))
 else none
 else
 some (.inr (a32,(),(),(),a36,(),a38,a40,a41,a42,a43,a44))
def S44_11step (uu:Nat) (x:S44_11x):Option (S44_11x⊕S44_11y):=S44_11 uu x.1 x.2.1 x.2.2.1 x.2.2.2.1 x.2.2.2.2.1 x.2.2.2.2.2.1 x.2.2.2.2.2.2.1 x.2.2.2.2.2.2.2.1 x.2.2.2.2.2.2.2.2.1 x.2.2.2.2.2.2.2.2.2.1 x.2.2.2.2.2.2.2.2.2.2.1 x.2.2.2.2.2.2.2.2.2.2.2.1 x.2.2.2.2.2.2.2.2.2.2.2.2
abbrev S44_6x:=(List PV)×Unit×Unit×Unit×Int×PV×PV×(List UInt8)×(List PV)
abbrev S44_6y:=((List PV)×Unit×Unit×Unit×PV×PV×(List UInt8)×(List PV))
def S44_6 (uu:Nat) (a18:List PV) (a19:Unit) (a20:Unit) (a21:Unit) (a22:Int) (a23:PV) (a24:PV) (a25:List UInt8) (a26:List PV):Option (S44_6x⊕S44_6y):=
 bif (decide (a22<(((a24.fld 1).asList).length:Int))) then
 let x30:=(a24.fld 1).asList
 bif aab a22 x30.length then
 (aag uu (S44_11step uu) (a18,(),(),(),a22,(),false,(0:Int),a23,a24,a25,a26,(x30.getD a22.toNat .bad))).bind fun y54=>
 (F40 uu () (bif (decide (((y54.2.2.2.2.2.2.2.2.2.2.2.fld 0).asInt)<(1:Int))) then true else (decide (((y54.2.2.2.2.2.2.2.2.2.2.2.fld 0).asInt)>(65535:Int)))) ((y54.2.2.2.2.2.2.2.2.2.2.2.fld 0).asInt) (6:Int) y54.2.2.2.2.2.2.2.2.2.1 y54.2.2.2.2.2.2.2.2.2.2.1).bind fun y61=>
 let x63:=decide (y54.2.2.2.2.1>(0:Int))
 let x65:=(y54.2.2.2.2.2.2.2.2.1.fld 1).asList
 let x67:=IntKind.wrap .i64 (y54.2.2.2.2.1-(1:Int))
 bif imp x63 (aab x67 x65.length) then
 (F40 uu () (bif x63 then (decide (((y54.2.2.2.2.2.2.2.2.2.2.2.fld 0).asInt)<=((x65.getD x67.toNat .bad).fld 0).asInt)) else false) ((y54.2.2.2.2.2.2.2.2.2.2.2.fld 0).asInt) (11:Int) y61.1 y61.2).bind fun y74=>
 (F67 uu ((y54.2.2.2.2.2.2.2.2.2.2.2.fld 1).asStr)).bind fun y76=>
 (F40 uu () (!y76) ((y54.2.2.2.2.2.2.2.2.2.2.2.fld 0).asInt) (8:Int) y74.1 y74.2).bind fun y79=>
 (F40 uu () y54.2.2.2.2.2.2.1 ((y54.2.2.2.2.2.2.2.2.2.2.2.fld 0).asInt) (9:Int) y79.1 y79.2).bind fun y82=>
 (F68 uu ((y54.2.2.2.2.2.2.2.2.1.fld 2).asList) ((y54.2.2.2.2.2.2.2.2.2.2.2.fld 0).asInt)).bind fun y85=>
 (bif !y85 then F64 uu ((y54.2.2.2.2.2.2.2.2.1.fld 3).asList) ((y54.2.2.2.2.2.2.2.2.2.2.2.fld 1).asStr) else some false).bind fun y88=>
 (F40 uu () (bif y85 then true else y88) ((y54.2.2.2.2.2.2.2.2.2.2.2.fld 0).asInt) (21:Int) y82.1 y82.2).bind fun y91=>
 (F69 uu y54.2.2.2.2.2.2.2.2.2.2.2).bind fun y93=>
 (F40 uu () (!y93) ((y54.2.2.2.2.2.2.2.2.2.2.2.fld 0).asInt) (1:Int) y91.1 y91.2).bind fun y96=>
 (F70 uu y54.2.2.2.2.2.2.2.1 y54.2.2.2.2.2.2.2.2.2.2.2).bind fun y99=>
 (F40 uu () (!y99) ((y54.2.2.2.2.2.2.2.2.2.2.2.fld 0).asInt) (12:Int) y96.1 y96.2).bind fun y102=>
 (F71 uu y54.2.2.2.2.2.2.2.2.1 y54.2.2.2.2.1).bind fun y105=>
 (F40 uu () (!y105) ((y54.2.2.2.2.2.2.2.2.2.2.2.fld 0).asInt) (15:Int) y102.1 y102.2).bind fun y108=>
 (F72 uu y54.2.2.2.2.2.2.2.1 y54.2.2.2.2.2.2.2.2.2.2.2).bind fun y111=>
 (F40 uu () (!y111) ((y54.2.2.2.2.2.2.2.2.2.2.2.fld 0).asInt) (1:Int) y108.1 y108.2).bind fun y114=>
 (F73 uu () ((y54.2.2.2.2.2.2.2.2.2.2.2.fld 8).asList) (2:Int) ((y54.2.2.2.2.2.2.2.2.2.2.2.fld 0).asInt) y114.1 y114.2).bind fun y117=>
 some (.inl (y54.1,(),(),(),(IntKind.wrap .i64 (y54.2.2.2.2.1+(1:Int))),y54.2.2.2.2.2.2.2.1,y54.2.2.2.2.2.2.2.2.1,y117.1,y117.2))
 else none
 else none
 else
 some (.inr (a18,(),(),(),a23,a24,a25,a26))
def S44_6step (uu:Nat) (x:S44_6x):Option (S44_6x⊕S44_6y):=S44_6 uu x.1 x.2.1 x.2.2.1 x.2.2.2.1 x.2.2.2.2.1 x.2.2.2.2.2.1 x.2.2.2.2.2.2.1 x.2.2.2.2.2.2.2.1 x.2.2.2.2.2.2.2.2
abbrev S44_27x:=(List PV)×Unit×Unit×Unit×Int×PV×PV×(List UInt8)×(List PV)
abbrev S44_27y:=((List PV)×Unit×Unit×Unit×PV×PV×(List UInt8)×(List PV))
def S44_27 (uu:Nat) (a123:List PV) (a124:Unit) (a125:Unit) (a126:Unit) (a127:Int) (a128:PV) (a129:PV) (a130:List UInt8) (a131:List PV):Option (S44_27x⊕S44_27y):=
 bif (decide (a127<(((a129.fld 3).asList).length:Int))) then
 let x135:=(a129.fld 3).asList
 bif aab a127 x135.length then
 (F75 uu (x135.getD a127.toNat .bad).asStr).bind fun y138=>
 (F40 uu () (!y138) (-1:Int) (7:Int) a130 a131).bind fun y140=>
 some (.inl (a123,(),(),(),(IntKind.wrap .i64 (a127+(1:Int))),a128,a129,y140.1,y140.2))
 else none
 else
 some (.inr (a123,(),(),(),a128,a129,a130,a131))
def S44_27step (uu:Nat) (x:S44_27x):Option (S44_27x⊕S44_27y):=S44_27 uu x.1 x.2.1 x.2.2.1 x.2.2.2.1 x.2.2.2.2.1 x.2.2.2.2.2.1 x.2.2.2.2.2.2.1 x.2.2.2.2.2.2.2.1 x.2.2.2.2.2.2.2.2
def F44 (uu:Nat) (a0:PV) (a1:PV) (a2:List PV):Option ((List PV)):=
 (F66 uu ((a1.fld 0).asStr)).bind fun y3=>
 (F40 uu () (!y3) (-1:Int) (8:Int) ((a1.fld 0).asStr) []).bind fun y5=>
 (F40 uu () (bif (bif (decide ((((a1.fld 1).asList).length:Int)>(64:Int))) then true else (decide ((((a1.fld 2).asList).length:Int)>(16:Int)))) then true else (decide ((((a1.fld 3).asList).length:Int)>(16:Int)))) (-1:Int) (3:Int) y5.1 y5.2).bind fun y17=>
 (aag uu (S44_6step uu) (a2,(),(),(),(0:Int),a0,a1,y17.1,y17.2)).bind fun y120=>
 (F74 uu () ((y120.2.2.2.2.2.1.fld 2).asList) (1:Int) (65535:Int) y120.2.2.2.2.2.2.1 y120.2.2.2.2.2.2.2).bind fun y122=>
 (aag uu (S44_27step uu) (y120.1,(),(),(),(0:Int),y120.2.2.2.2.1,y120.2.2.2.2.2.1,y122.1,y122.2)).bind fun y142=>
 (F73 uu () ((y142.2.2.2.2.2.1.fld 4).asList) (1:Int) (-1:Int) y142.2.2.2.2.2.2.1 y142.2.2.2.2.2.2.2).bind fun y144=>
 (F65_v1 uu y142.2.2.2.2.1 y142.2.2.2.2.2.1 y142.1).bind fun y148=>
 (F40 uu () y148 (-1:Int) (19:Int) y144.1 y144.2).bind fun y149=>
 some y149.2
def S44_11l (uu:Nat):LoopE:=⟨11,⟨[2,3,4,7,8,9,10,11],bx17,[(.slice 4),(.con (.ref 0 [] 26)),(.con (.ref 1 [] 50)),(.con (.ref 2 [] 111)),(.int .i64),(.con (.ref 4 [] 52)),.bool,(.int .i64),(.data 26),(.data 50),.str,(.acc 3 151),(.data 52)]⟩,[(.exit 2,⟨[2,3,4,7,8,9,10],bx17,[(.slice 4),(.con (.ref 0 [] 26)),(.con (.ref 1 [] 50)),(.con (.ref 2 [] 111)),(.int .i64),(.con (.ref 4 [] 52)),.bool,(.data 26),(.data 50),.str,(.acc 3 151),(.data 52)]⟩)],S44_11step uu⟩
def S44_6l (uu:Nat):LoopE:=⟨6,⟨[2,3,4,7,8],bx18,(.slice 4)::(.con (.ref 0 [] 26))::(.con (.ref 1 [] 50))::(.con (.ref 2 [] 111))::(.int .i64)::sv34⟩,[(.exit 0,⟨[2,3,4,7],bx18,(.slice 4)::(.con (.ref 0 [] 26))::(.con (.ref 1 [] 50))::(.con (.ref 2 [] 111))::sv34⟩)],S44_6step uu⟩
def S44_27l (uu:Nat):LoopE:=⟨27,⟨[2,3,4,7,12],bx18,(.slice 4)::(.con (.ref 0 [] 26))::(.con (.ref 1 [] 50))::(.con (.ref 2 [] 111))::(.int .i64)::sv34⟩,[(.exit 4,⟨[2,3,4,7],bx18,(.slice 4)::(.con (.ref 0 [] 26))::(.con (.ref 1 [] 50))::(.con (.ref 2 [] 111))::sv34⟩)],S44_27step uu⟩
def F44C (uu:Nat):Cfg:=cfg Tryz.prog 178 0 [F66c uu,F40c uu,F67c uu,F68c uu,F64c uu,F69c uu,F70c uu,F71c uu,F72c uu,F73c uu,F74c uu,F75c uu,F65_v1c uu] [S44_11l uu,S44_6l uu,S44_27l uu] uu
def F44c (uu:Nat):CallE:=⟨44,⟨3,[],[(.data 26),(.data 50),(.slice 4)]⟩,⟨1,[],[(.slice 151)]⟩,fun x=>F44 uu x.1 x.2.1 x.2.2,[]⟩
theorem F44k (uu:Nat):aan (F44C uu):=aae (qc (F66ok uu)<|qc (F40ok uu)<|qc (F67ok uu)<|qc (F68ok uu)<|qc (F64ok uu)<|qc (F69ok uu)<|qc (F70ok uu)<|qc (F71ok uu)<|qc (F72ok uu)<|qc (F73ok uu)<|qc (F74ok uu)<|qc (F75ok uu)<|qc (F65_v1ok uu)<|q0) (p0)
theorem S44_11ok (uu:Nat):LoopOk (F44C uu) (lp (lp (aam Tryz.f44) 0) 0):=okL (F44k uu) uu (S44_11l uu) L0
theorem S44_6ok (uu:Nat):LoopOk (F44C uu) (lp (aam Tryz.f44) 0):=okL (F44k uu) uu (S44_6l uu) (L1 (S44_11ok uu))
theorem S44_27ok (uu:Nat):LoopOk (F44C uu) (lp (aam Tryz.f44) 1):=okL (F44k uu) uu (S44_27l uu) L0
theorem F44ok (uu:Nat):(F44c uu).Ok Tryz.prog:=okE Tryz.f44 (F44k uu) (L2 (S44_6ok uu) (S44_27ok uu))
abbrev S45_12x:=Unit×Unit×Int×Unit×Bool×Int×PV×(List UInt8)×(List PV)×PV
abbrev S45_12y:=(Unit×Unit×Int×Unit×Bool×PV×(List UInt8)×(List PV)×PV)
def S45_12 (uu:Nat) (a39:Unit) (a40:Unit) (a41:Int) (a42:Unit) (a43:Bool) (a44:Int) (a45:PV) (a46:List UInt8) (a47:List PV) (a48:PV):Option (S45_12x⊕S45_12y):=
 bif (decide (a44<a41)) then
 let x50:=(a45.fld 2).asList
 bif aab a44 x50.length then
 bif (((x50.getD a44.toNat .bad).fld 0).asStr==((a48.fld 0).asStr)) then
 some (.inl ((),(),a41,(),true,(IntKind.wrap .i64 (a44+(1:Int))),a45,a46,a47,a48))
 else
 some (.inl ((),(),a41,(),a43,(IntKind.wrap .i64 (a44+(1:Int))),a45,a46,a47,a48))
 else none
 else
 some (.inr ((),(),a41,(),a43,a45,a46,a47,a48))
def S45_12step (uu:Nat) (x:S45_12x):Option (S45_12x⊕S45_12y):=S45_12 uu x.1 x.2.1 x.2.2.1 x.2.2.2.1 x.2.2.2.2.1 x.2.2.2.2.2.1 x.2.2.2.2.2.2.1 x.2.2.2.2.2.2.2.1 x.2.2.2.2.2.2.2.2.1 x.2.2.2.2.2.2.2.2.2
abbrev S45_7x:=Unit×Unit×Int×PV×(List UInt8)×(List PV)
abbrev S45_7y:=(Unit×Unit×PV×(List UInt8)×(List PV))
def S45_7 (uu:Nat) (a28:Unit) (a29:Unit) (a30:Int) (a31:PV) (a32:List UInt8) (a33:List PV):Option (S45_7x⊕S45_7y):=
 bif (decide (a30<(((a31.fld 2).asList).length:Int))) then
 let x37:=(a31.fld 2).asList
 bif aab a30 x37.length then
 (aag uu (S45_12step uu) ((),(),a30,(),false,(0:Int),a31,a32,a33,(x37.getD a30.toNat .bad))).bind fun y58=>
 (F40 uu () (bif (decide (((y58.2.2.2.2.2.2.2.2.fld 1).asInt)<(0:Int))) then true else (decide (((y58.2.2.2.2.2.2.2.2.fld 1).asInt)>(2147483647:Int)))) ((y58.2.2.2.2.2.2.2.2.fld 1).asInt) (6:Int) y58.2.2.2.2.2.2.1 y58.2.2.2.2.2.2.2.1).bind fun y65=>
 let x67:=decide (y58.2.2.1>(0:Int))
 let x69:=(y58.2.2.2.2.2.1.fld 2).asList
 let x71:=IntKind.wrap .i64 (y58.2.2.1-(1:Int))
 bif imp x67 (aab x71 x69.length) then
 (F40 uu () (bif x67 then (decide (((y58.2.2.2.2.2.2.2.2.fld 1).asInt)<=((x69.getD x71.toNat .bad).fld 1).asInt)) else false) ((y58.2.2.2.2.2.2.2.2.fld 1).asInt) (11:Int) y65.1 y65.2).bind fun y78=>
 (F67 uu ((y58.2.2.2.2.2.2.2.2.fld 0).asStr)).bind fun y80=>
 (F40 uu () (!y80) ((y58.2.2.2.2.2.2.2.2.fld 1).asInt) (8:Int) y78.1 y78.2).bind fun y83=>
 (F40 uu () y58.2.2.2.2.1 ((y58.2.2.2.2.2.2.2.2.fld 1).asInt) (9:Int) y83.1 y83.2).bind fun y86=>
 (F68 uu ((y58.2.2.2.2.2.1.fld 3).asList) ((y58.2.2.2.2.2.2.2.2.fld 1).asInt)).bind fun y89=>
 (F40 uu () y89 ((y58.2.2.2.2.2.2.2.2.fld 1).asInt) (21:Int) y86.1 y86.2).bind fun y91=>
 (F73 uu () ((y58.2.2.2.2.2.2.2.2.fld 2).asList) (4:Int) ((y58.2.2.2.2.2.2.2.2.fld 1).asInt) y91.1 y91.2).bind fun y94=>
 some (.inl ((),(),(IntKind.wrap .i64 (y58.2.2.1+(1:Int))),y58.2.2.2.2.2.1,y94.1,y94.2))
 else none
 else none
 else
 some (.inr ((),(),a31,a32,a33))
def S45_7step (uu:Nat) (x:S45_7x):Option (S45_7x⊕S45_7y):=S45_7 uu x.1 x.2.1 x.2.2.1 x.2.2.2.1 x.2.2.2.2.1 x.2.2.2.2.2
def F45 (uu:Nat) (a0:PV):Option ((List PV)):=
 (F66 uu ((a0.fld 0).asStr)).bind fun y3=>
 (F40 uu () (!y3) (-1:Int) (8:Int) ((a0.fld 0).asStr) []).bind fun y5=>
 (F40 uu () (bif (bif (decide ((((a0.fld 2).asList).length:Int)<(1:Int))) then true else (decide ((((a0.fld 2).asList).length:Int)>(64:Int)))) then true else (decide ((((a0.fld 3).asList).length:Int)>(16:Int)))) (-1:Int) (3:Int) y5.1 y5.2).bind fun y17=>
 let x20:=decide ((((a0.fld 2).asList).length:Int)>(0:Int))
 let x21:=(a0.fld 2).asList
 bif imp x20 (aab (0:Int) x21.length) then
 (F40 uu () (bif x20 then (((x21.getD (0:Int).toNat .bad).fld 1).asInt != (0:Int)) else false) (-1:Int) (14:Int) y17.1 y17.2).bind fun y27=>
 (aag uu (S45_7step uu) ((),(),(0:Int),a0,y27.1,y27.2)).bind fun y97=>
 (F74 uu () ((y97.2.2.1.fld 3).asList) (0:Int) (2147483647:Int) y97.2.2.2.1 y97.2.2.2.2).bind fun y99=>
 (F73 uu () ((y97.2.2.1.fld 4).asList) (3:Int) (-1:Int) y99.1 y99.2).bind fun y101=>
 some y101.2
 else none
def S45_12l (uu:Nat):LoopE:=⟨12,⟨[1,3,4,5,6,7],bx19,[(.con (.ref 0 [] 58)),(.con (.ref 1 [] 111)),(.int .i64),(.con (.ref 3 [] 60)),.bool,(.int .i64),(.data 58),.str,(.acc 2 151),(.data 60)]⟩,[(.exit 2,⟨[1,3,4,5,6],bx19,[(.con (.ref 0 [] 58)),(.con (.ref 1 [] 111)),(.int .i64),(.con (.ref 3 [] 60)),.bool,(.data 58),.str,(.acc 2 151),(.data 60)]⟩)],S45_12step uu⟩
def S45_7l (uu:Nat):LoopE:=⟨7,⟨[1,3,4],bx20,(.con (.ref 0 [] 58))::(.con (.ref 1 [] 111))::(.int .i64)::(.data 58)::sv35⟩,[(.exit 0,⟨[1,3],bx20,(.con (.ref 0 [] 58))::(.con (.ref 1 [] 111))::(.data 58)::sv35⟩)],S45_7step uu⟩
def F45C (uu:Nat):Cfg:=cfg Tryz.prog 132 0 [F66c uu,F40c uu,F67c uu,F68c uu,F73c uu,F74c uu] [S45_12l uu,S45_7l uu] uu
def F45c (uu:Nat):CallE:=⟨45,⟨1,[],[(.data 58)]⟩,⟨1,[],[(.slice 151)]⟩,fun x=>F45 uu x,[]⟩
theorem F45k (uu:Nat):aan (F45C uu):=aae (qc (F66ok uu)<|qc (F40ok uu)<|qc (F67ok uu)<|qc (F68ok uu)<|qc (F73ok uu)<|qc (F74ok uu)<|q0) (p0)
theorem S45_12ok (uu:Nat):LoopOk (F45C uu) (lp (lp (aam Tryz.f45) 0) 0):=okL (F45k uu) uu (S45_12l uu) L0
theorem S45_7ok (uu:Nat):LoopOk (F45C uu) (lp (aam Tryz.f45) 0):=okL (F45k uu) uu (S45_7l uu) (L1 (S45_12ok uu))
theorem F45ok (uu:Nat):(F45c uu).Ok Tryz.prog:=okE Tryz.f45 (F45k uu) (L1 (S45_7ok uu))
abbrev S46_6x:=Unit×Unit×Unit×Int×PV×PV×(List UInt8)×(List PV)
abbrev S46_6y:=(Unit×Unit×PV×PV×(List UInt8)×(List PV))
def S46_6 (uu:Nat) (a10:Unit) (a11:Unit) (a12:Unit) (a13:Int) (a14:PV) (a15:PV) (a16:List UInt8) (a17:List PV):Option (S46_6x⊕S46_6y):=
 bif (decide (a13<(((a15.fld 1).asList).length:Int))) then
 let x21:=(a15.fld 1).asList
 bif aab a13 x21.length then
 let x22:=x21.getD a13.toNat .bad
 (F67 uu ((x22.fld 0).asStr)).bind fun y24=>
 (F40 uu () (!y24) a13 (8:Int) a16 a17).bind fun y26=>
 let x27:=decide (a13>(0:Int))
 let x28:=(x22.fld 0).asStr
 let x29:=(a15.fld 1).asList
 let x30:=IntKind.wrap .i64 (a13-(1:Int))
 bif imp x27 (aab x30 x29.length) then
 let x33:=((x29.getD x30.toNat .bad).fld 0).asStr
 (F40 uu () (bif x27 then (Op.bytesLess x28 x33||x28==x33) else false) a13 (11:Int) y26.1 y26.2).bind fun y36=>
 (F76 uu a14 ((x22.fld 1).asStr)).bind fun y38=>
 let x39:=decide (y38<(0:Int))
 (bif !x39 then F76 uu a14 ((x22.fld 2).asStr) else some 0).bind fun y41=>
 (F40 uu () (bif x39 then true else (decide (y41<(0:Int)))) a13 (12:Int) y36.1 y36.2).bind fun y44=>
 (F40 uu () (bif (decide (((x22.fld 3).asInt)<(1:Int))) then true else (decide (((x22.fld 3).asInt)>(4:Int)))) a13 (1:Int) y44.1 y44.2).bind fun y50=>
 (F73 uu () ((x22.fld 4).asList) (6:Int) a13 y50.1 y50.2).bind fun y52=>
 some (.inl ((),(),(),(IntKind.wrap .i64 (a13+(1:Int))),a14,a15,y52.1,y52.2))
 else none
 else none
 else
 some (.inr ((),(),a14,a15,a16,a17))
def S46_6step (uu:Nat) (x:S46_6x):Option (S46_6x⊕S46_6y):=S46_6 uu x.1 x.2.1 x.2.2.1 x.2.2.2.1 x.2.2.2.2.1 x.2.2.2.2.2.1 x.2.2.2.2.2.2.1 x.2.2.2.2.2.2.2
def F46 (uu:Nat) (a0:PV) (a1:PV):Option ((List PV)):=
 (F66 uu ((a1.fld 0).asStr)).bind fun y3=>
 (F40 uu () (!y3) (-1:Int) (8:Int) ((a1.fld 0).asStr) []).bind fun y5=>
 (F40 uu () (decide ((((a1.fld 1).asList).length:Int)>(64:Int))) (-1:Int) (3:Int) y5.1 y5.2).bind fun y9=>
 (aag uu (S46_6step uu) ((),(),(),(0:Int),a0,a1,y9.1,y9.2)).bind fun y54=>
 (F73 uu () ((y54.2.2.2.1.fld 2).asList) (5:Int) (-1:Int) y54.2.2.2.2.1 y54.2.2.2.2.2).bind fun y56=>
 some y56.2
def S46_6l (uu:Nat):LoopE:=⟨6,⟨[2,3,5,6],bx21,(.con (.ref 0 [] 26))::(.con (.ref 1 [] 123))::(.con (.ref 2 [] 111))::(.int .i64)::(.data 26)::(.data 123)::sv36⟩,[(.exit 0,⟨[3,5],bx21,(.con (.ref 1 [] 123))::(.con (.ref 2 [] 111))::(.data 26)::(.data 123)::sv36⟩)],S46_6step uu⟩
def F46C (uu:Nat):Cfg:=cfg Tryz.prog 88 0 [F66c uu,F40c uu,F67c uu,F76c uu,F73c uu] [S46_6l uu] uu
def F46c (uu:Nat):CallE:=⟨46,⟨2,[],[(.data 26),(.data 123)]⟩,⟨1,[],[(.slice 151)]⟩,fun x=>F46 uu x.1 x.2,[]⟩
theorem F46k (uu:Nat):aan (F46C uu):=aae (qc (F66ok uu)<|qc (F40ok uu)<|qc (F67ok uu)<|qc (F76ok uu)<|qc (F73ok uu)<|q0) (p0)
theorem S46_6ok (uu:Nat):LoopOk (F46C uu) (lp (aam Tryz.f46) 0):=okL (F46k uu) uu (S46_6l uu) L0
theorem F46ok (uu:Nat):(F46c uu).Ok Tryz.prog:=okE Tryz.f46 (F46k uu) (L1 (S46_6ok uu))
abbrev S24_4x:=Unit×Unit×Int×PV×(List UInt8)×(List PV)
abbrev S24_4y:=(Unit×Unit×PV×(List UInt8)×(List PV))
def S24_4 (uu:Nat) (a1:Unit) (a2:Unit) (a3:Int) (a4:PV) (a5:List UInt8) (a6:List PV):Option (S24_4x⊕S24_4y):=
 bif (decide (a3<=(3:Int))) then
 (F39 uu a4 a3).bind fun y8=>
 (F40 uu () (decide ((y8.length:Int)>(64:Int))) (-1:Int) (3:Int) a5 a6).bind fun y11=>
 (F41 uu y8).bind fun y12=>
 (F40 uu () (!y12) (-1:Int) (11:Int) y11.1 y11.2).bind fun y14=>
 some (.inl ((),(),(IntKind.wrap .i64 (a3+(1:Int))),a4,y14.1,y14.2))
 else
 some (.inr ((),(),a4,a5,a6))
def S24_4step (uu:Nat) (x:S24_4x):Option (S24_4x⊕S24_4y):=S24_4 uu x.1 x.2.1 x.2.2.1 x.2.2.2.1 x.2.2.2.2.1 x.2.2.2.2.2
abbrev S24_15x:=Unit×Unit×(List PV)×Int×PV×(List UInt8)×(List PV)
abbrev S24_15y:=(Unit×Unit×PV×(List UInt8)×(List PV))
def S24_15 (uu:Nat) (a31:Unit) (a32:Unit) (a33:List PV) (a34:Int) (a35:PV) (a36:List UInt8) (a37:List PV):Option (S24_15x⊕S24_15y):=
 bif (decide (a34<(((a35.fld 0).asList).length:Int))) then
 let x41:=(a35.fld 0).asList
 bif aab a34 x41.length then
 (F44 uu a35 (x41.getD a34.toNat .bad) a33).bind fun y43=>
 bif decide (a37.length+y43.length<=aat) then
 some (.inl ((),(),a33,(IntKind.wrap .i64 (a34+(1:Int))),a35,a36,(a37++y43)))
 else none
 else none
 else
 some (.inr ((),(),a35,a36,a37))
def S24_15step (uu:Nat) (x:S24_15x):Option (S24_15x⊕S24_15y):=S24_15 uu x.1 x.2.1 x.2.2.1 x.2.2.2.1 x.2.2.2.2.1 x.2.2.2.2.2.1 x.2.2.2.2.2.2
abbrev S24_19x:=Unit×Unit×Int×PV×(List UInt8)×(List PV)
abbrev S24_19y:=(Unit×Unit×PV×(List UInt8)×(List PV))
def S24_19 (uu:Nat) (a47:Unit) (a48:Unit) (a49:Int) (a50:PV) (a51:List UInt8) (a52:List PV):Option (S24_19x⊕S24_19y):=
 bif (decide (a49<(((a50.fld 1).asList).length:Int))) then
 let x56:=(a50.fld 1).asList
 bif aab a49 x56.length then
 (F45 uu (x56.getD a49.toNat .bad)).bind fun y58=>
 bif decide (a52.length+y58.length<=aat) then
 some (.inl ((),(),(IntKind.wrap .i64 (a49+(1:Int))),a50,a51,(a52++y58)))
 else none
 else none
 else
 some (.inr ((),(),a50,a51,a52))
def S24_19step (uu:Nat) (x:S24_19x):Option (S24_19x⊕S24_19y):=S24_19 uu x.1 x.2.1 x.2.2.1 x.2.2.2.1 x.2.2.2.2.1 x.2.2.2.2.2
abbrev S24_23x:=Unit×Unit×Int×PV×(List UInt8)×(List PV)
abbrev S24_23y:=(Unit×PV×(List UInt8)×(List PV))
def S24_23 (uu:Nat) (a62:Unit) (a63:Unit) (a64:Int) (a65:PV) (a66:List UInt8) (a67:List PV):Option (S24_23x⊕S24_23y):=
 bif (decide (a64<(((a65.fld 2).asList).length:Int))) then
 let x71:=(a65.fld 2).asList
 bif aab a64 x71.length then
 (F46 uu a65 (x71.getD a64.toNat .bad)).bind fun y73=>
 bif decide (a67.length+y73.length<=aat) then
 some (.inl ((),(),(IntKind.wrap .i64 (a64+(1:Int))),a65,a66,(a67++y73)))
 else none
 else none
 else
 some (.inr ((),a65,a66,a67))
def S24_23step (uu:Nat) (x:S24_23x):Option (S24_23x⊕S24_23y):=S24_23 uu x.1 x.2.1 x.2.2.1 x.2.2.2.1 x.2.2.2.2.1 x.2.2.2.2.2
def F24 (uu:Nat) (a0:PV):Option ((List PV)):=
 (aag uu (S24_4step uu) ((),(),(1:Int),a0,([]:List UInt8),[])).bind fun y16=>
 (F39 uu y16.2.2.1 (1:Int)).bind fun y18=>
 (F39 uu y16.2.2.1 (2:Int)).bind fun y20=>
 (F39 uu y16.2.2.1 (3:Int)).bind fun y22=>
 (F42 uu y18 y20).bind fun y23=>
 (bif !y23 then F42 uu y18 y22 else some false).bind fun y24=>
 let x25:=bif y23 then true else y24
 (bif !x25 then F42 uu y20 y22 else some false).bind fun y26=>
 (F40 uu () (bif x25 then true else y26) (-1:Int) (9:Int) y16.2.2.2.1 y16.2.2.2.2).bind fun y28=>
 (F43 uu y16.2.2.1).bind fun y30=>
 (aag uu (S24_15step uu) ((),(),y30,(0:Int),y16.2.2.1,y28.1,y28.2)).bind fun y46=>
 (aag uu (S24_19step uu) ((),(),(0:Int),y46.2.2.1,y46.2.2.2.1,y46.2.2.2.2)).bind fun y61=>
 (aag uu (S24_23step uu) ((),(),(0:Int),y61.2.2.1,y61.2.2.2.1,y61.2.2.2.2)).bind fun y76=>
 some y76.2.2.2
def S24_4l (uu:Nat):LoopE:=⟨4,⟨[1,3,4],bx22,sv37⟩,[(.exit 0,⟨[1,3],bx22,sv38⟩)],S24_4step uu⟩
def S24_15l (uu:Nat):LoopE:=⟨15,⟨[1,3,9,10],bx22,(.con (.ref 0 [] 26))::(.con (.ref 1 [] 111))::(.slice 4)::sv39⟩,[(.exit 2,⟨[1,3],bx22,sv38⟩)],S24_15step uu⟩
def S24_19l (uu:Nat):LoopE:=⟨19,⟨[1,3,11],bx22,sv37⟩,[(.exit 4,⟨[1,3],bx22,sv38⟩)],S24_19step uu⟩
def S24_23l (uu:Nat):LoopE:=⟨23,⟨[1,3,12],bx22,sv37⟩,[(.exit 6,⟨[3],bx22,sv40⟩)],S24_23step uu⟩
def F24C (uu:Nat):Cfg:=cfg Tryz.prog 107 0 [F39c uu,F40c uu,F41c uu,F42c uu,F43c uu,F44c uu,F45c uu,F46c uu] [S24_4l uu,S24_15l uu,S24_19l uu,S24_23l uu] uu
def F24c (uu:Nat):CallE:=⟨24,⟨1,[],[(.data 26)]⟩,⟨1,[],[(.slice 151)]⟩,fun x=>F24 uu x,[]⟩
theorem F24k (uu:Nat):aan (F24C uu):=aae (qc (F39ok uu)<|qc (F40ok uu)<|qc (F41ok uu)<|qc (F42ok uu)<|qc (F43ok uu)<|qc (F44ok uu)<|qc (F45ok uu)<|qc (F46ok uu)<|q0) (p0)
theorem S24_4ok (uu:Nat):LoopOk (F24C uu) (lp (aam Tryz.f24) 0):=okL (F24k uu) uu (S24_4l uu) L0
theorem S24_15ok (uu:Nat):LoopOk (F24C uu) (lp (aam Tryz.f24) 1):=okL (F24k uu) uu (S24_15l uu) L0
theorem S24_19ok (uu:Nat):LoopOk (F24C uu) (lp (aam Tryz.f24) 2):=okL (F24k uu) uu (S24_19l uu) L0
theorem S24_23ok (uu:Nat):LoopOk (F24C uu) (lp (aam Tryz.f24) 3):=okL (F24k uu) uu (S24_23l uu) L0
theorem F24ok (uu:Nat):(F24c uu).Ok Tryz.prog:=okE Tryz.f24 (F24k uu) (L4 (S24_4ok uu) (S24_15ok uu) (S24_19ok uu) (S24_23ok uu))
def F15 (uu:Nat) (a0:PV):Option (Bool):=
 (F24 uu a0).bind fun y1=>
 some ((y1.length:Int)==(0:Int))
def F15c (uu:Nat):CallE:=⟨15,⟨1,[],[(.data 26)]⟩,⟨1,[],[.bool]⟩,fun x=>F15 uu x,false⟩
theorem F15ok (uu:Nat):(F15c uu).Ok Tryz.prog:=okJ Tryz.f15 7 0 uu _ [] false (qc (F24ok uu)<|q0) (p0) L0
def F5 (uu:Nat) (a0:PV):Option (Bool):=
 let x11:=bif (bif (decide ((((a0.fld 0).asList).length:Int)<=(8:Int))) then (decide ((((a0.fld 1).asList).length:Int)<=(8:Int))) else false) then (decide ((((a0.fld 2).asList).length:Int)<=(8:Int))) else false
 (bif x11 then F15 uu a0 else some false).bind fun y12=>
 some (bif x11 then y12 else false)
def F5c (uu:Nat):CallE:=⟨5,⟨1,[],[(.data 26)]⟩,⟨1,[],[.bool]⟩,fun x=>F5 uu x,false⟩
theorem F5ok (uu:Nat):(F5c uu).Ok Tryz.prog:=okJ Tryz.f5 23 0 uu _ [] false (qc (F15ok uu)<|q0) (p0) L0
def B6c (r:PV->Option (Int)):CallE:=⟨6,⟨1,[],[(.data 33)]⟩,⟨1,[],[(.int .i64)]⟩,r,0⟩
def B6_4 (uu:Nat) (r0:PV->Option (Int)) (a4:Unit) (a5:Int) (a6:Int) (a7:PV):Option ((Unit×Int×Int×PV)⊕((Unit×Int×PV))):=
 bif (decide (a6<(((a7.fld 3).asList).length:Int))) then
 let x11:=(a7.fld 3).asList
 bif aab a6 x11.length then
 (r0 (x11.getD a6.toNat .bad)).bind fun y13=>
 some (.inl ((),(IntKind.wrap .i64 (a5+y13)),(IntKind.wrap .i64 (a6+(1:Int))),a7))
 else none
 else
 some (.inr ((),a5,a7))
def B6_4step (uu:Nat) (r0:PV->Option (Int)) (x:Unit×Int×Int×PV):Option ((Unit×Int×Int×PV)⊕((Unit×Int×PV))):=B6_4 uu r0 x.1 x.2.1 x.2.2.1 x.2.2.2
def B6_8 (uu:Nat) (r0:PV->Option (Int)) (a17:Unit) (a18:Int) (a19:Int) (a20:PV):Option ((Unit×Int×Int×PV)⊕((Unit×Int×PV))):=
 bif (decide (a19<(((a20.fld 4).asList).length:Int))) then
 let x24:=(a20.fld 4).asList
 bif aab a19 x24.length then
 (r0 ((x24.getD a19.toNat .bad).fld 0)).bind fun y27=>
 let x28:=(a20.fld 4).asList
 bif aab a19 x28.length then
 (r0 ((x28.getD a19.toNat .bad).fld 1)).bind fun y31=>
 some (.inl ((),(IntKind.wrap .i64 (a18+(IntKind.wrap .i64 (y27+y31)))),(IntKind.wrap .i64 (a19+(1:Int))),a20))
 else none
 else none
 else
 some (.inr ((),a18,a20))
def B6_8step (uu:Nat) (r0:PV->Option (Int)) (x:Unit×Int×Int×PV):Option ((Unit×Int×Int×PV)⊕((Unit×Int×PV))):=B6_8 uu r0 x.1 x.2.1 x.2.2.1 x.2.2.2
def B6_12 (uu:Nat) (r0:PV->Option (Int)) (a36:Unit) (a37:Int) (a38:Int) (a39:PV):Option ((Unit×Int×Int×PV)⊕((Int×PV))):=
 bif (decide (a38<(((a39.fld 5).asList).length:Int))) then
 let x43:=(a39.fld 5).asList
 bif aab a38 x43.length then
 (r0 ((x43.getD a38.toNat .bad).fld 1)).bind fun y46=>
 some (.inl ((),(IntKind.wrap .i64 (a37+y46)),(IntKind.wrap .i64 (a38+(1:Int))),a39))
 else none
 else
 some (.inr (a37,a39))
def B6_12step (uu:Nat) (r0:PV->Option (Int)) (x:Unit×Int×Int×PV):Option ((Unit×Int×Int×PV)⊕((Int×PV))):=B6_12 uu r0 x.1 x.2.1 x.2.2.1 x.2.2.2
def B6 (uu:Nat) (r0:PV->Option (Int)) (a0:PV):Option (Int):=
 (aag uu (B6_4step uu r0) ((),(IntKind.wrap .i64 ((1:Int)+(((a0.fld 6).asList).length:Int))),(0:Int),a0)).bind fun y16=>
 (aag uu (B6_8step uu r0) ((),y16.2.1,(0:Int),y16.2.2)).bind fun y35=>
 (aag uu (B6_12step uu r0) ((),y35.2.1,(0:Int),y35.2.2)).bind fun y49=>
 some y49.1
def B6_4l (uu:Nat) (r0:PV->Option (Int)):LoopE:=⟨4,⟨[1,3,4],bx23,sv41⟩,[(.exit 0,⟨[1,3],bx23,sv42⟩)],B6_4step uu r0⟩
def B6_8l (uu:Nat) (r0:PV->Option (Int)):LoopE:=⟨8,⟨[1,3,5],bx23,sv41⟩,[(.exit 2,⟨[1,3],bx23,sv42⟩)],B6_8step uu r0⟩
def B6_12l (uu:Nat) (r0:PV->Option (Int)):LoopE:=⟨12,⟨[1,3,6],bx23,sv41⟩,[(.exit 4,⟨[3],bx23,sv29⟩)],B6_12step uu r0⟩
def B6C (uu:Nat) (r0:PV->Option (Int)):Cfg:=cfg Tryz.prog 67 0 [B6c r0] [B6_4l uu r0,B6_8l uu r0,B6_12l uu r0] uu
theorem B6k (uu:Nat) (r0:PV->Option (Int)) (h0:(B6c r0).Ok Tryz.prog):aan (B6C uu r0):=aae (qc h0<|q0) (p0)
theorem B6_4ok (uu:Nat) (r0:PV->Option (Int)) (h0:(B6c r0).Ok Tryz.prog):LoopOk (B6C uu r0) (lp (aam Tryz.f6) 0):=okL (B6k uu r0 h0) uu (B6_4l uu r0) L0
theorem B6_8ok (uu:Nat) (r0:PV->Option (Int)) (h0:(B6c r0).Ok Tryz.prog):LoopOk (B6C uu r0) (lp (aam Tryz.f6) 1):=okL (B6k uu r0 h0) uu (B6_8l uu r0) L0
theorem B6_12ok (uu:Nat) (r0:PV->Option (Int)) (h0:(B6c r0).Ok Tryz.prog):LoopOk (B6C uu r0) (lp (aam Tryz.f6) 2):=okL (B6k uu r0 h0) uu (B6_12l uu r0) L0
theorem B6ok (uu:Nat) (r0:PV->Option (Int)) (h0:(B6c r0).Ok Tryz.prog):(B6c (fun x=>B6 uu r0 x)).Ok Tryz.prog:=okE Tryz.f6 (B6k uu r0 h0) (L3 (B6_4ok uu r0 h0) (B6_8ok uu r0 h0) (B6_12ok uu r0 h0))
def G6 (uu:Nat):Nat->(PV->Option (Int))
 | 0=>fun _=>none
 | d+1=>fun x=>B6 uu (G6 uu d) x
theorem G6ok (uu:Nat):∀ d,(B6c (G6 uu d)).Ok Tryz.prog
 | 0=>aif
 | d+1=>B6ok uu (G6 uu d) (G6ok uu d)
def F6 (uu:Nat) (a0:PV):Option (Int):=limQ uu (fun d=>(G6 uu d)) a0
def F6c (uu:Nat):CallE:=⟨6,⟨1,[],[(.data 33)]⟩,⟨1,[],[(.int .i64)]⟩,fun x=>F6 uu x,0⟩
theorem F6ok (uu:Nat):(F6c uu).Ok Tryz.prog:=ay6 (F6c uu) (G:=(fun d=>(G6 uu d))) (fun x=>rfl) (fun d=>(G6ok uu d))
abbrev S25_3x:=(List UInt8)×Unit×Unit×Int×PV×PV
abbrev S25_3y:=(Unit×Bool×PV×PV)⊕(Unit×PV×PV)
def S25_3 (uu:Nat) (a1:List UInt8) (a2:Unit) (a3:Unit) (a4:Int) (a5:PV) (a6:PV):Option (S25_3x⊕S25_3y):=
 bif (decide (a4<(((a5.fld 0).asList).length:Int))) then
 let x10:=(a5.fld 0).asList
 bif aab a4 x10.length then
 bif (((x10.getD a4.toNat .bad).fld 0).asStr==a1) then
 let x15:=(a5.fld 0).asList
 bif aab a4 x15.length then
 some (.inr (.inl ((),true,a5,(x15.getD a4.toNat .bad))))
 else none
 else
 some (.inl (a1,(),(),(IntKind.wrap .i64 (a4+(1:Int))),a5,a6))
 else none
 else
 some (.inr (.inr ((),a5,a6)))
def S25_3step (uu:Nat) (x:S25_3x):Option (S25_3x⊕S25_3y):=S25_3 uu x.1 x.2.1 x.2.2.1 x.2.2.2.1 x.2.2.2.2.1 x.2.2.2.2.2
def F25 (uu:Nat) (a0:PV) (a1:List UInt8):Option (PV×Bool):=
 (aag uu (S25_3step uu) (a1,(),(),(0:Int),a0,(PV.agg [(PV.str ([]:List UInt8)),(PV.slice []),(PV.slice []),(PV.slice []),(PV.slice [])]))).bind fun z=>sumE (fun y18=>
 some (y18.2.2.2,y18.2.1)
 ) (fun y19=>
 some ((PV.agg [(PV.str ([]:List UInt8)),(PV.slice []),(PV.slice []),(PV.slice []),(PV.slice [])]),false)
 ) z
def S25_3l (uu:Nat):LoopE:=⟨3,⟨[1,2,4,6],bx16,.str::sv32⟩,[(.ret,⟨[4,5],bx16,(.con (.ref 1 [] 50))::.bool::sv33⟩),(.exit 0,⟨[4],bx16,(.con (.ref 1 [] 50))::sv33⟩)],S25_3step uu⟩
def F25C (uu:Nat):Cfg:=cfg Tryz.prog 28 0 [] [S25_3l uu] uu
def F25c (uu:Nat):CallE:=⟨25,⟨2,[],sv2⟩,⟨2,[],[(.data 50),.bool]⟩,fun x=>F25 uu x.1 x.2,(PV.bad,false)⟩
theorem F25k (uu:Nat):aan (F25C uu):=aae (q0) (p0)
theorem S25_3ok (uu:Nat):LoopOk (F25C uu) (lp (aam Tryz.f25) 0):=okL (F25k uu) uu (S25_3l uu) L0
theorem F25ok (uu:Nat):(F25c uu).Ok Tryz.prog:=okE Tryz.f25 (F25k uu) (L1 (S25_3ok uu))
def F47 (uu:Nat) (a0:PV):Option (Bool):=
 bif (bif (bif (bif (bif (decide ((((a0.fld 3).asList).length:Int)>(0:Int))) then (((a0.fld 0).asInt) != (11:Int)) else false) then true else (bif (decide ((((a0.fld 4).asList).length:Int)>(0:Int))) then (((a0.fld 0).asInt) != (12:Int)) else false)) then true else (bif (decide ((((a0.fld 5).asList).length:Int)>(0:Int))) then (((a0.fld 0).asInt) != (10:Int)) else false)) then true else (bif (decide ((((a0.fld 6).asList).length:Int)>(0:Int))) then (((a0.fld 0).asInt) != (10:Int)) else false)) then
 some true
 else
 let x32:=bif (((a0.fld 0).asInt)==(7:Int)) then true else (((a0.fld 0).asInt)==(8:Int))
 bif (bif (!(((a0.fld 2).asStr)==([]:List UInt8))) then (!x32) else false) then
 some true
 else
 some (bif (((a0.fld 1).asInt) != (0:Int)) then (bif (bif (bif x32 then true else (((a0.fld 0).asInt)==(11:Int))) then true else (((a0.fld 0).asInt)==(12:Int))) then true else (((a0.fld 0).asInt)==(10:Int))) else false)
def F47c (uu:Nat):CallE:=⟨47,⟨1,[],[(.data 33)]⟩,⟨1,[],[.bool]⟩,fun x=>F47 uu x,false⟩
theorem F47ok (uu:Nat):(F47c uu).Ok Tryz.prog:=okJ Tryz.f47 82 0 uu [] [] false (q0) (p0) L0
def S49_3 (uu:Nat) (a1:Int) (a2:Unit) (a3:Int) (a4:PV):Option ((Int×Unit×Int×PV)⊕((Bool×PV)⊕(PV))):=
 bif (decide (a3<(((a4.fld 5).asList).length:Int))) then
 let x8:=(a4.fld 5).asList
 bif aab a3 x8.length then
 bif (((x8.getD a3.toNat .bad).fld 0).asInt==a1) then
 some (.inr (.inl (true,a4)))
 else
 some (.inl (a1,(),(IntKind.wrap .i64 (a3+(1:Int))),a4))
 else none
 else
 some (.inr (.inr a4))
def S49_3step (uu:Nat) (x:Int×Unit×Int×PV):Option ((Int×Unit×Int×PV)⊕((Bool×PV)⊕(PV))):=S49_3 uu x.1 x.2.1 x.2.2.1 x.2.2.2
def F49 (uu:Nat) (a0:PV) (a1:Int):Option (Bool):=
 (aag uu (S49_3step uu) (a1,(),(0:Int),a0)).bind fun z=>sumE (fun y14=>
 some y14.1
 ) (fun y15=>
 some false
 ) z
def S49_3l (uu:Nat):LoopE:=⟨3,⟨[1,2,5],bx23,(.int .i64)::sv42⟩,[(.ret,⟨[4],bx23,[.bool,(.data 33)]⟩),(.exit 0,⟨[],bx23,[(.data 33)]⟩)],S49_3step uu⟩
def F49C (uu:Nat):Cfg:=cfg Tryz.prog 21 0 [] [S49_3l uu] uu
def F49c (uu:Nat):CallE:=⟨49,⟨2,[],[(.data 33),(.int .i64)]⟩,⟨1,[],[.bool]⟩,fun x=>F49 uu x.1 x.2,false⟩
theorem F49k (uu:Nat):aan (F49C uu):=aae (q0) (p0)
theorem S49_3ok (uu:Nat):LoopOk (F49C uu) (lp (aam Tryz.f49) 0):=okL (F49k uu) uu (S49_3l uu) L0
theorem F49ok (uu:Nat):(F49c uu).Ok Tryz.prog:=okE Tryz.f49 (F49k uu) (L1 (S49_3ok uu))
abbrev S77_3x:=Int×Unit×Unit×Int×PV×PV
abbrev S77_3y:=(Unit×Bool×PV×PV)⊕(Unit×PV×PV)
def S77_3 (uu:Nat) (a1:Int) (a2:Unit) (a3:Unit) (a4:Int) (a5:PV) (a6:PV):Option (S77_3x⊕S77_3y):=
 bif (decide (a4<(((a5.fld 1).asList).length:Int))) then
 let x10:=(a5.fld 1).asList
 bif aab a4 x10.length then
 bif (((x10.getD a4.toNat .bad).fld 0).asInt==a1) then
 let x15:=(a5.fld 1).asList
 bif aab a4 x15.length then
 some (.inr (.inl ((),true,a5,(x15.getD a4.toNat .bad))))
 else none
 else
 some (.inl (a1,(),(),(IntKind.wrap .i64 (a4+(1:Int))),a5,a6))
 else none
 else
 some (.inr (.inr ((),a5,a6)))
def S77_3step (uu:Nat) (x:S77_3x):Option (S77_3x⊕S77_3y):=S77_3 uu x.1 x.2.1 x.2.2.1 x.2.2.2.1 x.2.2.2.2.1 x.2.2.2.2.2
def F77 (uu:Nat) (a0:PV) (a1:Int):Option (PV×Bool):=
 (aag uu (S77_3step uu) (a1,(),(),(0:Int),a0,(PV.agg [(PV.int (0:Int)),(PV.str ([]:List UInt8)),(PV.int (0:Int)),(PV.int (0:Int)),(PV.agg [(PV.int (0:Int)),(PV.str ([]:List UInt8))]),(PV.str ([]:List UInt8)),(PV.bool false),(PV.agg [(PV.int (0:Int)),(PV.int (0:Int)),(PV.str ([]:List UInt8)),(PV.slice []),(PV.slice []),(PV.slice []),(PV.slice [])]),(PV.slice [])]))).bind fun z=>sumE (fun y18=>
 some (y18.2.2.2,y18.2.1)
 ) (fun y19=>
 some ((PV.agg [(PV.int (0:Int)),(PV.str ([]:List UInt8)),(PV.int (0:Int)),(PV.int (0:Int)),(PV.agg [(PV.int (0:Int)),(PV.str ([]:List UInt8))]),(PV.str ([]:List UInt8)),(PV.bool false),(PV.agg [(PV.int (0:Int)),(PV.int (0:Int)),(PV.str ([]:List UInt8)),(PV.slice []),(PV.slice []),(PV.slice []),(PV.slice [])]),(PV.slice [])]),false)
 ) z
def S77_3l (uu:Nat):LoopE:=⟨3,⟨[1,2,4,6],bx14,(.int .i64)::(.con (.ref 0 [] 50))::(.con (.ref 1 [] 52))::(.int .i64)::sv27⟩,[(.ret,⟨[4,5],bx14,(.con (.ref 1 [] 52))::sv28⟩),(.exit 0,⟨[4],bx14,(.con (.ref 1 [] 52))::sv27⟩)],S77_3step uu⟩
def F77C (uu:Nat):Cfg:=cfg Tryz.prog 28 0 [] [S77_3l uu] uu
def F77c (uu:Nat):CallE:=⟨77,⟨2,[],sv7⟩,⟨2,[],[(.data 52),.bool]⟩,fun x=>F77 uu x.1 x.2,(PV.bad,false)⟩
theorem F77k (uu:Nat):aan (F77C uu):=aae (q0) (p0)
theorem S77_3ok (uu:Nat):LoopOk (F77C uu) (lp (aam Tryz.f77) 0):=okL (F77k uu) uu (S77_3l uu) L0
theorem F77ok (uu:Nat):(F77c uu).Ok Tryz.prog:=okE Tryz.f77 (F77k uu) (L1 (S77_3ok uu))
abbrev S79_3x:=(List UInt8)×Unit×Unit×Int×PV×PV
abbrev S79_3y:=(Unit×Bool×PV×PV)⊕(Unit×PV×PV)
def S79_3 (uu:Nat) (a1:List UInt8) (a2:Unit) (a3:Unit) (a4:Int) (a5:PV) (a6:PV):Option (S79_3x⊕S79_3y):=
 bif (decide (a4<(((a5.fld 1).asList).length:Int))) then
 let x10:=(a5.fld 1).asList
 bif aab a4 x10.length then
 bif (((x10.getD a4.toNat .bad).fld 0).asStr==a1) then
 let x15:=(a5.fld 1).asList
 bif aab a4 x15.length then
 some (.inr (.inl ((),true,a5,(x15.getD a4.toNat .bad))))
 else none
 else
 some (.inl (a1,(),(),(IntKind.wrap .i64 (a4+(1:Int))),a5,a6))
 else none
 else
 some (.inr (.inr ((),a5,a6)))
def S79_3step (uu:Nat) (x:S79_3x):Option (S79_3x⊕S79_3y):=S79_3 uu x.1 x.2.1 x.2.2.1 x.2.2.2.1 x.2.2.2.2.1 x.2.2.2.2.2
def F79 (uu:Nat) (a0:PV) (a1:List UInt8):Option (PV×Bool):=
 (aag uu (S79_3step uu) (a1,(),(),(0:Int),a0,(PV.agg [(PV.str ([]:List UInt8)),(PV.bool false),(PV.slice []),(PV.slice []),(PV.slice [])]))).bind fun z=>sumE (fun y18=>
 some (y18.2.2.2,y18.2.1)
 ) (fun y19=>
 some ((PV.agg [(PV.str ([]:List UInt8)),(PV.bool false),(PV.slice []),(PV.slice []),(PV.slice [])]),false)
 ) z
def S79_3l (uu:Nat):LoopE:=⟨3,⟨[1,2,4,6],bx24,.str::(.con (.ref 0 [] 26))::(.con (.ref 1 [] 58))::(.int .i64)::sv43⟩,[(.ret,⟨[4,5],bx24,(.con (.ref 1 [] 58))::.bool::sv43⟩),(.exit 0,⟨[4],bx24,(.con (.ref 1 [] 58))::sv43⟩)],S79_3step uu⟩
def F79C (uu:Nat):Cfg:=cfg Tryz.prog 28 0 [] [S79_3l uu] uu
def F79c (uu:Nat):CallE:=⟨79,⟨2,[],sv2⟩,⟨2,[],[(.data 58),.bool]⟩,fun x=>F79 uu x.1 x.2,(PV.bad,false)⟩
theorem F79k (uu:Nat):aan (F79C uu):=aae (q0) (p0)
theorem S79_3ok (uu:Nat):LoopOk (F79C uu) (lp (aam Tryz.f79) 0):=okL (F79k uu) uu (S79_3l uu) L0
theorem F79ok (uu:Nat):(F79c uu).Ok Tryz.prog:=okE Tryz.f79 (F79k uu) (L1 (S79_3ok uu))
def S80_3 (uu:Nat) (a1:Int) (a2:Unit) (a3:Int) (a4:PV):Option ((Int×Unit×Int×PV)⊕((Bool×PV)⊕(PV))):=
 bif (decide (a3<(((a4.fld 2).asList).length:Int))) then
 let x8:=(a4.fld 2).asList
 bif aab a3 x8.length then
 let x12:=decide (((x8.getD a3.toNat .bad).fld 1).asInt≥(0:Int))
 let x13:=(a4.fld 2).asList
 bif imp x12 (aab a3 x13.length) then
 bif (bif x12 then ((IntKind.wrap .u64 ((x13.getD a3.toNat .bad).fld 1).asInt)==a1) else false) then
 some (.inr (.inl (true,a4)))
 else
 some (.inl (a1,(),(IntKind.wrap .i64 (a3+(1:Int))),a4))
 else none
 else none
 else
 some (.inr (.inr a4))
def S80_3step (uu:Nat) (x:Int×Unit×Int×PV):Option ((Int×Unit×Int×PV)⊕((Bool×PV)⊕(PV))):=S80_3 uu x.1 x.2.1 x.2.2.1 x.2.2.2
def F80 (uu:Nat) (a0:PV) (a1:Int):Option (Bool):=
 (aag uu (S80_3step uu) (a1,(),(0:Int),a0)).bind fun z=>sumE (fun y21=>
 some y21.1
 ) (fun y22=>
 some false
 ) z
def S80_3l (uu:Nat):LoopE:=⟨3,⟨[1,2,5],[.box 58 .leaf],[(.int .u64),(.con (.ref 0 [] 58)),(.int .i64),(.data 58)]⟩,[(.ret,⟨[4],[.box 58 .leaf],[.bool,(.data 58)]⟩),(.exit 0,⟨[],[.box 58 .leaf],[(.data 58)]⟩)],S80_3step uu⟩
def F80C (uu:Nat):Cfg:=cfg Tryz.prog 31 0 [] [S80_3l uu] uu
def F80c (uu:Nat):CallE:=⟨80,⟨2,[],[(.data 58),(.int .u64)]⟩,⟨1,[],[.bool]⟩,fun x=>F80 uu x.1 x.2,false⟩
theorem F80k (uu:Nat):aan (F80C uu):=aae (q0) (p0)
theorem S80_3ok (uu:Nat):LoopOk (F80C uu) (lp (aam Tryz.f80) 0):=okL (F80k uu) uu (S80_3l uu) L0
theorem F80ok (uu:Nat):(F80c uu).Ok Tryz.prog:=okE Tryz.f80 (F80k uu) (L1 (S80_3ok uu))
def F50 (uu:Nat) (a0:PV) (a1:PV) (a2:PV):Option (Int):=
 let x8:=bif (bif (((a2.fld 1).asInt)==(0:Int)) then true else (((a2.fld 1).asInt)==(1:Int))) then true else (((a2.fld 1).asInt)==(2:Int))
 bif (bif (bif (bif (bif (bif (decide (((a2.fld 0).asInt)<(1:Int))) then true else (decide (((a2.fld 0).asInt)>(65535:Int)))) then true else (decide (((a2.fld 1).asInt)<(0:Int)))) then true else (decide (((a2.fld 1).asInt)>(6:Int)))) then true else (bif x8 then (!(((a2.fld 3).asStr)==([]:List UInt8))) else false)) then true else (bif (!x8) then (((a2.fld 2).asInt) != (0:Int)) else false)) then
 some (1:Int)
 else
 (F77 uu a1 ((a2.fld 0).asInt)).bind fun y30=>
 let x31:=y30.1
 bif y30.2 then
 (F79 uu a0 (((x31.fld 4).fld 1).asStr)).bind fun y34=>
 let x35:=y34.1
 let x51:=bif (bif (bif (bif (bif ((((x31.fld 4).fld 0).asInt) != (9:Int)) then true else (!y34.2)) then true else ((x35.fld 1).asBool)) then true else (((x31.fld 2).asInt)==(5:Int))) then true else (((a2.fld 1).asInt) != (0:Int))) then true else (decide (((a2.fld 2).asInt)≥(2147483648:Int)))
 (bif !x51 then F80 uu x35 ((a2.fld 2).asInt) else some false).bind fun y53=>
 bif (bif x51 then true else y53) then
 some (1:Int)
 else
 bif (bif (bif (((a2.fld 1).asInt)==(3:Int)) then (decide ((((a2.fld 3).asStr).length:Int)>(4096:Int))) else false) then true else (decide ((((a2.fld 3).asStr).length:Int)>(65536:Int)))) then
 some (3:Int)
 else
 some (0:Int)
 else
 bif (bif (bif (((a2.fld 1).asInt)==(3:Int)) then (decide ((((a2.fld 3).asStr).length:Int)>(4096:Int))) else false) then true else (decide ((((a2.fld 3).asStr).length:Int)>(65536:Int)))) then
 some (3:Int)
 else
 some (0:Int)
def F50c (uu:Nat):CallE:=⟨50,⟨3,[],[(.data 26),(.data 50),(.data 129)]⟩,⟨1,[],[(.int .i64)]⟩,fun x=>F50 uu x.1 x.2.1 x.2.2,0⟩
theorem F50ok (uu:Nat):(F50c uu).Ok Tryz.prog:=okJ Tryz.f50 124 0 uu _ [] false (qc (F77ok uu)<|qc (F79ok uu)<|qc (F80ok uu)<|q0) (p0) L0
def F114 (uu:Nat) (a0:Int) (a1:PV):Option (Int):=
 let x2:=((a1.fld 0).asInt) != a0
 (bif !x2 then F47 uu a1 else some false).bind fun y3=>
 bif (bif x2 then true else y3) then
 some (12:Int)
 else
 bif (decide ((((a1.fld 2).asStr).length:Int)>(4096:Int))) then
 some (3:Int)
 else
 (F109 uu a0 a1).bind fun y8=>
 bif (!y8) then
 bif (a0==(7:Int)) then
 some (7:Int)
 else
 some (12:Int)
 else
 some (0:Int)
def F114c (uu:Nat):CallE:=⟨114,⟨2,[],sv29⟩,⟨1,[],[(.int .i64)]⟩,fun x=>F114 uu x.1 x.2,0⟩
theorem F114ok (uu:Nat):(F114c uu).Ok Tryz.prog:=okJ Tryz.f114 23 0 uu _ [] false (qc (F47ok uu)<|qc (F109ok uu)<|q0) (p0) L0
def B26c (r:(PV×PV×PV×Int×Bool)->Option (Int)):CallE:=⟨26,⟨5,[],(.data 26)::(.data 50)::sv44⟩,⟨1,[],[(.int .i64)]⟩,r,0⟩
def B48c (r:(PV×PV×PV×Int×Int×Bool)->Option (Int)):CallE:=⟨48,⟨6,[],(.data 26)::(.data 50)::(.data 33)::(.int .i64)::sv17⟩,⟨1,[],[(.int .i64)]⟩,r,0⟩
def B78c (r:(PV×PV×PV×Int×Bool)->Option (Int)):CallE:=⟨78,⟨5,[],(.data 26)::(.data 52)::sv44⟩,⟨1,[],[(.int .i64)]⟩,r,0⟩
def B113c (r:(PV×PV×PV×Int×Bool)->Option (Int)):CallE:=⟨113,⟨5,[],(.data 26)::(.data 44)::sv44⟩,⟨1,[],[(.int .i64)]⟩,r,0⟩
abbrev B26_7x:=Int×Bool×Unit×Unit×Unit×Int×PV×PV×PV
abbrev B26_7y:=(Int×PV×PV×PV)⊕(Unit×Unit×Unit×PV×PV×PV)
def B26_7 (uu:Nat) (r0:(PV×PV×PV×Int×Bool)->Option (Int)) (r1:(PV×PV×PV×Int×Int×Bool)->Option (Int)) (r2:(PV×PV×PV×Int×Bool)->Option (Int)) (r3:(PV×PV×PV×Int×Bool)->Option (Int)) (a6:Int) (a7:Bool) (a8:Unit) (a9:Unit) (a10:Unit) (a11:Int) (a12:PV) (a13:PV) (a14:PV):Option (B26_7x⊕B26_7y):=
 bif (decide (a11<(((a14.fld 5).asList).length:Int))) then
 (r1 (a12,a13,a14,a11,a6,a7)).bind fun y18=>
 bif (y18 != (0:Int)) then
 some (.inr (.inl (y18,a12,a13,a14)))
 else
 some (.inl (a6,a7,(),(),(),(IntKind.wrap .i64 (a11+(1:Int))),a12,a13,a14))
 else
 some (.inr (.inr ((),(),(),a12,a13,a14)))
def B26_7step (uu:Nat) (r0:(PV×PV×PV×Int×Bool)->Option (Int)) (r1:(PV×PV×PV×Int×Int×Bool)->Option (Int)) (r2:(PV×PV×PV×Int×Bool)->Option (Int)) (r3:(PV×PV×PV×Int×Bool)->Option (Int)) (x:B26_7x):Option (B26_7x⊕B26_7y):=B26_7 uu r0 r1 r2 r3 x.1 x.2.1 x.2.2.1 x.2.2.2.1 x.2.2.2.2.1 x.2.2.2.2.2.1 x.2.2.2.2.2.2.1 x.2.2.2.2.2.2.2.1 x.2.2.2.2.2.2.2.2
abbrev B26_13x:=Unit×Unit×Unit×Int×PV×PV×PV
abbrev B26_13y:=(Int×PV×PV×PV)⊕(Unit×Unit×Unit×PV×PV×PV)
def B26_13 (uu:Nat) (r0:(PV×PV×PV×Int×Bool)->Option (Int)) (r1:(PV×PV×PV×Int×Int×Bool)->Option (Int)) (r2:(PV×PV×PV×Int×Bool)->Option (Int)) (r3:(PV×PV×PV×Int×Bool)->Option (Int)) (a23:Unit) (a24:Unit) (a25:Unit) (a26:Int) (a27:PV) (a28:PV) (a29:PV):Option (B26_13x⊕B26_13y):=
 bif (decide (a26<(((a28.fld 1).asList).length:Int))) then
 let x33:=(a28.fld 1).asList
 bif aab a26 x33.length then
 let x37:=((x33.getD a26.toNat .bad).fld 2).asInt==(1:Int)
 let x38:=(a28.fld 1).asList
 bif imp x37 (aab a26 x38.length) then
 (bif x37 then F49 uu a29 ((x38.getD a26.toNat .bad).fld 0).asInt else some false).bind fun y42=>
 bif (bif x37 then (!y42) else false) then
 some (.inr (.inl ((14:Int),a27,a28,a29)))
 else
 some (.inl ((),(),(),(IntKind.wrap .i64 (a26+(1:Int))),a27,a28,a29))
 else none
 else none
 else
 some (.inr (.inr ((),(),(),a27,a28,a29)))
def B26_13step (uu:Nat) (r0:(PV×PV×PV×Int×Bool)->Option (Int)) (r1:(PV×PV×PV×Int×Int×Bool)->Option (Int)) (r2:(PV×PV×PV×Int×Bool)->Option (Int)) (r3:(PV×PV×PV×Int×Bool)->Option (Int)) (x:B26_13x):Option (B26_13x⊕B26_13y):=B26_13 uu r0 r1 r2 r3 x.1 x.2.1 x.2.2.1 x.2.2.2.1 x.2.2.2.2.1 x.2.2.2.2.2.1 x.2.2.2.2.2.2
abbrev B26_18x:=Unit×Unit×Unit×Int×PV×PV×PV
abbrev B26_18y:=(Int×PV×PV×PV)⊕(PV×PV×PV)
def B26_18 (uu:Nat) (r0:(PV×PV×PV×Int×Bool)->Option (Int)) (r1:(PV×PV×PV×Int×Int×Bool)->Option (Int)) (r2:(PV×PV×PV×Int×Bool)->Option (Int)) (r3:(PV×PV×PV×Int×Bool)->Option (Int)) (a48:Unit) (a49:Unit) (a50:Unit) (a51:Int) (a52:PV) (a53:PV) (a54:PV):Option (B26_18x⊕B26_18y):=
 bif (decide (a51<(((a54.fld 6).asList).length:Int))) then
 let x58:=(a54.fld 6).asList
 bif aab a51 x58.length then
 (F50 uu a52 a53 (x58.getD a51.toNat .bad)).bind fun y60=>
 bif (y60 != (0:Int)) then
 some (.inr (.inl (y60,a52,a53,a54)))
 else
 some (.inl ((),(),(),(IntKind.wrap .i64 (a51+(1:Int))),a52,a53,a54))
 else none
 else
 some (.inr (.inr (a52,a53,a54)))
def B26_18step (uu:Nat) (r0:(PV×PV×PV×Int×Bool)->Option (Int)) (r1:(PV×PV×PV×Int×Int×Bool)->Option (Int)) (r2:(PV×PV×PV×Int×Bool)->Option (Int)) (r3:(PV×PV×PV×Int×Bool)->Option (Int)) (x:B26_18x):Option (B26_18x⊕B26_18y):=B26_18 uu r0 r1 r2 r3 x.1 x.2.1 x.2.2.1 x.2.2.2.1 x.2.2.2.2.1 x.2.2.2.2.2.1 x.2.2.2.2.2.2
def B26 (uu:Nat) (r0:(PV×PV×PV×Int×Bool)->Option (Int)) (r1:(PV×PV×PV×Int×Int×Bool)->Option (Int)) (r2:(PV×PV×PV×Int×Bool)->Option (Int)) (r3:(PV×PV×PV×Int×Bool)->Option (Int)) (a0:PV) (a1:PV) (a2:PV) (a3:Int) (a4:Bool):Option (Int):=
 let x2:=((a2.fld 0).asInt) != (10:Int)
 (bif !x2 then F47 uu a2 else some false).bind fun y3=>
 bif (bif x2 then true else y3) then
 some (12:Int)
 else
 bif (decide (a3>(16:Int))) then
 some (17:Int)
 else
 (aag uu (B26_7step uu r0 r1 r2 r3) (a3,a4,(),(),(),(0:Int),a0,a1,a2)).bind fun z=>sumE (fun y21=>
 some y21.1
 ) (fun y22=>
 (aag uu (B26_13step uu r0 r1 r2 r3) ((),(),(),(0:Int),y22.2.2.2.1,y22.2.2.2.2.1,y22.2.2.2.2.2)).bind fun z=>sumE (fun y46=>
 some y46.1
 ) (fun y47=>
 (aag uu (B26_18step uu r0 r1 r2 r3) ((),(),(),(0:Int),y47.2.2.2.1,y47.2.2.2.2.1,y47.2.2.2.2.2)).bind fun z=>sumE (fun y63=>
 some y63.1
 ) (fun y64=>
 some (0:Int)
 ) z
 ) z
 ) z
def B26_7l (uu:Nat) (r0:(PV×PV×PV×Int×Bool)->Option (Int)) (r1:(PV×PV×PV×Int×Int×Bool)->Option (Int)) (r2:(PV×PV×PV×Int×Bool)->Option (Int)) (r3:(PV×PV×PV×Int×Bool)->Option (Int)):LoopE:=⟨7,⟨[3,4,5,6,7,11],bx25,(.int .i64)::.bool::sv45⟩,[(.ret,⟨[10],bx25,sv46⟩),(.exit 0,⟨[5,6,7],bx25,(.con (.ref 0 [] 26))::(.con (.ref 1 [] 50))::(.con (.ref 2 [] 33))::sv47⟩)],B26_7step uu r0 r1 r2 r3⟩
def B26_13l (uu:Nat) (r0:(PV×PV×PV×Int×Bool)->Option (Int)) (r1:(PV×PV×PV×Int×Int×Bool)->Option (Int)) (r2:(PV×PV×PV×Int×Bool)->Option (Int)) (r3:(PV×PV×PV×Int×Bool)->Option (Int)):LoopE:=⟨13,⟨[5,6,7,13],bx25,sv45⟩,[(.ret,⟨[10],bx25,sv46⟩),(.exit 2,⟨[5,6,7],bx25,(.con (.ref 0 [] 26))::(.con (.ref 1 [] 50))::(.con (.ref 2 [] 33))::sv47⟩)],B26_13step uu r0 r1 r2 r3⟩
def B26_18l (uu:Nat) (r0:(PV×PV×PV×Int×Bool)->Option (Int)) (r1:(PV×PV×PV×Int×Int×Bool)->Option (Int)) (r2:(PV×PV×PV×Int×Bool)->Option (Int)) (r3:(PV×PV×PV×Int×Bool)->Option (Int)):LoopE:=⟨18,⟨[5,6,7,14],bx25,sv45⟩,[(.ret,⟨[10],bx25,sv46⟩),(.exit 4,⟨[],bx25,sv47⟩)],B26_18step uu r0 r1 r2 r3⟩
def B26C (uu:Nat) (r0:(PV×PV×PV×Int×Bool)->Option (Int)) (r1:(PV×PV×PV×Int×Int×Bool)->Option (Int)) (r2:(PV×PV×PV×Int×Bool)->Option (Int)) (r3:(PV×PV×PV×Int×Bool)->Option (Int)):Cfg:=cfg Tryz.prog 85 0 [F47c uu,B48c r1,F49c uu,F50c uu] [B26_7l uu r0 r1 r2 r3,B26_13l uu r0 r1 r2 r3,B26_18l uu r0 r1 r2 r3] uu
theorem B26k (uu:Nat) (r0:(PV×PV×PV×Int×Bool)->Option (Int)) (r1:(PV×PV×PV×Int×Int×Bool)->Option (Int)) (r2:(PV×PV×PV×Int×Bool)->Option (Int)) (r3:(PV×PV×PV×Int×Bool)->Option (Int)) (h0:(B26c r0).Ok Tryz.prog) (h1:(B48c r1).Ok Tryz.prog) (h2:(B78c r2).Ok Tryz.prog) (h3:(B113c r3).Ok Tryz.prog):aan (B26C uu r0 r1 r2 r3):=aae (qc (F47ok uu)<|qc h1<|qc (F49ok uu)<|qc (F50ok uu)<|q0) (p0)
theorem B26_7ok (uu:Nat) (r0:(PV×PV×PV×Int×Bool)->Option (Int)) (r1:(PV×PV×PV×Int×Int×Bool)->Option (Int)) (r2:(PV×PV×PV×Int×Bool)->Option (Int)) (r3:(PV×PV×PV×Int×Bool)->Option (Int)) (h0:(B26c r0).Ok Tryz.prog) (h1:(B48c r1).Ok Tryz.prog) (h2:(B78c r2).Ok Tryz.prog) (h3:(B113c r3).Ok Tryz.prog):LoopOk (B26C uu r0 r1 r2 r3) (lp (aam Tryz.f26) 0):=okL (B26k uu r0 r1 r2 r3 h0 h1 h2 h3) uu (B26_7l uu r0 r1 r2 r3) L0
theorem B26_13ok (uu:Nat) (r0:(PV×PV×PV×Int×Bool)->Option (Int)) (r1:(PV×PV×PV×Int×Int×Bool)->Option (Int)) (r2:(PV×PV×PV×Int×Bool)->Option (Int)) (r3:(PV×PV×PV×Int×Bool)->Option (Int)) (h0:(B26c r0).Ok Tryz.prog) (h1:(B48c r1).Ok Tryz.prog) (h2:(B78c r2).Ok Tryz.prog) (h3:(B113c r3).Ok Tryz.prog):LoopOk (B26C uu r0 r1 r2 r3) (lp (aam Tryz.f26) 1):=okL (B26k uu r0 r1 r2 r3 h0 h1 h2 h3) uu (B26_13l uu r0 r1 r2 r3) L0
theorem B26_18ok (uu:Nat) (r0:(PV×PV×PV×Int×Bool)->Option (Int)) (r1:(PV×PV×PV×Int×Int×Bool)->Option (Int)) (r2:(PV×PV×PV×Int×Bool)->Option (Int)) (r3:(PV×PV×PV×Int×Bool)->Option (Int)) (h0:(B26c r0).Ok Tryz.prog) (h1:(B48c r1).Ok Tryz.prog) (h2:(B78c r2).Ok Tryz.prog) (h3:(B113c r3).Ok Tryz.prog):LoopOk (B26C uu r0 r1 r2 r3) (lp (aam Tryz.f26) 2):=okL (B26k uu r0 r1 r2 r3 h0 h1 h2 h3) uu (B26_18l uu r0 r1 r2 r3) L0
theorem B26ok (uu:Nat) (r0:(PV×PV×PV×Int×Bool)->Option (Int)) (r1:(PV×PV×PV×Int×Int×Bool)->Option (Int)) (r2:(PV×PV×PV×Int×Bool)->Option (Int)) (r3:(PV×PV×PV×Int×Bool)->Option (Int)) (h0:(B26c r0).Ok Tryz.prog) (h1:(B48c r1).Ok Tryz.prog) (h2:(B78c r2).Ok Tryz.prog) (h3:(B113c r3).Ok Tryz.prog):(B26c (fun x=>B26 uu r0 r1 r2 r3 x.1 x.2.1 x.2.2.1 x.2.2.2.1 x.2.2.2.2)).Ok Tryz.prog:=okE Tryz.f26 (B26k uu r0 r1 r2 r3 h0 h1 h2 h3) (L3 (B26_7ok uu r0 r1 r2 r3 h0 h1 h2 h3) (B26_13ok uu r0 r1 r2 r3 h0 h1 h2 h3) (B26_18ok uu r0 r1 r2 r3 h0 h1 h2 h3))
abbrev B48_6x:=Int×Int×Bool×Unit×Unit×Unit×Unit×Int×PV×PV×PV×PV
abbrev B48_6y:=(Int×PV×PV×PV×PV)⊕(Int×Int×Bool×Unit×Unit×Unit×Unit×PV×PV×PV×PV)
def B48_6 (uu:Nat) (r0:(PV×PV×PV×Int×Bool)->Option (Int)) (r1:(PV×PV×PV×Int×Int×Bool)->Option (Int)) (r2:(PV×PV×PV×Int×Bool)->Option (Int)) (r3:(PV×PV×PV×Int×Bool)->Option (Int)) (a9:Int) (a10:Int) (a11:Bool) (a12:Unit) (a13:Unit) (a14:Unit) (a15:Unit) (a16:Int) (a17:PV) (a18:PV) (a19:PV) (a20:PV):Option (B48_6x⊕B48_6y):=
 bif (decide (a16<a9)) then
 let x22:=(a19.fld 5).asList
 bif aab a16 x22.length then
 bif (((x22.getD a16.toNat .bad).fld 0).asInt==((a20.fld 0).asInt)) then
 some (.inr (.inl ((9:Int),a17,a18,a19,a20)))
 else
 some (.inl (a9,a10,a11,(),(),(),(),(IntKind.wrap .i64 (a16+(1:Int))),a17,a18,a19,a20))
 else none
 else
 some (.inr (.inr (a9,a10,a11,(),(),(),(),a17,a18,a19,a20)))
def B48_6step (uu:Nat) (r0:(PV×PV×PV×Int×Bool)->Option (Int)) (r1:(PV×PV×PV×Int×Int×Bool)->Option (Int)) (r2:(PV×PV×PV×Int×Bool)->Option (Int)) (r3:(PV×PV×PV×Int×Bool)->Option (Int)) (x:B48_6x):Option (B48_6x⊕B48_6y):=B48_6 uu r0 r1 r2 r3 x.1 x.2.1 x.2.2.1 x.2.2.2.1 x.2.2.2.2.1 x.2.2.2.2.2.1 x.2.2.2.2.2.2.1 x.2.2.2.2.2.2.2.1 x.2.2.2.2.2.2.2.2.1 x.2.2.2.2.2.2.2.2.2.1 x.2.2.2.2.2.2.2.2.2.2.1 x.2.2.2.2.2.2.2.2.2.2.2
abbrev B48_11x:=Int×Int×Bool×Unit×Unit×Unit×Unit×Int×PV×PV×PV×PV
abbrev B48_11y:=(Int×PV×PV×PV×PV)⊕(Int×Int×Bool×Unit×Unit×Unit×PV×PV×PV×PV)
def B48_11 (uu:Nat) (r0:(PV×PV×PV×Int×Bool)->Option (Int)) (r1:(PV×PV×PV×Int×Int×Bool)->Option (Int)) (r2:(PV×PV×PV×Int×Bool)->Option (Int)) (r3:(PV×PV×PV×Int×Bool)->Option (Int)) (a31:Int) (a32:Int) (a33:Bool) (a34:Unit) (a35:Unit) (a36:Unit) (a37:Unit) (a38:Int) (a39:PV) (a40:PV) (a41:PV) (a42:PV):Option (B48_11x⊕B48_11y):=
 bif (decide (a38<a31)) then
 let x44:=(a41.fld 5).asList
 bif aab a38 x44.length then
 (F77 uu a40 ((x44.getD a38.toNat .bad).fld 0).asInt).bind fun y48=>
 bif (bif (!(((a42.fld 5).asStr)==([]:List UInt8))) then (((y48.1.fld 5).asStr)==((a42.fld 5).asStr)) else false) then
 some (.inr (.inl ((15:Int),a39,a40,a41,a42)))
 else
 some (.inl (a31,a32,a33,(),(),(),(),(IntKind.wrap .i64 (a38+(1:Int))),a39,a40,a41,a42))
 else none
 else
 some (.inr (.inr (a31,a32,a33,(),(),(),a39,a40,a41,a42)))
def B48_11step (uu:Nat) (r0:(PV×PV×PV×Int×Bool)->Option (Int)) (r1:(PV×PV×PV×Int×Int×Bool)->Option (Int)) (r2:(PV×PV×PV×Int×Bool)->Option (Int)) (r3:(PV×PV×PV×Int×Bool)->Option (Int)) (x:B48_11x):Option (B48_11x⊕B48_11y):=B48_11 uu r0 r1 r2 r3 x.1 x.2.1 x.2.2.1 x.2.2.2.1 x.2.2.2.2.1 x.2.2.2.2.2.1 x.2.2.2.2.2.2.1 x.2.2.2.2.2.2.2.1 x.2.2.2.2.2.2.2.2.1 x.2.2.2.2.2.2.2.2.2.1 x.2.2.2.2.2.2.2.2.2.2.1 x.2.2.2.2.2.2.2.2.2.2.2
def B48 (uu:Nat) (r0:(PV×PV×PV×Int×Bool)->Option (Int)) (r1:(PV×PV×PV×Int×Int×Bool)->Option (Int)) (r2:(PV×PV×PV×Int×Bool)->Option (Int)) (r3:(PV×PV×PV×Int×Bool)->Option (Int)) (a0:PV) (a1:PV) (a2:PV) (a3:Int) (a4:Int) (a5:Bool):Option (Int):=
 let x1:=(a2.fld 5).asList
 bif aab a3 x1.length then
 (F77 uu a1 ((x1.getD a3.toNat .bad).fld 0).asInt).bind fun y5=>
 bif (!y5.2) then
 some (8:Int)
 else
 (aag uu (B48_6step uu r0 r1 r2 r3) (a3,a4,a5,(),(),(),(),(0:Int),a0,a1,a2,y5.1)).bind fun z=>sumE (fun y29=>
 some y29.1
 ) (fun y30=>
 (aag uu (B48_11step uu r0 r1 r2 r3) (y30.1,y30.2.1,y30.2.2.1,(),(),(),(),(0:Int),y30.2.2.2.2.2.2.2.1,y30.2.2.2.2.2.2.2.2.1,y30.2.2.2.2.2.2.2.2.2.1,y30.2.2.2.2.2.2.2.2.2.2)).bind fun z=>sumE (fun y58=>
 some y58.1
 ) (fun y59=>
 let x62:=(y59.2.2.2.2.2.2.2.2.1.fld 5).asList
 let x63:=y59.1
 bif aab x63 x62.length then
 (r2 (y59.2.2.2.2.2.2.1,y59.2.2.2.2.2.2.2.2.2,((x62.getD x63.toNat .bad).fld 1),(IntKind.wrap .i64 (y59.2.1+(1:Int))),y59.2.2.1)).bind fun y69=>
 some y69
 else none
 ) z
 ) z
 else none
def B48_6l (uu:Nat) (r0:(PV×PV×PV×Int×Bool)->Option (Int)) (r1:(PV×PV×PV×Int×Int×Bool)->Option (Int)) (r2:(PV×PV×PV×Int×Bool)->Option (Int)) (r3:(PV×PV×PV×Int×Bool)->Option (Int)):LoopE:=⟨6,⟨[3,4,5,6,7,8,13,15],bx26,(.int .i64)::(.int .i64)::.bool::(.con (.ref 0 [] 26))::(.con (.ref 1 [] 50))::(.con (.ref 2 [] 33))::(.con (.ref 3 [] 52))::sv48⟩,[(.ret,⟨[12],bx26,sv48⟩),(.exit 0,⟨[3,4,5,6,7,8,13],bx26,(.int .i64)::(.int .i64)::.bool::(.con (.ref 0 [] 26))::(.con (.ref 1 [] 50))::(.con (.ref 2 [] 33))::(.con (.ref 3 [] 52))::sv49⟩)],B48_6step uu r0 r1 r2 r3⟩
def B48_11l (uu:Nat) (r0:(PV×PV×PV×Int×Bool)->Option (Int)) (r1:(PV×PV×PV×Int×Int×Bool)->Option (Int)) (r2:(PV×PV×PV×Int×Bool)->Option (Int)) (r3:(PV×PV×PV×Int×Bool)->Option (Int)):LoopE:=⟨11,⟨[3,4,5,6,7,8,13,16],bx26,(.int .i64)::(.int .i64)::.bool::(.con (.ref 0 [] 26))::(.con (.ref 1 [] 50))::(.con (.ref 2 [] 33))::(.con (.ref 3 [] 52))::sv48⟩,[(.ret,⟨[12],bx26,sv48⟩),(.exit 2,⟨[3,4,5,6,8,13],bx26,(.int .i64)::(.int .i64)::.bool::(.con (.ref 0 [] 26))::(.con (.ref 2 [] 33))::(.con (.ref 3 [] 52))::sv49⟩)],B48_11step uu r0 r1 r2 r3⟩
def B48C (uu:Nat) (r0:(PV×PV×PV×Int×Bool)->Option (Int)) (r1:(PV×PV×PV×Int×Int×Bool)->Option (Int)) (r2:(PV×PV×PV×Int×Bool)->Option (Int)) (r3:(PV×PV×PV×Int×Bool)->Option (Int)):Cfg:=cfg Tryz.prog 84 0 [F77c uu,B78c r2] [B48_6l uu r0 r1 r2 r3,B48_11l uu r0 r1 r2 r3] uu
theorem B48k (uu:Nat) (r0:(PV×PV×PV×Int×Bool)->Option (Int)) (r1:(PV×PV×PV×Int×Int×Bool)->Option (Int)) (r2:(PV×PV×PV×Int×Bool)->Option (Int)) (r3:(PV×PV×PV×Int×Bool)->Option (Int)) (h0:(B26c r0).Ok Tryz.prog) (h1:(B48c r1).Ok Tryz.prog) (h2:(B78c r2).Ok Tryz.prog) (h3:(B113c r3).Ok Tryz.prog):aan (B48C uu r0 r1 r2 r3):=aae (qc (F77ok uu)<|qc h2<|q0) (p0)
theorem B48_6ok (uu:Nat) (r0:(PV×PV×PV×Int×Bool)->Option (Int)) (r1:(PV×PV×PV×Int×Int×Bool)->Option (Int)) (r2:(PV×PV×PV×Int×Bool)->Option (Int)) (r3:(PV×PV×PV×Int×Bool)->Option (Int)) (h0:(B26c r0).Ok Tryz.prog) (h1:(B48c r1).Ok Tryz.prog) (h2:(B78c r2).Ok Tryz.prog) (h3:(B113c r3).Ok Tryz.prog):LoopOk (B48C uu r0 r1 r2 r3) (lp (aam Tryz.f48) 0):=okL (B48k uu r0 r1 r2 r3 h0 h1 h2 h3) uu (B48_6l uu r0 r1 r2 r3) L0
theorem B48_11ok (uu:Nat) (r0:(PV×PV×PV×Int×Bool)->Option (Int)) (r1:(PV×PV×PV×Int×Int×Bool)->Option (Int)) (r2:(PV×PV×PV×Int×Bool)->Option (Int)) (r3:(PV×PV×PV×Int×Bool)->Option (Int)) (h0:(B26c r0).Ok Tryz.prog) (h1:(B48c r1).Ok Tryz.prog) (h2:(B78c r2).Ok Tryz.prog) (h3:(B113c r3).Ok Tryz.prog):LoopOk (B48C uu r0 r1 r2 r3) (lp (aam Tryz.f48) 1):=okL (B48k uu r0 r1 r2 r3 h0 h1 h2 h3) uu (B48_11l uu r0 r1 r2 r3) L0
theorem B48ok (uu:Nat) (r0:(PV×PV×PV×Int×Bool)->Option (Int)) (r1:(PV×PV×PV×Int×Int×Bool)->Option (Int)) (r2:(PV×PV×PV×Int×Bool)->Option (Int)) (r3:(PV×PV×PV×Int×Bool)->Option (Int)) (h0:(B26c r0).Ok Tryz.prog) (h1:(B48c r1).Ok Tryz.prog) (h2:(B78c r2).Ok Tryz.prog) (h3:(B113c r3).Ok Tryz.prog):(B48c (fun x=>B48 uu r0 r1 r2 r3 x.1 x.2.1 x.2.2.1 x.2.2.2.1 x.2.2.2.2.1 x.2.2.2.2.2)).Ok Tryz.prog:=okE Tryz.f48 (B48k uu r0 r1 r2 r3 h0 h1 h2 h3) (L2 (B48_6ok uu r0 r1 r2 r3 h0 h1 h2 h3) (B48_11ok uu r0 r1 r2 r3 h0 h1 h2 h3))
abbrev B78_6x:=Int×Bool×Unit×Unit×Unit×Int×PV×PV×PV
abbrev B78_6y:=(Int×PV×PV×PV)⊕(PV×PV×PV)
def B78_6 (uu:Nat) (r0:(PV×PV×PV×Int×Bool)->Option (Int)) (r1:(PV×PV×PV×Int×Int×Bool)->Option (Int)) (r2:(PV×PV×PV×Int×Bool)->Option (Int)) (r3:(PV×PV×PV×Int×Bool)->Option (Int)) (a7:Int) (a8:Bool) (a9:Unit) (a10:Unit) (a11:Unit) (a12:Int) (a13:PV) (a14:PV) (a15:PV):Option (B78_6x⊕B78_6y):=
 bif (decide (a12<(((a15.fld 3).asList).length:Int))) then
 let x20:=(a15.fld 3).asList
 bif aab a12 x20.length then
 (r3 (a13,(a14.fld 4),(x20.getD a12.toNat .bad),a7,a8)).bind fun y22=>
 bif (y22 != (0:Int)) then
 some (.inr (.inl (y22,a13,a14,a15)))
 else
 some (.inl (a7,a8,(),(),(),(IntKind.wrap .i64 (a12+(1:Int))),a13,a14,a15))
 else none
 else
 some (.inr (.inr (a13,a14,a15)))
def B78_6step (uu:Nat) (r0:(PV×PV×PV×Int×Bool)->Option (Int)) (r1:(PV×PV×PV×Int×Int×Bool)->Option (Int)) (r2:(PV×PV×PV×Int×Bool)->Option (Int)) (r3:(PV×PV×PV×Int×Bool)->Option (Int)) (x:B78_6x):Option (B78_6x⊕B78_6y):=B78_6 uu r0 r1 r2 r3 x.1 x.2.1 x.2.2.1 x.2.2.2.1 x.2.2.2.2.1 x.2.2.2.2.2.1 x.2.2.2.2.2.2.1 x.2.2.2.2.2.2.2.1 x.2.2.2.2.2.2.2.2
abbrev B78_22x:=Int×Bool×Unit×Unit×Unit×Int×Int×PV×PV×PV
abbrev B78_22y:=(Int×PV×PV×PV)⊕(Int×Bool×Unit×Unit×Unit×Int×PV×PV×PV)
def B78_22 (uu:Nat) (r0:(PV×PV×PV×Int×Bool)->Option (Int)) (r1:(PV×PV×PV×Int×Int×Bool)->Option (Int)) (r2:(PV×PV×PV×Int×Bool)->Option (Int)) (r3:(PV×PV×PV×Int×Bool)->Option (Int)) (a51:Int) (a52:Bool) (a53:Unit) (a54:Unit) (a55:Unit) (a56:Int) (a57:Int) (a58:PV) (a59:PV) (a60:PV):Option (B78_22x⊕B78_22y):=
 bif (bif (decide (a57<a56)) then a52 else false) then
 let x63:=(a60.fld 4).asList
 bif aab a57 x63.length then
 let x68:=(a60.fld 4).asList
 bif aab a56 x68.length then
 let x73:=(((x63.getD a57.toNat .bad).fld 0).fld 1).asInt==(((x68.getD a56.toNat .bad).fld 0).fld 1).asInt
 let x74:=(a60.fld 4).asList
 bif imp x73 (aab a57 x74.length) then
 let x79:=(a60.fld 4).asList
 bif imp x73 (aab a56 x79.length) then
 bif (bif x73 then ((((x74.getD a57.toNat .bad).fld 0).fld 2).asStr==(((x79.getD a56.toNat .bad).fld 0).fld 2).asStr) else false) then
 some (.inr (.inl ((9:Int),a58,a59,a60)))
 else
 some (.inl (a51,a52,(),(),(),a56,(IntKind.wrap .i64 (a57+(1:Int))),a58,a59,a60))
 else none
 else none
 else none
 else none
 else
 some (.inr (.inr (a51,a52,(),(),(),a56,a58,a59,a60)))
def B78_22step (uu:Nat) (r0:(PV×PV×PV×Int×Bool)->Option (Int)) (r1:(PV×PV×PV×Int×Int×Bool)->Option (Int)) (r2:(PV×PV×PV×Int×Bool)->Option (Int)) (r3:(PV×PV×PV×Int×Bool)->Option (Int)) (x:B78_22x):Option (B78_22x⊕B78_22y):=B78_22 uu r0 r1 r2 r3 x.1 x.2.1 x.2.2.1 x.2.2.2.1 x.2.2.2.2.1 x.2.2.2.2.2.1 x.2.2.2.2.2.2.1 x.2.2.2.2.2.2.2.1 x.2.2.2.2.2.2.2.2.1 x.2.2.2.2.2.2.2.2.2
abbrev B78_16x:=Int×Bool×Unit×Unit×Unit×Int×PV×PV×PV
abbrev B78_16y:=(Int×PV×PV×PV)⊕(PV×PV×PV)
def B78_16 (uu:Nat) (r0:(PV×PV×PV×Int×Bool)->Option (Int)) (r1:(PV×PV×PV×Int×Int×Bool)->Option (Int)) (r2:(PV×PV×PV×Int×Bool)->Option (Int)) (r3:(PV×PV×PV×Int×Bool)->Option (Int)) (a33:Int) (a34:Bool) (a35:Unit) (a36:Unit) (a37:Unit) (a38:Int) (a39:PV) (a40:PV) (a41:PV):Option (B78_16x⊕B78_16y):=
 bif (decide (a38<(((a41.fld 4).asList).length:Int))) then
 let x46:=(a41.fld 4).asList
 bif aab a38 x46.length then
 (F114 uu ((a40.fld 3).asInt) ((x46.getD a38.toNat .bad).fld 0)).bind fun y49=>
 bif (y49 != (0:Int)) then
 some (.inr (.inl (y49,a39,a40,a41)))
 else
 (aag uu (B78_22step uu r0 r1 r2 r3) (a33,a34,(),(),(),a38,(0:Int),a39,a40,a41)).bind fun z=>sumE (fun y87=>
 some (.inr (.inl (y87.1,y87.2.1,y87.2.2.1,y87.2.2.2)))
 ) (fun y88=>
 let x91:=(y88.2.2.2.2.2.2.2.2.fld 4).asList
 let x92:=y88.2.2.2.2.2.1
 bif aab x92 x91.length then
 (r3 (y88.2.2.2.2.2.2.1,(y88.2.2.2.2.2.2.2.1.fld 4),((x91.getD x92.toNat .bad).fld 1),y88.1,y88.2.1)).bind fun y97=>
 bif (y97 != (0:Int)) then
 some (.inr (.inl (y97,y88.2.2.2.2.2.2.1,y88.2.2.2.2.2.2.2.1,y88.2.2.2.2.2.2.2.2)))
 else
 some (.inl (y88.1,y88.2.1,(),(),(),(IntKind.wrap .i64 (y88.2.2.2.2.2.1+(1:Int))),y88.2.2.2.2.2.2.1,y88.2.2.2.2.2.2.2.1,y88.2.2.2.2.2.2.2.2))
 else none
 ) z
 else none
 else
 some (.inr (.inr (a39,a40,a41)))
def B78_16step (uu:Nat) (r0:(PV×PV×PV×Int×Bool)->Option (Int)) (r1:(PV×PV×PV×Int×Int×Bool)->Option (Int)) (r2:(PV×PV×PV×Int×Bool)->Option (Int)) (r3:(PV×PV×PV×Int×Bool)->Option (Int)) (x:B78_16x):Option (B78_16x⊕B78_16y):=B78_16 uu r0 r1 r2 r3 x.1 x.2.1 x.2.2.1 x.2.2.2.1 x.2.2.2.2.1 x.2.2.2.2.2.1 x.2.2.2.2.2.2.1 x.2.2.2.2.2.2.2.1 x.2.2.2.2.2.2.2.2
def B78 (uu:Nat) (r0:(PV×PV×PV×Int×Bool)->Option (Int)) (r1:(PV×PV×PV×Int×Int×Bool)->Option (Int)) (r2:(PV×PV×PV×Int×Bool)->Option (Int)) (r3:(PV×PV×PV×Int×Bool)->Option (Int)) (a0:PV) (a1:PV) (a2:PV) (a3:Int) (a4:Bool):Option (Int):=
 bif (((a1.fld 2).asInt)==(4:Int)) then
 let x4:=((a2.fld 0).asInt) != (11:Int)
 (bif !x4 then F47 uu a2 else some false).bind fun y5=>
 bif (bif x4 then true else y5) then
 some (12:Int)
 else
 (aag uu (B78_6step uu r0 r1 r2 r3) (a3,a4,(),(),(),(0:Int),a0,a1,a2)).bind fun z=>sumE (fun y25=>
 some y25.1
 ) (fun y26=>
 some (0:Int)
 ) z
 else
 bif (((a1.fld 2).asInt)==(5:Int)) then
 let x30:=((a2.fld 0).asInt) != (12:Int)
 (bif !x30 then F47 uu a2 else some false).bind fun y31=>
 bif (bif x30 then true else y31) then
 some (12:Int)
 else
 (aag uu (B78_16step uu r0 r1 r2 r3) (a3,a4,(),(),(),(0:Int),a0,a1,a2)).bind fun z=>sumE (fun y101=>
 some y101.1
 ) (fun y102=>
 some (0:Int)
 ) z
 else
 (r3 (a0,(a1.fld 4),a2,a3,a4)).bind fun y104=>
 some y104
def B78_6l (uu:Nat) (r0:(PV×PV×PV×Int×Bool)->Option (Int)) (r1:(PV×PV×PV×Int×Int×Bool)->Option (Int)) (r2:(PV×PV×PV×Int×Bool)->Option (Int)) (r3:(PV×PV×PV×Int×Bool)->Option (Int)):LoopE:=⟨6,⟨[3,4,5,6,7,11],bx15,sv50⟩,[(.ret,⟨[10],bx15,sv30⟩),(.exit 0,⟨[],bx15,sv31⟩)],B78_6step uu r0 r1 r2 r3⟩
def B78_22l (uu:Nat) (r0:(PV×PV×PV×Int×Bool)->Option (Int)) (r1:(PV×PV×PV×Int×Int×Bool)->Option (Int)) (r2:(PV×PV×PV×Int×Bool)->Option (Int)) (r3:(PV×PV×PV×Int×Bool)->Option (Int)):LoopE:=⟨22,⟨[3,4,5,6,7,13,15],bx15,(.int .i64)::.bool::(.con (.ref 0 [] 26))::(.con (.ref 1 [] 52))::(.con (.ref 2 [] 33))::(.int .i64)::sv30⟩,[(.ret,⟨[10],bx15,sv30⟩),(.exit 4,⟨[3,4,5,6,7,13],bx15,sv50⟩)],B78_22step uu r0 r1 r2 r3⟩
def B78_16l (uu:Nat) (r0:(PV×PV×PV×Int×Bool)->Option (Int)) (r1:(PV×PV×PV×Int×Int×Bool)->Option (Int)) (r2:(PV×PV×PV×Int×Bool)->Option (Int)) (r3:(PV×PV×PV×Int×Bool)->Option (Int)):LoopE:=⟨16,⟨[3,4,5,6,7,13],bx15,sv50⟩,[(.ret,⟨[10],bx15,sv30⟩),(.exit 2,⟨[],bx15,sv31⟩)],B78_16step uu r0 r1 r2 r3⟩
def B78C (uu:Nat) (r0:(PV×PV×PV×Int×Bool)->Option (Int)) (r1:(PV×PV×PV×Int×Int×Bool)->Option (Int)) (r2:(PV×PV×PV×Int×Bool)->Option (Int)) (r3:(PV×PV×PV×Int×Bool)->Option (Int)):Cfg:=cfg Tryz.prog 138 0 [F47c uu,B113c r3,F114c uu] [B78_6l uu r0 r1 r2 r3,B78_22l uu r0 r1 r2 r3,B78_16l uu r0 r1 r2 r3] uu
theorem B78k (uu:Nat) (r0:(PV×PV×PV×Int×Bool)->Option (Int)) (r1:(PV×PV×PV×Int×Int×Bool)->Option (Int)) (r2:(PV×PV×PV×Int×Bool)->Option (Int)) (r3:(PV×PV×PV×Int×Bool)->Option (Int)) (h0:(B26c r0).Ok Tryz.prog) (h1:(B48c r1).Ok Tryz.prog) (h2:(B78c r2).Ok Tryz.prog) (h3:(B113c r3).Ok Tryz.prog):aan (B78C uu r0 r1 r2 r3):=aae (qc (F47ok uu)<|qc h3<|qc (F114ok uu)<|q0) (p0)
theorem B78_6ok (uu:Nat) (r0:(PV×PV×PV×Int×Bool)->Option (Int)) (r1:(PV×PV×PV×Int×Int×Bool)->Option (Int)) (r2:(PV×PV×PV×Int×Bool)->Option (Int)) (r3:(PV×PV×PV×Int×Bool)->Option (Int)) (h0:(B26c r0).Ok Tryz.prog) (h1:(B48c r1).Ok Tryz.prog) (h2:(B78c r2).Ok Tryz.prog) (h3:(B113c r3).Ok Tryz.prog):LoopOk (B78C uu r0 r1 r2 r3) (lp (aam Tryz.f78) 0):=okL (B78k uu r0 r1 r2 r3 h0 h1 h2 h3) uu (B78_6l uu r0 r1 r2 r3) L0
theorem B78_22ok (uu:Nat) (r0:(PV×PV×PV×Int×Bool)->Option (Int)) (r1:(PV×PV×PV×Int×Int×Bool)->Option (Int)) (r2:(PV×PV×PV×Int×Bool)->Option (Int)) (r3:(PV×PV×PV×Int×Bool)->Option (Int)) (h0:(B26c r0).Ok Tryz.prog) (h1:(B48c r1).Ok Tryz.prog) (h2:(B78c r2).Ok Tryz.prog) (h3:(B113c r3).Ok Tryz.prog):LoopOk (B78C uu r0 r1 r2 r3) (lp (lp (aam Tryz.f78) 1) 0):=okL (B78k uu r0 r1 r2 r3 h0 h1 h2 h3) uu (B78_22l uu r0 r1 r2 r3) L0
theorem B78_16ok (uu:Nat) (r0:(PV×PV×PV×Int×Bool)->Option (Int)) (r1:(PV×PV×PV×Int×Int×Bool)->Option (Int)) (r2:(PV×PV×PV×Int×Bool)->Option (Int)) (r3:(PV×PV×PV×Int×Bool)->Option (Int)) (h0:(B26c r0).Ok Tryz.prog) (h1:(B48c r1).Ok Tryz.prog) (h2:(B78c r2).Ok Tryz.prog) (h3:(B113c r3).Ok Tryz.prog):LoopOk (B78C uu r0 r1 r2 r3) (lp (aam Tryz.f78) 1):=okL (B78k uu r0 r1 r2 r3 h0 h1 h2 h3) uu (B78_16l uu r0 r1 r2 r3) (L1 (B78_22ok uu r0 r1 r2 r3 h0 h1 h2 h3))
theorem B78ok (uu:Nat) (r0:(PV×PV×PV×Int×Bool)->Option (Int)) (r1:(PV×PV×PV×Int×Int×Bool)->Option (Int)) (r2:(PV×PV×PV×Int×Bool)->Option (Int)) (r3:(PV×PV×PV×Int×Bool)->Option (Int)) (h0:(B26c r0).Ok Tryz.prog) (h1:(B48c r1).Ok Tryz.prog) (h2:(B78c r2).Ok Tryz.prog) (h3:(B113c r3).Ok Tryz.prog):(B78c (fun x=>B78 uu r0 r1 r2 r3 x.1 x.2.1 x.2.2.1 x.2.2.2.1 x.2.2.2.2)).Ok Tryz.prog:=okE Tryz.f78 (B78k uu r0 r1 r2 r3 h0 h1 h2 h3) (L2 (B78_6ok uu r0 r1 r2 r3 h0 h1 h2 h3) (B78_16ok uu r0 r1 r2 r3 h0 h1 h2 h3))
def B113 (uu:Nat) (r0:(PV×PV×PV×Int×Bool)->Option (Int)) (r1:(PV×PV×PV×Int×Int×Bool)->Option (Int)) (r2:(PV×PV×PV×Int×Bool)->Option (Int)) (r3:(PV×PV×PV×Int×Bool)->Option (Int)) (a0:PV) (a1:PV) (a2:PV) (a3:Int) (a4:Bool):Option (Int):=
 bif (((a1.fld 0).asInt)==(10:Int)) then
 (F25 uu a0 ((a1.fld 1).asStr)).bind fun y4=>
 bif (!y4.2) then
 some (10:Int)
 else
 (r0 (a0,y4.1,a2,a3,a4)).bind fun y8=>
 some y8
 else
 bif (bif (decide (((a1.fld 0).asInt)<(1:Int))) then true else (decide (((a1.fld 0).asInt)>(9:Int)))) then
 some (12:Int)
 else
 (F114 uu ((a1.fld 0).asInt) a2).bind fun y15=>
 bif (bif (y15 != (0:Int)) then true else (((a1.fld 0).asInt) != (9:Int))) then
 some y15
 else
 (F79 uu a0 ((a1.fld 1).asStr)).bind fun y21=>
 let x22:=y21.1
 bif (!y21.2) then
 some (10:Int)
 else
 let x26:=!((x22.fld 1).asBool)
 (bif x26 then F80 uu x22 ((a2.fld 1).asInt) else some false).bind fun y28=>
 bif (bif x26 then (!y28) else false) then
 some (16:Int)
 else
 some (0:Int)
theorem B113ok (uu:Nat) (r0:(PV×PV×PV×Int×Bool)->Option (Int)) (r1:(PV×PV×PV×Int×Int×Bool)->Option (Int)) (r2:(PV×PV×PV×Int×Bool)->Option (Int)) (r3:(PV×PV×PV×Int×Bool)->Option (Int)) (h0:(B26c r0).Ok Tryz.prog) (h1:(B48c r1).Ok Tryz.prog) (h2:(B78c r2).Ok Tryz.prog) (h3:(B113c r3).Ok Tryz.prog):(B113c (fun x=>B113 uu r0 r1 r2 r3 x.1 x.2.1 x.2.2.1 x.2.2.2.1 x.2.2.2.2)).Ok Tryz.prog:=okJ Tryz.f113 73 0 uu _ [] false (qc (F25ok uu)<|qc h0<|qc (F114ok uu)<|qc (F79ok uu)<|qc (F80ok uu)<|q0) (p0) L0
def G26 (uu:Nat):Nat->((PV×PV×PV×Int×Bool)->Option (Int))×((PV×PV×PV×Int×Int×Bool)->Option (Int))×((PV×PV×PV×Int×Bool)->Option (Int))×((PV×PV×PV×Int×Bool)->Option (Int))
 | 0=>(fun _=>none,fun _=>none,fun _=>none,fun _=>none)
 | d+1=>(fun x=>B26 uu ((G26 uu d).1) ((G26 uu d).2.1) ((G26 uu d).2.2.1) ((G26 uu d).2.2.2) x.1 x.2.1 x.2.2.1 x.2.2.2.1 x.2.2.2.2,fun x=>B48 uu ((G26 uu d).1) ((G26 uu d).2.1) ((G26 uu d).2.2.1) ((G26 uu d).2.2.2) x.1 x.2.1 x.2.2.1 x.2.2.2.1 x.2.2.2.2.1 x.2.2.2.2.2,fun x=>B78 uu ((G26 uu d).1) ((G26 uu d).2.1) ((G26 uu d).2.2.1) ((G26 uu d).2.2.2) x.1 x.2.1 x.2.2.1 x.2.2.2.1 x.2.2.2.2,fun x=>B113 uu ((G26 uu d).1) ((G26 uu d).2.1) ((G26 uu d).2.2.1) ((G26 uu d).2.2.2) x.1 x.2.1 x.2.2.1 x.2.2.2.1 x.2.2.2.2)
theorem G26ok (uu:Nat):∀ d,(B26c ((G26 uu d).1)).Ok Tryz.prog/\(B48c ((G26 uu d).2.1)).Ok Tryz.prog/\(B78c ((G26 uu d).2.2.1)).Ok Tryz.prog/\(B113c ((G26 uu d).2.2.2)).Ok Tryz.prog
 | 0=>⟨aif,aif,aif,aif⟩
 | d+1=>⟨B26ok uu ((G26 uu d).1) ((G26 uu d).2.1) ((G26 uu d).2.2.1) ((G26 uu d).2.2.2) (G26ok uu d).1 (G26ok uu d).2.1 (G26ok uu d).2.2.1 (G26ok uu d).2.2.2,B48ok uu ((G26 uu d).1) ((G26 uu d).2.1) ((G26 uu d).2.2.1) ((G26 uu d).2.2.2) (G26ok uu d).1 (G26ok uu d).2.1 (G26ok uu d).2.2.1 (G26ok uu d).2.2.2,B78ok uu ((G26 uu d).1) ((G26 uu d).2.1) ((G26 uu d).2.2.1) ((G26 uu d).2.2.2) (G26ok uu d).1 (G26ok uu d).2.1 (G26ok uu d).2.2.1 (G26ok uu d).2.2.2,B113ok uu ((G26 uu d).1) ((G26 uu d).2.1) ((G26 uu d).2.2.1) ((G26 uu d).2.2.2) (G26ok uu d).1 (G26ok uu d).2.1 (G26ok uu d).2.2.1 (G26ok uu d).2.2.2⟩
def F26 (uu:Nat) (a0:PV) (a1:PV) (a2:PV) (a3:Int) (a4:Bool):Option (Int):=limQ uu (fun d=>(G26 uu d).1) (a0,a1,a2,a3,a4)
def F26c (uu:Nat):CallE:=⟨26,⟨5,[],(.data 26)::(.data 50)::sv44⟩,⟨1,[],[(.int .i64)]⟩,fun x=>F26 uu x.1 x.2.1 x.2.2.1 x.2.2.2.1 x.2.2.2.2,0⟩
theorem F26ok (uu:Nat):(F26c uu).Ok Tryz.prog:=ay6 (F26c uu) (G:=(fun d=>(G26 uu d).1)) (fun x=>rfl) (fun d=>(G26ok uu d).1)
def F16 (uu:Nat) (a0:PV) (a1:List UInt8) (a2:PV) (a3:Bool):Option (Int):=
 (F25 uu a0 a1).bind fun y1=>
 bif (!y1.2) then
 some (10:Int)
 else
 (F26 uu a0 y1.1 a2 (1:Int) a3).bind fun y5=>
 bif (y5 != (0:Int)) then
 some y5
 else
 (F6 uu a2).bind fun y7=>
 bif (decide (y7>(4096:Int))) then
 some (3:Int)
 else
 some (0:Int)
def F16c (uu:Nat):CallE:=⟨16,⟨4,[],(.data 26)::.str::sv5⟩,⟨1,[],[(.int .i64)]⟩,fun x=>F16 uu x.1 x.2.1 x.2.2.1 x.2.2.2,0⟩
theorem F16ok (uu:Nat):(F16c uu).Ok Tryz.prog:=okJ Tryz.f16 31 0 uu _ [] false (qc (F25ok uu)<|qc (F26ok uu)<|qc (F6ok uu)<|q0) (p0) L0
def F7 (uu:Nat) (a0:PV) (a1:List UInt8) (a2:PV):Option (Int):=
 (F16 uu a0 a1 a2 true).bind fun y1=>
 some y1
def F7c (uu:Nat):CallE:=⟨7,⟨3,[],sv13⟩,⟨1,[],[(.int .i64)]⟩,fun x=>F7 uu x.1 x.2.1 x.2.2,0⟩
theorem F7ok (uu:Nat):(F7c uu).Ok Tryz.prog:=okJ Tryz.f7 11 0 uu _ [] false (qc (F16ok uu)<|q0) (p0) L0
abbrev S63_3x:=(List PV)×(List UInt8)×Int
abbrev S63_3y:=(Int)⊕(Unit)
def S63_3 (uu:Nat) (a1:List PV) (a2:List UInt8) (a3:Int):Option (S63_3x⊕S63_3y):=
 bif (decide (a3<(a1.length:Int))) then
 bif aab a3 a1.length then
 bif (((a1.getD a3.toNat .bad).fld 0).asStr==a2) then
 some (.inr (.inl a3))
 else
 some (.inl (a1,a2,(IntKind.wrap .i64 (a3+(1:Int)))))
 else none
 else
 some (.inr (.inr ()))
def S63_3step (uu:Nat) (x:S63_3x):Option (S63_3x⊕S63_3y):=S63_3 uu x.1 x.2.1 x.2.2
def F63 (uu:Nat) (a0:List PV) (a1:List UInt8):Option (Int):=
 (aag uu (S63_3step uu) (a0,a1,(0:Int))).bind fun z=>sumE (fun y11=>
 some y11
 ) (fun y12=>
 some (-1:Int)
 ) z
def S63_3l (uu:Nat):LoopE:=⟨3,⟨[0,1,5],[],(.slice 76)::sv16⟩,[(.ret,⟨[4],[],[(.int .i64)]⟩),(.exit 0,⟨[],[],[]⟩)],S63_3step uu⟩
def F63C (uu:Nat):Cfg:=cfg Tryz.prog 20 0 [] [S63_3l uu] uu
def F63c (uu:Nat):CallE:=⟨63,⟨2,[],sv4⟩,⟨1,[],[(.int .i64)]⟩,fun x=>F63 uu x.1 x.2,0⟩
theorem F63k (uu:Nat):aan (F63C uu):=aae (q0) (p0)
theorem S63_3ok (uu:Nat):LoopOk (F63C uu) (lp (aam Tryz.f63) 0):=okL (F63k uu) uu (S63_3l uu) L0
theorem F63ok (uu:Nat):(F63c uu).Ok Tryz.prog:=okE Tryz.f63 (F63k uu) (L1 (S63_3ok uu))
def F38 (uu:Nat) (a0:List PV) (a1:List UInt8):Option (PV×Bool):=
 (F63 uu a0 a1).bind fun y1=>
 bif (decide (y1<(0:Int))) then
 some ((PV.agg [(PV.int (0:Int)),(PV.int (0:Int)),(PV.str ([]:List UInt8)),(PV.slice []),(PV.slice []),(PV.slice []),(PV.slice [])]),false)
 else
 bif aab y1 a0.length then
 some (((a0.getD y1.toNat .bad).fld 1),true)
 else none
def F38c (uu:Nat):CallE:=⟨38,⟨2,[],sv4⟩,⟨2,[],sv5⟩,fun x=>F38 uu x.1 x.2,(PV.bad,false)⟩
theorem F38ok (uu:Nat):(F38c uu).Ok Tryz.prog:=okJ Tryz.f38 18 0 uu _ [] false (qc (F63ok uu)<|q0) (p0) L0
def F22 (uu:Nat) (a0:List PV) (a1:List UInt8):Option (Bool):=
 (F38 uu a0 a1).bind fun y1=>
 let x2:=y1.1
 some (bif (bif y1.2 then (((x2.fld 0).asInt)==(1:Int)) else false) then (((x2.fld 1).asInt)==(1:Int)) else false)
def F22c (uu:Nat):CallE:=⟨22,⟨2,[],sv4⟩,⟨1,[],[.bool]⟩,fun x=>F22 uu x.1 x.2,false⟩
theorem F22ok (uu:Nat):(F22c uu).Ok Tryz.prog:=okJ Tryz.f22 24 0 uu _ [] false (qc (F38ok uu)<|q0) (p0) L0
def F12 (uu:Nat) (a0:List PV):Option (Bool):=
 (F22 uu a0 ([100,101,112,114,101,99,97,116,101,100]:List UInt8)).bind fun y1=>
 some y1
def F12c (uu:Nat):CallE:=⟨12,⟨1,[],[(.slice 76)]⟩,⟨1,[],[.bool]⟩,fun x=>F12 uu x,false⟩
theorem F12ok (uu:Nat):(F12c uu).Ok Tryz.prog:=okJ Tryz.f12 5 0 uu _ [] false (qc (F22ok uu)<|q0) (p0) L0
abbrev S23_3x:=(List UInt8)×Unit×Unit×Int×PV×PV
abbrev S23_3y:=(Unit×Int×PV×PV)⊕(Unit×PV×PV)
def S23_3 (uu:Nat) (a1:List UInt8) (a2:Unit) (a3:Unit) (a4:Int) (a5:PV) (a6:PV):Option (S23_3x⊕S23_3y):=
 bif (decide (a4<(((a5.fld 0).asList).length:Int))) then
 let x10:=(a5.fld 0).asList
 bif aab a4 x10.length then
 bif (((x10.getD a4.toNat .bad).fld 0).asStr==a1) then
 let x15:=(a5.fld 0).asList
 bif aab a4 x15.length then
 some (.inr (.inl ((),a4,a5,(x15.getD a4.toNat .bad))))
 else none
 else
 some (.inl (a1,(),(),(IntKind.wrap .i64 (a4+(1:Int))),a5,a6))
 else none
 else
 some (.inr (.inr ((),a5,a6)))
def S23_3step (uu:Nat) (x:S23_3x):Option (S23_3x⊕S23_3y):=S23_3 uu x.1 x.2.1 x.2.2.1 x.2.2.2.1 x.2.2.2.2.1 x.2.2.2.2.2
def F23 (uu:Nat) (a0:PV) (a1:List UInt8):Option (PV×Int):=
 (aag uu (S23_3step uu) (a1,(),(),(0:Int),a0,(PV.agg [(PV.str ([]:List UInt8)),(PV.slice []),(PV.slice []),(PV.slice []),(PV.slice [])]))).bind fun z=>sumE (fun y18=>
 some (y18.2.2.2,y18.2.1)
 ) (fun y19=>
 some ((PV.agg [(PV.str ([]:List UInt8)),(PV.slice []),(PV.slice []),(PV.slice []),(PV.slice [])]),(-1:Int))
 ) z
def S23_3l (uu:Nat):LoopE:=⟨3,⟨[1,2,4,6],bx16,.str::sv32⟩,[(.ret,⟨[4,5],bx16,sv51⟩),(.exit 0,⟨[4],bx16,(.con (.ref 1 [] 50))::sv33⟩)],S23_3step uu⟩
def F23C (uu:Nat):Cfg:=cfg Tryz.prog 29 0 [] [S23_3l uu] uu
def F23c (uu:Nat):CallE:=⟨23,⟨2,[],sv2⟩,⟨2,[],sv7⟩,fun x=>F23 uu x.1 x.2,(PV.bad,0)⟩
theorem F23k (uu:Nat):aan (F23C uu):=aae (q0) (p0)
theorem S23_3ok (uu:Nat):LoopOk (F23C uu) (lp (aam Tryz.f23) 0):=okL (F23k uu) uu (S23_3l uu) L0
theorem F23ok (uu:Nat):(F23c uu).Ok Tryz.prog:=okE Tryz.f23 (F23k uu) (L1 (S23_3ok uu))
def B13c (r:(PV×PV×PV×(List UInt8)×Int)->Option (Int)):CallE:=⟨13,⟨5,[],(.data 26)::(.data 44)::(.data 33)::sv16⟩,⟨1,[],[(.int .i64)]⟩,r,0⟩
abbrev B13_6x:=(List UInt8)×Int×Unit×Unit×Unit×Int×Int×PV×PV×PV
abbrev B13_6y:=(Int×PV×PV×PV)
def B13_6 (uu:Nat) (r0:(PV×PV×PV×(List UInt8)×Int)->Option (Int)) (a3:List UInt8) (a4:Int) (a5:Unit) (a6:Unit) (a7:Unit) (a8:Int) (a9:Int) (a10:PV) (a11:PV) (a12:PV):Option (B13_6x⊕B13_6y):=
 bif (decide (a9<(((a12.fld 3).asList).length:Int))) then
 let x16:=(a12.fld 3).asList
 bif aab a9 x16.length then
 (r0 (a10,a11,(x16.getD a9.toNat .bad),a3,a4)).bind fun y18=>
 some (.inl (a3,a4,(),(),(),(IntKind.wrap .i64 (a8+y18)),(IntKind.wrap .i64 (a9+(1:Int))),a10,a11,a12))
 else none
 else
 some (.inr (a8,a10,a11,a12))
def B13_6step (uu:Nat) (r0:(PV×PV×PV×(List UInt8)×Int)->Option (Int)) (x:B13_6x):Option (B13_6x⊕B13_6y):=B13_6 uu r0 x.1 x.2.1 x.2.2.1 x.2.2.2.1 x.2.2.2.2.1 x.2.2.2.2.2.1 x.2.2.2.2.2.2.1 x.2.2.2.2.2.2.2.1 x.2.2.2.2.2.2.2.2.1 x.2.2.2.2.2.2.2.2.2
abbrev B13_11x:=(List UInt8)×Int×Unit×Unit×Unit×Int×Int×PV×PV×PV
abbrev B13_11y:=(Int×PV×PV×PV)
def B13_11 (uu:Nat) (r0:(PV×PV×PV×(List UInt8)×Int)->Option (Int)) (a24:List UInt8) (a25:Int) (a26:Unit) (a27:Unit) (a28:Unit) (a29:Int) (a30:Int) (a31:PV) (a32:PV) (a33:PV):Option (B13_11x⊕B13_11y):=
 bif (decide (a30<(((a33.fld 4).asList).length:Int))) then
 let x37:=(a33.fld 4).asList
 bif aab a30 x37.length then
 (r0 (a31,a32,((x37.getD a30.toNat .bad).fld 1),a24,a25)).bind fun y40=>
 some (.inl (a24,a25,(),(),(),(IntKind.wrap .i64 (a29+y40)),(IntKind.wrap .i64 (a30+(1:Int))),a31,a32,a33))
 else none
 else
 some (.inr (a29,a31,a32,a33))
def B13_11step (uu:Nat) (r0:(PV×PV×PV×(List UInt8)×Int)->Option (Int)) (x:B13_11x):Option (B13_11x⊕B13_11y):=B13_11 uu r0 x.1 x.2.1 x.2.2.1 x.2.2.2.1 x.2.2.2.2.1 x.2.2.2.2.2.1 x.2.2.2.2.2.2.1 x.2.2.2.2.2.2.2.1 x.2.2.2.2.2.2.2.2.1 x.2.2.2.2.2.2.2.2.2
abbrev B13_27x:=(List UInt8)×Int×Unit×Unit×Unit×Int×Unit×Int×Int×PV×PV×PV×PV
abbrev B13_27y:=((List UInt8)×Int×Unit×Unit×Unit×Int×Unit×Int×PV×PV×PV×PV)
def B13_27 (uu:Nat) (r0:(PV×PV×PV×(List UInt8)×Int)->Option (Int)) (a87:List UInt8) (a88:Int) (a89:Unit) (a90:Unit) (a91:Unit) (a92:Int) (a93:Unit) (a94:Int) (a95:Int) (a96:PV) (a97:PV) (a98:PV) (a99:PV):Option (B13_27x⊕B13_27y):=
 bif (decide (a95<(((a99.fld 1).asList).length:Int))) then
 let x103:=(a99.fld 1).asList
 bif aab a95 x103.length then
 let x107:=(a98.fld 5).asList
 bif aab a94 x107.length then
 bif (((x103.getD a95.toNat .bad).fld 0).asInt==((x107.getD a94.toNat .bad).fld 0).asInt) then
 let x112:=(a99.fld 1).asList
 bif aab a95 x112.length then
 let x115:=(a98.fld 5).asList
 bif aab a94 x115.length then
 (r0 (a96,((x112.getD a95.toNat .bad).fld 4),((x115.getD a94.toNat .bad).fld 1),a87,a88)).bind fun y118=>
 some (.inl (a87,a88,(),(),(),(IntKind.wrap .i64 (a92+y118)),(),a94,(IntKind.wrap .i64 (a95+(1:Int))),a96,a97,a98,a99))
 else none
 else none
 else
 some (.inl (a87,a88,(),(),(),a92,(),a94,(IntKind.wrap .i64 (a95+(1:Int))),a96,a97,a98,a99))
 else none
 else none
 else
 some (.inr (a87,a88,(),(),(),a92,(),a94,a96,a97,a98,a99))
def B13_27step (uu:Nat) (r0:(PV×PV×PV×(List UInt8)×Int)->Option (Int)) (x:B13_27x):Option (B13_27x⊕B13_27y):=B13_27 uu r0 x.1 x.2.1 x.2.2.1 x.2.2.2.1 x.2.2.2.2.1 x.2.2.2.2.2.1 x.2.2.2.2.2.2.1 x.2.2.2.2.2.2.2.1 x.2.2.2.2.2.2.2.2.1 x.2.2.2.2.2.2.2.2.2.1 x.2.2.2.2.2.2.2.2.2.2.1 x.2.2.2.2.2.2.2.2.2.2.2.1 x.2.2.2.2.2.2.2.2.2.2.2.2
abbrev B13_22x:=(List UInt8)×Int×Unit×Unit×Unit×Int×Unit×Int×PV×PV×PV×PV
abbrev B13_22y:=(Int×PV×PV×PV×PV)
def B13_22 (uu:Nat) (r0:(PV×PV×PV×(List UInt8)×Int)->Option (Int)) (a63:List UInt8) (a64:Int) (a65:Unit) (a66:Unit) (a67:Unit) (a68:Int) (a69:Unit) (a70:Int) (a71:PV) (a72:PV) (a73:PV) (a74:PV):Option (B13_22x⊕B13_22y):=
 bif (decide (a70<(((a73.fld 5).asList).length:Int))) then
 let x79:=((a72.fld 1).asStr)==a63
 let x80:=(a73.fld 5).asList
 bif imp x79 (aab a70 x80.length) then
 bif (bif x79 then (((x80.getD a70.toNat .bad).fld 0).asInt==a64) else false) then
 (aag uu (B13_27step uu r0) (a63,a64,(),(),(),(IntKind.wrap .i64 (a68+(1:Int))),(),a70,(0:Int),a71,a72,a73,a74)).bind fun y122=>
 some (.inl (y122.1,y122.2.1,(),(),(),y122.2.2.2.2.2.1,(),(IntKind.wrap .i64 (y122.2.2.2.2.2.2.2.1+(1:Int))),y122.2.2.2.2.2.2.2.2.1,y122.2.2.2.2.2.2.2.2.2.1,y122.2.2.2.2.2.2.2.2.2.2.1,y122.2.2.2.2.2.2.2.2.2.2.2))
 else
 (aag uu (B13_27step uu r0) (a63,a64,(),(),(),a68,(),a70,(0:Int),a71,a72,a73,a74)).bind fun y125=>
 some (.inl (y125.1,y125.2.1,(),(),(),y125.2.2.2.2.2.1,(),(IntKind.wrap .i64 (y125.2.2.2.2.2.2.2.1+(1:Int))),y125.2.2.2.2.2.2.2.2.1,y125.2.2.2.2.2.2.2.2.2.1,y125.2.2.2.2.2.2.2.2.2.2.1,y125.2.2.2.2.2.2.2.2.2.2.2))
 else none
 else
 some (.inr (a68,a71,a72,a73,a74))
def B13_22step (uu:Nat) (r0:(PV×PV×PV×(List UInt8)×Int)->Option (Int)) (x:B13_22x):Option (B13_22x⊕B13_22y):=B13_22 uu r0 x.1 x.2.1 x.2.2.1 x.2.2.2.1 x.2.2.2.2.1 x.2.2.2.2.2.1 x.2.2.2.2.2.2.1 x.2.2.2.2.2.2.2.1 x.2.2.2.2.2.2.2.2.1 x.2.2.2.2.2.2.2.2.2.1 x.2.2.2.2.2.2.2.2.2.2.1 x.2.2.2.2.2.2.2.2.2.2.2
def B13 (uu:Nat) (r0:(PV×PV×PV×(List UInt8)×Int)->Option (Int)) (a0:PV) (a1:PV) (a2:PV) (a3:List UInt8) (a4:Int):Option (Int):=
 let x1:=(a2.fld 0).asInt
 bif (x1==(11:Int)) then
 (aag uu (B13_6step uu r0) (a3,a4,(),(),(),(0:Int),(0:Int),a0,a1,a2)).bind fun y21=>
 some y21.1
 else
 bif (x1==(12:Int)) then
 (aag uu (B13_11step uu r0) (a3,a4,(),(),(),(0:Int),(0:Int),a0,a1,a2)).bind fun y43=>
 some y43.1
 else
 bif (x1==(9:Int)) then
 bif (bif (((a1.fld 1).asStr)==a3) then (bif (a4==(-1:Int)) then true else (((a2.fld 1).asInt)==(IntKind.wrap .u64 a4))) else false) then
 some (1:Int)
 else
 some (0:Int)
 else
 bif (x1==(10:Int)) then
 (F23 uu a0 ((a1.fld 1).asStr)).bind fun y56=>
 let x57:=y56.1
 bif (bif (((a1.fld 1).asStr)==a3) then (a4==(-1:Int)) else false) then
 (aag uu (B13_22step uu r0) (a3,a4,(),(),(),(1:Int),(),(0:Int),a0,a1,a2,x57)).bind fun y128=>
 some y128.1
 else
 (aag uu (B13_22step uu r0) (a3,a4,(),(),(),(0:Int),(),(0:Int),a0,a1,a2,x57)).bind fun y130=>
 some y130.1
 else
 some (0:Int)
def B13_6l (uu:Nat) (r0:(PV×PV×PV×(List UInt8)×Int)->Option (Int)):LoopE:=⟨6,⟨[3,4,5,6,7,11,12],bx27,.str::(.int .i64)::(.con (.ref 0 [] 26))::(.con (.ref 1 [] 44))::(.con (.ref 2 [] 33))::(.int .i64)::sv52⟩,[(.exit 1,⟨[11],bx27,sv52⟩)],B13_6step uu r0⟩
def B13_11l (uu:Nat) (r0:(PV×PV×PV×(List UInt8)×Int)->Option (Int)):LoopE:=⟨11,⟨[3,4,5,6,7,11,13],bx27,.str::(.int .i64)::(.con (.ref 0 [] 26))::(.con (.ref 1 [] 44))::(.con (.ref 2 [] 33))::(.int .i64)::sv52⟩,[(.exit 3,⟨[11],bx27,sv52⟩)],B13_11step uu r0⟩
def B13_27l (uu:Nat) (r0:(PV×PV×PV×(List UInt8)×Int)->Option (Int)):LoopE:=⟨27,⟨[3,4,5,6,7,11,14,16,17],bx28,.str::(.int .i64)::(.con (.ref 0 [] 26))::(.con (.ref 1 [] 44))::(.con (.ref 2 [] 33))::(.int .i64)::(.con (.ref 3 [] 50))::(.int .i64)::sv53⟩,[(.exit 7,⟨[3,4,5,6,7,11,14,16],bx28,.str::(.int .i64)::(.con (.ref 0 [] 26))::(.con (.ref 1 [] 44))::(.con (.ref 2 [] 33))::(.int .i64)::(.con (.ref 3 [] 50))::sv53⟩)],B13_27step uu r0⟩
def B13_22l (uu:Nat) (r0:(PV×PV×PV×(List UInt8)×Int)->Option (Int)):LoopE:=⟨22,⟨[3,4,5,6,7,11,14,16],bx28,.str::(.int .i64)::(.con (.ref 0 [] 26))::(.con (.ref 1 [] 44))::(.con (.ref 2 [] 33))::(.int .i64)::(.con (.ref 3 [] 50))::sv53⟩,[(.exit 5,⟨[11],bx28,sv53⟩)],B13_22step uu r0⟩
def B13C (uu:Nat) (r0:(PV×PV×PV×(List UInt8)×Int)->Option (Int)):Cfg:=cfg Tryz.prog 159 0 [B13c r0,F23c uu] [B13_6l uu r0,B13_11l uu r0,B13_27l uu r0,B13_22l uu r0] uu
theorem B13k (uu:Nat) (r0:(PV×PV×PV×(List UInt8)×Int)->Option (Int)) (h0:(B13c r0).Ok Tryz.prog):aan (B13C uu r0):=aae (qc h0<|qc (F23ok uu)<|q0) (p0)
theorem B13_6ok (uu:Nat) (r0:(PV×PV×PV×(List UInt8)×Int)->Option (Int)) (h0:(B13c r0).Ok Tryz.prog):LoopOk (B13C uu r0) (lp (aam Tryz.f13) 0):=okL (B13k uu r0 h0) uu (B13_6l uu r0) L0
theorem B13_11ok (uu:Nat) (r0:(PV×PV×PV×(List UInt8)×Int)->Option (Int)) (h0:(B13c r0).Ok Tryz.prog):LoopOk (B13C uu r0) (lp (aam Tryz.f13) 1):=okL (B13k uu r0 h0) uu (B13_11l uu r0) L0
theorem B13_27ok (uu:Nat) (r0:(PV×PV×PV×(List UInt8)×Int)->Option (Int)) (h0:(B13c r0).Ok Tryz.prog):LoopOk (B13C uu r0) (lp (lp (aam Tryz.f13) 2) 0):=okL (B13k uu r0 h0) uu (B13_27l uu r0) L0
theorem B13_22ok (uu:Nat) (r0:(PV×PV×PV×(List UInt8)×Int)->Option (Int)) (h0:(B13c r0).Ok Tryz.prog):LoopOk (B13C uu r0) (lp (aam Tryz.f13) 2):=okL (B13k uu r0 h0) uu (B13_22l uu r0) (L1 (B13_27ok uu r0 h0))
theorem B13ok (uu:Nat) (r0:(PV×PV×PV×(List UInt8)×Int)->Option (Int)) (h0:(B13c r0).Ok Tryz.prog):(B13c (fun x=>B13 uu r0 x.1 x.2.1 x.2.2.1 x.2.2.2.1 x.2.2.2.2)).Ok Tryz.prog:=okE Tryz.f13 (B13k uu r0 h0) (L3 (B13_6ok uu r0 h0) (B13_11ok uu r0 h0) (B13_22ok uu r0 h0))
def G13 (uu:Nat):Nat->((PV×PV×PV×(List UInt8)×Int)->Option (Int))
 | 0=>fun _=>none
 | d+1=>fun x=>B13 uu (G13 uu d) x.1 x.2.1 x.2.2.1 x.2.2.2.1 x.2.2.2.2
theorem G13ok (uu:Nat):∀ d,(B13c (G13 uu d)).Ok Tryz.prog
 | 0=>aif
 | d+1=>B13ok uu (G13 uu d) (G13ok uu d)
def F13 (uu:Nat) (a0:PV) (a1:PV) (a2:PV) (a3:List UInt8) (a4:Int):Option (Int):=limQ uu (fun d=>(G13 uu d)) (a0,a1,a2,a3,a4)
def F13c (uu:Nat):CallE:=⟨13,⟨5,[],(.data 26)::(.data 44)::(.data 33)::sv16⟩,⟨1,[],[(.int .i64)]⟩,fun x=>F13 uu x.1 x.2.1 x.2.2.1 x.2.2.2.1 x.2.2.2.2,0⟩
theorem F13ok (uu:Nat):(F13c uu).Ok Tryz.prog:=ay6 (F13c uu) (G:=(fun d=>(G13 uu d))) (fun x=>rfl) (fun d=>(G13ok uu d))
abbrev S14_3x:=(List PV)×(List UInt8)×Int×Int
abbrev S14_3y:=(Int)⊕(Unit)
def S14_3 (uu:Nat) (a1:List PV) (a2:List UInt8) (a3:Int) (a4:Int):Option (S14_3x⊕S14_3y):=
 bif (decide (a4<(a1.length:Int))) then
 bif aab a4 a1.length then
 let x10:=((a1.getD a4.toNat .bad).fld 0).asStr==a2
 bif imp x10 (aab a4 a1.length) then
 bif (bif x10 then (((a1.getD a4.toNat .bad).fld 1).asInt==a3) else false) then
 bif aab a4 a1.length then
 some (.inr (.inl ((a1.getD a4.toNat .bad).fld 2).asInt))
 else none
 else
 some (.inl (a1,a2,a3,(IntKind.wrap .i64 (a4+(1:Int)))))
 else none
 else none
 else
 some (.inr (.inr ()))
def S14_3step (uu:Nat) (x:S14_3x):Option (S14_3x⊕S14_3y):=S14_3 uu x.1 x.2.1 x.2.2.1 x.2.2.2
def F14 (uu:Nat) (a0:List PV) (a1:List UInt8) (a2:Int):Option (Int):=
 (aag uu (S14_3step uu) (a0,a1,a2,(0:Int))).bind fun z=>sumE (fun y20=>
 some y20
 ) (fun y21=>
 some (0:Int)
 ) z
def S14_3l (uu:Nat):LoopE:=⟨3,⟨[0,1,2,7],[],(.slice 62)::.str::sv18⟩,[(.ret,⟨[6],[],[(.int .i64)]⟩),(.exit 0,⟨[],[],[]⟩)],S14_3step uu⟩
def F14C (uu:Nat):Cfg:=cfg Tryz.prog 35 0 [] [S14_3l uu] uu
def F14c (uu:Nat):CallE:=⟨14,⟨3,[],(.slice 62)::sv16⟩,⟨1,[],[(.int .i64)]⟩,fun x=>F14 uu x.1 x.2.1 x.2.2,0⟩
theorem F14k (uu:Nat):aan (F14C uu):=aae (q0) (p0)
theorem S14_3ok (uu:Nat):LoopOk (F14C uu) (lp (aam Tryz.f14) 0):=okL (F14k uu) uu (S14_3l uu) L0
theorem F14ok (uu:Nat):(F14c uu).Ok Tryz.prog:=okE Tryz.f14 (F14k uu) (L1 (S14_3ok uu))
abbrev S4_12x:=Unit×Unit×(List PV)×Unit×Int×Int×Unit×Int×PV×PV×PV×PV
abbrev S4_12y:=(Bool×PV×PV×PV×PV)⊕(Unit×Unit×(List PV)×Unit×Int×Int×PV×PV×PV×PV)
def S4_12 (uu:Nat) (a24:Unit) (a25:Unit) (a26:List PV) (a27:Unit) (a28:Int) (a29:Int) (a30:Unit) (a31:Int) (a32:PV) (a33:PV) (a34:PV) (a35:PV):Option (S4_12x⊕S4_12y):=
 bif (decide (a31<(((a35.fld 1).asList).length:Int))) then
 bif (decide (a31≥(0:Int))) then
 let x41:=(a35.fld 1).asList
 bif aab a31 x41.length then
 let x44:=((x41.getD a31.toNat .bad).fld 0).asInt
 let x45:=(a35.fld 1).asList
 bif aab a31 x45.length then
 (F12 uu ((x45.getD a31.toNat .bad).fld 8).asList).bind fun y49=>
 bif y49 then
 (F13 uu a32 a34 a33 ((a35.fld 0).asStr) x44).bind fun y51=>
 (F14 uu a26 ((a35.fld 0).asStr) x44).bind fun y54=>
 bif (y54 != y51) then
 some (.inr (.inl (false,a32,a33,a34,a35)))
 else
 some (.inl ((),(),a26,(),(IntKind.wrap .i64 (a28+y51)),a29,(),(IntKind.wrap .i64 (a31+(1:Int))),a32,a33,a34,a35))
 else
 (F14 uu a26 ((a35.fld 0).asStr) x44).bind fun y59=>
 bif (y59 != (0:Int)) then
 some (.inr (.inl (false,a32,a33,a34,a35)))
 else
 some (.inl ((),(),a26,(),(IntKind.wrap .i64 (a28+(0:Int))),a29,(),(IntKind.wrap .i64 (a31+(1:Int))),a32,a33,a34,a35))
 else none
 else none
 else
 (F12 uu ((a35.fld 4).asList)).bind fun y62=>
 bif y62 then
 (F13 uu a32 a34 a33 ((a35.fld 0).asStr) (-1:Int)).bind fun y64=>
 (F14 uu a26 ((a35.fld 0).asStr) (-1:Int)).bind fun y67=>
 bif (y67 != y64) then
 some (.inr (.inl (false,a32,a33,a34,a35)))
 else
 some (.inl ((),(),a26,(),(IntKind.wrap .i64 (a28+y64)),a29,(),(IntKind.wrap .i64 (a31+(1:Int))),a32,a33,a34,a35))
 else
 (F14 uu a26 ((a35.fld 0).asStr) (-1:Int)).bind fun y72=>
 bif (y72 != (0:Int)) then
 some (.inr (.inl (false,a32,a33,a34,a35)))
 else
 some (.inl ((),(),a26,(),(IntKind.wrap .i64 (a28+(0:Int))),a29,(),(IntKind.wrap .i64 (a31+(1:Int))),a32,a33,a34,a35))
 else
 some (.inr (.inr ((),(),a26,(),a28,a29,a32,a33,a34,a35)))
def S4_12step (uu:Nat) (x:S4_12x):Option (S4_12x⊕S4_12y):=S4_12 uu x.1 x.2.1 x.2.2.1 x.2.2.2.1 x.2.2.2.2.1 x.2.2.2.2.2.1 x.2.2.2.2.2.2.1 x.2.2.2.2.2.2.2.1 x.2.2.2.2.2.2.2.2.1 x.2.2.2.2.2.2.2.2.2.1 x.2.2.2.2.2.2.2.2.2.2.1 x.2.2.2.2.2.2.2.2.2.2.2
abbrev S4_8x:=Unit×Unit×(List PV)×Unit×Int×Int×PV×PV×PV
abbrev S4_8y:=(Bool×PV×PV×PV)⊕(Unit×Unit×(List PV)×Unit×Int×PV×PV×PV)
def S4_8 (uu:Nat) (a10:Unit) (a11:Unit) (a12:List PV) (a13:Unit) (a14:Int) (a15:Int) (a16:PV) (a17:PV) (a18:PV):Option (S4_8x⊕S4_8y):=
 bif (decide (a15<(((a16.fld 0).asList).length:Int))) then
 let x22:=(a16.fld 0).asList
 bif aab a15 x22.length then
 (aag uu (S4_12step uu) ((),(),a12,(),a14,a15,(),(-1:Int),a16,a17,a18,(x22.getD a15.toNat .bad))).bind fun z=>sumE (fun y75=>
 some (.inr (.inl (y75.1,y75.2.1,y75.2.2.1,y75.2.2.2.1)))
 ) (fun y76=>
 some (.inl ((),(),y76.2.2.1,(),y76.2.2.2.2.1,(IntKind.wrap .i64 (y76.2.2.2.2.2.1+(1:Int))),y76.2.2.2.2.2.2.1,y76.2.2.2.2.2.2.2.1,y76.2.2.2.2.2.2.2.2.1))
 ) z
 else none
 else
 some (.inr (.inr ((),(),a12,(),a14,a16,a17,a18)))
def S4_8step (uu:Nat) (x:S4_8x):Option (S4_8x⊕S4_8y):=S4_8 uu x.1 x.2.1 x.2.2.1 x.2.2.2.1 x.2.2.2.2.1 x.2.2.2.2.2.1 x.2.2.2.2.2.2.1 x.2.2.2.2.2.2.2.1 x.2.2.2.2.2.2.2.2
abbrev S4_28x:=Unit×Unit×(List PV)×Unit×Int×Int×Unit×Int×PV×PV×PV×PV
abbrev S4_28y:=(Bool×PV×PV×PV×PV)⊕(Unit×Unit×(List PV)×Unit×Int×Int×PV×PV×PV×PV)
def S4_28 (uu:Nat) (a95:Unit) (a96:Unit) (a97:List PV) (a98:Unit) (a99:Int) (a100:Int) (a101:Unit) (a102:Int) (a103:PV) (a104:PV) (a105:PV) (a106:PV):Option (S4_28x⊕S4_28y):=
 bif (decide (a102<(((a106.fld 2).asList).length:Int))) then
 bif (decide (a102≥(0:Int))) then
 let x112:=(a106.fld 2).asList
 bif aab a102 x112.length then
 let x115:=((x112.getD a102.toNat .bad).fld 1).asInt
 let x116:=(a106.fld 2).asList
 bif aab a102 x116.length then
 (F12 uu ((x116.getD a102.toNat .bad).fld 2).asList).bind fun y120=>
 bif y120 then
 (F13 uu a103 a105 a104 ((a106.fld 0).asStr) x115).bind fun y122=>
 (F14 uu a97 ((a106.fld 0).asStr) x115).bind fun y125=>
 bif (y125 != y122) then
 some (.inr (.inl (false,a103,a104,a105,a106)))
 else
 some (.inl ((),(),a97,(),(IntKind.wrap .i64 (a99+y122)),a100,(),(IntKind.wrap .i64 (a102+(1:Int))),a103,a104,a105,a106))
 else
 (F14 uu a97 ((a106.fld 0).asStr) x115).bind fun y130=>
 bif (y130 != (0:Int)) then
 some (.inr (.inl (false,a103,a104,a105,a106)))
 else
 some (.inl ((),(),a97,(),(IntKind.wrap .i64 (a99+(0:Int))),a100,(),(IntKind.wrap .i64 (a102+(1:Int))),a103,a104,a105,a106))
 else none
 else none
 else
 (F12 uu ((a106.fld 4).asList)).bind fun y133=>
 bif y133 then
 (F13 uu a103 a105 a104 ((a106.fld 0).asStr) (-1:Int)).bind fun y135=>
 (F14 uu a97 ((a106.fld 0).asStr) (-1:Int)).bind fun y138=>
 bif (y138 != y135) then
 some (.inr (.inl (false,a103,a104,a105,a106)))
 else
 some (.inl ((),(),a97,(),(IntKind.wrap .i64 (a99+y135)),a100,(),(IntKind.wrap .i64 (a102+(1:Int))),a103,a104,a105,a106))
 else
 (F14 uu a97 ((a106.fld 0).asStr) (-1:Int)).bind fun y143=>
 bif (y143 != (0:Int)) then
 some (.inr (.inl (false,a103,a104,a105,a106)))
 else
 some (.inl ((),(),a97,(),(IntKind.wrap .i64 (a99+(0:Int))),a100,(),(IntKind.wrap .i64 (a102+(1:Int))),a103,a104,a105,a106))
 else
 some (.inr (.inr ((),(),a97,(),a99,a100,a103,a104,a105,a106)))
def S4_28step (uu:Nat) (x:S4_28x):Option (S4_28x⊕S4_28y):=S4_28 uu x.1 x.2.1 x.2.2.1 x.2.2.2.1 x.2.2.2.2.1 x.2.2.2.2.2.1 x.2.2.2.2.2.2.1 x.2.2.2.2.2.2.2.1 x.2.2.2.2.2.2.2.2.1 x.2.2.2.2.2.2.2.2.2.1 x.2.2.2.2.2.2.2.2.2.2.1 x.2.2.2.2.2.2.2.2.2.2.2
abbrev S4_24x:=Unit×Unit×(List PV)×Unit×Int×Int×PV×PV×PV
abbrev S4_24y:=(Bool×PV×PV×PV)⊕((List PV)×Int×PV×PV×PV)
def S4_24 (uu:Nat) (a81:Unit) (a82:Unit) (a83:List PV) (a84:Unit) (a85:Int) (a86:Int) (a87:PV) (a88:PV) (a89:PV):Option (S4_24x⊕S4_24y):=
 bif (decide (a86<(((a87.fld 1).asList).length:Int))) then
 let x93:=(a87.fld 1).asList
 bif aab a86 x93.length then
 (aag uu (S4_28step uu) ((),(),a83,(),a85,a86,(),(-1:Int),a87,a88,a89,(x93.getD a86.toNat .bad))).bind fun z=>sumE (fun y146=>
 some (.inr (.inl (y146.1,y146.2.1,y146.2.2.1,y146.2.2.2.1)))
 ) (fun y147=>
 some (.inl ((),(),y147.2.2.1,(),y147.2.2.2.2.1,(IntKind.wrap .i64 (y147.2.2.2.2.2.1+(1:Int))),y147.2.2.2.2.2.2.1,y147.2.2.2.2.2.2.2.1,y147.2.2.2.2.2.2.2.2.1))
 ) z
 else none
 else
 some (.inr (.inr (a83,a85,a87,a88,a89)))
def S4_24step (uu:Nat) (x:S4_24x):Option (S4_24x⊕S4_24y):=S4_24 uu x.1 x.2.1 x.2.2.1 x.2.2.2.1 x.2.2.2.2.1 x.2.2.2.2.2.1 x.2.2.2.2.2.2.1 x.2.2.2.2.2.2.2.1 x.2.2.2.2.2.2.2.2
abbrev S4_40x:=(List PV)×Int×Int×PV×PV×PV
abbrev S4_40y:=(Bool×PV×PV×PV)⊕(Int×PV×PV×PV)
def S4_40 (uu:Nat) (a152:List PV) (a153:Int) (a154:Int) (a155:PV) (a156:PV) (a157:PV):Option (S4_40x⊕S4_40y):=
 bif (decide (a154<(a152.length:Int))) then
 bif aab a154 a152.length then
 bif aab a154 a152.length then
 let x167:=decide (((a152.getD a154.toNat .bad).fld 2).asInt<(1:Int))
 let x168:=decide (a154>(0:Int))
 let x169:=IntKind.wrap .i64 (a154-(1:Int))
 bif imp (bif x168 then !x167 else false) (aab x169 a152.length) then
 let x172:=((a152.getD x169.toNat .bad).fld 0).asStr
 bif imp (bif x168 then !x167 else false) (aab a154 a152.length) then
 let x175:=((a152.getD a154.toNat .bad).fld 0).asStr
 let x176:=!(Op.bytesLess x172 x175||x172==x175)
 let x177:=IntKind.wrap .i64 (a154-(1:Int))
 bif imp (bif !x176 then bif x168 then !x167 else false else false) (aab x177 a152.length) then
 bif imp (bif !x176 then bif x168 then !x167 else false else false) (aab a154 a152.length) then
 let x184:=((a152.getD x177.toNat .bad).fld 0).asStr==((a152.getD a154.toNat .bad).fld 0).asStr
 let x185:=IntKind.wrap .i64 (a154-(1:Int))
 bif imp (bif x184 then bif !x176 then bif x168 then !x167 else false else false else false) (aab x185 a152.length) then
 bif imp (bif x184 then bif !x176 then bif x168 then !x167 else false else false else false) (aab a154 a152.length) then
 bif (bif x167 then true else (bif x168 then (bif x176 then true else (bif x184 then (decide (((a152.getD x185.toNat .bad).fld 1).asInt≥((a152.getD a154.toNat .bad).fld 1).asInt)) else false)) else false)) then
 some (.inr (.inl (false,a155,a156,a157)))
 else
 some (.inl (a152,(IntKind.wrap .i64 (a153-((a152.getD a154.toNat .bad).fld 2).asInt)),(IntKind.wrap .i64 (a154+(1:Int))),a155,a156,a157))
 else none
 else none
 else none
 else none
 else none
 else none
 else none
 else none
 else
 some (.inr (.inr (a153,a155,a156,a157)))
def S4_40step (uu:Nat) (x:S4_40x):Option (S4_40x⊕S4_40y):=S4_40 uu x.1 x.2.1 x.2.2.1 x.2.2.2.1 x.2.2.2.2.1 x.2.2.2.2.2
def F4 (uu:Nat) (a0:PV) (a1:List UInt8) (a2:PV):Option (Bool):=
 (F5 uu a0).bind fun y1=>
 let x2:=!y1
 (bif !x2 then F6 uu a2 else some 0).bind fun y3=>
 let x5:=bif x2 then true else (decide (y3>(500:Int)))
 (bif !x5 then F7 uu a0 a1 a2 else some 0).bind fun y6=>
 bif (bif x5 then true else (y6 != (0:Int))) then
 some true
 else
 (F9 uu a0 a1 a2).bind fun y9=>
 (aag uu (S4_8step uu) ((),(),y9,(),(0:Int),(0:Int),a0,a2,(PV.agg [(PV.int (10:Int)),(PV.str a1)]))).bind fun z=>sumE (fun y79=>
 some y79.1
 ) (fun y80=>
 (aag uu (S4_24step uu) ((),(),y80.2.2.1,(),y80.2.2.2.2.1,(0:Int),y80.2.2.2.2.2.1,y80.2.2.2.2.2.2.1,y80.2.2.2.2.2.2.2)).bind fun z=>sumE (fun y150=>
 some y150.1
 ) (fun y151=>
 (aag uu (S4_40step uu) (y151.1,y151.2.1,(0:Int),y151.2.2.1,y151.2.2.2.1,y151.2.2.2.2)).bind fun z=>sumE (fun y198=>
 some y198.1
 ) (fun y199=>
 let x201:=y199.1==(0:Int)
 (bif x201 then asx uu else some false).bind fun y202=>
 some (bif x201 then y202 else false)
 ) z
 ) z
 ) z
def S4_12l (uu:Nat):LoopE:=⟨12,⟨[3,5,7,8,9,10,11,12],bx29,(.con (.ref 0 [] 26))::(.con (.ref 1 [] 33))::(.slice 62)::(.con (.ref 2 [] 44))::(.int .i64)::(.int .i64)::(.con (.ref 3 [] 50))::(.int .i64)::sv54⟩,[(.ret,⟨[6],bx29,.bool::sv54⟩),(.exit 2,⟨[3,5,7,8,9,10],bx29,(.con (.ref 0 [] 26))::(.con (.ref 1 [] 33))::(.slice 62)::(.con (.ref 2 [] 44))::(.int .i64)::(.int .i64)::sv54⟩)],S4_12step uu⟩
def S4_8l (uu:Nat):LoopE:=⟨8,⟨[3,5,7,8,9,10],bx30,(.con (.ref 0 [] 26))::(.con (.ref 1 [] 33))::(.slice 62)::(.con (.ref 2 [] 44))::sv55⟩,[(.ret,⟨[6],bx30,sv56⟩),(.exit 0,⟨[3,5,7,8,9],bx30,(.con (.ref 0 [] 26))::(.con (.ref 1 [] 33))::(.slice 62)::(.con (.ref 2 [] 44))::sv57⟩)],S4_8step uu⟩
def S4_28l (uu:Nat):LoopE:=⟨28,⟨[3,5,7,8,9,16,17,18],bx31,(.con (.ref 0 [] 26))::(.con (.ref 1 [] 33))::(.slice 62)::(.con (.ref 2 [] 44))::(.int .i64)::(.int .i64)::(.con (.ref 3 [] 58))::(.int .i64)::sv58⟩,[(.ret,⟨[6],bx31,.bool::sv58⟩),(.exit 6,⟨[3,5,7,8,9,16],bx31,(.con (.ref 0 [] 26))::(.con (.ref 1 [] 33))::(.slice 62)::(.con (.ref 2 [] 44))::(.int .i64)::(.int .i64)::sv58⟩)],S4_28step uu⟩
def S4_24l (uu:Nat):LoopE:=⟨24,⟨[3,5,7,8,9,16],bx30,(.con (.ref 0 [] 26))::(.con (.ref 1 [] 33))::(.slice 62)::(.con (.ref 2 [] 44))::sv55⟩,[(.ret,⟨[6],bx30,sv56⟩),(.exit 4,⟨[7,9],bx30,(.slice 62)::sv57⟩)],S4_24step uu⟩
def S4_40l (uu:Nat):LoopE:=⟨40,⟨[7,9,22],bx30,(.slice 62)::sv55⟩,[(.ret,⟨[6],bx30,sv56⟩),(.exit 8,⟨[9],bx30,sv57⟩)],S4_40step uu⟩
def F4C (uu:Nat):Cfg:=cfg Tryz.prog 222 0 [F5c uu,F6c uu,F7c uu,F9c uu,F12c uu,F13c uu,F14c uu,aov uu] [S4_12l uu,S4_8l uu,S4_28l uu,S4_24l uu,S4_40l uu] uu
def F4c (uu:Nat):CallE:=⟨4,⟨3,[],sv13⟩,⟨1,[],[.bool]⟩,fun x=>F4 uu x.1 x.2.1 x.2.2,false⟩
theorem F4k (uu:Nat):aan (F4C uu):=aae (qc (F5ok uu)<|qc (F6ok uu)<|qc (F7ok uu)<|qc (F9ok uu)<|qc (F12ok uu)<|qc (F13ok uu)<|qc (F14ok uu)<|qc (aua uu)<|q0) (p0)
theorem S4_12ok (uu:Nat):LoopOk (F4C uu) (lp (lp (aam Tryz.f4) 0) 0):=okL (F4k uu) uu (S4_12l uu) L0
theorem S4_8ok (uu:Nat):LoopOk (F4C uu) (lp (aam Tryz.f4) 0):=okL (F4k uu) uu (S4_8l uu) (L1 (S4_12ok uu))
theorem S4_28ok (uu:Nat):LoopOk (F4C uu) (lp (lp (aam Tryz.f4) 1) 0):=okL (F4k uu) uu (S4_28l uu) L0
theorem S4_24ok (uu:Nat):LoopOk (F4C uu) (lp (aam Tryz.f4) 1):=okL (F4k uu) uu (S4_24l uu) (L1 (S4_28ok uu))
theorem S4_40ok (uu:Nat):LoopOk (F4C uu) (lp (aam Tryz.f4) 2):=okL (F4k uu) uu (S4_40l uu) L0
theorem F4ok (uu:Nat):(F4c uu).Ok Tryz.prog:=okE Tryz.f4 (F4k uu) (L3 (S4_8ok uu) (S4_24ok uu) (S4_40ok uu))
end
end Go.Ab
