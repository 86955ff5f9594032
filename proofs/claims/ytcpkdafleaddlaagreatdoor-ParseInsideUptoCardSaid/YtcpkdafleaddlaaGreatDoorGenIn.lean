/- A part of the proof: lemmas on how the program runs over plain data. -/
import Derived.Test.YtcpkdafleaddlaaGreatDoorAbCaughtP
import Derived.KernelRfl
set_option linter.unusedVariables false
set_option linter.unusedSimpArgs false
set_option linter.unnecessarySimpa false
namespace Go.Ab
open Go Go.Proofs
set_option maxRecDepth 100000
noncomputable section
abbrev bx0:List BSh:=[.box 290 .leaf,.acc]
abbrev bx1:List BSh:=[.box 82 (.agg 82 [.leaf,.leaf,(.agg 28 [.leaf,.leaf,.leaf,.leaf,.leaf,.leaf])]),.arr 9 0,.arr 63 0,.arr 127 0,.acc]
abbrev bx2:List BSh:=[.box 82 (.agg 82 [.leaf,.leaf,(.agg 28 [.leaf,.leaf,.leaf,.leaf,.leaf,.leaf])]),.box 9 .leaf,.arr 9 0,.arr 63 0,.arr 127 0,.acc]
abbrev bx3:List BSh:=[.box 82 (.agg 82 [.leaf,.leaf,(.agg 28 [.leaf,.leaf,.leaf,.leaf,.leaf,.leaf])]),.arr 9 0,.arr 63 0,.arr 127 0,.acc,.acc]
abbrev bx4:List BSh:=[.box 82 (.agg 82 [.leaf,.leaf,(.agg 28 [.leaf,.leaf,.leaf,.leaf,.leaf,.leaf])]),.arr 9 0,.arr 63 0,.arr 127 1,.acc,.box 127 (.agg 127 [.leaf,.leaf,.leaf,.leaf,.leaf]),.acc,.acc]
abbrev bx5:List BSh:=[.box 82 (.agg 82 [.leaf,.leaf,(.agg 28 [.leaf,.leaf,.leaf,.leaf,.leaf,.leaf])]),.arr 9 0,.arr 63 0,.arr 127 1,.acc]
abbrev bx6:List BSh:=[.box 82 (.agg 82 [.leaf,.leaf,(.agg 28 [.leaf,.leaf,.leaf,.leaf,.leaf,.leaf])]),.arr 9 0,.arr 63 1,.arr 127 1,.acc]
abbrev bx7:List BSh:=[.box 82 (.agg 82 [.leaf,.leaf,(.agg 28 [.leaf,.leaf,.leaf,.leaf,.leaf,.leaf])]),.arr 9 0,.arr 63 1,.arr 127 1,.acc,.box 63 (.agg 63 [.leaf,.leaf,.leaf,.leaf,.leaf]),.acc,.acc,.acc]
abbrev bx8:List BSh:=[.box 82 (.agg 82 [.leaf,.leaf,(.agg 28 [.leaf,.leaf,.leaf,.leaf,.leaf,.leaf])]),.arr 9 0,.arr 63 0,.arr 127 0,.acc,.box 130 (.agg 130 [.leaf,.leaf,.leaf]),.acc]
abbrev bx9:List BSh:=[.box 82 (.agg 82 [.leaf,.leaf,(.agg 28 [.leaf,.leaf,.leaf,.leaf,.leaf,.leaf])]),.arr 9 1,.arr 63 0,.arr 127 0,.acc]
abbrev bx10:List BSh:=[.box 82 (.agg 82 [.leaf,.leaf,(.agg 28 [.leaf,.leaf,.leaf,.leaf,.leaf,.leaf])]),.arr 9 1,.arr 63 1,.arr 127 1,.acc]
abbrev bx11:List BSh:=[.box 82 (.agg 82 [.leaf,.leaf,(.agg 28 [.leaf,.leaf,.leaf,.leaf,.leaf,.leaf])]),.box 40 .leaf,.arr 9 0,.arr 63 0,.arr 127 0,.acc]
abbrev bx12:List BSh:=[.box 97 .leaf,.box 80 .leaf,.box 40 .leaf,.box 82 (.agg 82 [.leaf,.leaf,(.agg 28 [.leaf,.leaf,.leaf,.leaf,.leaf,.leaf])]),.arr 9 0,.arr 63 0,.arr 127 0,.acc]
abbrev bx13:List BSh:=[.box 82 (.agg 82 [.leaf,.leaf,(.agg 28 [.leaf,.leaf,.leaf,.leaf,.leaf,.leaf])]),.box 54 .leaf,.arr 9 0,.arr 63 0,.arr 127 0,.acc]
abbrev bx14:List BSh:=[.box 97 .leaf,.box 80 .leaf,.box 54 .leaf,.box 82 (.agg 82 [.leaf,.leaf,(.agg 28 [.leaf,.leaf,.leaf,.leaf,.leaf,.leaf])]),.arr 9 0,.arr 63 0,.arr 127 0,.acc]
abbrev bx15:List BSh:=[.box 51 .leaf,.box 51 .leaf]
abbrev sv0:List Shape:=[.str,(.int .i64)]
abbrev sv2:List Shape:=[(.int .i64),(.int .i64)]
abbrev sv14:List Shape:=[(.int .i64),.str]
abbrev sv15:List Shape:=[(.slice 72),(.int .i64)]
abbrev sv16:List Shape:=[(.data 51),(.int .i64)]
abbrev sv28:List Shape:=[(.data 51),(.data 51)]
abbrev sv1:List Shape:=.str::sv0
abbrev sv3:List Shape:=(.data 72)::sv2
abbrev sv4:List Shape:=[.str,(.acc 0 5),(.int .i64)]
abbrev sv5:List Shape:=.str::sv2
abbrev sv30:List Shape:=.bool::sv28
abbrev sv31:List Shape:=(.con (.ref 0 [] 51))::(.con (.ref 1 [] 51))::sv28
abbrev sv18:List Shape:=[(.con (.arr 3 1 127)),(.acc 4 130),(.slice 9),(.slice 63),(.slice 127)]
abbrev sv29:List Shape:=(.con (.ref 0 [] 51))::(.con (.ref 1 [] 51))::(.int .i64)::sv28
abbrev sv11:List Shape:=[(.slice 72),(.int .i64),.str,.str,(.con (.arr 1 0 9)),(.con (.arr 2 0 63)),(.con (.arr 3 0 127)),(.acc 4 130),(.slice 9),(.slice 63),(.slice 127)]
abbrev sv19:List Shape:=(.slice 72)::(.int .i64)::.str::.str::(.con (.arr 1 0 9))::(.con (.arr 2 1 63))::sv18
abbrev sv22:List Shape:=[(.slice 72),(.int .i64),.str,.str,(.con (.arr 1 1 9)),(.con (.arr 2 0 63)),(.con (.arr 3 0 127)),(.acc 4 130),(.slice 9),(.slice 63),(.slice 127)]
abbrev sv23:List Shape:=(.slice 72)::(.int .i64)::.str::.str::(.con (.arr 1 1 9))::(.con (.arr 2 1 63))::sv18
abbrev sv6:List Shape:=.str::sv11
abbrev sv7:List Shape:=.bool::sv11
abbrev sv8:List Shape:=(.con (.ref 0 [] 82))::sv11
abbrev sv9:List Shape:=(.int .i64)::sv11
abbrev sv12:List Shape:=(.ifc 84)::sv11
abbrev sv13:List Shape:=[(.slice 72),(.int .i64),.str,.str,(.con (.arr 2 0 9)),(.con (.arr 3 0 63)),(.con (.arr 4 0 127)),(.acc 5 130),.str,(.slice 9),(.slice 63),(.slice 127)]
abbrev sv24:List Shape:=[(.slice 72),(.int .i64),.str,.str,(.con (.arr 2 0 9)),(.con (.arr 3 0 63)),(.con (.arr 4 0 127)),(.acc 5 130),(.data 40),(.slice 9),(.slice 63),(.slice 127)]
abbrev sv26:List Shape:=[(.slice 72),(.int .i64),.str,.str,(.con (.arr 2 0 9)),(.con (.arr 3 0 63)),(.con (.arr 4 0 127)),(.acc 5 130),(.data 54),(.slice 9),(.slice 63),(.slice 127)]
abbrev sv10:List Shape:=(.con (.ref 0 [] 82))::sv6
abbrev sv21:List Shape:=[(.slice 72),(.int .i64),.str,.str,(.con (.arr 1 0 9)),(.con (.arr 2 0 63)),(.con (.arr 3 0 127)),(.acc 4 130),(.slice 9),(.slice 63),(.slice 127),.str,(.acc 6 188),(.slice 116)]
abbrev sv25:List Shape:=[(.con (.fn 51 0 [(.ref 2 [] 40)])),(.con (.ref 3 [] 82)),(.data 40),(.slice 72),(.int .i64),.str,.str,(.con (.arr 4 0 9)),(.con (.arr 5 0 63)),(.con (.arr 6 0 127)),(.acc 7 130),(.slice 9),(.slice 63),(.slice 127)]
abbrev sv27:List Shape:=[(.con (.fn 54 0 [(.ref 2 [] 54)])),(.con (.ref 3 [] 82)),(.data 54),(.slice 72),(.int .i64),.str,.str,(.con (.arr 4 0 9)),(.con (.arr 5 0 63)),(.con (.arr 6 0 127)),(.acc 7 130),(.slice 9),(.slice 63),(.slice 127)]
abbrev sv17:List Shape:=[(.slice 72),(.int .i64),.str,.str,(.con (.arr 1 0 9)),(.con (.arr 2 0 63)),(.con (.arr 3 1 127)),(.acc 4 130),(.slice 9),(.slice 63),(.slice 127),.str,.bool,(.acc 6 182),(.acc 7 234),(.slice 116)]
abbrev sv20:List Shape:=[(.slice 72),(.int .i64),.str,.str,(.con (.arr 1 0 9)),(.con (.arr 2 1 63)),(.con (.arr 3 1 127)),(.acc 4 130),(.slice 9),(.slice 63),(.slice 127),.str,(.acc 6 54),(.acc 7 234),(.acc 8 9),(.slice 116)]
abbrev Q0:Type:=(List PV)×Int×(List UInt8)×(List UInt8)×Unit×Unit×Unit×(List PV)×(List PV)×(List PV)×(List PV)
abbrev Q1:Type:=(List PV)×Int×(List UInt8)×(List UInt8)×Unit×Unit×Unit×(List PV)×(List UInt8)×(List PV)×(List PV)×(List PV)
abbrev Q2:Type:=Unit×Unit×PV×(List PV)×Int×(List UInt8)×(List UInt8)×Unit×Unit×Unit×(List PV)×(List PV)×(List PV)×(List PV)
abbrev Q3:Type:=(List PV)×Int×(List UInt8)×(List UInt8)×Unit×Unit×Unit×(List PV)×PV×(List PV)×(List PV)×(List PV)
abbrev Q4:Type:=(List PV)×Int×Int×(List UInt8)×(List UInt8)×Unit×Unit×Unit×(List PV)×(List PV)×(List PV)×(List PV)
def F362 (uu:Nat) (a0:Int):Option (Bool):=
 some ((af0 .and .i64 a0 (IntKind.wrap .i64 (a0-(1:Int))))==(0:Int))
def F362c (uu:Nat):CallE:=⟨362,⟨1,[],[(.int .i64)]⟩,⟨1,[],[.bool]⟩,fun x=>F362 uu x,false⟩
theorem F362ok (uu:Nat):(F362c uu).Ok Tryz.prog:=okJ Tryz.f362 8 0 uu [] [] false (q0) (p0) L0
abbrev S315_12x:=(List PV)×Int×Bool×Bool×(List PV)×(List UInt8)×Unit×Int×Int×Int×Int×PV
abbrev S315_12y:=((List PV)×Int×Bool×Bool×(List PV)×(List UInt8)×Unit×Int×PV)
def S315_12 (uu:Nat) (a14:List PV) (a15:Int) (a16:Bool) (a17:Bool) (a18:List PV) (a19:List UInt8) (a20:Unit) (a21:Int) (a22:Int) (a23:Int) (a24:Int) (a25:PV):Option (S315_12x⊕S315_12y):=
 bif (decide (a15≥a23)) then
 let x27:=IntKind.wrap .i64 (a21-(1:Int))
 let x28:=af0 .and .u64 a15 a24
 bif aaa x28 (([48,49,50,51,52,53,54,55,56,57,97,98,99,100,101,102,103,104,105,106,107,108,109,110,111,112,113,114,115,116,117,118,119,120,121,122]:List UInt8).length) then
 let x29:=((([48,49,50,51,52,53,54,55,56,57,97,98,99,100,101,102,103,104,105,106,107,108,109,110,111,112,113,114,115,116,117,118,119,120,121,122]:List UInt8).getD x28.toNat 0).toNat:Int)
 bif aaa x27 65 then
 bif decide (0<=a22) then
 some (.inl (a14,(a15.fdiv (2^(min a22.toNat (IntKind.bits .u64)))),a16,a17,a18,a19,(),x27,a22,a23,a24,(PV.agg (a25.parts.set x27.toNat (PV.int x29)))))
 else none
 else none
 else none
 else
 some (.inr (a14,a15,a16,a17,a18,a19,(),a21,a25))
def S315_12step (uu:Nat) (x:S315_12x):Option (S315_12x⊕S315_12y):=S315_12 uu x.1 x.2.1 x.2.2.1 x.2.2.2.1 x.2.2.2.2.1 x.2.2.2.2.2.1 x.2.2.2.2.2.2.1 x.2.2.2.2.2.2.2.1 x.2.2.2.2.2.2.2.2.1 x.2.2.2.2.2.2.2.2.2.1 x.2.2.2.2.2.2.2.2.2.2.1 x.2.2.2.2.2.2.2.2.2.2.2
abbrev S315_19x:=(List PV)×Int×Bool×Bool×(List PV)×(List UInt8)×Unit×Int×Int×PV
abbrev S315_19y:=((List PV)×Int×Bool×Bool×(List PV)×(List UInt8)×Unit×Int×PV)
def S315_19 (uu:Nat) (a45:List PV) (a46:Int) (a47:Bool) (a48:Bool) (a49:List PV) (a50:List UInt8) (a51:Unit) (a52:Int) (a53:Int) (a54:PV):Option (S315_19x⊕S315_19y):=
 bif (decide (a46≥a53)) then
 let x56:=IntKind.wrap .i64 (a52-(1:Int))
 bif !(decide (a53=0)) then
 let x57:=IntKind.wrap .u64 (a46.tdiv a53)
 let x59:=IntKind.wrap .u64 (a46-(IntKind.wrap .u64 (x57*a53)))
 bif aaa x59 (([48,49,50,51,52,53,54,55,56,57,97,98,99,100,101,102,103,104,105,106,107,108,109,110,111,112,113,114,115,116,117,118,119,120,121,122]:List UInt8).length) then
 let x60:=((([48,49,50,51,52,53,54,55,56,57,97,98,99,100,101,102,103,104,105,106,107,108,109,110,111,112,113,114,115,116,117,118,119,120,121,122]:List UInt8).getD x59.toNat 0).toNat:Int)
 bif aaa x56 65 then
 some (.inl (a45,x57,a47,a48,a49,a50,(),x56,a53,(PV.agg (a54.parts.set x56.toNat (PV.int x60)))))
 else none
 else none
 else none
 else
 some (.inr (a45,a46,a47,a48,a49,a50,(),a52,a54))
def S315_19step (uu:Nat) (x:S315_19x):Option (S315_19x⊕S315_19y):=S315_19 uu x.1 x.2.1 x.2.2.1 x.2.2.2.1 x.2.2.2.2.1 x.2.2.2.2.2.1 x.2.2.2.2.2.2.1 x.2.2.2.2.2.2.2.1 x.2.2.2.2.2.2.2.2.1 x.2.2.2.2.2.2.2.2.2
def F315 (uu:Nat) (a0:List PV) (a1:Int) (a2:Int) (a3:Bool) (a4:Bool):Option ((List PV)×(List UInt8)):=
 bif (bif (bif (decide (a2<(2:Int))) then true else (a2==(10:Int))) then true else (decide (a2>(36:Int)))) then
 none
 else
 bif a3 then
 let x6:=IntKind.wrap .u64 (0-a1)
 (F362 uu a2).bind fun y7=>
 bif y7 then
 (Ltz uu (IntKind.wrap .u64 a2)).bind fun y9=>
 (abj uu (S315_12step uu) (a0,x6,a3,a4,[],([]:List UInt8),(),(65:Int),(IntKind.wrap .u64 y9),(IntKind.wrap .u64 a2),(IntKind.wrap .u64 ((IntKind.wrap .u64 a2)-(1:Int))),(PV.agg (List.replicate 65 (PV.int (0:Int)))))).bind fun y31=>
 let x33:=IntKind.wrap .i64 (y31.2.2.2.2.2.2.2.1-(1:Int))
 let x34:=y31.2.1
 bif aaa x34 (([48,49,50,51,52,53,54,55,56,57,97,98,99,100,101,102,103,104,105,106,107,108,109,110,111,112,113,114,115,116,117,118,119,120,121,122]:List UInt8).length) then
 let x35:=((([48,49,50,51,52,53,54,55,56,57,97,98,99,100,101,102,103,104,105,106,107,108,109,110,111,112,113,114,115,116,117,118,119,120,121,122]:List UInt8).getD x34.toNat 0).toNat:Int)
 bif aaa x33 65 then
 bif y31.2.2.1 then
 let x37:=IntKind.wrap .i64 (x33-(1:Int))
 bif aaa x37 65 then
 bif y31.2.2.2.1 then
 bif decide (0<=x37/\x37<65/\x37<=(65:Int)/\(65:Int)<=65) then
 none
 else none
 else
 bif decide (0<=x37/\x37<65/\x37<=(65:Int)/\(65:Int)<=65) then
 let x40:=(((PV.agg ((PV.agg (y31.2.2.2.2.2.2.2.2.parts.set x33.toNat (PV.int x35))).parts.set x37.toNat (PV.int (45:Int)))).parts.drop x37.toNat).take ((65:Int).toNat-x37.toNat)).map aan
 some (y31.2.2.2.2.1,x40)
 else none
 else none
 else
 bif y31.2.2.2.1 then
 bif decide (0<=x33/\x33<65/\x33<=(65:Int)/\(65:Int)<=65) then
 none
 else none
 else
 bif decide (0<=x33/\x33<65/\x33<=(65:Int)/\(65:Int)<=65) then
 let x43:=(((PV.agg (y31.2.2.2.2.2.2.2.2.parts.set x33.toNat (PV.int x35))).parts.drop x33.toNat).take ((65:Int).toNat-x33.toNat)).map aan
 some (y31.2.2.2.2.1,x43)
 else none
 else none
 else none
 else
 (abj uu (S315_19step uu) (a0,x6,a3,a4,[],([]:List UInt8),(),(65:Int),(IntKind.wrap .u64 a2),(PV.agg (List.replicate 65 (PV.int (0:Int)))))).bind fun y61=>
 let x63:=IntKind.wrap .i64 (y61.2.2.2.2.2.2.2.1-(1:Int))
 let x64:=y61.2.1
 bif aaa x64 (([48,49,50,51,52,53,54,55,56,57,97,98,99,100,101,102,103,104,105,106,107,108,109,110,111,112,113,114,115,116,117,118,119,120,121,122]:List UInt8).length) then
 let x65:=((([48,49,50,51,52,53,54,55,56,57,97,98,99,100,101,102,103,104,105,106,107,108,109,110,111,112,113,114,115,116,117,118,119,120,121,122]:List UInt8).getD x64.toNat 0).toNat:Int)
 bif aaa x63 65 then
 bif y61.2.2.1 then
 let x67:=IntKind.wrap .i64 (x63-(1:Int))
 bif aaa x67 65 then
 bif y61.2.2.2.1 then
 bif decide (0<=x67/\x67<65/\x67<=(65:Int)/\(65:Int)<=65) then
 none
 else none
 else
 bif decide (0<=x67/\x67<65/\x67<=(65:Int)/\(65:Int)<=65) then
 let x70:=(((PV.agg ((PV.agg (y61.2.2.2.2.2.2.2.2.parts.set x63.toNat (PV.int x65))).parts.set x67.toNat (PV.int (45:Int)))).parts.drop x67.toNat).take ((65:Int).toNat-x67.toNat)).map aan
 some (y61.2.2.2.2.1,x70)
 else none
 else none
 else
 bif y61.2.2.2.1 then
 bif decide (0<=x63/\x63<65/\x63<=(65:Int)/\(65:Int)<=65) then
 none
 else none
 else
 bif decide (0<=x63/\x63<65/\x63<=(65:Int)/\(65:Int)<=65) then
 let x73:=(((PV.agg (y61.2.2.2.2.2.2.2.2.parts.set x63.toNat (PV.int x65))).parts.drop x63.toNat).take ((65:Int).toNat-x63.toNat)).map aan
 some (y61.2.2.2.2.1,x73)
 else none
 else none
 else none
 else
 (F362 uu a2).bind fun y74=>
 bif y74 then
 (Ltz uu (IntKind.wrap .u64 a2)).bind fun y76=>
 (abj uu (S315_12step uu) (a0,a1,a3,a4,[],([]:List UInt8),(),(65:Int),(IntKind.wrap .u64 y76),(IntKind.wrap .u64 a2),(IntKind.wrap .u64 ((IntKind.wrap .u64 a2)-(1:Int))),(PV.agg (List.replicate 65 (PV.int (0:Int)))))).bind fun y81=>
 let x83:=IntKind.wrap .i64 (y81.2.2.2.2.2.2.2.1-(1:Int))
 let x84:=y81.2.1
 bif aaa x84 (([48,49,50,51,52,53,54,55,56,57,97,98,99,100,101,102,103,104,105,106,107,108,109,110,111,112,113,114,115,116,117,118,119,120,121,122]:List UInt8).length) then
 let x85:=((([48,49,50,51,52,53,54,55,56,57,97,98,99,100,101,102,103,104,105,106,107,108,109,110,111,112,113,114,115,116,117,118,119,120,121,122]:List UInt8).getD x84.toNat 0).toNat:Int)
 bif aaa x83 65 then
 bif y81.2.2.1 then
 let x87:=IntKind.wrap .i64 (x83-(1:Int))
 bif aaa x87 65 then
 bif y81.2.2.2.1 then
 bif decide (0<=x87/\x87<65/\x87<=(65:Int)/\(65:Int)<=65) then
 none
 else none
 else
 bif decide (0<=x87/\x87<65/\x87<=(65:Int)/\(65:Int)<=65) then
 let x90:=(((PV.agg ((PV.agg (y81.2.2.2.2.2.2.2.2.parts.set x83.toNat (PV.int x85))).parts.set x87.toNat (PV.int (45:Int)))).parts.drop x87.toNat).take ((65:Int).toNat-x87.toNat)).map aan
 some (y81.2.2.2.2.1,x90)
 else none
 else none
 else
 bif y81.2.2.2.1 then
 bif decide (0<=x83/\x83<65/\x83<=(65:Int)/\(65:Int)<=65) then
 none
 else none
 else
 bif decide (0<=x83/\x83<65/\x83<=(65:Int)/\(65:Int)<=65) then
 let x93:=(((PV.agg (y81.2.2.2.2.2.2.2.2.parts.set x83.toNat (PV.int x85))).parts.drop x83.toNat).take ((65:Int).toNat-x83.toNat)).map aan
 some (y81.2.2.2.2.1,x93)
 else none
 else none
 else none
 else
 (abj uu (S315_19step uu) (a0,a1,a3,a4,[],([]:List UInt8),(),(65:Int),(IntKind.wrap .u64 a2),(PV.agg (List.replicate 65 (PV.int (0:Int)))))).bind fun y95=>
 let x97:=IntKind.wrap .i64 (y95.2.2.2.2.2.2.2.1-(1:Int))
 let x98:=y95.2.1
 bif aaa x98 (([48,49,50,51,52,53,54,55,56,57,97,98,99,100,101,102,103,104,105,106,107,108,109,110,111,112,113,114,115,116,117,118,119,120,121,122]:List UInt8).length) then
 let x99:=((([48,49,50,51,52,53,54,55,56,57,97,98,99,100,101,102,103,104,105,106,107,108,109,110,111,112,113,114,115,116,117,118,119,120,121,122]:List UInt8).getD x98.toNat 0).toNat:Int)
 bif aaa x97 65 then
 bif y95.2.2.1 then
 let x101:=IntKind.wrap .i64 (x97-(1:Int))
 bif aaa x101 65 then
 bif y95.2.2.2.1 then
 bif decide (0<=x101/\x101<65/\x101<=(65:Int)/\(65:Int)<=65) then
 none
 else none
 else
 bif decide (0<=x101/\x101<65/\x101<=(65:Int)/\(65:Int)<=65) then
 let x104:=(((PV.agg ((PV.agg (y95.2.2.2.2.2.2.2.2.parts.set x97.toNat (PV.int x99))).parts.set x101.toNat (PV.int (45:Int)))).parts.drop x101.toNat).take ((65:Int).toNat-x101.toNat)).map aan
 some (y95.2.2.2.2.1,x104)
 else none
 else none
 else
 bif y95.2.2.2.1 then
 bif decide (0<=x97/\x97<65/\x97<=(65:Int)/\(65:Int)<=65) then
 none
 else none
 else
 bif decide (0<=x97/\x97<65/\x97<=(65:Int)/\(65:Int)<=65) then
 let x107:=(((PV.agg (y95.2.2.2.2.2.2.2.2.parts.set x97.toNat (PV.int x99))).parts.drop x97.toNat).take ((65:Int).toNat-x97.toNat)).map aan
 some (y95.2.2.2.2.1,x107)
 else none
 else none
 else none
def S315_12l (uu:Nat):LoopE:=⟨12,⟨[0,1,3,4,10,11,12,13,14,15,16],bx0,[(.slice 5),(.int .u64),.bool,.bool,(.acc 1 5),.str,(.con (.ref 0 [] 290)),(.int .i64),(.int .u64),(.int .u64),(.int .u64),(.data 290)]⟩,[(.exit 0,⟨[0,1,3,4,10,11,12,13],bx0,[(.slice 5),(.int .u64),.bool,.bool,(.acc 1 5),.str,(.con (.ref 0 [] 290)),(.int .i64),(.data 290)]⟩)],S315_12step uu⟩
def S315_19l (uu:Nat):LoopE:=⟨19,⟨[0,1,3,4,10,11,12,13,17],bx0,[(.slice 5),(.int .u64),.bool,.bool,(.acc 1 5),.str,(.con (.ref 0 [] 290)),(.int .i64),(.int .u64),(.data 290)]⟩,[(.exit 2,⟨[0,1,3,4,10,11,12,13],bx0,[(.slice 5),(.int .u64),.bool,.bool,(.acc 1 5),.str,(.con (.ref 0 [] 290)),(.int .i64),(.data 290)]⟩)],S315_19step uu⟩
def F315C (uu:Nat):Cfg:=cfg Tryz.prog 102 0 [F362c uu,Ltzc uu] [S315_12l uu,S315_19l uu] uu
def F315c (uu:Nat):CallE:=⟨315,⟨5,[],[(.slice 5),(.int .u64),(.int .i64),.bool,.bool]⟩,⟨2,[],[(.slice 5),.str]⟩,fun x=>F315 uu x.1 x.2.1 x.2.2.1 x.2.2.2.1 x.2.2.2.2,([],[])⟩
theorem F315k (uu:Nat):aa8 (F315C uu):=aai (qc (F362ok uu)<|qc (Ltzok uu)<|q0) (p0)
theorem S315_12ok (uu:Nat):aas (F315C uu) (lp (abb Tryz.f315) 0):=okL (F315k uu) uu (S315_12l uu) L0
theorem S315_19ok (uu:Nat):aas (F315C uu) (lp (abb Tryz.f315) 1):=okL (F315k uu) uu (S315_19l uu) L0
theorem F315ok (uu:Nat):(F315c uu).Ok Tryz.prog:=okE Tryz.f315 (F315k uu) (L2 (S315_12ok uu) (S315_19ok uu))
def F241 (uu:Nat) (a0:Int) (a1:Int):Option ((List UInt8)):=
 bif (a1==(10:Int)) then
 bif (decide (a0<(100:Int))) then
 none
 else
 none
 else
 (F315 uu [] a0 a1 false false).bind fun y4=>
 some y4.2
def F241c (uu:Nat):CallE:=⟨241,⟨2,[],[(.int .u64),(.int .i64)]⟩,⟨1,[],[.str]⟩,fun x=>F241 uu x.1 x.2,[]⟩
theorem F241ok (uu:Nat):(F241c uu).Ok Tryz.prog:=okJ Tryz.f241 32 0 uu _ [] false (qc (F315ok uu)<|q0) (p0) L0
def Lfmt (uu:Nat) (u base:Int):Option (List UInt8):=bif decide (base=10) then ay1 uu u base else F241 uu u base
def bae (uu:Nat):CallE:={ f:=241,A:=⟨2,[],[.int .u64,.int .i64]⟩,R:=⟨1,[],[.str]⟩,F:=fun x=>Lfmt uu x.1 x.2,dflt:=[] }
theorem ba0 (uu:Nat):(bae uu).Ok Tryz.prog:=by
 intro x y h
 have h:Lfmt uu x.1 x.2=some y:=h
 unfold Lfmt at h
 cases hb:decide (x.2=10) with
 | true=>rw [hb] at h;exact a9c uu x y h
 | false=>rw [hb] at h;exact F241ok uu x y h
def F297 (uu:Nat) (a0:List UInt8) (a1:List UInt8):Option (Bool):=
 let x3:=decide ((a0.length:Int)≥(a1.length:Int))
 let x4:=(a1.length:Int)
 bif imp x3 (decide (0<=(0:Int)/\(0:Int)<=x4/\x4<=(a0.length:Int))) then
 some (bif x3 then (((a0.take x4.toNat).drop (0:Int).toNat)==a1) else false)
 else none
def F297c (uu:Nat):CallE:=⟨297,⟨2,[],[.str,.str]⟩,⟨1,[],[.bool]⟩,fun x=>F297 uu x.1 x.2,false⟩
theorem F297ok (uu:Nat):(F297c uu).Ok Tryz.prog:=okJ Tryz.f297 18 0 uu [] [] false (q0) (p0) L0
def F230 (uu:Nat) (a0:List UInt8) (a1:List UInt8):Option (Bool):=
 (F297 uu a0 a1).bind fun y1=>
 some y1
def F230c (uu:Nat):CallE:=⟨230,⟨2,[],[.str,.str]⟩,⟨1,[],[.bool]⟩,fun x=>F230 uu x.1 x.2,false⟩
theorem F230ok (uu:Nat):(F230c uu).Ok Tryz.prog:=okJ Tryz.f230 8 0 uu _ [] false (qc (F297ok uu)<|q0) (p0) L0
def F231 (uu:Nat) (a0:Int):Option (Bool):=
 some (bif (bif (decide (a0≥(97:Int))) then (decide (a0<=(122:Int))) else false) then true else (bif (decide (a0≥(65:Int))) then (decide (a0<=(90:Int))) else false))
def F231c (uu:Nat):CallE:=⟨231,⟨1,[],[(.int .u8)]⟩,⟨1,[],[.bool]⟩,fun x=>F231 uu x,false⟩
theorem F231ok (uu:Nat):(F231c uu).Ok Tryz.prog:=okJ Tryz.f231 17 0 uu [] [] false (q0) (p0) L0
def F232 (uu:Nat) (a0:Int):Option (Bool):=
 some (bif (decide (a0≥(48:Int))) then (decide (a0<=(57:Int))) else false)
def F232c (uu:Nat):CallE:=⟨232,⟨1,[],[(.int .u8)]⟩,⟨1,[],[.bool]⟩,fun x=>F232 uu x,false⟩
theorem F232ok (uu:Nat):(F232c uu).Ok Tryz.prog:=okJ Tryz.f232 9 0 uu [] [] false (q0) (p0) L0
def F142 (uu:Nat) (a0:List UInt8):Option (Bool):=
 let x2:=(a0.length:Int)==(1:Int)
 (bif x2 then am5 uu ([123,125,91,93,40,41,60,62,61,59,44,64,45]:List UInt8) a0 else some false).bind fun y3=>
 some (bif x2 then y3 else false)
def F142c (uu:Nat):CallE:=⟨142,⟨1,[],[.str]⟩,⟨1,[],[.bool]⟩,fun x=>F142 uu x,false⟩
theorem F142ok (uu:Nat):(F142c uu).Ok Tryz.prog:=okJ Tryz.f142 10 0 uu _ [] false (qc (avv uu)<|q0) (p0) L0
def F123 (uu:Nat) (a0:List UInt8):Option (Int):=
 bif aaa (0:Int) a0.length then
 let x1:=((a0.getD (0:Int).toNat 0).toNat:Int)
 bif (bif (bif (bif (x1==(32:Int)) then true else (x1==(9:Int))) then true else (x1==(13:Int))) then true else (x1==(10:Int))) then
 some (1:Int)
 else
 (F230 uu a0 ([47,47]:List UInt8)).bind fun y9=>
 bif y9 then
 some (2:Int)
 else
 (F231 uu x1).bind fun y10=>
 let x14:=bif (x1==(46:Int)) then (decide ((a0.length:Int)>(1:Int))) else false
 bif imp (bif x14 then !y10 else false) (aaa (1:Int) a0.length) then
 (bif bif x14 then !y10 else false then F231 uu ((a0.getD (1:Int).toNat 0).toNat:Int) else some false).bind fun y16=>
 bif (bif y10 then true else (bif x14 then y16 else false)) then
 some (3:Int)
 else
 (F232 uu x1).bind fun y19=>
 bif y19 then
 some (4:Int)
 else
 bif (x1==(34:Int)) then
 some (5:Int)
 else
 bif decide (0<=(0:Int)/\(0:Int)<=(1:Int)/\(1:Int)<=(a0.length:Int)) then
 (F142 uu ((a0.take (1:Int).toNat).drop (0:Int).toNat)).bind fun y22=>
 bif y22 then
 some (6:Int)
 else
 some (0:Int)
 else none
 else none
 else none
def F123c (uu:Nat):CallE:=⟨123,⟨1,[],[.str]⟩,⟨1,[],[(.int .i64)]⟩,fun x=>F123 uu x,0⟩
theorem F123ok (uu:Nat):(F123c uu).Ok Tryz.prog:=okJ Tryz.f123 51 0 uu _ [] false (qc (F230ok uu)<|qc (F231ok uu)<|qc (F232ok uu)<|qc (F142ok uu)<|q0) (p0) L0
def F125 (uu:Nat) (a0:Int):Option (Bool):=
 some (a0 != (10:Int))
def F125c (uu:Nat):CallE:=⟨125,⟨1,[],[(.int .u8)]⟩,⟨1,[],[.bool]⟩,fun x=>F125 uu x,false⟩
theorem F125ok (uu:Nat):(F125c uu).Ok Tryz.prog:=okJ Tryz.f125 5 0 uu [] [] false (q0) (p0) L0
abbrev S124_3x:=(List UInt8)×Unit×Int
abbrev S124_3y:=(Int)
def S124_3 (uu:Nat) (a1:List UInt8) (a2:Unit) (a3:Int):Option (S124_3x⊕S124_3y):=
 let x5:=decide (a3<(a1.length:Int))
 bif imp x5 (aaa a3 a1.length) then
 (bif x5 then F125 uu ((a1.getD a3.toNat 0).toNat:Int) else some false).bind fun y7=>
 bif (bif x5 then y7 else false) then
 some (.inl (a1,(),(IntKind.wrap .i64 (a3+(1:Int)))))
 else
 some (.inr a3)
 else none
def S124_3step (uu:Nat) (x:S124_3x):Option (S124_3x⊕S124_3y):=S124_3 uu x.1 x.2.1 x.2.2
def F124 (uu:Nat) (a0:List UInt8) (a1:Unit):Option (Int):=
 (abj uu (S124_3step uu) (a0,(),(0:Int))).bind fun y10=>
 some y10
def S124_3l (uu:Nat):LoopE:=⟨3,⟨[0,1,5],[],[.str,(.con (.fn 125 0 [])),(.int .i64)]⟩,[(.exit 0,⟨[5],[],[(.int .i64)]⟩)],S124_3step uu⟩
def F124C (uu:Nat):Cfg:=cfg Tryz.prog 20 0 [F125c uu] [S124_3l uu] uu
def F124c (uu:Nat):CallE:=⟨124,⟨2,[],[.str,(.con (.fn 125 0 []))]⟩,⟨1,[],[(.int .i64)]⟩,fun x=>F124 uu x.1 x.2,0⟩
theorem F124k (uu:Nat):aa8 (F124C uu):=aai (qc (F125ok uu)<|q0) (p0)
theorem S124_3ok (uu:Nat):aas (F124C uu) (lp (abb Tryz.f124) 0):=okL (F124k uu) uu (S124_3l uu) L0
theorem F124ok (uu:Nat):(F124c uu).Ok Tryz.prog:=okE Tryz.f124 (F124k uu) (L1 (S124_3ok uu))
def S59_3 (uu:Nat) (a1:List UInt8) (a2:Int):Option (((List UInt8)×Int)⊕((Int)⊕(Int))):=
 bif (decide (a2<(a1.length:Int))) then
 bif decide (0<=a2/\a2<=(a1.length:Int)/\(a1.length:Int)<=(a1.length:Int)) then
 (F123 uu ((a1.take (a1.length:Int).toNat).drop a2.toNat)).bind fun y6=>
 bif (y6==(1:Int)) then
 some (.inl (a1,(IntKind.wrap .i64 (a2+(1:Int)))))
 else
 bif (y6==(2:Int)) then
 bif decide (0<=a2/\a2<=(a1.length:Int)/\(a1.length:Int)<=(a1.length:Int)) then
 (F124 uu ((a1.take (a1.length:Int).toNat).drop a2.toNat) ()).bind fun y11=>
 some (.inl (a1,(IntKind.wrap .i64 (a2+y11))))
 else none
 else
 some (.inr (.inl a2))
 else none
 else
 some (.inr (.inr a2))
def S59_3step (uu:Nat) (x:(List UInt8)×Int):Option (((List UInt8)×Int)⊕((Int)⊕(Int))):=S59_3 uu x.1 x.2
def F59 (uu:Nat) (a0:List UInt8):Option (Int):=
 (abj uu (S59_3step uu) (a0,(0:Int))).bind fun z=>sumE (fun y13=>
 some y13
 ) (fun y14=>
 some y14
 ) z
def S59_3l (uu:Nat):LoopE:=⟨3,⟨[0,3],[],sv0⟩,[(.ret,⟨[2],[],[(.int .i64)]⟩),(.exit 0,⟨[3],[],[(.int .i64)]⟩)],S59_3step uu⟩
def F59C (uu:Nat):Cfg:=cfg Tryz.prog 26 0 [F123c uu,F124c uu] [S59_3l uu] uu
def F59c (uu:Nat):CallE:=⟨59,⟨1,[],[.str]⟩,⟨1,[],[(.int .i64)]⟩,fun x=>F59 uu x,0⟩
theorem F59k (uu:Nat):aa8 (F59C uu):=aai (qc (F123ok uu)<|qc (F124ok uu)<|q0) (p0)
theorem S59_3ok (uu:Nat):aas (F59C uu) (lp (abb Tryz.f59) 0):=okL (F59k uu) uu (S59_3l uu) L0
theorem F59ok (uu:Nat):(F59c uu).Ok Tryz.prog:=okE Tryz.f59 (F59k uu) (L1 (S59_3ok uu))
def F235 (uu:Nat) (a0:Int):Option (Bool):=
 (F231 uu a0).bind fun y1=>
 (bif !y1 then F232 uu a0 else some false).bind fun y2=>
 some (bif (bif y1 then true else y2) then true else (a0==(95:Int)))
def F235c (uu:Nat):CallE:=⟨235,⟨1,[],[(.int .u8)]⟩,⟨1,[],[.bool]⟩,fun x=>F235 uu x,false⟩
theorem F235ok (uu:Nat):(F235c uu).Ok Tryz.prog:=okJ Tryz.f235 13 0 uu _ [] false (qc (F231ok uu)<|qc (F232ok uu)<|q0) (p0) L0
abbrev S124_v1_3x:=(List UInt8)×Unit×Int
abbrev S124_v1_3y:=(Int)
def S124_v1_3 (uu:Nat) (a1:List UInt8) (a2:Unit) (a3:Int):Option (S124_v1_3x⊕S124_v1_3y):=
 let x5:=decide (a3<(a1.length:Int))
 bif imp x5 (aaa a3 a1.length) then
 (bif x5 then F235 uu ((a1.getD a3.toNat 0).toNat:Int) else some false).bind fun y7=>
 bif (bif x5 then y7 else false) then
 some (.inl (a1,(),(IntKind.wrap .i64 (a3+(1:Int)))))
 else
 some (.inr a3)
 else none
def S124_v1_3step (uu:Nat) (x:S124_v1_3x):Option (S124_v1_3x⊕S124_v1_3y):=S124_v1_3 uu x.1 x.2.1 x.2.2
def F124_v1 (uu:Nat) (a0:List UInt8) (a1:Unit):Option (Int):=
 (abj uu (S124_v1_3step uu) (a0,(),(0:Int))).bind fun y10=>
 some y10
def S124_v1_3l (uu:Nat):LoopE:=⟨3,⟨[0,1,5],[],[.str,(.con (.fn 235 0 [])),(.int .i64)]⟩,[(.exit 0,⟨[5],[],[(.int .i64)]⟩)],S124_v1_3step uu⟩
def F124_v1C (uu:Nat):Cfg:=cfg Tryz.prog 20 0 [F235c uu] [S124_v1_3l uu] uu
def F124_v1c (uu:Nat):CallE:=⟨124,⟨2,[],[.str,(.con (.fn 235 0 []))]⟩,⟨1,[],[(.int .i64)]⟩,fun x=>F124_v1 uu x.1 x.2,0⟩
theorem F124_v1k (uu:Nat):aa8 (F124_v1C uu):=aai (qc (F235ok uu)<|q0) (p0)
theorem S124_v1_3ok (uu:Nat):aas (F124_v1C uu) (lp (abb Tryz.f124) 0):=okL (F124_v1k uu) uu (S124_v1_3l uu) L0
theorem F124_v1ok (uu:Nat):(F124_v1c uu).Ok Tryz.prog:=okE Tryz.f124 (F124_v1k uu) (L1 (S124_v1_3ok uu))
def S234_5 (uu:Nat) (a3:List UInt8) (a4:Int):Option (((List UInt8)×Int)⊕((Int))):=
 bif decide (0<=a4/\a4<=(a3.length:Int)/\(a3.length:Int)<=(a3.length:Int)) then
 (F124_v1 uu ((a3.take (a3.length:Int).toNat).drop a4.toNat) ()).bind fun y6=>
 let x7:=IntKind.wrap .i64 (a4+y6)
 let x10:=decide ((IntKind.wrap .i64 (x7+(1:Int)))≥(a3.length:Int))
 bif imp (!x10) (aaa x7 a3.length) then
 let x13:=bif x10 then true else (((a3.getD x7.toNat 0).toNat:Int) != (46:Int))
 let x14:=IntKind.wrap .i64 (x7+(1:Int))
 bif imp (!x13) (aaa x14 a3.length) then
 (bif !x13 then F231 uu ((a3.getD x14.toNat 0).toNat:Int) else some false).bind fun y16=>
 bif (bif x13 then true else (!y16)) then
 some (.inr x7)
 else
 some (.inl (a3,(IntKind.wrap .i64 (x7+(1:Int)))))
 else none
 else none
 else none
def S234_5step (uu:Nat) (x:(List UInt8)×Int):Option (((List UInt8)×Int)⊕((Int))):=S234_5 uu x.1 x.2
def F234 (uu:Nat) (a0:List UInt8):Option (Int):=
 bif aaa (0:Int) a0.length then
 bif (((a0.getD (0:Int).toNat 0).toNat:Int)==(46:Int)) then
 (abj uu (S234_5step uu) (a0,(1:Int))).bind fun y20=>
 some y20
 else
 (abj uu (S234_5step uu) (a0,(0:Int))).bind fun y21=>
 some y21
 else none
def S234_5l (uu:Nat):LoopE:=⟨5,⟨[0,3],[],sv0⟩,[(.ret,⟨[2],[],[(.int .i64)]⟩)],S234_5step uu⟩
def F234C (uu:Nat):Cfg:=cfg Tryz.prog 35 0 [F124_v1c uu,F231c uu] [S234_5l uu] uu
def F234c (uu:Nat):CallE:=⟨234,⟨1,[],[.str]⟩,⟨1,[],[(.int .i64)]⟩,fun x=>F234 uu x,0⟩
theorem F234k (uu:Nat):aa8 (F234C uu):=aai (qc (F124_v1ok uu)<|qc (F231ok uu)<|q0) (p0)
theorem S234_5ok (uu:Nat):aas (F234C uu) (lp (abb Tryz.f234) 0):=okL (F234k uu) uu (S234_5l uu) L0
theorem F234ok (uu:Nat):(F234c uu).Ok Tryz.prog:=okE Tryz.f234 (F234k uu) (L1 (S234_5ok uu))
def F245 (uu:Nat) (a0:List UInt8) (a1:List UInt8):Option ((List UInt8)):=
 (F297 uu a0 a1).bind fun y1=>
 bif y1 then
 let x2:=(a1.length:Int)
 bif decide (0<=x2/\x2<=(a0.length:Int)/\(a0.length:Int)<=(a0.length:Int)) then
 some ((a0.take (a0.length:Int).toNat).drop x2.toNat)
 else none
 else
 some a0
def F245c (uu:Nat):CallE:=⟨245,⟨2,[],[.str,.str]⟩,⟨1,[],[.str]⟩,fun x=>F245 uu x.1 x.2,[]⟩
theorem F245ok (uu:Nat):(F245c uu).Ok Tryz.prog:=okJ Tryz.f245 13 0 uu _ [] false (qc (F297ok uu)<|q0) (p0) L0
def F141 (uu:Nat) (a0:List UInt8) (a1:List UInt8):Option ((List UInt8)):=
 (F245 uu a0 a1).bind fun y1=>
 some y1
def F141c (uu:Nat):CallE:=⟨141,⟨2,[],[.str,.str]⟩,⟨1,[],[.str]⟩,fun x=>F141 uu x.1 x.2,[]⟩
theorem F141ok (uu:Nat):(F141c uu).Ok Tryz.prog:=okJ Tryz.f141 8 0 uu _ [] false (qc (F245ok uu)<|q0) (p0) L0
def F285 (uu:Nat) (a0:Int):Option (Int):=
 bif (bif (decide (a0≥(97:Int))) then (decide (a0<=(122:Int))) else false) then
 some (1:Int)
 else
 bif (bif (decide (a0≥(65:Int))) then (decide (a0<=(90:Int))) else false) then
 some (2:Int)
 else
 bif (bif (decide (a0≥(48:Int))) then (decide (a0<=(57:Int))) else false) then
 some (3:Int)
 else
 bif (a0==(95:Int)) then
 some (4:Int)
 else
 some (0:Int)
def F285c (uu:Nat):CallE:=⟨285,⟨1,[],[(.int .i32)]⟩,⟨1,[],[(.int .i64)]⟩,fun x=>F285 uu x,0⟩
theorem F285ok (uu:Nat):(F285c uu).Ok Tryz.prog:=okJ Tryz.f285 27 0 uu [] [] false (q0) (p0) L0
abbrev S202_3x:=(List UInt8)×Unit×(List UInt8)×Int
abbrev S202_3y:=(Bool×(List UInt8)×Int)⊕((List UInt8)×(List UInt8)×Int)
def S202_3 (uu:Nat) (a1:List UInt8) (a2:Unit) (a3:List UInt8) (a4:Int):Option (S202_3x⊕S202_3y):=
 bif (decide (a4.toNat<a3.length)) then
 bif decide (a4.toNat<a3.length) then
 bif decide (a4.toNat<a3.length) then
 (F285 uu ((Utf8.decode ⟨a3.toArray⟩ a4.toNat).1:Int)).bind fun y8=>
 bif (bif (y8==(0:Int)) then true else (bif (bif ((a4.toNat:Int)==(0:Int)) then (y8 != (1:Int)) else false) then (y8 != (2:Int)) else false)) then
 some (.inr (.inl (false,a3,((bif decide (a4.toNat<a3.length) then a4.toNat+(Utf8.decode ⟨a3.toArray⟩ a4.toNat).2 else a4.toNat:Nat):Int))))
 else
 some (.inl (a1,(),a3,((bif decide (a4.toNat<a3.length) then a4.toNat+(Utf8.decode ⟨a3.toArray⟩ a4.toNat).2 else a4.toNat:Nat):Int)))
 else none
 else none
 else
 some (.inr (.inr (a1,a3,((bif decide (a4.toNat<a3.length) then a4.toNat+(Utf8.decode ⟨a3.toArray⟩ a4.toNat).2 else a4.toNat:Nat):Int))))
def S202_3step (uu:Nat) (x:S202_3x):Option (S202_3x⊕S202_3y):=S202_3 uu x.1 x.2.1 x.2.2.1 x.2.2.2
def F202 (uu:Nat) (a0:List UInt8):Option (Bool):=
 (abj uu (S202_3step uu) (a0,(),a0,((0:Nat):Int))).bind fun z=>sumE (fun y16=>
 some y16.1
 ) (fun y17=>
 some (bif (decide ((y17.1.length:Int)≥(1:Int))) then (decide ((y17.1.length:Int)<=(40:Int))) else false)
 ) z
def S202_3l (uu:Nat):LoopE:=⟨3,⟨[0,7],[.iter],.str::(.con (.iref 0))::sv0⟩,[(.ret,⟨[2],[.iter],.bool::sv0⟩),(.exit 0,⟨[0],[.iter],sv1⟩)],S202_3step uu⟩
def F202C (uu:Nat):Cfg:=cfg Tryz.prog 36 0 [F285c uu] [S202_3l uu] uu
def F202c (uu:Nat):CallE:=⟨202,⟨1,[],[.str]⟩,⟨1,[],[.bool]⟩,fun x=>F202 uu x,false⟩
theorem F202k (uu:Nat):aa8 (F202C uu):=aai (qc (F285ok uu)<|q0) (p0)
theorem S202_3ok (uu:Nat):aas (F202C uu) (lp (abb Tryz.f202) 0):=okL (F202k uu) uu (S202_3l uu) L0
theorem F202ok (uu:Nat):(F202c uu).Ok Tryz.prog:=okE Tryz.f202 (F202k uu) (L1 (S202_3ok uu))
abbrev S140_3x:=(List UInt8)×(List PV)×Int×Int
abbrev S140_3y:=(Bool)⊕((List UInt8))
def S140_3 (uu:Nat) (a3:List UInt8) (a4:List PV) (a5:Int) (a6:Int):Option (S140_3x⊕S140_3y):=
 bif (decide (a6<a5)) then
 bif aaa a6 a4.length then
 (F202 uu (a4.getD a6.toNat .bad).asStr).bind fun y10=>
 bif (!y10) then
 some (.inr (.inl false))
 else
 some (.inl (a3,a4,a5,(IntKind.wrap .i64 (a6+(1:Int)))))
 else none
 else
 some (.inr (.inr a3))
def S140_3step (uu:Nat) (x:S140_3x):Option (S140_3x⊕S140_3y):=S140_3 uu x.1 x.2.1 x.2.2.1 x.2.2.2
def F140 (uu:Nat) (a0:List UInt8):Option (Bool):=
 (ama uu a0 ([46]:List UInt8)).bind fun y1=>
 (abj uu (S140_3step uu) (a0,y1,(y1.length:Int),(0:Int))).bind fun z=>sumE (fun y13=>
 some y13
 ) (fun y14=>
 some (decide ((y14.length:Int)<=(120:Int)))
 ) z
def S140_3l (uu:Nat):LoopE:=⟨3,⟨[0,6,7,8],[],.str::(.slice 9)::sv2⟩,[(.ret,⟨[2],[],[.bool]⟩),(.exit 0,⟨[0],[],[.str]⟩)],S140_3step uu⟩
def F140C (uu:Nat):Cfg:=cfg Tryz.prog 19 0 [auk uu,F202c uu] [S140_3l uu] uu
def F140c (uu:Nat):CallE:=⟨140,⟨1,[],[.str]⟩,⟨1,[],[.bool]⟩,fun x=>F140 uu x,false⟩
theorem F140k (uu:Nat):aa8 (F140C uu):=aai (qc (axa uu)<|qc (F202ok uu)<|q0) (p0)
theorem S140_3ok (uu:Nat):aas (F140C uu) (lp (abb Tryz.f140) 0):=okL (F140k uu) uu (S140_3l uu) L0
theorem F140ok (uu:Nat):(F140c uu).Ok Tryz.prog:=okE Tryz.f140 (F140k uu) (L1 (S140_3ok uu))
def F129 (uu:Nat) (a0:List UInt8):Option (PV×Int×Int):=
 (F234 uu a0).bind fun y1=>
 bif decide (0<=(0:Int)/\(0:Int)<=y1/\y1<=(a0.length:Int)) then
 (F141 uu ((a0.take y1.toNat).drop (0:Int).toNat) ([46]:List UInt8)).bind fun y3=>
 (F140 uu y3).bind fun y4=>
 bif (!y4) then
 some ((PV.agg [(PV.int (0:Int)),(PV.str ([]:List UInt8)),(PV.int (0:Int)),(PV.int (0:Int))]),(0:Int),(8:Int))
 else
 bif decide (0<=(0:Int)/\(0:Int)<=y1/\y1<=(a0.length:Int)) then
 some ((PV.agg [(PV.int (1:Int)),(PV.str ((a0.take y1.toNat).drop (0:Int).toNat)),(PV.int (0:Int)),(PV.int (0:Int))]),y1,(0:Int))
 else none
 else none
def F129c (uu:Nat):CallE:=⟨129,⟨1,[],[.str]⟩,⟨3,[],sv3⟩,fun x=>F129 uu x,(PV.bad,0,0)⟩
theorem F129ok (uu:Nat):(F129c uu).Ok Tryz.prog:=okJ Tryz.f129 20 0 uu _ [] false (qc (F234ok uu)<|qc (F141ok uu)<|qc (F140ok uu)<|q0) (p0) L0
abbrev S124_v2_3x:=(List UInt8)×Unit×Int
abbrev S124_v2_3y:=(Int)
def S124_v2_3 (uu:Nat) (a1:List UInt8) (a2:Unit) (a3:Int):Option (S124_v2_3x⊕S124_v2_3y):=
 let x5:=decide (a3<(a1.length:Int))
 bif imp x5 (aaa a3 a1.length) then
 (bif x5 then F232 uu ((a1.getD a3.toNat 0).toNat:Int) else some false).bind fun y7=>
 bif (bif x5 then y7 else false) then
 some (.inl (a1,(),(IntKind.wrap .i64 (a3+(1:Int)))))
 else
 some (.inr a3)
 else none
def S124_v2_3step (uu:Nat) (x:S124_v2_3x):Option (S124_v2_3x⊕S124_v2_3y):=S124_v2_3 uu x.1 x.2.1 x.2.2
def F124_v2 (uu:Nat) (a0:List UInt8) (a1:Unit):Option (Int):=
 (abj uu (S124_v2_3step uu) (a0,(),(0:Int))).bind fun y10=>
 some y10
def S124_v2_3l (uu:Nat):LoopE:=⟨3,⟨[0,1,5],[],[.str,(.con (.fn 232 0 [])),(.int .i64)]⟩,[(.exit 0,⟨[5],[],[(.int .i64)]⟩)],S124_v2_3step uu⟩
def F124_v2C (uu:Nat):Cfg:=cfg Tryz.prog 20 0 [F232c uu] [S124_v2_3l uu] uu
def F124_v2c (uu:Nat):CallE:=⟨124,⟨2,[],[.str,(.con (.fn 232 0 []))]⟩,⟨1,[],[(.int .i64)]⟩,fun x=>F124_v2 uu x.1 x.2,0⟩
theorem F124_v2k (uu:Nat):aa8 (F124_v2C uu):=aai (qc (F232ok uu)<|q0) (p0)
theorem S124_v2_3ok (uu:Nat):aas (F124_v2C uu) (lp (abb Tryz.f124) 0):=okL (F124_v2k uu) uu (S124_v2_3l uu) L0
theorem F124_v2ok (uu:Nat):(F124_v2c uu).Ok Tryz.prog:=okE Tryz.f124 (F124_v2k uu) (L1 (S124_v2_3ok uu))
def F130 (uu:Nat) (a0:List UInt8):Option (PV×Int×Int):=
 (F124_v2 uu a0 ()).bind fun y1=>
 let x2:=decide (y1>(1:Int))
 bif imp x2 (aaa (0:Int) a0.length) then
 let x5:=bif x2 then (((a0.getD (0:Int).toNat 0).toNat:Int)==(48:Int)) else false
 let x7:=decide (y1<(a0.length:Int))
 bif imp (bif x7 then !x5 else false) (aaa y1 a0.length) then
 (bif bif x7 then !x5 else false then F235 uu ((a0.getD y1.toNat 0).toNat:Int) else some false).bind fun y9=>
 bif (bif x5 then true else (bif x7 then y9 else false)) then
 some ((PV.agg [(PV.int (0:Int)),(PV.str ([]:List UInt8)),(PV.int (0:Int)),(PV.int (0:Int))]),(0:Int),(2:Int))
 else
 bif decide (0<=(0:Int)/\(0:Int)<=y1/\y1<=(a0.length:Int)) then
 (acf uu ((a0.take y1.toNat).drop (0:Int).toNat) (10:Int) (64:Int)).bind fun y13=>
 bif (!y13.2) then
 some ((PV.agg [(PV.int (0:Int)),(PV.str ([]:List UInt8)),(PV.int (0:Int)),(PV.int (0:Int))]),(0:Int),(6:Int))
 else
 some ((PV.agg [(PV.int (2:Int)),(PV.str ([]:List UInt8)),(PV.int (IntKind.wrap .i64 y13.1)),(PV.int (0:Int))]),y1,(0:Int))
 else none
 else none
 else none
def F130c (uu:Nat):CallE:=⟨130,⟨1,[],[.str]⟩,⟨3,[],sv3⟩,fun x=>F130 uu x,(PV.bad,0,0)⟩
theorem F130ok (uu:Nat):(F130c uu).Ok Tryz.prog:=okJ Tryz.f130 44 0 uu _ [] false (qc (F124_v2ok uu)<|qc (F235ok uu)<|qc (ahf uu)<|q0) (p0) L0
def F304 (uu:Nat) (a0:Int):Option (Int×Bool):=
 bif (a0==(34:Int)) then
 some (a0,true)
 else
 bif (a0==(92:Int)) then
 some (a0,true)
 else
 bif (a0==(110:Int)) then
 some ((10:Int),true)
 else
 bif (a0==(116:Int)) then
 some ((9:Int),true)
 else
 bif (a0==(114:Int)) then
 some ((13:Int),true)
 else
 some ((0:Int),false)
def F304c (uu:Nat):CallE:=⟨304,⟨1,[],[(.int .u8)]⟩,⟨2,[],[(.int .u8),.bool]⟩,fun x=>F304 uu x,(0,false)⟩
theorem F304ok (uu:Nat):(F304c uu).Ok Tryz.prog:=okJ Tryz.f304 15 0 uu [] [] false (q0) (p0) L0
def F305 (uu:Nat) (a0:Int):Option (Int):=
 (api uu ([48,49,50,51,52,53,54,55,56,57,97,98,99,100,101,102]:List UInt8) a0).bind fun y1=>
 some y1
def F305c (uu:Nat):CallE:=⟨305,⟨1,[],[(.int .u8)]⟩,⟨1,[],[(.int .i64)]⟩,fun x=>F305 uu x,0⟩
theorem F305ok (uu:Nat):(F305c uu).Ok Tryz.prog:=okJ Tryz.f305 5 0 uu _ [] false (qc (arz uu)<|q0) (p0) L0
def F237 (uu:Nat) (a0:List UInt8) (a1:Int):Option (Int×Int):=
 bif (decide ((IntKind.wrap .i64 (a1+(1:Int)))≥(a0.length:Int))) then
 some ((0:Int),(0:Int))
 else
 let x4:=IntKind.wrap .i64 (a1+(1:Int))
 bif aaa x4 a0.length then
 (F304 uu ((a0.getD x4.toNat 0).toNat:Int)).bind fun y6=>
 bif y6.2 then
 some (y6.1,(2:Int))
 else
 let x9:=IntKind.wrap .i64 (a1+(1:Int))
 bif aaa x9 a0.length then
 let x15:=bif (((a0.getD x9.toNat 0).toNat:Int) != (120:Int)) then true else (decide ((IntKind.wrap .i64 (a1+(3:Int)))≥(a0.length:Int)))
 let x16:=IntKind.wrap .i64 (a1+(2:Int))
 bif imp (!x15) (aaa x16 a0.length) then
 (bif !x15 then F305 uu ((a0.getD x16.toNat 0).toNat:Int) else some 0).bind fun y18=>
 let x20:=bif x15 then true else (decide (y18<(0:Int)))
 let x21:=IntKind.wrap .i64 (a1+(3:Int))
 bif imp (!x20) (aaa x21 a0.length) then
 (bif !x20 then F305 uu ((a0.getD x21.toNat 0).toNat:Int) else some 0).bind fun y23=>
 bif (bif x20 then true else (decide (y23<(0:Int)))) then
 some ((0:Int),(0:Int))
 else
 let x26:=IntKind.wrap .i64 (a1+(2:Int))
 bif aaa x26 a0.length then
 (F305 uu ((a0.getD x26.toNat 0).toNat:Int)).bind fun y28=>
 let x29:=IntKind.wrap .i64 (y28*2^(min (4:Int).toNat (IntKind.bits .i64)))
 let x30:=IntKind.wrap .i64 (a1+(3:Int))
 bif aaa x30 a0.length then
 (F305 uu ((a0.getD x30.toNat 0).toNat:Int)).bind fun y32=>
 some ((IntKind.wrap .u8 (af0 .or .i64 x29 y32)),(4:Int))
 else none
 else none
 else none
 else none
 else none
 else none
def F237c (uu:Nat):CallE:=⟨237,⟨2,[],sv0⟩,⟨2,[],[(.int .u8),(.int .i64)]⟩,fun x=>F237 uu x.1 x.2,(0,0)⟩
theorem F237ok (uu:Nat):(F237c uu).Ok Tryz.prog:=okJ Tryz.f237 64 0 uu _ [] false (qc (F304ok uu)<|qc (F305ok uu)<|q0) (p0) L0
def F310 (uu:Nat) (a0:List UInt8) (a1:Int) (a2:Int):Option (Bool):=
 let x1:=a2==(65533:Int)
 bif imp x1 (decide (0<=a1/\a1<=(a0.length:Int)/\(a0.length:Int)<=(a0.length:Int))) then
 (bif x1 then F230 uu ((a0.take (a0.length:Int).toNat).drop a1.toNat) ([239,191,189]:List UInt8) else some false).bind fun y3=>
 some (bif x1 then (!y3) else false)
 else none
def F310c (uu:Nat):CallE:=⟨310,⟨3,[],[.str,(.int .i64),(.int .i32)]⟩,⟨1,[],[.bool]⟩,fun x=>F310 uu x.1 x.2.1 x.2.2,false⟩
theorem F310ok (uu:Nat):(F310c uu).Ok Tryz.prog:=okJ Tryz.f310 16 0 uu _ [] false (qc (F230ok uu)<|q0) (p0) L0
def F311 (uu:Nat) (a0:Int):Option ((List UInt8)):=
 let x1:=a0.fdiv (2^(min (4:Int).toNat (IntKind.bits .u8)))
 let x3:=IntKind.wrap .u8 ((a0.fdiv (2^(min (4:Int).toNat (IntKind.bits .u8))))+(1:Int))
 bif decide (0<=x1/\x1<=x3/\x3<=(([48,49,50,51,52,53,54,55,56,57,97,98,99,100,101,102]:List UInt8).length:Int)) then
 let x4:=(([48,49,50,51,52,53,54,55,56,57,97,98,99,100,101,102]:List UInt8).take x3.toNat).drop x1.toNat
 bif decide (([92,120]:List UInt8).length+x4.length<=aa2) then
 let x5:=af0 .and .u8 a0 (15:Int)
 let x7:=IntKind.wrap .u8 ((af0 .and .u8 a0 (15:Int))+(1:Int))
 bif decide (0<=x5/\x5<=x7/\x7<=(([48,49,50,51,52,53,54,55,56,57,97,98,99,100,101,102]:List UInt8).length:Int)) then
 let x8:=(([48,49,50,51,52,53,54,55,56,57,97,98,99,100,101,102]:List UInt8).take x7.toNat).drop x5.toNat
 bif decide ((([92,120]:List UInt8)++x4).length+x8.length<=aa2) then
 some ((([92,120]:List UInt8)++x4)++x8)
 else none
 else none
 else none
 else none
def F311c (uu:Nat):CallE:=⟨311,⟨1,[],[(.int .u8)]⟩,⟨1,[],[.str]⟩,fun x=>F311 uu x,[]⟩
theorem F311ok (uu:Nat):(F311c uu).Ok Tryz.prog:=okJ Tryz.f311 17 0 uu [] [] false (q0) (p0) L0
def F240 (uu:Nat) (a0:List UInt8) (a1:Int) (a2:Int):Option ((List UInt8)):=
 bif (a2==(34:Int)) then
 some ([92,34]:List UInt8)
 else
 bif (a2==(92:Int)) then
 some ([92,92]:List UInt8)
 else
 bif (a2==(10:Int)) then
 some ([92,110]:List UInt8)
 else
 bif (a2==(9:Int)) then
 some ([92,116]:List UInt8)
 else
 bif (a2==(13:Int)) then
 some ([92,114]:List UInt8)
 else
 let x8:=bif (decide (a2<(32:Int))) then true else (a2==(127:Int))
 (bif !x8 then F310 uu a0 a1 a2 else some false).bind fun y9=>
 bif (bif x8 then true else y9) then
 bif aaa a1 a0.length then
 (F311 uu ((a0.getD a1.toNat 0).toNat:Int)).bind fun y12=>
 some y12
 else none
 else
 some ((Utf8.encode a2).data.toList)
def F240c (uu:Nat):CallE:=⟨240,⟨3,[],[.str,(.int .i64),(.int .i32)]⟩,⟨1,[],[.str]⟩,fun x=>F240 uu x.1 x.2.1 x.2.2,[]⟩
theorem F240ok (uu:Nat):(F240c uu).Ok Tryz.prog:=okJ Tryz.f240 41 0 uu _ [] false (qc (F310ok uu)<|qc (F311ok uu)<|q0) (p0) L0
abbrev S134_5x:=(List UInt8)×Unit×Unit×(List UInt8)×(List UInt8)×Int
abbrev S134_5y:=(Unit×(List UInt8)×(List UInt8)×Int)
def S134_5 (uu:Nat) (a2:List UInt8) (a3:Unit) (a4:Unit) (a5:List UInt8) (a6:List UInt8) (a7:Int):Option (S134_5x⊕S134_5y):=
 bif (decide (a7.toNat<a6.length)) then
 bif decide (a7.toNat<a6.length) then
 bif decide (a7.toNat<a6.length) then
 (F240 uu a2 (a7.toNat:Int) ((Utf8.decode ⟨a6.toArray⟩ a7.toNat).1:Int)).bind fun y11=>
 (abz uu y11 a5).bind fun y12=>
 some (.inl (a2,(),(),y12.2.2,a6,((bif decide (a7.toNat<a6.length) then a7.toNat+(Utf8.decode ⟨a6.toArray⟩ a7.toNat).2 else a7.toNat:Nat):Int)))
 else none
 else none
 else
 some (.inr ((),a5,a6,((bif decide (a7.toNat<a6.length) then a7.toNat+(Utf8.decode ⟨a6.toArray⟩ a7.toNat).2 else a7.toNat:Nat):Int)))
def S134_5step (uu:Nat) (x:S134_5x):Option (S134_5x⊕S134_5y):=S134_5 uu x.1 x.2.1 x.2.2.1 x.2.2.2.1 x.2.2.2.2.1 x.2.2.2.2.2
def F134 (uu:Nat) (a0:List UInt8):Option ((List UInt8)):=
 (abz uu ([34]:List UInt8) []).bind fun y1=>
 (abj uu (S134_5step uu) (a0,(),(),y1.2.2,a0,((0:Nat):Int))).bind fun y13=>
 (abz uu ([34]:List UInt8) y13.2.1).bind fun y14=>
 (auf uu y14.2.2).bind fun y15=>
 some y15.1
def S134_5l (uu:Nat):LoopE:=⟨5,⟨[0,3,8],[.bld 106,.iter],.str::(.con (.bref 0 106))::(.con (.iref 1))::sv1⟩,[(.exit 0,⟨[3],[.bld 106,.iter],(.con (.bref 0 106))::sv1⟩)],S134_5step uu⟩
def F134C (uu:Nat):Cfg:=cfg Tryz.prog 20 0 [afy uu,F240c uu,ala uu] [S134_5l uu] uu
def F134c (uu:Nat):CallE:=⟨134,⟨1,[],[.str]⟩,⟨1,[],[.str]⟩,fun x=>F134 uu x,[]⟩
theorem F134k (uu:Nat):aa8 (F134C uu):=aai (qc (ajc uu)<|qc (F240ok uu)<|qc (aqa uu)<|q0) (p0)
theorem S134_5ok (uu:Nat):aas (F134C uu) (lp (abb Tryz.f134) 0):=okL (F134k uu) uu (S134_5l uu) L0
theorem F134ok (uu:Nat):(F134c uu).Ok Tryz.prog:=okE Tryz.f134 (F134k uu) (L1 (S134_5ok uu))
abbrev S131_6x:=(List UInt8)×(List PV)×Int
abbrev S131_6y:=((List UInt8)×Int×Int)⊕((List UInt8)×(List PV)×Int)
def S131_6 (uu:Nat) (a5:List UInt8) (a6:List PV) (a7:Int):Option (S131_6x⊕S131_6y):=
 let x9:=decide (a7<(a5.length:Int))
 bif imp x9 (aaa a7 a5.length) then
 bif (bif x9 then (((a5.getD a7.toNat 0).toNat:Int) != (34:Int)) else false) then
 bif aaa a7 a5.length then
 let x13:=((a5.getD a7.toNat 0).toNat:Int)
 bif (x13==(92:Int)) then
 (F237 uu a5 a7).bind fun y15=>
 let x16:=y15.1
 let x17:=y15.2
 bif (x17==(0:Int)) then
 some (.inr (.inl (([]:List UInt8),(0:Int),(2:Int))))
 else
 bif decide (a6.length+[(PV.int x16)].length<=aal) then
 some (.inl (a5,(a6++[(PV.int x16)]),(IntKind.wrap .i64 (a7+x17))))
 else none
 else
 bif ((1:Int)==(0:Int)) then
 some (.inr (.inl (([]:List UInt8),(0:Int),(2:Int))))
 else
 bif decide (a6.length+[(PV.int x13)].length<=aal) then
 some (.inl (a5,(a6++[(PV.int x13)]),(IntKind.wrap .i64 (a7+(1:Int)))))
 else none
 else none
 else
 some (.inr (.inr (a5,a6,a7)))
 else none
def S131_6step (uu:Nat) (x:S131_6x):Option (S131_6x⊕S131_6y):=S131_6 uu x.1 x.2.1 x.2.2
def F131 (uu:Nat) (a0:List UInt8):Option ((List UInt8)×Int×Int):=
 let x1:=a0==([]:List UInt8)
 bif imp (!x1) (aaa (0:Int) a0.length) then
 bif (bif x1 then true else (((a0.getD (0:Int).toNat 0).toNat:Int) != (34:Int))) then
 some (([]:List UInt8),(0:Int),(2:Int))
 else
 (abj uu (S131_6step uu) (a0,[],(1:Int))).bind fun z=>sumE (fun y24=>
 some (y24.1,y24.2.1,y24.2.2)
 ) (fun y25=>
 let x27:=y25.2.1.map aan
 let x31:=decide (y25.2.2≥(y25.1.length:Int))
 (bif !x31 then F134 uu x27 else some []).bind fun y32=>
 let x33:=y25.1
 let x35:=IntKind.wrap .i64 (y25.2.2+(1:Int))
 bif imp (!x31) (decide (0<=(0:Int)/\(0:Int)<=x35/\x35<=(x33.length:Int))) then
 bif (bif x31 then true else (!(y32==((x33.take x35.toNat).drop (0:Int).toNat)))) then
 some (([]:List UInt8),(0:Int),(2:Int))
 else
 some (x27,(IntKind.wrap .i64 (y25.2.2+(1:Int))),(0:Int))
 else none
 ) z
 else none
def S131_6l (uu:Nat):LoopE:=⟨6,⟨[0,5,6],[.acc],sv4⟩,[(.ret,⟨[2,3,4],[.acc],sv5⟩),(.exit 0,⟨[0,5,6],[.acc],sv4⟩)],S131_6step uu⟩
def F131C (uu:Nat):Cfg:=cfg Tryz.prog 65 0 [F237c uu,F134c uu] [S131_6l uu] uu
def F131c (uu:Nat):CallE:=⟨131,⟨1,[],[.str]⟩,⟨3,[],sv5⟩,fun x=>F131 uu x,([],0,0)⟩
theorem F131k (uu:Nat):aa8 (F131C uu):=aai (qc (F237ok uu)<|qc (F134ok uu)<|q0) (p0)
theorem S131_6ok (uu:Nat):aas (F131C uu) (lp (abb Tryz.f131) 0):=okL (F131k uu) uu (S131_6l uu) L0
theorem F131ok (uu:Nat):(F131c uu).Ok Tryz.prog:=okE Tryz.f131 (F131k uu) (L1 (S131_6ok uu))
def F61 (uu:Nat) (a0:List UInt8):Option (PV×Int×Int):=
 (F123 uu a0).bind fun y1=>
 bif (y1==(3:Int)) then
 (F129 uu a0).bind fun y3=>
 some (y3.1,y3.2.1,y3.2.2)
 else
 bif (y1==(4:Int)) then
 (F130 uu a0).bind fun y8=>
 some (y8.1,y8.2.1,y8.2.2)
 else
 bif (y1==(5:Int)) then
 (F131 uu a0).bind fun y13=>
 some ((PV.agg [(PV.int (3:Int)),(PV.str y13.1),(PV.int (0:Int)),(PV.int (0:Int))]),y13.2.1,y13.2.2)
 else
 bif (y1==(6:Int)) then
 bif decide (0<=(0:Int)/\(0:Int)<=(1:Int)/\(1:Int)<=(a0.length:Int)) then
 some ((PV.agg [(PV.int (4:Int)),(PV.str ((a0.take (1:Int).toNat).drop (0:Int).toNat)),(PV.int (0:Int)),(PV.int (0:Int))]),(1:Int),(0:Int))
 else none
 else
 some ((PV.agg [(PV.int (0:Int)),(PV.str ([]:List UInt8)),(PV.int (0:Int)),(PV.int (0:Int))]),(0:Int),(2:Int))
def F61c (uu:Nat):CallE:=⟨61,⟨1,[],[.str]⟩,⟨3,[],sv3⟩,fun x=>F61 uu x,(PV.bad,0,0)⟩
theorem F61ok (uu:Nat):(F61c uu).Ok Tryz.prog:=okJ Tryz.f61 42 0 uu _ [] false (qc (F123ok uu)<|qc (F129ok uu)<|qc (F130ok uu)<|qc (F131ok uu)<|q0) (p0) L0
abbrev S28_7x:=(List UInt8)×(List PV)×Int×Int
abbrev S28_7y:=((List PV))⊕((List PV)×Int×Int)
def S28_7 (uu:Nat) (a3:List UInt8) (a4:List PV) (a5:Int) (a6:Int):Option (S28_7x⊕S28_7y):=
 bif (decide (a6<(a3.length:Int))) then
 bif decide (0<=a6/\a6<=(a3.length:Int)/\(a3.length:Int)<=(a3.length:Int)) then
 (F59 uu ((a3.take (a3.length:Int).toNat).drop a6.toNat)).bind fun y10=>
 let x11:=IntKind.wrap .i64 (a6+y10)
 bif decide (0<=a6/\a6<=x11/\x11<=(a3.length:Int)) then
 (atl uu ((a3.take x11.toNat).drop a6.toNat) ([10]:List UInt8)).bind fun y13=>
 let x14:=IntKind.wrap .i64 (a5+y13)
 let x15:=IntKind.wrap .i64 (a6+y10)
 bif (x15==(a3.length:Int)) then
 some (.inr (.inl a4))
 else
 bif decide (0<=x15/\x15<=(a3.length:Int)/\(a3.length:Int)<=(a3.length:Int)) then
 (F61 uu ((a3.take (a3.length:Int).toNat).drop x15.toNat)).bind fun y19=>
 let x20:=y19.1
 let x21:=y19.2.1
 let x22:=y19.2.2
 bif (x22 != (0:Int)) then
 some (.inr (.inr ([],x14,x22)))
 else
 let x24:=(x20.fld 0).asInt
 let x25:=(x20.fld 1).asStr
 let x26:=(x20.fld 2).asInt
 bif decide (a4.length+[(PV.agg [(PV.int x24),(PV.str x25),(PV.int x26),(PV.int x14)])].length<=aal) then
 let x27:=a4++[(PV.agg [(PV.int x24),(PV.str x25),(PV.int x26),(PV.int x14)])]
 let x28:=IntKind.wrap .i64 (x15+x21)
 bif decide (0<=x15/\x15<=x28/\x28<=(a3.length:Int)) then
 (atl uu ((a3.take x28.toNat).drop x15.toNat) ([10]:List UInt8)).bind fun y30=>
 some (.inl (a3,x27,(IntKind.wrap .i64 (x14+y30)),(IntKind.wrap .i64 (x15+x21))))
 else none
 else none
 else none
 else none
 else none
 else
 some (.inr (.inl a4))
def S28_7step (uu:Nat) (x:S28_7x):Option (S28_7x⊕S28_7y):=S28_7 uu x.1 x.2.1 x.2.2.1 x.2.2.2
def F28 (uu:Nat) (a0:List UInt8):Option ((List PV)×Int×Int):=
 bif (decide ((a0.length:Int)>(16384:Int))) then
 some ([],(0:Int),(3:Int))
 else
 (abj uu (S28_7step uu) (a0,[],(1:Int),(0:Int))).bind fun z=>sumE (fun y33=>
 some (y33,(0:Int),(0:Int))
 ) (fun y34=>
 some (y34.1,y34.2.1,y34.2.2)
 ) z
def S28_7l (uu:Nat):LoopE:=⟨7,⟨[0,5,6,7],[.acc],.str::(.acc 0 72)::sv2⟩,[(.exit 0,⟨[5],[.acc],[(.acc 0 72)]⟩),(.ret,⟨[2,3,4],[.acc],(.slice 72)::sv2⟩)],S28_7step uu⟩
def F28C (uu:Nat):Cfg:=cfg Tryz.prog 69 0 [F59c uu,a0y uu,F61c uu] [S28_7l uu] uu
def F28c (uu:Nat):CallE:=⟨28,⟨1,[],[.str]⟩,⟨3,[],(.slice 72)::sv2⟩,fun x=>F28 uu x,([],0,0)⟩
theorem F28k (uu:Nat):aa8 (F28C uu):=aai (qc (F59ok uu)<|qc (a6l uu)<|qc (F61ok uu)<|q0) (p0)
theorem S28_7ok (uu:Nat):aas (F28C uu) (lp (abb Tryz.f28) 0):=okL (F28k uu) uu (S28_7l uu) L0
theorem F28ok (uu:Nat):(F28c uu).Ok Tryz.prog:=okE Tryz.f28 (F28k uu) (L1 (S28_7ok uu))
def F286 (uu:Nat) (a0:PV) (a1:List UInt8):Option (Bool):=
 some (bif (bif (((a0.fld 0).asInt)==(4:Int)) then true else (((a0.fld 0).asInt)==(1:Int))) then (((a0.fld 1).asStr)==a1) else false)
def F286c (uu:Nat):CallE:=⟨286,⟨2,[],[(.data 72),.str]⟩,⟨1,[],[.bool]⟩,fun x=>F286 uu x.1 x.2,false⟩
theorem F286ok (uu:Nat):(F286c uu).Ok Tryz.prog:=okJ Tryz.f286 19 0 uu [] [] false (q0) (p0) L0
def F203 (uu:Nat) (a0:Unit) (a1:Int) (a2:List UInt8) (s:Q0):Option (Bool×Q0):=
 let x3:=decide ((IntKind.wrap .i64 (s.2.1+a1))<(s.1.length:Int))
 let x4:=IntKind.wrap .i64 (s.2.1+a1)
 bif imp x3 (aaa x4 s.1.length) then
 (bif x3 then F286 uu (s.1.getD x4.toNat .bad) a2 else some false).bind fun y6=>
 some ((bif x3 then y6 else false),s)
 else none
def F203c (uu:Nat):CallE:=⟨203,⟨3,bx1,(.con (.ref 0 [] 82))::(.int .i64)::sv6⟩,⟨1,bx1,sv7⟩,fun x=>F203 uu x.1 x.2.1 x.2.2.1 x.2.2.2,(false,[],0,[],[],(),(),(),[],[],[],[])⟩
theorem F203ok (uu:Nat):(F203c uu).Ok Tryz.prog:=okJ Tryz.f203 35 5 uu _ [] false (qc (F286ok uu)<|q0) (p0) L0
def F117 (uu:Nat) (a0:Unit) (s:Q0):Option (Int×Q0):=
 bif (decide (s.2.1≥(s.1.length:Int))) then
 some ((0:Int),s)
 else
 bif aaa s.2.1 s.1.length then
 some (((s.1.getD s.2.1.toNat .bad).fld 0).asInt,s)
 else none
def F117c (uu:Nat):CallE:=⟨117,⟨1,bx1,sv8⟩,⟨1,bx1,sv9⟩,fun x=>F117 uu x.1 x.2,(0,[],0,[],[],(),(),(),[],[],[],[])⟩
theorem F117ok (uu:Nat):(F117c uu).Ok Tryz.prog:=okJ Tryz.f117 24 5 uu [] [] false (q0) (p0) L0
def F96 (uu:Nat) (a0:Unit) (a1:List UInt8) (s:Q0):Option (Bool×Q0):=
 (F202 uu a1).bind fun y1=>
 bif y1 then
 (F203 uu () (0:Int) a1 s).bind fun y2=>
 let x3:=y2.1
 bif x3 then
 (F117 uu () y2.2).bind fun y4=>
 some ((bif x3 then (y4.1==(1:Int)) else false),y4.2)
 else
 some ((bif x3 then ((0:Int)==(1:Int)) else false),y2.2)
 else
 (F203 uu () (0:Int) a1 s).bind fun y9=>
 let x10:=y9.1
 bif x10 then
 (F117 uu () y9.2).bind fun y11=>
 some ((bif x10 then (y11.1==(4:Int)) else false),y11.2)
 else
 some ((bif x10 then ((0:Int)==(4:Int)) else false),y9.2)
def F96c (uu:Nat):CallE:=⟨96,⟨2,bx1,sv10⟩,⟨1,bx1,sv7⟩,fun x=>F96 uu x.1 x.2.1 x.2.2,(false,[],0,[],[],(),(),(),[],[],[],[])⟩
theorem F96ok (uu:Nat):(F96c uu).Ok Tryz.prog:=okJ Tryz.f96 17 5 uu _ [] false (qc (F202ok uu)<|qc (F203ok uu)<|qc (F117ok uu)<|q0) (p0) L0
def F91 (uu:Nat) (a0:Unit) (a1:List UInt8) (s:Q0):Option (Bool×Q0):=
 (F96 uu () a1 s).bind fun y1=>
 bif (!y1.1) then
 some (false,y1.2)
 else
 some (true,y1.2.1,(IntKind.wrap .i64 (y1.2.2.1+(1:Int))),y1.2.2.2)
def F91c (uu:Nat):CallE:=⟨91,⟨2,bx1,sv10⟩,⟨1,bx1,sv7⟩,fun x=>F91 uu x.1 x.2.1 x.2.2,(false,[],0,[],[],(),(),(),[],[],[],[])⟩
theorem F91ok (uu:Nat):(F91c uu).Ok Tryz.prog:=okJ Tryz.f91 16 5 uu _ [] false (qc (F96ok uu)<|q0) (p0) L0
def F118 (uu:Nat) (a0:Unit) (a1:Int) (s:Q0):Option ((Q0)⊕(PV×Q0)):=
 some (.inr ((PV.agg [(PV.int s.2.1),(PV.int a1)]),s))
def F118p (uu:Nat):CallP:=⟨118,⟨2,bx1,(.con (.ref 0 [] 82))::sv9⟩,⟨0,bx1,sv11⟩,⟨1,bx1,sv12⟩,fun x=>F118 uu x.1 x.2.1 x.2.2,([],0,[],[],(),(),(),[],[],[],[])⟩
theorem F118ok (uu:Nat):(F118p uu).Ok Tryz.prog:=okPJ Tryz.f118 11 5 uu [] [] false (q0) (p0) L0
def F200 (uu:Nat) (a0:List UInt8):Option (Bool):=
 bif (a0==([109,101,115,115,97,103,101]:List UInt8)) then
 some true
 else
 bif (a0==([101,110,117,109]:List UInt8)) then
 some true
 else
 bif (a0==([115,101,114,118,105,99,101]:List UInt8)) then
 some true
 else
 bif (a0==([117,110,105,111,110]:List UInt8)) then
 some true
 else
 bif (a0==([109,97,112]:List UInt8)) then
 some true
 else
 bif (a0==([108,105,115,116]:List UInt8)) then
 some true
 else
 let x7:=a0==([114,101,113,117,105,114,101,100]:List UInt8)
 bif x7 then
 some true
 else
 let x8:=a0==([111,112,116,105,111,110,97,108]:List UInt8)
 bif x8 then
 some true
 else
 bif (a0==([112,108,97,105,110]:List UInt8)) then
 some true
 else
 bif (a0==([100,101,102,97,117,108,116]:List UInt8)) then
 some true
 else
 let x11:=a0==([114,101,115,101,114,118,101,100]:List UInt8)
 bif x11 then
 some true
 else
 bif (a0==([105,109,112,111,114,116]:List UInt8)) then
 some true
 else
 bif (a0==([115,112,97,99,101]:List UInt8)) then
 some true
 else
 bif (a0==([114,112,99]:List UInt8)) then
 some true
 else
 bif (a0==([115,116,114,101,97,109]:List UInt8)) then
 some true
 else
 bif (a0==([114,101,116,117,114,110,115]:List UInt8)) then
 some true
 else
 bif (a0==([111,112,101,110]:List UInt8)) then
 some true
 else
 bif (a0==([116,114,117,101]:List UInt8)) then
 some true
 else
 bif (a0==([102,97,108,115,101]:List UInt8)) then
 some true
 else
 bif (a0==([110,97,110]:List UInt8)) then
 some true
 else
 bif (a0==([105,110,102]:List UInt8)) then
 some true
 else
 some false
def F200c (uu:Nat):CallE:=⟨200,⟨1,[],[.str]⟩,⟨1,[],[.bool]⟩,fun x=>F200 uu x,false⟩
theorem F200ok (uu:Nat):(F200c uu).Ok Tryz.prog:=okJ Tryz.f200 27 0 uu [] [] false (q0) (p0) L0
abbrev S93_3x:=(List UInt8)×(List PV)×Int×Int
abbrev S93_3y:=(Bool)⊕((List UInt8))
def S93_3 (uu:Nat) (a3:List UInt8) (a4:List PV) (a5:Int) (a6:Int):Option (S93_3x⊕S93_3y):=
 bif (decide (a6<a5)) then
 bif aaa a6 a4.length then
 (F200 uu (a4.getD a6.toNat .bad).asStr).bind fun y10=>
 bif y10 then
 some (.inr (.inl false))
 else
 some (.inl (a3,a4,a5,(IntKind.wrap .i64 (a6+(1:Int)))))
 else none
 else
 some (.inr (.inr a3))
def S93_3step (uu:Nat) (x:S93_3x):Option (S93_3x⊕S93_3y):=S93_3 uu x.1 x.2.1 x.2.2.1 x.2.2.2
def F93 (uu:Nat) (a0:List UInt8):Option (Bool):=
 (ama uu a0 ([46]:List UInt8)).bind fun y1=>
 (abj uu (S93_3step uu) (a0,y1,(y1.length:Int),(0:Int))).bind fun z=>sumE (fun y12=>
 some y12
 ) (fun y13=>
 (F140 uu y13).bind fun y14=>
 some y14
 ) z
def S93_3l (uu:Nat):LoopE:=⟨3,⟨[0,6,7,8],[],.str::(.slice 9)::sv2⟩,[(.ret,⟨[2],[],[.bool]⟩),(.exit 0,⟨[0],[],[.str]⟩)],S93_3step uu⟩
def F93C (uu:Nat):Cfg:=cfg Tryz.prog 17 0 [auk uu,F200c uu,F140c uu] [S93_3l uu] uu
def F93c (uu:Nat):CallE:=⟨93,⟨1,[],[.str]⟩,⟨1,[],[.bool]⟩,fun x=>F93 uu x,false⟩
theorem F93k (uu:Nat):aa8 (F93C uu):=aai (qc (axa uu)<|qc (F200ok uu)<|qc (F140ok uu)<|q0) (p0)
theorem S93_3ok (uu:Nat):aas (F93C uu) (lp (abb Tryz.f93) 0):=okL (F93k uu) uu (S93_3l uu) L0
theorem F93ok (uu:Nat):(F93c uu).Ok Tryz.prog:=okE Tryz.f93 (F93k uu) (L1 (S93_3ok uu))
def F92 (uu:Nat) (a0:Unit) (a1:Int) (a2:Unit) (s:Q0):Option (((List UInt8)×Q0)⊕(PV×Q0)):=
 (F117 uu () s).bind fun y1=>
 bif (y1.1 != a1) then
 some (.inr ((PV.agg [(PV.int y1.2.2.1),(PV.int (2:Int))]),y1.2))
 else
 let x3:=y1.2.1
 let x4:=y1.2.2.1
 bif aaa x4 x3.length then
 let x7:=((x3.getD x4.toNat .bad).fld 1).asStr
 (F93 uu x7).bind fun y8=>
 bif (!y8) then
 some (.inr ((PV.agg [(PV.int y1.2.2.1),(PV.int (8:Int))]),y1.2))
 else
 some (.inl (x7,y1.2.1,(IntKind.wrap .i64 (y1.2.2.1+(1:Int))),y1.2.2.2))
 else none
def F92p (uu:Nat):CallP:=⟨92,⟨3,bx1,(.con (.ref 0 [] 82))::(.int .i64)::(.con (.fn 93 0 []))::sv11⟩,⟨1,bx1,sv6⟩,⟨1,bx1,sv12⟩,fun x=>F92 uu x.1 x.2.1 x.2.2.1 x.2.2.2,([],[],0,[],[],(),(),(),[],[],[],[])⟩
theorem F92ok (uu:Nat):(F92p uu).Ok Tryz.prog:=okPJ Tryz.f92 39 5 uu _ _ false (qc (F117ok uu)<|qc (F93ok uu)<|q0) (pc (F118ok uu)<|p0) L0
def F94 (uu:Nat) (a0:Unit) (a1:List UInt8) (s:Q0):Option ((Q0)⊕(PV×Q0)):=
 (F91 uu () a1 s).bind fun y1=>
 bif (!y1.1) then
 some (.inr ((PV.agg [(PV.int y1.2.2.1),(PV.int (2:Int))]),y1.2))
 else
 some (.inl y1.2)
def F94p (uu:Nat):CallP:=⟨94,⟨2,bx1,sv10⟩,⟨0,bx1,sv11⟩,⟨1,bx1,sv12⟩,fun x=>F94 uu x.1 x.2.1 x.2.2,([],0,[],[],(),(),(),[],[],[],[])⟩
theorem F94ok (uu:Nat):(F94p uu).Ok Tryz.prog:=okPJ Tryz.f94 10 5 uu _ _ false (qc (F91ok uu)<|q0) (pc (F118ok uu)<|p0) L0
def F201 (uu:Nat) (a0:List UInt8):Option (Bool):=
 some true
def F201c (uu:Nat):CallE:=⟨201,⟨1,[],[.str]⟩,⟨1,[],[.bool]⟩,fun x=>F201 uu x,false⟩
theorem F201ok (uu:Nat):(F201c uu).Ok Tryz.prog:=okJ Tryz.f201 3 0 uu [] [] false (q0) (p0) L0
def F92_v1 (uu:Nat) (a0:Unit) (a1:Int) (a2:Unit) (s:Q0):Option (((List UInt8)×Q0)⊕(PV×Q0)):=
 (F117 uu () s).bind fun y1=>
 bif (y1.1 != a1) then
 some (.inr ((PV.agg [(PV.int y1.2.2.1),(PV.int (2:Int))]),y1.2))
 else
 let x3:=y1.2.1
 let x4:=y1.2.2.1
 bif aaa x4 x3.length then
 let x7:=((x3.getD x4.toNat .bad).fld 1).asStr
 (F201 uu x7).bind fun y8=>
 bif (!y8) then
 some (.inr ((PV.agg [(PV.int y1.2.2.1),(PV.int (8:Int))]),y1.2))
 else
 some (.inl (x7,y1.2.1,(IntKind.wrap .i64 (y1.2.2.1+(1:Int))),y1.2.2.2))
 else none
def F92_v1p (uu:Nat):CallP:=⟨92,⟨3,bx1,(.con (.ref 0 [] 82))::(.int .i64)::(.con (.fn 201 0 []))::sv11⟩,⟨1,bx1,sv6⟩,⟨1,bx1,sv12⟩,fun x=>F92_v1 uu x.1 x.2.1 x.2.2.1 x.2.2.2,([],[],0,[],[],(),(),(),[],[],[],[])⟩
theorem F92_v1ok (uu:Nat):(F92_v1p uu).Ok Tryz.prog:=okPJ Tryz.f92 39 5 uu _ _ false (qc (F117ok uu)<|qc (F201ok uu)<|q0) (pc (F118ok uu)<|p0) L0
def F95 (uu:Nat) (a0:Unit) (s:Q0):Option (((List UInt8)×Q0)⊕(PV×Q0)):=
 (F92_v1 uu () (3:Int) () s).bind fun z=>sumE (fun y1=>
 some (.inl (y1.1,y1.2))
 ) (fun y2=>
 some (.inr y2)
 ) z
def F95p (uu:Nat):CallP:=⟨95,⟨1,bx1,sv8⟩,⟨1,bx1,sv6⟩,⟨1,bx1,sv12⟩,fun x=>F95 uu x.1 x.2,([],[],0,[],[],(),(),(),[],[],[],[])⟩
theorem F95ok (uu:Nat):(F95p uu).Ok Tryz.prog:=okPJ Tryz.f95 5 5 uu [] _ false (q0) (pc (F92_v1ok uu)<|p0) L0
def F288 (uu:Nat) (a0:List UInt8) (a1:List UInt8):Option ((List UInt8)):=
 bif (a0==([]:List UInt8)) then
 some a1
 else
 bif decide (a0.length+([46]:List UInt8).length<=aa2) then
 let x2:=a0++([46]:List UInt8)
 bif decide (x2.length+a1.length<=aa2) then
 some (x2++a1)
 else none
 else none
def F288c (uu:Nat):CallE:=⟨288,⟨2,[],[.str,.str]⟩,⟨1,[],[.str]⟩,fun x=>F288 uu x.1 x.2,[]⟩
theorem F288ok (uu:Nat):(F288c uu).Ok Tryz.prog:=okJ Tryz.f288 12 0 uu [] [] false (q0) (p0) L0
def F287 (uu:Nat) (a0:List UInt8) (a1:Unit) (a2:List UInt8):Option (Bool×(List UInt8)):=
 (F93 uu a0).bind fun y1=>
 let x2:=a2==([]:List UInt8)
 (bif bif !x2 then y1 else false then F202 uu a0 else some false).bind fun y3=>
 (bif bif y3 then bif !x2 then y1 else false else false then F288 uu a2 a0 else some []).bind fun y4=>
 (bif bif y3 then bif !x2 then y1 else false else false then F140 uu y4 else some false).bind fun y5=>
 some ((bif y1 then (bif x2 then true else (bif y3 then y5 else false)) else false),a2)
def F287c (uu:Nat):CallE:=⟨287,⟨2,[.box 9 .leaf],[.str,(.con (.ref 0 [] 9)),.str]⟩,⟨1,[.box 9 .leaf],[.bool,.str]⟩,fun x=>F287 uu x.1 x.2.1 x.2.2,(false,[])⟩
theorem F287ok (uu:Nat):(F287c uu).Ok Tryz.prog:=okJ Tryz.f287 20 1 uu _ [] false (qc (F93ok uu)<|qc (F202ok uu)<|qc (F288ok uu)<|qc (F140ok uu)<|q0) (p0) L0
def F92_v2 (uu:Nat) (a0:Unit) (a1:Int) (a2:Unit) (s:Q1):Option (((List UInt8)×Q1)⊕(PV×Q1)):=
 (F117 uu () (s.1,s.2.1,s.2.2.1,s.2.2.2.1,(),(),(),s.2.2.2.2.2.2.2.1,s.2.2.2.2.2.2.2.2.2)).bind fun y1=>
 bif (y1.1 != a1) then
 some (.inr ((PV.agg [(PV.int y1.2.2.1),(PV.int (2:Int))]),y1.2.1,y1.2.2.1,y1.2.2.2.1,y1.2.2.2.2.1,(),(),(),y1.2.2.2.2.2.2.2.2.1,s.2.2.2.2.2.2.2.2.1,y1.2.2.2.2.2.2.2.2.2))
 else
 let x3:=y1.2.1
 let x4:=y1.2.2.1
 bif aaa x4 x3.length then
 let x7:=((x3.getD x4.toNat .bad).fld 1).asStr
 (F287 uu x7 () s.2.2.2.2.2.2.2.2.1).bind fun y8=>
 bif (!y8.1) then
 some (.inr ((PV.agg [(PV.int y1.2.2.1),(PV.int (8:Int))]),y1.2.1,y1.2.2.1,y1.2.2.2.1,y1.2.2.2.2.1,(),(),(),y1.2.2.2.2.2.2.2.2.1,y8.2,y1.2.2.2.2.2.2.2.2.2))
 else
 some (.inl (x7,y1.2.1,(IntKind.wrap .i64 (y1.2.2.1+(1:Int))),y1.2.2.2.1,y1.2.2.2.2.1,(),(),(),y1.2.2.2.2.2.2.2.2.1,y8.2,y1.2.2.2.2.2.2.2.2.2))
 else none
def F92_v2p (uu:Nat):CallP:=⟨92,⟨3,bx2,(.con (.ref 0 [] 82))::(.int .i64)::(.con (.fn 287 0 [(.ref 1 [] 9)]))::sv13⟩,⟨1,bx2,.str::sv13⟩,⟨1,bx2,(.ifc 84)::sv13⟩,fun x=>F92_v2 uu x.1 x.2.1 x.2.2.1 x.2.2.2,([],[],0,[],[],(),(),(),[],[],[],[],[])⟩
theorem F92_v2ok (uu:Nat):(F92_v2p uu).Ok Tryz.prog:=okPJ Tryz.f92 39 6 uu _ _ false (qc (F117ok uu)<|qc (F287ok uu)<|q0) (pc (F118ok uu)<|p0) L0
def F204 (uu:Nat) (a0:Unit) (a1:List UInt8) (s:Q0):Option (((List UInt8)×Q0)⊕(PV×Q0)):=
 (F92_v2 uu () (1:Int) () (s.1,s.2.1,s.2.2.1,s.2.2.2.1,(),(),(),s.2.2.2.2.2.2.2.1,a1,s.2.2.2.2.2.2.2.2)).bind fun z=>sumE (fun y1=>
 (F288 uu y1.2.2.2.2.2.2.2.2.2.1 y1.1).bind fun y5=>
 some (.inl (y5,y1.2.1,y1.2.2.1,y1.2.2.2.1,y1.2.2.2.2.1,(),(),(),y1.2.2.2.2.2.2.2.2.1,y1.2.2.2.2.2.2.2.2.2.2))
 ) (fun y2=>
 some (.inr (y2.1,y2.2.1,y2.2.2.1,y2.2.2.2.1,y2.2.2.2.2.1,(),(),(),y2.2.2.2.2.2.2.2.2.1,y2.2.2.2.2.2.2.2.2.2.2))
 ) z
def F204p (uu:Nat):CallP:=⟨204,⟨2,bx1,sv10⟩,⟨1,bx1,sv6⟩,⟨1,bx1,sv12⟩,fun x=>F204 uu x.1 x.2.1 x.2.2,([],[],0,[],[],(),(),(),[],[],[],[])⟩
theorem F204ok (uu:Nat):(F204p uu).Ok Tryz.prog:=okPJ Tryz.f204 12 5 uu _ _ false (qc (F288ok uu)<|q0) (pc (F92_v2ok uu)<|p0) L0
def F77 (uu:Nat) (a0:List PV) (a1:Int) (a2:List UInt8):Option (Bool):=
 let x4:=bif (decide (a1≥(0:Int))) then (decide (a1<(a0.length:Int))) else false
 bif imp x4 (aaa a1 a0.length) then
 let x9:=bif x4 then (((a0.getD a1.toNat .bad).fld 0).asInt==(4:Int)) else false
 bif imp x9 (aaa a1 a0.length) then
 some (bif x9 then (((a0.getD a1.toNat .bad).fld 1).asStr==a2) else false)
 else none
 else none
def F77c (uu:Nat):CallE:=⟨77,⟨3,[],(.slice 72)::sv14⟩,⟨1,[],[.bool]⟩,fun x=>F77 uu x.1 x.2.1 x.2.2,false⟩
theorem F77ok (uu:Nat):(F77c uu).Ok Tryz.prog:=okJ Tryz.f77 32 0 uu [] [] false (q0) (p0) L0
def F158 (uu:Nat) (a0:List PV) (a1:Int):Option (Int):=
 bif (bif (decide (a1<(0:Int))) then true else (decide (a1≥(a0.length:Int)))) then
 some (0:Int)
 else
 bif aaa a1 a0.length then
 some ((a0.getD a1.toNat .bad).fld 0).asInt
 else none
def F158c (uu:Nat):CallE:=⟨158,⟨2,[],sv15⟩,⟨1,[],[(.int .i64)]⟩,fun x=>F158 uu x.1 x.2,0⟩
theorem F158ok (uu:Nat):(F158c uu).Ok Tryz.prog:=okJ Tryz.f158 18 0 uu [] [] false (q0) (p0) L0
def F145 (uu:Nat) :Option ((List (PV×PV))):=
 some (PV.mput (PV.mput (PV.mput (PV.mput (PV.mput (PV.mput (PV.mput (PV.mput (PV.mput (PV.mput (PV.mput (PV.mput (PV.mput [] (PV.str ([100,101,112,114,101,99,97,116,101,100]:List UInt8)) (PV.agg [(PV.int (1:Int)),(PV.int (126:Int))])) (PV.str ([100,111,99]:List UInt8)) (PV.agg [(PV.int (7:Int)),(PV.int (126:Int))])) (PV.str ([97,108,105,97,115]:List UInt8)) (PV.agg [(PV.int (7:Int)),(PV.int (84:Int))])) (PV.str ([115,105,110,99,101]:List UInt8)) (PV.agg [(PV.int (4:Int)),(PV.int (84:Int))])) (PV.str ([117,110,116,105,108]:List UInt8)) (PV.agg [(PV.int (4:Int)),(PV.int (84:Int))])) (PV.str ([109,105,110]:List UInt8)) (PV.agg [(PV.int (3:Int)),(PV.int (4:Int))])) (PV.str ([109,97,120]:List UInt8)) (PV.agg [(PV.int (3:Int)),(PV.int (4:Int))])) (PV.str ([108,101,110,103,116,104]:List UInt8)) (PV.agg [(PV.int (4:Int)),(PV.int (4:Int))])) (PV.str ([115,101,99,114,101,116]:List UInt8)) (PV.agg [(PV.int (1:Int)),(PV.int (4:Int))])) (PV.str ([105,100,101,109,112,111,116,101,110,116]:List UInt8)) (PV.agg [(PV.int (1:Int)),(PV.int (64:Int))])) (PV.str ([116,105,109,101,111,117,116]:List UInt8)) (PV.agg [(PV.int (4:Int)),(PV.int (64:Int))])) (PV.str ([114,111,117,116,101]:List UInt8)) (PV.agg [(PV.int (7:Int)),(PV.int (64:Int))])) (PV.str ([111,119,110,101,114]:List UInt8)) (PV.agg [(PV.int (7:Int)),(PV.int (34:Int))]))
def F145c (uu:Nat):CallE:=⟨145,⟨0,[],[]⟩,⟨1,[],[(.map 9 166)]⟩,fun x=>F145 uu ,[]⟩
theorem F145ok (uu:Nat):(F145c uu).Ok Tryz.prog:=okJ Tryz.f145 16 0 uu [] [] false (q0) (p0) L0
def F71 (uu:Nat) (a0:List UInt8):Option (Int):=
 (F145 uu).bind fun y1=>
 let x2:=(PV.mget y1 (PV.str a0)).getD (PV.agg [(PV.int (0:Int)),(PV.int (0:Int))])
 some ((x2.fld 0).asInt)
def F71c (uu:Nat):CallE:=⟨71,⟨1,[],[.str]⟩,⟨1,[],[(.int .i64)]⟩,fun x=>F71 uu x,0⟩
theorem F71ok (uu:Nat):(F71c uu).Ok Tryz.prog:=okJ Tryz.f71 7 0 uu _ [] false (qc (F145ok uu)<|q0) (p0) L0
def F248 (uu:Nat) (a0:Int):Option (Bool):=
 some (bif (decide (a0≥(1:Int))) then (decide (a0<=(9:Int))) else false)
def F248c (uu:Nat):CallE:=⟨248,⟨1,[],[(.int .i64)]⟩,⟨1,[],[.bool]⟩,fun x=>F248 uu x,false⟩
theorem F248ok (uu:Nat):(F248c uu).Ok Tryz.prog:=okJ Tryz.f248 9 0 uu [] [] false (q0) (p0) L0
def F253 (uu:Nat) (a0:Int):Option (Int):=
 let x1:=af0 .and .u64 a0 (9218868437227405312:Int)
 let x2:=af0 .and .u64 a0 (4503599627370495:Int)
 bif (bif (x1==(9218868437227405312:Int)) then (x2 != (0:Int)) else false) then
 some (0:Int)
 else
 bif (x1==(9218868437227405312:Int)) then
 some (1:Int)
 else
 bif (bif (x1==(0:Int)) then (x2==(0:Int)) else false) then
 some (2:Int)
 else
 bif (x1==(0:Int)) then
 some (3:Int)
 else
 some (4:Int)
def F253c (uu:Nat):CallE:=⟨253,⟨1,[],[(.int .u64)]⟩,⟨1,[],[(.int .i64)]⟩,fun x=>F253 uu x,0⟩
theorem F253ok (uu:Nat):(F253c uu).Ok Tryz.prog:=okJ Tryz.f253 29 0 uu [] [] false (q0) (p0) L0
def F135 (uu:Nat) (a0:Int) (a1:Int):Option ((List UInt8)):=
 (Lfmt uu a0 a1).bind fun y1=>
 some y1
def F135c (uu:Nat):CallE:=⟨135,⟨2,[],[(.int .u64),(.int .i64)]⟩,⟨1,[],[.str]⟩,fun x=>F135 uu x.1 x.2,[]⟩
theorem F135ok (uu:Nat):(F135c uu).Ok Tryz.prog:=okJ Tryz.f135 8 0 uu _ [] false (qc (ba0 uu)<|q0) (p0) L0
def F149 (uu:Nat) (a0:Int):Option ((List UInt8)):=
 (F253 uu a0).bind fun y1=>
 bif (y1==(0:Int)) then
 some ([110,97,110]:List UInt8)
 else
 bif (bif (y1==(1:Int)) then ((af0 .and .u64 a0 (9223372036854775808:Int)) != (0:Int)) else false) then
 some ([45,105,110,102]:List UInt8)
 else
 bif (y1==(1:Int)) then
 some ([105,110,102]:List UInt8)
 else
 (F135 uu a0 (16:Int)).bind fun y8=>
 (akp uu ([48]:List UInt8) (IntKind.wrap .i64 ((16:Int)-(y8.length:Int)))).bind fun y11=>
 bif decide (([48,120]:List UInt8).length+y11.length<=aa2) then
 bif decide ((([48,120]:List UInt8)++y11).length+y8.length<=aa2) then
 some ((([48,120]:List UInt8)++y11)++y8)
 else none
 else none
def F149c (uu:Nat):CallE:=⟨149,⟨1,[],[(.int .u64)]⟩,⟨1,[],[.str]⟩,fun x=>F149 uu x,[]⟩
theorem F149ok (uu:Nat):(F149c uu).Ok Tryz.prog:=okJ Tryz.f149 30 0 uu _ [] false (qc (F253ok uu)<|qc (F135ok uu)<|qc (a1f uu)<|q0) (p0) L0
def F306 (uu:Nat) (a0:List UInt8):Option (PV×Int):=
 bif (a0==([110,97,110]:List UInt8)) then
 some ((PV.agg [(PV.int (6:Int)),(PV.int (9221120237041090560:Int)),(PV.str ([]:List UInt8)),(PV.slice []),(PV.slice []),(PV.slice []),(PV.slice [])]),(0:Int))
 else
 bif (a0==([105,110,102]:List UInt8)) then
 some ((PV.agg [(PV.int (6:Int)),(PV.int (9218868437227405312:Int)),(PV.str ([]:List UInt8)),(PV.slice []),(PV.slice []),(PV.slice []),(PV.slice [])]),(0:Int))
 else
 bif (a0==([45,105,110,102]:List UInt8)) then
 some ((PV.agg [(PV.int (6:Int)),(PV.int (18442240474082181120:Int)),(PV.str ([]:List UInt8)),(PV.slice []),(PV.slice []),(PV.slice []),(PV.slice [])]),(0:Int))
 else
 (F141 uu a0 ([48,120]:List UInt8)).bind fun y4=>
 (acf uu y4 (16:Int) (64:Int)).bind fun y5=>
 let x6:=y5.1
 let x8:=!y5.2
 (bif !x8 then F149 uu x6 else some []).bind fun y9=>
 bif (bif x8 then true else (!(y9==a0))) then
 some ((PV.agg [(PV.int (0:Int)),(PV.int (0:Int)),(PV.str ([]:List UInt8)),(PV.slice []),(PV.slice []),(PV.slice []),(PV.slice [])]),(2:Int))
 else
 some ((PV.agg [(PV.int (6:Int)),(PV.int x6),(PV.str ([]:List UInt8)),(PV.slice []),(PV.slice []),(PV.slice []),(PV.slice [])]),(0:Int))
def F306c (uu:Nat):CallE:=⟨306,⟨1,[],[.str]⟩,⟨2,[],sv16⟩,fun x=>F306 uu x,(PV.bad,0)⟩
theorem F306ok (uu:Nat):(F306c uu).Ok Tryz.prog:=okJ Tryz.f306 36 0 uu _ [] false (qc (F141ok uu)<|qc (ahf uu)<|qc (F149ok uu)<|q0) (p0) L0
def F307 (uu:Nat) (a0:Int):Option (Bool):=
 some (bif (a0==(7:Int)) then true else (a0==(8:Int)))
def F307c (uu:Nat):CallE:=⟨307,⟨1,[],[(.int .i64)]⟩,⟨1,[],[.bool]⟩,fun x=>F307 uu x,false⟩
theorem F307ok (uu:Nat):(F307c uu).Ok Tryz.prog:=okJ Tryz.f307 9 0 uu [] [] false (q0) (p0) L0
def F374 (uu:Nat) (a0:List UInt8) (a1:List UInt8):Option ((List UInt8)×Bool):=
 (F297 uu a0 a1).bind fun y1=>
 bif (!y1) then
 some (a0,false)
 else
 let x3:=(a1.length:Int)
 bif decide (0<=x3/\x3<=(a0.length:Int)/\(a0.length:Int)<=(a0.length:Int)) then
 some (((a0.take (a0.length:Int).toNat).drop x3.toNat),true)
 else none
def F374c (uu:Nat):CallE:=⟨374,⟨2,[],[.str,.str]⟩,⟨2,[],[.str,.bool]⟩,fun x=>F374 uu x.1 x.2,([],false)⟩
theorem F374ok (uu:Nat):(F374c uu).Ok Tryz.prog:=okJ Tryz.f374 15 0 uu _ [] false (qc (F297ok uu)<|q0) (p0) L0
def F354 (uu:Nat) (a0:List UInt8) (a1:List UInt8):Option ((List UInt8)×Bool):=
 (F374 uu a0 a1).bind fun y1=>
 some (y1.1,y1.2)
def F354c (uu:Nat):CallE:=⟨354,⟨2,[],[.str,.str]⟩,⟨2,[],[.str,.bool]⟩,fun x=>F354 uu x.1 x.2,([],false)⟩
theorem F354ok (uu:Nat):(F354c uu).Ok Tryz.prog:=okJ Tryz.f354 11 0 uu _ [] false (qc (F374ok uu)<|q0) (p0) L0
def F355 (uu:Nat) (a0:List UInt8):Option ((List UInt8)×Bool):=
 (F131 uu a0).bind fun y1=>
 some (y1.1,(bif (y1.2.2==(0:Int)) then (y1.2.1==(a0.length:Int)) else false))
def F355c (uu:Nat):CallE:=⟨355,⟨1,[],[.str]⟩,⟨2,[],[.str,.bool]⟩,fun x=>F355 uu x,([],false)⟩
theorem F355ok (uu:Nat):(F355c uu).Ok Tryz.prog:=okJ Tryz.f355 22 0 uu _ [] false (qc (F131ok uu)<|q0) (p0) L0
abbrev S356_6x:=(List UInt8)×(List PV)×Int
abbrev S356_6y:=((List UInt8)×Int)⊕((List PV))
def S356_6 (uu:Nat) (a6:List UInt8) (a7:List PV) (a8:Int):Option (S356_6x⊕S356_6y):=
 bif (decide (a8<(a6.length:Int))) then
 bif aaa a8 a6.length then
 (F305 uu ((a6.getD a8.toNat 0).toNat:Int)).bind fun y12=>
 let x13:=IntKind.wrap .i64 (a8+(1:Int))
 bif aaa x13 a6.length then
 (F305 uu ((a6.getD x13.toNat 0).toNat:Int)).bind fun y15=>
 bif (bif (decide (y12<(0:Int))) then true else (decide (y15<(0:Int)))) then
 some (.inr (.inl (([]:List UInt8),(2:Int))))
 else
 let x19:=IntKind.wrap .i64 (y12*2^(min (4:Int).toNat (IntKind.bits .i64)))
 let x21:=IntKind.wrap .u8 (af0 .or .i64 x19 y15)
 bif decide (a7.length+[(PV.int x21)].length<=aal) then
 some (.inl (a6,(a7++[(PV.int x21)]),(IntKind.wrap .i64 (a8+(2:Int)))))
 else none
 else none
 else none
 else
 some (.inr (.inr a7))
def S356_6step (uu:Nat) (x:S356_6x):Option (S356_6x⊕S356_6y):=S356_6 uu x.1 x.2.1 x.2.2
def F356 (uu:Nat) (a0:List UInt8):Option ((List UInt8)×Int):=
 bif (((a0.length:Int).tmod (2:Int)) != (0:Int)) then
 some (([]:List UInt8),(2:Int))
 else
 let x5:=IntKind.wrap .i64 ((a0.length:Int).tdiv (2:Int))
 bif decide (0<=x5/\x5<=aal) then
 (abj uu (S356_6step uu) (a0,[],(0:Int))).bind fun z=>sumE (fun y24=>
 some (y24.1,y24.2)
 ) (fun y25=>
 some ((y25.map aan),(0:Int))
 ) z
 else none
def S356_6l (uu:Nat):LoopE:=⟨6,⟨[0,4,5],[.acc],sv4⟩,[(.ret,⟨[2,3],[.acc],sv0⟩),(.exit 0,⟨[4],[.acc],[(.acc 0 5)]⟩)],S356_6step uu⟩
def F356C (uu:Nat):Cfg:=cfg Tryz.prog 47 0 [F305c uu] [S356_6l uu] uu
def F356c (uu:Nat):CallE:=⟨356,⟨1,[],[.str]⟩,⟨2,[],sv0⟩,fun x=>F356 uu x,([],0)⟩
theorem F356k (uu:Nat):aa8 (F356C uu):=aai (qc (F305ok uu)<|q0) (p0)
theorem S356_6ok (uu:Nat):aas (F356C uu) (lp (abb Tryz.f356) 0):=okL (F356k uu) uu (S356_6l uu) L0
theorem F356ok (uu:Nat):(F356c uu).Ok Tryz.prog:=okE Tryz.f356 (F356k uu) (L1 (S356_6ok uu))
abbrev S280_3x:=(List UInt8)×Unit×(List UInt8)×Int
abbrev S280_3y:=(Int×(List UInt8)×Int)⊕((List UInt8)×Int)
def S280_3 (uu:Nat) (a1:List UInt8) (a2:Unit) (a3:List UInt8) (a4:Int):Option (S280_3x⊕S280_3y):=
 bif (decide (a4.toNat<a3.length)) then
 bif decide (a4.toNat<a3.length) then
 let x6:=(a4.toNat:Int)
 bif decide (a4.toNat<a3.length) then
 (F310 uu a1 x6 ((Utf8.decode ⟨a3.toArray⟩ a4.toNat).1:Int)).bind fun y8=>
 bif y8 then
 some (.inr (.inl (x6,a3,((bif decide (a4.toNat<a3.length) then a4.toNat+(Utf8.decode ⟨a3.toArray⟩ a4.toNat).2 else a4.toNat:Nat):Int))))
 else
 some (.inl (a1,(),a3,((bif decide (a4.toNat<a3.length) then a4.toNat+(Utf8.decode ⟨a3.toArray⟩ a4.toNat).2 else a4.toNat:Nat):Int)))
 else none
 else none
 else
 some (.inr (.inr (a3,((bif decide (a4.toNat<a3.length) then a4.toNat+(Utf8.decode ⟨a3.toArray⟩ a4.toNat).2 else a4.toNat:Nat):Int))))
def S280_3step (uu:Nat) (x:S280_3x):Option (S280_3x⊕S280_3y):=S280_3 uu x.1 x.2.1 x.2.2.1 x.2.2.2
def F280 (uu:Nat) (a0:List UInt8):Option (Int):=
 (abj uu (S280_3step uu) (a0,(),a0,((0:Nat):Int))).bind fun z=>sumE (fun y9=>
 some y9.1
 ) (fun y10=>
 some (-1:Int)
 ) z
def S280_3l (uu:Nat):LoopE:=⟨3,⟨[0,6],[.iter],.str::(.con (.iref 0))::sv0⟩,[(.ret,⟨[2],[.iter],(.int .i64)::sv0⟩),(.exit 0,⟨[],[.iter],sv0⟩)],S280_3step uu⟩
def F280C (uu:Nat):Cfg:=cfg Tryz.prog 16 0 [F310c uu] [S280_3l uu] uu
def F280c (uu:Nat):CallE:=⟨280,⟨1,[],[.str]⟩,⟨1,[],[(.int .i64)]⟩,fun x=>F280 uu x,0⟩
theorem F280k (uu:Nat):aa8 (F280C uu):=aai (qc (F310ok uu)<|q0) (p0)
theorem S280_3ok (uu:Nat):aas (F280C uu) (lp (abb Tryz.f280) 0):=okL (F280k uu) uu (S280_3l uu) L0
theorem F280ok (uu:Nat):(F280c uu).Ok Tryz.prog:=okE Tryz.f280 (F280k uu) (L1 (S280_3ok uu))
def F185 (uu:Nat) (a0:List UInt8):Option (Bool):=
 (F280 uu a0).bind fun y1=>
 some (decide (y1<(0:Int)))
def F185c (uu:Nat):CallE:=⟨185,⟨1,[],[.str]⟩,⟨1,[],[.bool]⟩,fun x=>F185 uu x,false⟩
theorem F185ok (uu:Nat):(F185c uu).Ok Tryz.prog:=okJ Tryz.f185 6 0 uu _ [] false (qc (F280ok uu)<|q0) (p0) L0
def F308 (uu:Nat) (a0:Int) (a1:List UInt8):Option (PV×Int):=
 bif (a0==(8:Int)) then
 (F354 uu a1 ([120]:List UInt8)).bind fun y2=>
 (F355 uu y2.1).bind fun y5=>
 let x6:=y5.1
 bif (bif (!y2.2) then true else (!y5.2)) then
 some ((PV.agg [(PV.int (0:Int)),(PV.int (0:Int)),(PV.str ([]:List UInt8)),(PV.slice []),(PV.slice []),(PV.slice []),(PV.slice [])]),(2:Int))
 else
 bif (a0==(8:Int)) then
 (F356 uu x6).bind fun y12=>
 let x13:=y12.1
 let x14:=y12.2
 bif (x14 != (0:Int)) then
 some ((PV.agg [(PV.int (0:Int)),(PV.int (0:Int)),(PV.str ([]:List UInt8)),(PV.slice []),(PV.slice []),(PV.slice []),(PV.slice [])]),x14)
 else
 let x16:=a0==(7:Int)
 (bif x16 then F185 uu x13 else some false).bind fun y17=>
 bif (bif x16 then (!y17) else false) then
 some ((PV.agg [(PV.int (0:Int)),(PV.int (0:Int)),(PV.str ([]:List UInt8)),(PV.slice []),(PV.slice []),(PV.slice []),(PV.slice [])]),(7:Int))
 else
 bif (decide ((x13.length:Int)>(4096:Int))) then
 some ((PV.agg [(PV.int (0:Int)),(PV.int (0:Int)),(PV.str ([]:List UInt8)),(PV.slice []),(PV.slice []),(PV.slice []),(PV.slice [])]),(3:Int))
 else
 some ((PV.agg [(PV.int a0),(PV.int (0:Int)),(PV.str x13),(PV.slice []),(PV.slice []),(PV.slice []),(PV.slice [])]),(0:Int))
 else
 let x22:=a0==(7:Int)
 (bif x22 then F185 uu x6 else some false).bind fun y23=>
 bif (bif x22 then (!y23) else false) then
 some ((PV.agg [(PV.int (0:Int)),(PV.int (0:Int)),(PV.str ([]:List UInt8)),(PV.slice []),(PV.slice []),(PV.slice []),(PV.slice [])]),(7:Int))
 else
 bif (decide ((x6.length:Int)>(4096:Int))) then
 some ((PV.agg [(PV.int (0:Int)),(PV.int (0:Int)),(PV.str ([]:List UInt8)),(PV.slice []),(PV.slice []),(PV.slice []),(PV.slice [])]),(3:Int))
 else
 some ((PV.agg [(PV.int a0),(PV.int (0:Int)),(PV.str x6),(PV.slice []),(PV.slice []),(PV.slice []),(PV.slice [])]),(0:Int))
 else
 (F355 uu a1).bind fun y28=>
 let x29:=y28.1
 bif (!y28.2) then
 some ((PV.agg [(PV.int (0:Int)),(PV.int (0:Int)),(PV.str ([]:List UInt8)),(PV.slice []),(PV.slice []),(PV.slice []),(PV.slice [])]),(2:Int))
 else
 bif (a0==(8:Int)) then
 (F356 uu x29).bind fun y33=>
 let x34:=y33.1
 let x35:=y33.2
 bif (x35 != (0:Int)) then
 some ((PV.agg [(PV.int (0:Int)),(PV.int (0:Int)),(PV.str ([]:List UInt8)),(PV.slice []),(PV.slice []),(PV.slice []),(PV.slice [])]),x35)
 else
 let x37:=a0==(7:Int)
 (bif x37 then F185 uu x34 else some false).bind fun y38=>
 bif (bif x37 then (!y38) else false) then
 some ((PV.agg [(PV.int (0:Int)),(PV.int (0:Int)),(PV.str ([]:List UInt8)),(PV.slice []),(PV.slice []),(PV.slice []),(PV.slice [])]),(7:Int))
 else
 bif (decide ((x34.length:Int)>(4096:Int))) then
 some ((PV.agg [(PV.int (0:Int)),(PV.int (0:Int)),(PV.str ([]:List UInt8)),(PV.slice []),(PV.slice []),(PV.slice []),(PV.slice [])]),(3:Int))
 else
 some ((PV.agg [(PV.int a0),(PV.int (0:Int)),(PV.str x34),(PV.slice []),(PV.slice []),(PV.slice []),(PV.slice [])]),(0:Int))
 else
 let x43:=a0==(7:Int)
 (bif x43 then F185 uu x29 else some false).bind fun y44=>
 bif (bif x43 then (!y44) else false) then
 some ((PV.agg [(PV.int (0:Int)),(PV.int (0:Int)),(PV.str ([]:List UInt8)),(PV.slice []),(PV.slice []),(PV.slice []),(PV.slice [])]),(7:Int))
 else
 bif (decide ((x29.length:Int)>(4096:Int))) then
 some ((PV.agg [(PV.int (0:Int)),(PV.int (0:Int)),(PV.str ([]:List UInt8)),(PV.slice []),(PV.slice []),(PV.slice []),(PV.slice [])]),(3:Int))
 else
 some ((PV.agg [(PV.int a0),(PV.int (0:Int)),(PV.str x29),(PV.slice []),(PV.slice []),(PV.slice []),(PV.slice [])]),(0:Int))
def F308c (uu:Nat):CallE:=⟨308,⟨2,[],sv14⟩,⟨2,[],sv16⟩,fun x=>F308 uu x.1 x.2,(PV.bad,0)⟩
theorem F308ok (uu:Nat):(F308c uu).Ok Tryz.prog:=okJ Tryz.f308 61 0 uu _ [] false (qc (F354ok uu)<|qc (F355ok uu)<|qc (F356ok uu)<|qc (F185ok uu)<|q0) (p0) L0
abbrev S357_6x:=(List UInt8)×Int×Int
abbrev S357_6y:=(Bool)⊕(Unit)
def S357_6 (uu:Nat) (a9:List UInt8) (a10:Int) (a11:Int):Option (S357_6x⊕S357_6y):=
 bif (decide (a11<a10)) then
 bif aaa a11 a9.length then
 let x14:=decide (((a9.getD a11.toNat 0).toNat:Int)<(48:Int))
 bif imp (!x14) (aaa a11 a9.length) then
 bif (bif x14 then true else (decide (((a9.getD a11.toNat 0).toNat:Int)>(57:Int)))) then
 some (.inr (.inl false))
 else
 some (.inl (a9,a10,(IntKind.wrap .i64 (a11+(1:Int)))))
 else none
 else none
 else
 some (.inr (.inr ()))
def S357_6step (uu:Nat) (x:S357_6x):Option (S357_6x⊕S357_6y):=S357_6 uu x.1 x.2.1 x.2.2
def F357 (uu:Nat) (a0:List UInt8):Option (Bool):=
 (F141 uu a0 ([45]:List UInt8)).bind fun y1=>
 let x2:=y1==([]:List UInt8)
 bif imp (!x2) (aaa (0:Int) y1.length) then
 bif (bif x2 then true else (bif (((y1.getD (0:Int).toNat 0).toNat:Int)==(48:Int)) then (!(a0==([48]:List UInt8))) else false)) then
 some false
 else
 (abj uu (S357_6step uu) (y1,(y1.length:Int),(0:Int))).bind fun z=>sumE (fun y19=>
 some y19
 ) (fun y20=>
 some true
 ) z
 else none
def S357_6l (uu:Nat):LoopE:=⟨6,⟨[3,19,20],[],sv5⟩,[(.ret,⟨[2],[],[.bool]⟩),(.exit 0,⟨[],[],[]⟩)],S357_6step uu⟩
def F357C (uu:Nat):Cfg:=cfg Tryz.prog 34 0 [F141c uu] [S357_6l uu] uu
def F357c (uu:Nat):CallE:=⟨357,⟨1,[],[.str]⟩,⟨1,[],[.bool]⟩,fun x=>F357 uu x,false⟩
theorem F357k (uu:Nat):aa8 (F357C uu):=aai (qc (F141ok uu)<|q0) (p0)
theorem S357_6ok (uu:Nat):aas (F357C uu) (lp (abb Tryz.f357) 0):=okL (F357k uu) uu (S357_6l uu) L0
theorem F357ok (uu:Nat):(F357c uu).Ok Tryz.prog:=okE Tryz.f357 (F357k uu) (L1 (S357_6ok uu))
def F250 (uu:Nat) (a0:Int) (a1:Int):Option (Bool):=
 bif (a0==(1:Int)) then
 some (decide (a1<=(1:Int)))
 else
 bif (a0==(2:Int)) then
 some (bif (decide ((IntKind.wrap .i64 a1)≥(-2147483648:Int))) then (decide ((IntKind.wrap .i64 a1)<=(2147483647:Int))) else false)
 else
 bif (a0==(9:Int)) then
 some (decide (a1<=(2147483647:Int)))
 else
 bif (a0==(4:Int)) then
 some (decide (a1<=(4294967295:Int)))
 else
 some true
def F250c (uu:Nat):CallE:=⟨250,⟨2,[],[(.int .i64),(.int .u64)]⟩,⟨1,[],[.bool]⟩,fun x=>F250 uu x.1 x.2,false⟩
theorem F250ok (uu:Nat):(F250c uu).Ok Tryz.prog:=okJ Tryz.f250 28 0 uu [] [] false (q0) (p0) L0
def F309 (uu:Nat) (a0:Int) (a1:List UInt8):Option (PV×Int):=
 (F357 uu a1).bind fun y1=>
 bif (!y1) then
 some ((PV.agg [(PV.int (0:Int)),(PV.int (0:Int)),(PV.str ([]:List UInt8)),(PV.slice []),(PV.slice []),(PV.slice []),(PV.slice [])]),(2:Int))
 else
 bif (bif (a0==(2:Int)) then true else (a0==(3:Int))) then
 (af1 uu a1 (10:Int) (64:Int)).bind fun y6=>
 let x9:=IntKind.wrap .u64 y6.1
 let x10:=!y6.2
 (bif !x10 then F250 uu a0 x9 else some false).bind fun y11=>
 bif (bif x10 then true else (!y11)) then
 some ((PV.agg [(PV.int (0:Int)),(PV.int (0:Int)),(PV.str ([]:List UInt8)),(PV.slice []),(PV.slice []),(PV.slice []),(PV.slice [])]),(6:Int))
 else
 some ((PV.agg [(PV.int a0),(PV.int x9),(PV.str ([]:List UInt8)),(PV.slice []),(PV.slice []),(PV.slice []),(PV.slice [])]),(0:Int))
 else
 (acf uu a1 (10:Int) (64:Int)).bind fun y14=>
 let x15:=y14.1
 let x17:=!y14.2
 (bif !x17 then F250 uu a0 x15 else some false).bind fun y18=>
 bif (bif x17 then true else (!y18)) then
 some ((PV.agg [(PV.int (0:Int)),(PV.int (0:Int)),(PV.str ([]:List UInt8)),(PV.slice []),(PV.slice []),(PV.slice []),(PV.slice [])]),(6:Int))
 else
 some ((PV.agg [(PV.int a0),(PV.int x15),(PV.str ([]:List UInt8)),(PV.slice []),(PV.slice []),(PV.slice []),(PV.slice [])]),(0:Int))
def F309c (uu:Nat):CallE:=⟨309,⟨2,[],sv14⟩,⟨2,[],sv16⟩,fun x=>F309 uu x.1 x.2,(PV.bad,0)⟩
theorem F309ok (uu:Nat):(F309c uu).Ok Tryz.prog:=okJ Tryz.f309 46 0 uu _ [] false (qc (F357ok uu)<|qc (avm uu)<|qc (F250ok uu)<|qc (ahf uu)<|q0) (p0) L0
def F239 (uu:Nat) (a0:Int) (a1:List UInt8):Option (PV×Int):=
 (F248 uu a0).bind fun y1=>
 bif (!y1) then
 some ((PV.agg [(PV.int (0:Int)),(PV.int (0:Int)),(PV.str ([]:List UInt8)),(PV.slice []),(PV.slice []),(PV.slice []),(PV.slice [])]),(1:Int))
 else
 bif (bif (a0==(1:Int)) then (a1==([116,114,117,101]:List UInt8)) else false) then
 some ((PV.agg [(PV.int a0),(PV.int (1:Int)),(PV.str ([]:List UInt8)),(PV.slice []),(PV.slice []),(PV.slice []),(PV.slice [])]),(0:Int))
 else
 bif (bif (a0==(1:Int)) then (a1==([102,97,108,115,101]:List UInt8)) else false) then
 some ((PV.agg [(PV.int a0),(PV.int (0:Int)),(PV.str ([]:List UInt8)),(PV.slice []),(PV.slice []),(PV.slice []),(PV.slice [])]),(0:Int))
 else
 bif (a0==(1:Int)) then
 some ((PV.agg [(PV.int (0:Int)),(PV.int (0:Int)),(PV.str ([]:List UInt8)),(PV.slice []),(PV.slice []),(PV.slice []),(PV.slice [])]),(2:Int))
 else
 bif (a0==(6:Int)) then
 (F306 uu a1).bind fun y11=>
 some (y11.1,y11.2)
 else
 (F307 uu a0).bind fun y14=>
 bif y14 then
 (F308 uu a0 a1).bind fun y15=>
 some (y15.1,y15.2)
 else
 (F309 uu a0 a1).bind fun y18=>
 some (y18.1,y18.2)
def F239c (uu:Nat):CallE:=⟨239,⟨2,[],sv14⟩,⟨2,[],sv16⟩,fun x=>F239 uu x.1 x.2,(PV.bad,0)⟩
theorem F239ok (uu:Nat):(F239c uu).Ok Tryz.prog:=okJ Tryz.f239 53 0 uu _ [] false (qc (F248ok uu)<|qc (F306ok uu)<|qc (F307ok uu)<|qc (F308ok uu)<|qc (F309ok uu)<|q0) (p0) L0
def F249 (uu:Nat) (a0:PV):Option (Bool):=
 bif (decide ((IntKind.wrap .i64 ((IntKind.wrap .i64 ((IntKind.wrap .i64 ((((a0.fld 3).asList).length:Int)+(((a0.fld 4).asList).length:Int)))+(((a0.fld 5).asList).length:Int)))+(((a0.fld 6).asList).length:Int)))>(0:Int))) then
 some false
 else
 (F307 uu ((a0.fld 0).asInt)).bind fun y14=>
 bif y14 then
 some (((a0.fld 1).asInt)==(0:Int))
 else
 some (((a0.fld 2).asStr)==([]:List UInt8))
def F249c (uu:Nat):CallE:=⟨249,⟨1,[],[(.data 51)]⟩,⟨1,[],[.bool]⟩,fun x=>F249 uu x,false⟩
theorem F249ok (uu:Nat):(F249c uu).Ok Tryz.prog:=okJ Tryz.f249 28 0 uu _ [] false (qc (F307ok uu)<|q0) (p0) L0
def F146 (uu:Nat) (a0:Int) (a1:PV):Option (Bool):=
 (F248 uu a0).bind fun y1=>
 let x5:=bif (!y1) then true else (((a1.fld 0).asInt) != a0)
 (bif !x5 then F249 uu a1 else some false).bind fun y6=>
 let x8:=bif x5 then true else (!y6)
 (bif !x8 then F250 uu a0 ((a1.fld 1).asInt) else some false).bind fun y10=>
 bif (bif (bif x8 then true else (!y10)) then true else (decide ((((a1.fld 2).asStr).length:Int)>(4096:Int)))) then
 some false
 else
 let x17:=a0 != (7:Int)
 (bif !x17 then F185 uu ((a1.fld 2).asStr) else some false).bind fun y19=>
 some (bif x17 then true else y19)
def F146c (uu:Nat):CallE:=⟨146,⟨2,[],[(.int .i64),(.data 51)]⟩,⟨1,[],[.bool]⟩,fun x=>F146 uu x.1 x.2,false⟩
theorem F146ok (uu:Nat):(F146c uu).Ok Tryz.prog:=okJ Tryz.f146 39 0 uu _ [] false (qc (F248ok uu)<|qc (F249ok uu)<|qc (F250ok uu)<|qc (F185ok uu)<|q0) (p0) L0
def F260 (uu:Nat) (a0:Int) (a1:List PV) (a2:Int):Option (PV×Int×Int):=
 (F77 uu a1 a2 ([45]:List UInt8)).bind fun y1=>
 bif y1 then
 let x2:=IntKind.wrap .i64 (a2+(1:Int))
 (F158 uu a1 x2).bind fun y3=>
 bif (y3 != (2:Int)) then
 some ((PV.agg [(PV.int (0:Int)),(PV.int (0:Int)),(PV.str ([]:List UInt8)),(PV.slice []),(PV.slice []),(PV.slice []),(PV.slice [])]),x2,(2:Int))
 else
 bif aaa x2 a1.length then
 (F135 uu (IntKind.wrap .u64 ((a1.getD x2.toNat .bad).fld 2).asInt) (10:Int)).bind fun y9=>
 bif decide (([45]:List UInt8).length+y9.length<=aa2) then
 (F239 uu a0 (([45]:List UInt8)++y9)).bind fun y10=>
 let x12:=y10.2
 bif (x12 != (0:Int)) then
 some ((PV.agg [(PV.int (0:Int)),(PV.int (0:Int)),(PV.str ([]:List UInt8)),(PV.slice []),(PV.slice []),(PV.slice []),(PV.slice [])]),x2,x12)
 else
 some (y10.1,(IntKind.wrap .i64 (x2+(1:Int))),(0:Int))
 else none
 else none
 else
 (F158 uu a1 a2).bind fun y15=>
 bif (y15 != (2:Int)) then
 some ((PV.agg [(PV.int (0:Int)),(PV.int (0:Int)),(PV.str ([]:List UInt8)),(PV.slice []),(PV.slice []),(PV.slice []),(PV.slice [])]),a2,(2:Int))
 else
 bif aaa a2 a1.length then
 (F135 uu (IntKind.wrap .u64 ((a1.getD a2.toNat .bad).fld 2).asInt) (10:Int)).bind fun y21=>
 bif decide (([]:List UInt8).length+y21.length<=aa2) then
 (F239 uu a0 (([]:List UInt8)++y21)).bind fun y22=>
 let x24:=y22.2
 bif (x24 != (0:Int)) then
 some ((PV.agg [(PV.int (0:Int)),(PV.int (0:Int)),(PV.str ([]:List UInt8)),(PV.slice []),(PV.slice []),(PV.slice []),(PV.slice [])]),a2,x24)
 else
 some (y22.1,(IntKind.wrap .i64 (a2+(1:Int))),(0:Int))
 else none
 else none
def F260c (uu:Nat):CallE:=⟨260,⟨3,[],(.int .i64)::sv15⟩,⟨3,[],(.data 51)::sv2⟩,fun x=>F260 uu x.1 x.2.1 x.2.2,(PV.bad,0,0)⟩
theorem F260ok (uu:Nat):(F260c uu).Ok Tryz.prog:=okJ Tryz.f260 45 0 uu _ [] false (qc (F77ok uu)<|qc (F158ok uu)<|qc (F135ok uu)<|qc (F239ok uu)<|q0) (p0) L0
def F159 (uu:Nat) (a0:Int) (a1:List PV) (a2:Int):Option (PV×Int×Int):=
 let x1:=a0==(1:Int)
 (bif x1 then F158 uu a1 a2 else some 0).bind fun y2=>
 let x4:=bif x1 then (y2==(1:Int)) else false
 bif imp x4 (aaa a2 a1.length) then
 let x8:=((a1.getD a2.toNat .bad).fld 1).asStr==([116,114,117,101]:List UInt8)
 bif imp (bif !x8 then x4 else false) (aaa a2 a1.length) then
 bif (bif x4 then (bif x8 then true else (((a1.getD a2.toNat .bad).fld 1).asStr==([102,97,108,115,101]:List UInt8))) else false) then
 bif aaa a2 a1.length then
 (F239 uu a0 ((a1.getD a2.toNat .bad).fld 1).asStr).bind fun y18=>
 some (y18.1,(IntKind.wrap .i64 (a2+(1:Int))),(0:Int))
 else none
 else
 let x22:=a0==(7:Int)
 (bif x22 then F158 uu a1 a2 else some 0).bind fun y23=>
 bif (bif x22 then (y23==(3:Int)) else false) then
 bif aaa a2 a1.length then
 let x28:=((a1.getD a2.toNat .bad).fld 1).asStr
 bif (decide ((x28.length:Int)>(4096:Int))) then
 some ((PV.agg [(PV.int (0:Int)),(PV.int (0:Int)),(PV.str ([]:List UInt8)),(PV.slice []),(PV.slice []),(PV.slice []),(PV.slice [])]),a2,(3:Int))
 else
 (F146 uu a0 (PV.agg [(PV.int a0),(PV.int (0:Int)),(PV.str x28),(PV.slice []),(PV.slice []),(PV.slice []),(PV.slice [])])).bind fun y31=>
 bif (!y31) then
 some ((PV.agg [(PV.int (0:Int)),(PV.int (0:Int)),(PV.str ([]:List UInt8)),(PV.slice []),(PV.slice []),(PV.slice []),(PV.slice [])]),a2,(7:Int))
 else
 some ((PV.agg [(PV.int a0),(PV.int (0:Int)),(PV.str x28),(PV.slice []),(PV.slice []),(PV.slice []),(PV.slice [])]),(IntKind.wrap .i64 (a2+(1:Int))),(0:Int))
 else none
 else
 bif (bif (a0==(4:Int)) then true else (a0==(3:Int))) then
 (F260 uu a0 a1 a2).bind fun y37=>
 some (y37.1,y37.2.1,y37.2.2)
 else
 some ((PV.agg [(PV.int (0:Int)),(PV.int (0:Int)),(PV.str ([]:List UInt8)),(PV.slice []),(PV.slice []),(PV.slice []),(PV.slice [])]),a2,(2:Int))
 else none
 else none
def F159c (uu:Nat):CallE:=⟨159,⟨3,[],(.int .i64)::sv15⟩,⟨3,[],(.data 51)::sv2⟩,fun x=>F159 uu x.1 x.2.1 x.2.2,(PV.bad,0,0)⟩
theorem F159ok (uu:Nat):(F159c uu).Ok Tryz.prog:=okJ Tryz.f159 99 0 uu _ [] false (qc (F158ok uu)<|qc (F239ok uu)<|qc (F146ok uu)<|qc (F260ok uu)<|q0) (p0) L0
def F78 (uu:Nat) (a0:List PV) (a1:Int):Option (PV×Int×Int):=
 (F158 uu a0 a1).bind fun y1=>
 bif (y1 != (1:Int)) then
 some ((PV.agg [(PV.str ([]:List UInt8)),(PV.agg [(PV.int (0:Int)),(PV.int (0:Int)),(PV.str ([]:List UInt8)),(PV.slice []),(PV.slice []),(PV.slice []),(PV.slice [])])]),a1,(2:Int))
 else
 bif aaa a1 a0.length then
 (F71 uu ((a0.getD a1.toNat .bad).fld 1).asStr).bind fun y6=>
 bif (y6==(0:Int)) then
 some ((PV.agg [(PV.str ([]:List UInt8)),(PV.agg [(PV.int (0:Int)),(PV.int (0:Int)),(PV.str ([]:List UInt8)),(PV.slice []),(PV.slice []),(PV.slice []),(PV.slice [])])]),a1,(8:Int))
 else
 (F77 uu a0 (IntKind.wrap .i64 (a1+(1:Int))) ([61]:List UInt8)).bind fun y9=>
 bif (!y9) then
 let x11:=IntKind.wrap .i64 (a1+(1:Int))
 let x12:=(a0.length:Int)
 some ((PV.agg [(PV.str ([]:List UInt8)),(PV.agg [(PV.int (0:Int)),(PV.int (0:Int)),(PV.str ([]:List UInt8)),(PV.slice []),(PV.slice []),(PV.slice []),(PV.slice [])])]),(if x12<x11 then x12 else x11),(2:Int))
 else
 bif aaa a1 a0.length then
 (F71 uu ((a0.getD a1.toNat .bad).fld 1).asStr).bind fun y17=>
 (F159 uu y17 a0 (IntKind.wrap .i64 (a1+(2:Int)))).bind fun y19=>
 bif aaa a1 a0.length then
 some ((PV.agg [(PV.str ((a0.getD a1.toNat .bad).fld 1).asStr),y19.1]),y19.2.1,y19.2.2)
 else none
 else none
 else none
def F78c (uu:Nat):CallE:=⟨78,⟨2,[],sv15⟩,⟨3,[],(.data 116)::sv2⟩,fun x=>F78 uu x.1 x.2,(PV.bad,0,0)⟩
theorem F78ok (uu:Nat):(F78c uu).Ok Tryz.prog:=okJ Tryz.f78 62 0 uu _ [] false (qc (F158ok uu)<|qc (F71ok uu)<|qc (F77ok uu)<|qc (F159ok uu)<|q0) (p0) L0
abbrev S36_5x:=(List PV)×Int×(List PV)
abbrev S36_5y:=((List PV)×Int×Int)
def S36_5 (uu:Nat) (a3:List PV) (a4:Int) (a5:List PV):Option (S36_5x⊕S36_5y):=
 (F78 uu a3 (IntKind.wrap .i64 (a4+(1:Int)))).bind fun y7=>
 let x8:=y7.1
 let x9:=y7.2.1
 let x10:=y7.2.2
 bif (x10 != (0:Int)) then
 some (.inr ([],x9,x10))
 else
 bif decide (a5.length+[x8].length<=aal) then
 let x12:=a5++[x8]
 (F77 uu a3 x9 ([93]:List UInt8)).bind fun y13=>
 bif y13 then
 some (.inr (x12,(IntKind.wrap .i64 (x9+(1:Int))),(0:Int)))
 else
 (F77 uu a3 x9 ([44]:List UInt8)).bind fun y15=>
 bif (!y15) then
 some (.inr ([],x9,(2:Int)))
 else
 some (.inl (a3,x9,x12))
 else none
def S36_5step (uu:Nat) (x:S36_5x):Option (S36_5x⊕S36_5y):=S36_5 uu x.1 x.2.1 x.2.2
def F36 (uu:Nat) (a0:List PV) (a1:Int):Option ((List PV)×Int×Int):=
 (F77 uu a0 a1 ([91]:List UInt8)).bind fun y1=>
 bif (!y1) then
 some ([],a1,(0:Int))
 else
 (abj uu (S36_5step uu) (a0,a1,[])).bind fun y17=>
 some (y17.1,y17.2.1,y17.2.2)
def S36_5l (uu:Nat):LoopE:=⟨5,⟨[0,1,7],[.acc],[(.slice 72),(.int .i64),(.acc 0 116)]⟩,[(.ret,⟨[4,5,6],[.acc],(.slice 116)::sv2⟩)],S36_5step uu⟩
def F36C (uu:Nat):Cfg:=cfg Tryz.prog 46 0 [F77c uu,F78c uu] [S36_5l uu] uu
def F36c (uu:Nat):CallE:=⟨36,⟨2,[],sv15⟩,⟨3,[],(.slice 116)::sv2⟩,fun x=>F36 uu x.1 x.2,([],0,0)⟩
theorem F36k (uu:Nat):aa8 (F36C uu):=aai (qc (F77ok uu)<|qc (F78ok uu)<|q0) (p0)
theorem S36_5ok (uu:Nat):aas (F36C uu) (lp (abb Tryz.f36) 0):=okL (F36k uu) uu (S36_5l uu) L0
theorem F36ok (uu:Nat):(F36c uu).Ok Tryz.prog:=okE Tryz.f36 (F36k uu) (L1 (S36_5ok uu))
def F205 (uu:Nat) (a0:Unit) (s:Q0):Option (((List PV)×Q0)⊕(PV×Q0)):=
 (F36 uu s.1 s.2.1).bind fun y1=>
 let x3:=y1.2.1
 let x4:=y1.2.2
 bif (x4 != (0:Int)) then
 some (.inr ((PV.agg [(PV.int x3),(PV.int x4)]),s.1,x3,s.2.2))
 else
 some (.inl (y1.1,s.1,x3,s.2.2))
def F205p (uu:Nat):CallP:=⟨205,⟨1,bx1,sv8⟩,⟨1,bx1,(.slice 116)::sv11⟩,⟨1,bx1,sv12⟩,fun x=>F205 uu x.1 x.2,([],[],0,[],[],(),(),(),[],[],[],[])⟩
theorem F205ok (uu:Nat):(F205p uu).Ok Tryz.prog:=okPJ Tryz.f205 29 5 uu _ _ false (qc (F36ok uu)<|q0) (pc (F118ok uu)<|p0) L0
def F238 (uu:Nat) (a0:List UInt8):Option (Bool):=
 (F202 uu a0).bind fun y1=>
 (bif y1 then F200 uu a0 else some false).bind fun y2=>
 some (bif y1 then (!y2) else false)
def F238c (uu:Nat):CallE:=⟨238,⟨1,[],[.str]⟩,⟨1,[],[.bool]⟩,fun x=>F238 uu x,false⟩
theorem F238ok (uu:Nat):(F238c uu).Ok Tryz.prog:=okJ Tryz.f238 10 0 uu _ [] false (qc (F202ok uu)<|qc (F200ok uu)<|q0) (p0) L0
def F92_v3 (uu:Nat) (a0:Unit) (a1:Int) (a2:Unit) (s:Q0):Option (((List UInt8)×Q0)⊕(PV×Q0)):=
 (F117 uu () s).bind fun y1=>
 bif (y1.1 != a1) then
 some (.inr ((PV.agg [(PV.int y1.2.2.1),(PV.int (2:Int))]),y1.2))
 else
 let x3:=y1.2.1
 let x4:=y1.2.2.1
 bif aaa x4 x3.length then
 let x7:=((x3.getD x4.toNat .bad).fld 1).asStr
 (F238 uu x7).bind fun y8=>
 bif (!y8) then
 some (.inr ((PV.agg [(PV.int y1.2.2.1),(PV.int (8:Int))]),y1.2))
 else
 some (.inl (x7,y1.2.1,(IntKind.wrap .i64 (y1.2.2.1+(1:Int))),y1.2.2.2))
 else none
def F92_v3p (uu:Nat):CallP:=⟨92,⟨3,bx1,(.con (.ref 0 [] 82))::(.int .i64)::(.con (.fn 238 0 []))::sv11⟩,⟨1,bx1,sv6⟩,⟨1,bx1,sv12⟩,fun x=>F92_v3 uu x.1 x.2.1 x.2.2.1 x.2.2.2,([],[],0,[],[],(),(),(),[],[],[],[])⟩
theorem F92_v3ok (uu:Nat):(F92_v3p uu).Ok Tryz.prog:=okPJ Tryz.f92 39 5 uu _ _ false (qc (F117ok uu)<|qc (F238ok uu)<|q0) (pc (F118ok uu)<|p0) L0
def F132 (uu:Nat) (a0:Unit) (s:Q0):Option (((List UInt8)×Q0)⊕(PV×Q0)):=
 (F92_v3 uu () (1:Int) () s).bind fun z=>sumE (fun y1=>
 some (.inl (y1.1,y1.2))
 ) (fun y2=>
 some (.inr y2)
 ) z
def F132p (uu:Nat):CallP:=⟨132,⟨1,bx1,sv8⟩,⟨1,bx1,sv6⟩,⟨1,bx1,sv12⟩,fun x=>F132 uu x.1 x.2,([],[],0,[],[],(),(),(),[],[],[],[])⟩
theorem F132ok (uu:Nat):(F132p uu).Ok Tryz.prog:=okPJ Tryz.f132 5 5 uu [] _ false (q0) (pc (F92_v3ok uu)<|p0) L0
def F229 (uu:Nat) (a0:List UInt8):Option (Bool):=
 (F141 uu a0 ([46]:List UInt8)).bind fun y1=>
 (F140 uu y1).bind fun y2=>
 some y2
def F229c (uu:Nat):CallE:=⟨229,⟨1,[],[.str]⟩,⟨1,[],[.bool]⟩,fun x=>F229 uu x,false⟩
theorem F229ok (uu:Nat):(F229c uu).Ok Tryz.prog:=okJ Tryz.f229 6 0 uu _ [] false (qc (F141ok uu)<|qc (F140ok uu)<|q0) (p0) L0
def F92_v4 (uu:Nat) (a0:Unit) (a1:Int) (a2:Unit) (s:Q0):Option (((List UInt8)×Q0)⊕(PV×Q0)):=
 (F117 uu () s).bind fun y1=>
 bif (y1.1 != a1) then
 some (.inr ((PV.agg [(PV.int y1.2.2.1),(PV.int (2:Int))]),y1.2))
 else
 let x3:=y1.2.1
 let x4:=y1.2.2.1
 bif aaa x4 x3.length then
 let x7:=((x3.getD x4.toNat .bad).fld 1).asStr
 (F229 uu x7).bind fun y8=>
 bif (!y8) then
 some (.inr ((PV.agg [(PV.int y1.2.2.1),(PV.int (8:Int))]),y1.2))
 else
 some (.inl (x7,y1.2.1,(IntKind.wrap .i64 (y1.2.2.1+(1:Int))),y1.2.2.2))
 else none
def F92_v4p (uu:Nat):CallP:=⟨92,⟨3,bx1,(.con (.ref 0 [] 82))::(.int .i64)::(.con (.fn 229 0 []))::sv11⟩,⟨1,bx1,sv6⟩,⟨1,bx1,sv12⟩,fun x=>F92_v4 uu x.1 x.2.1 x.2.2.1 x.2.2.2,([],[],0,[],[],(),(),(),[],[],[],[])⟩
theorem F92_v4ok (uu:Nat):(F92_v4p uu).Ok Tryz.prog:=okPJ Tryz.f92 39 5 uu _ _ false (qc (F117ok uu)<|qc (F229ok uu)<|q0) (pc (F118ok uu)<|p0) L0
def F115 (uu:Nat) (a0:Unit) (s:Q0):Option (((List UInt8)×Q0)⊕(PV×Q0)):=
 (F92_v4 uu () (1:Int) () s).bind fun z=>sumE (fun y1=>
 some (.inl (y1.1,y1.2))
 ) (fun y2=>
 some (.inr y2)
 ) z
def F115p (uu:Nat):CallP:=⟨115,⟨1,bx1,sv8⟩,⟨1,bx1,sv6⟩,⟨1,bx1,sv12⟩,fun x=>F115 uu x.1 x.2,([],[],0,[],[],(),(),(),[],[],[],[])⟩
theorem F115ok (uu:Nat):(F115p uu).Ok Tryz.prog:=okPJ Tryz.f115 5 5 uu [] _ false (q0) (pc (F92_v4ok uu)<|p0) L0
def F49 (uu:Nat) :Option (PV):=
 let x1:=(PV.agg [(PV.str ([98,111,111,108]:List UInt8)),(PV.str ([105,51,50]:List UInt8)),(PV.str ([105,54,52]:List UInt8)),(PV.str ([117,51,50]:List UInt8)),(PV.str ([117,54,52]:List UInt8)),(PV.str ([100,111,117,98,108,101]:List UInt8)),(PV.str ([116,101,120,116]:List UInt8)),(PV.str ([98,121,116,101,115]:List UInt8))])
 some x1
def F49c (uu:Nat):CallE:=⟨49,⟨0,[],[]⟩,⟨1,[],[(.data 92)]⟩,fun x=>F49 uu ,PV.bad⟩
theorem F49ok (uu:Nat):(F49c uu).Ok Tryz.prog:=okJ Tryz.f49 2 0 uu [] [] false (q0) (p0) L0
def S18_3 (uu:Nat) (a2:List UInt8) (a3:PV) (a4:Int):Option (((List UInt8)×PV×Int)⊕((Int)⊕(Unit))):=
 bif (decide (a4<(8:Int))) then
 bif aaa a4 8 then
 bif (((a3.fld a4.toNat).asStr)==a2) then
 some (.inr (.inl (IntKind.wrap .i64 (a4+(1:Int)))))
 else
 some (.inl (a2,a3,(IntKind.wrap .i64 (a4+(1:Int)))))
 else none
 else
 some (.inr (.inr ()))
def S18_3step (uu:Nat) (x:(List UInt8)×PV×Int):Option (((List UInt8)×PV×Int)⊕((Int)⊕(Unit))):=S18_3 uu x.1 x.2.1 x.2.2
def F18 (uu:Nat) (a0:List UInt8):Option (Int):=
 (F49 uu).bind fun y1=>
 (abj uu (S18_3step uu) (a0,y1,(0:Int))).bind fun z=>sumE (fun y10=>
 some y10
 ) (fun y11=>
 some (0:Int)
 ) z
def S18_3l (uu:Nat):LoopE:=⟨3,⟨[0,5,6],[],[.str,(.data 92),(.int .i64)]⟩,[(.ret,⟨[2],[],[(.int .i64)]⟩),(.exit 0,⟨[],[],[]⟩)],S18_3step uu⟩
def F18C (uu:Nat):Cfg:=cfg Tryz.prog 16 0 [F49c uu] [S18_3l uu] uu
def F18c (uu:Nat):CallE:=⟨18,⟨1,[],[.str]⟩,⟨1,[],[(.int .i64)]⟩,fun x=>F18 uu x,0⟩
theorem F18k (uu:Nat):aa8 (F18C uu):=aai (qc (F49ok uu)<|q0) (p0)
theorem S18_3ok (uu:Nat):aas (F18C uu) (lp (abb Tryz.f18) 0):=okL (F18k uu) uu (S18_3l uu) L0
theorem F18ok (uu:Nat):(F18c uu).Ok Tryz.prog:=okE Tryz.f18 (F18k uu) (L1 (S18_3ok uu))
def F52 (uu:Nat) (a0:Unit) (s:Q0):Option ((PV×Q0)⊕(PV×Q0)):=
 (F115 uu () s).bind fun z=>sumE (fun y1=>
 let x3:=y1.1
 (F18 uu x3).bind fun y4=>
 bif (y4 != (0:Int)) then
 some (.inl ((PV.agg [(PV.int y4),(PV.str ([]:List UInt8))]),y1.2))
 else
 some (.inl ((PV.agg [(PV.int (0:Int)),(PV.str x3)]),y1.2))
 ) (fun y2=>
 some (.inr y2)
 ) z
def F52p (uu:Nat):CallP:=⟨52,⟨1,bx1,sv8⟩,⟨1,bx1,(.data 40)::sv11⟩,⟨1,bx1,sv12⟩,fun x=>F52 uu x.1 x.2,(PV.bad,[],0,[],[],(),(),(),[],[],[],[])⟩
theorem F52ok (uu:Nat):(F52p uu).Ok Tryz.prog:=okPJ Tryz.f52 15 5 uu _ _ false (qc (F18ok uu)<|q0) (pc (F115ok uu)<|p0) L0
def F209 (uu:Nat) (a0:Unit) (a1:Int) (s:Q0):Option ((Int×Q0)⊕(PV×Q0)):=
 (F117 uu () s).bind fun y1=>
 bif (y1.1 != (2:Int)) then
 some (.inr ((PV.agg [(PV.int y1.2.2.1),(PV.int (2:Int))]),y1.2))
 else
 let x3:=y1.2.1
 let x4:=y1.2.2.1
 bif aaa x4 x3.length then
 let x7:=((x3.getD x4.toNat .bad).fld 2).asInt
 bif (decide ((IntKind.wrap .u64 x7)>a1)) then
 some (.inr ((PV.agg [(PV.int y1.2.2.1),(PV.int (6:Int))]),y1.2))
 else
 some (.inl (x7,y1.2.1,(IntKind.wrap .i64 (y1.2.2.1+(1:Int))),y1.2.2.2))
 else none
def F209p (uu:Nat):CallP:=⟨209,⟨2,bx1,(.con (.ref 0 [] 82))::(.int .u64)::sv11⟩,⟨1,bx1,sv9⟩,⟨1,bx1,sv12⟩,fun x=>F209 uu x.1 x.2.1 x.2.2,(0,[],0,[],[],(),(),(),[],[],[],[])⟩
theorem F209ok (uu:Nat):(F209p uu).Ok Tryz.prog:=okPJ Tryz.f209 36 5 uu _ _ false (qc (F117ok uu)<|q0) (pc (F118ok uu)<|p0) L0
def F133 (uu:Nat) (a0:Unit) (a1:Int) (a2:List UInt8) (s:Q0):Option ((PV×Q0)⊕(PV×Q0)):=
 (F239 uu a1 a2).bind fun y1=>
 let x3:=y1.2
 bif (x3 != (0:Int)) then
 let x5:=IntKind.wrap .i64 (s.2.1-(1:Int))
 some (.inr ((PV.agg [(PV.int x5),(PV.int x3)]),s.1,x5,s.2.2))
 else
 some (.inl (y1.1,s))
def F133p (uu:Nat):CallP:=⟨133,⟨3,bx1,(.con (.ref 0 [] 82))::(.int .i64)::sv6⟩,⟨1,bx1,(.data 51)::sv11⟩,⟨1,bx1,sv12⟩,fun x=>F133 uu x.1 x.2.1 x.2.2.1 x.2.2.2,(PV.bad,[],0,[],[],(),(),(),[],[],[],[])⟩
theorem F133ok (uu:Nat):(F133p uu).Ok Tryz.prog:=okPJ Tryz.f133 28 5 uu _ _ false (qc (F239ok uu)<|q0) (pc (F118ok uu)<|p0) L0
def F63 (uu:Nat) (a0:Unit) (a1:Int) (s:Q0):Option ((PV×Q0)⊕(PV×Q0)):=
 bif (a1==(0:Int)) then
 (F132 uu () s).bind fun z=>sumE (fun y2=>
 some (.inl ((PV.agg [(PV.int (9:Int)),(PV.int (0:Int)),(PV.str y2.1),(PV.slice []),(PV.slice []),(PV.slice []),(PV.slice [])]),y2.2))
 ) (fun y3=>
 some (.inr y3)
 ) z
 else
 bif (a1==(1:Int)) then
 (F96 uu () ([116,114,117,101]:List UInt8) s).bind fun y6=>
 let x7:=!y6.1
 bif x7 then
 (F96 uu () ([102,97,108,115,101]:List UInt8) y6.2).bind fun y8=>
 bif (bif x7 then (!y8.1) else false) then
 some (.inr ((PV.agg [(PV.int y8.2.2.1),(PV.int (2:Int))]),y8.2))
 else
 let x12:=IntKind.wrap .i64 (y8.2.2.1+(1:Int))
 let x13:=y8.2.1
 let x14:=IntKind.wrap .i64 (x12-(1:Int))
 bif aaa x14 x13.length then
 (F133 uu () a1 ((x13.getD x14.toNat .bad).fld 1).asStr (y8.2.1,x12,y8.2.2.2)).bind fun z=>sumE (fun y18=>
 some (.inl y18)
 ) (fun y19=>
 some (.inr y19)
 ) z
 else none
 else
 bif (bif x7 then true else false) then
 some (.inr ((PV.agg [(PV.int y6.2.2.1),(PV.int (2:Int))]),y6.2))
 else
 let x22:=IntKind.wrap .i64 (y6.2.2.1+(1:Int))
 let x23:=y6.2.1
 let x24:=IntKind.wrap .i64 (x22-(1:Int))
 bif aaa x24 x23.length then
 (F133 uu () a1 ((x23.getD x24.toNat .bad).fld 1).asStr (y6.2.1,x22,y6.2.2.2)).bind fun z=>sumE (fun y28=>
 some (.inl y28)
 ) (fun y29=>
 some (.inr y29)
 ) z
 else none
 else
 bif (a1==(6:Int)) then
 (F95 uu () s).bind fun z=>sumE (fun y31=>
 (F133 uu () a1 y31.1 y31.2).bind fun z=>sumE (fun y33=>
 some (.inl y33)
 ) (fun y34=>
 some (.inr y34)
 ) z
 ) (fun y32=>
 some (.inr y32)
 ) z
 else
 bif (a1==(8:Int)) then
 (F95 uu () s).bind fun z=>sumE (fun y36=>
 (F133 uu () a1 y36.1 y36.2).bind fun z=>sumE (fun y38=>
 some (.inl y38)
 ) (fun y39=>
 some (.inr y39)
 ) z
 ) (fun y37=>
 some (.inr y37)
 ) z
 else
 bif (a1==(7:Int)) then
 (F95 uu () s).bind fun z=>sumE (fun y41=>
 (F134 uu y41.1).bind fun y43=>
 (F133 uu () a1 y43 y41.2).bind fun z=>sumE (fun y44=>
 some (.inl y44)
 ) (fun y45=>
 some (.inr y45)
 ) z
 ) (fun y42=>
 some (.inr y42)
 ) z
 else
 (F91 uu () ([45]:List UInt8) s).bind fun y46=>
 bif y46.1 then
 (F117 uu () y46.2).bind fun y47=>
 bif (y47.1 != (2:Int)) then
 some (.inr ((PV.agg [(PV.int y47.2.2.1),(PV.int (2:Int))]),y47.2))
 else
 let x50:=IntKind.wrap .i64 (y47.2.2.1+(1:Int))
 let x51:=y47.2.1
 let x52:=IntKind.wrap .i64 (x50-(1:Int))
 bif aaa x52 x51.length then
 (F135 uu (IntKind.wrap .u64 ((x51.getD x52.toNat .bad).fld 2).asInt) (10:Int)).bind fun y57=>
 bif decide (([45]:List UInt8).length+y57.length<=aa2) then
 (F133 uu () a1 (([45]:List UInt8)++y57) (y47.2.1,x50,y47.2.2.2)).bind fun z=>sumE (fun y58=>
 some (.inl y58)
 ) (fun y59=>
 some (.inr y59)
 ) z
 else none
 else none
 else
 (F117 uu () y46.2).bind fun y60=>
 bif (y60.1 != (2:Int)) then
 some (.inr ((PV.agg [(PV.int y60.2.2.1),(PV.int (2:Int))]),y60.2))
 else
 let x63:=IntKind.wrap .i64 (y60.2.2.1+(1:Int))
 let x64:=y60.2.1
 let x65:=IntKind.wrap .i64 (x63-(1:Int))
 bif aaa x65 x64.length then
 (F135 uu (IntKind.wrap .u64 ((x64.getD x65.toNat .bad).fld 2).asInt) (10:Int)).bind fun y70=>
 bif decide (([]:List UInt8).length+y70.length<=aa2) then
 (F133 uu () a1 (([]:List UInt8)++y70) (y60.2.1,x63,y60.2.2.2)).bind fun z=>sumE (fun y71=>
 some (.inl y71)
 ) (fun y72=>
 some (.inr y72)
 ) z
 else none
 else none
def F63p (uu:Nat):CallP:=⟨63,⟨2,bx1,(.con (.ref 0 [] 82))::sv9⟩,⟨1,bx1,(.data 51)::sv11⟩,⟨1,bx1,sv12⟩,fun x=>F63 uu x.1 x.2.1 x.2.2,(PV.bad,[],0,[],[],(),(),(),[],[],[],[])⟩
theorem F63ok (uu:Nat):(F63p uu).Ok Tryz.prog:=okPJ Tryz.f63 95 5 uu _ _ false (qc (F96ok uu)<|qc (F134ok uu)<|qc (F91ok uu)<|qc (F117ok uu)<|qc (F135ok uu)<|q0) (pc (F132ok uu)<|pc (F118ok uu)<|pc (F133ok uu)<|pc (F95ok uu)<|p0) L0
def F119 (uu:Nat) (a0:Unit) (a1:PV) (a2:Bool) (s:Q0):Option ((PV×Q0)⊕(PV×Q0)):=
 (F132 uu () s).bind fun z=>sumE (fun y1=>
 (F94 uu () ([61]:List UInt8) y1.2).bind fun z=>sumE (fun y3=>
 (F209 uu () (65535:Int) y3).bind fun z=>sumE (fun y5=>
 bif a2 then
 (F91 uu () ([100,101,102,97,117,108,116]:List UInt8) y5.2).bind fun y7=>
 bif (bif a2 then y7.1 else false) then
 (F63 uu () (((a1.fld 4).fld 0).asInt) y7.2).bind fun z=>sumE (fun y10=>
 (F205 uu () y10.2).bind fun z=>sumE (fun y12=>
 (F94 uu () ([59]:List UInt8) y12.2).bind fun z=>sumE (fun y14=>
 some (.inl ((PV.agg [(PV.int y5.1),(PV.str y1.1),(PV.int ((a1.fld 2).asInt)),(PV.int ((a1.fld 3).asInt)),(a1.fld 4),(PV.str ((a1.fld 5).asStr)),(PV.bool true),y10.1,(PV.slice y12.1)]),y14))
 ) (fun y15=>
 some (.inr y15)
 ) z
 ) (fun y13=>
 some (.inr y13)
 ) z
 ) (fun y11=>
 some (.inr y11)
 ) z
 else
 (F205 uu () y7.2).bind fun z=>sumE (fun y24=>
 (F94 uu () ([59]:List UInt8) y24.2).bind fun z=>sumE (fun y26=>
 some (.inl ((PV.agg [(PV.int y5.1),(PV.str y1.1),(PV.int ((a1.fld 2).asInt)),(PV.int ((a1.fld 3).asInt)),(a1.fld 4),(PV.str ((a1.fld 5).asStr)),(PV.bool ((a1.fld 6).asBool)),(a1.fld 7),(PV.slice y24.1)]),y26))
 ) (fun y27=>
 some (.inr y27)
 ) z
 ) (fun y25=>
 some (.inr y25)
 ) z
 else
 bif (bif a2 then false else false) then
 (F63 uu () (((a1.fld 4).fld 0).asInt) y5.2).bind fun z=>sumE (fun y39=>
 (F205 uu () y39.2).bind fun z=>sumE (fun y41=>
 (F94 uu () ([59]:List UInt8) y41.2).bind fun z=>sumE (fun y43=>
 some (.inl ((PV.agg [(PV.int y5.1),(PV.str y1.1),(PV.int ((a1.fld 2).asInt)),(PV.int ((a1.fld 3).asInt)),(a1.fld 4),(PV.str ((a1.fld 5).asStr)),(PV.bool true),y39.1,(PV.slice y41.1)]),y43))
 ) (fun y44=>
 some (.inr y44)
 ) z
 ) (fun y42=>
 some (.inr y42)
 ) z
 ) (fun y40=>
 some (.inr y40)
 ) z
 else
 (F205 uu () y5.2).bind fun z=>sumE (fun y53=>
 (F94 uu () ([59]:List UInt8) y53.2).bind fun z=>sumE (fun y55=>
 some (.inl ((PV.agg [(PV.int y5.1),(PV.str y1.1),(PV.int ((a1.fld 2).asInt)),(PV.int ((a1.fld 3).asInt)),(a1.fld 4),(PV.str ((a1.fld 5).asStr)),(PV.bool ((a1.fld 6).asBool)),(a1.fld 7),(PV.slice y53.1)]),y55))
 ) (fun y56=>
 some (.inr y56)
 ) z
 ) (fun y54=>
 some (.inr y54)
 ) z
 ) (fun y6=>
 some (.inr y6)
 ) z
 ) (fun y4=>
 some (.inr y4)
 ) z
 ) (fun y2=>
 some (.inr y2)
 ) z
def F119p (uu:Nat):CallP:=⟨119,⟨3,bx1,(.con (.ref 0 [] 82))::(.data 54)::sv7⟩,⟨1,bx1,(.data 54)::sv11⟩,⟨1,bx1,sv12⟩,fun x=>F119 uu x.1 x.2.1 x.2.2.1 x.2.2.2,(PV.bad,[],0,[],[],(),(),(),[],[],[],[])⟩
theorem F119ok (uu:Nat):(F119p uu).Ok Tryz.prog:=okPJ Tryz.f119 33 5 uu _ _ false (qc (F91ok uu)<|q0) (pc (F132ok uu)<|pc (F94ok uu)<|pc (F209ok uu)<|pc (F63ok uu)<|pc (F205ok uu)<|p0) L0
abbrev S206_6x:=Unit×(List UInt8)×(List PV)×Q0
abbrev S206_6y:=((List PV)×Q0)⊕(PV×Q0)
def S206_6 (uu:Nat) (a8:Unit) (a9:List UInt8) (a10:List PV) (s:Q0):Option (S206_6x⊕S206_6y):=
 (F52 uu () s).bind fun z=>sumE (fun y11=>
 (F119 uu () (PV.agg [(PV.int (0:Int)),(PV.str ([]:List UInt8)),(PV.int (2:Int)),(PV.int (0:Int)),y11.1,(PV.str a9),(PV.bool false),(PV.agg [(PV.int (0:Int)),(PV.int (0:Int)),(PV.str ([]:List UInt8)),(PV.slice []),(PV.slice []),(PV.slice []),(PV.slice [])]),(PV.slice [])]) false y11.2).bind fun z=>sumE (fun y14=>
 bif decide (a10.length+[y14.1].length<=aal) then
 let x16:=a10++[y14.1]
 (F91 uu () ([125]:List UInt8) y14.2).bind fun y17=>
 bif y17.1 then
 some (.inr (.inl (x16,y17.2)))
 else
 some (.inl ((),a9,x16,y17.2))
 else none
 ) (fun y15=>
 some (.inr (.inr y15))
 ) z
 ) (fun y12=>
 some (.inr (.inr y12))
 ) z
def S206_6step (uu:Nat) (x:S206_6x):Option (S206_6x⊕S206_6y):=S206_6 uu x.1 x.2.1 x.2.2.1 x.2.2.2
def F206 (uu:Nat) (a0:Unit) (s:Q0):Option (((List PV)×Q0)⊕(PV×Q0)):=
 (F94 uu () ([117,110,105,111,110]:List UInt8) s).bind fun z=>sumE (fun y1=>
 (F132 uu () y1).bind fun z=>sumE (fun y3=>
 (F94 uu () ([123]:List UInt8) y3.2).bind fun z=>sumE (fun y6=>
 (abj uu (S206_6step uu) ((),y3.1,[],y6)).bind fun z=>sumE (fun y18=>
 some (.inl y18)
 ) (fun y19=>
 some (.inr y19)
 ) z
 ) (fun y7=>
 some (.inr y7)
 ) z
 ) (fun y4=>
 some (.inr y4)
 ) z
 ) (fun y2=>
 some (.inr y2)
 ) z
def S206_6l (uu:Nat):LoopE:=⟨6,⟨[0,3,4],bx3,(.con (.ref 0 [] 82))::.str::(.acc 5 54)::sv11⟩,[(.ret,⟨[2],bx3,(.acc 5 54)::sv11⟩),(.pan,⟨[0],bx3,sv12⟩)],S206_6step uu⟩
def F206C (uu:Nat):Cfg:=cfg Tryz.prog 23 5 [F91c uu] [S206_6l uu] uu [F94p uu,F132p uu,F52p uu,F119p uu]
def F206p (uu:Nat):CallP:=⟨206,⟨1,bx1,sv8⟩,⟨1,bx1,(.slice 54)::sv11⟩,⟨1,bx1,sv12⟩,fun x=>F206 uu x.1 x.2,([],[],0,[],[],(),(),(),[],[],[],[])⟩
theorem F206k (uu:Nat):aa8 (F206C uu):=aai (qc (F91ok uu)<|q0) (pc (F94ok uu)<|pc (F132ok uu)<|pc (F52ok uu)<|pc (F119ok uu)<|p0)
theorem S206_6ok (uu:Nat):aas (F206C uu) (lp (abb Tryz.f206) 0):=okL (F206k uu) uu (S206_6l uu) L0
theorem F206ok (uu:Nat):(F206p uu).Ok Tryz.prog:=okPE Tryz.f206 (F206k uu) (L1 (S206_6ok uu))
abbrev S208_3x:=Unit×Int×(List PV)×Q0
abbrev S208_3y:=((List PV)×Q0)⊕(PV×Q0)
def S208_3 (uu:Nat) (a1:Unit) (a2:Int) (a3:List PV) (s:Q0):Option (S208_3x⊕S208_3y):=
 (F209 uu () a2 s).bind fun z=>sumE (fun y4=>
 let x6:=y4.1
 (F91 uu () ([45]:List UInt8) y4.2).bind fun y7=>
 bif y7.1 then
 (F209 uu () a2 y7.2).bind fun z=>sumE (fun y8=>
 let x10:=y8.1
 bif decide (a3.length+[(PV.agg [(PV.int x6),(PV.int x10)])].length<=aal) then
 let x11:=a3++[(PV.agg [(PV.int x6),(PV.int x10)])]
 (F91 uu () ([59]:List UInt8) y8.2).bind fun y12=>
 bif y12.1 then
 some (.inr (.inl (x11,y12.2)))
 else
 (F94 uu () ([44]:List UInt8) y12.2).bind fun z=>sumE (fun y13=>
 some (.inl ((),a2,x11,y13))
 ) (fun y14=>
 some (.inr (.inr y14))
 ) z
 else none
 ) (fun y9=>
 some (.inr (.inr y9))
 ) z
 else
 bif decide (a3.length+[(PV.agg [(PV.int x6),(PV.int x6)])].length<=aal) then
 let x15:=a3++[(PV.agg [(PV.int x6),(PV.int x6)])]
 (F91 uu () ([59]:List UInt8) y7.2).bind fun y16=>
 bif y16.1 then
 some (.inr (.inl (x15,y16.2)))
 else
 (F94 uu () ([44]:List UInt8) y16.2).bind fun z=>sumE (fun y17=>
 some (.inl ((),a2,x15,y17))
 ) (fun y18=>
 some (.inr (.inr y18))
 ) z
 else none
 ) (fun y5=>
 some (.inr (.inr y5))
 ) z
def S208_3step (uu:Nat) (x:S208_3x):Option (S208_3x⊕S208_3y):=S208_3 uu x.1 x.2.1 x.2.2.1 x.2.2.2
def F208 (uu:Nat) (a0:Unit) (a1:Int) (s:Q0):Option (((List PV)×Q0)⊕(PV×Q0)):=
 (abj uu (S208_3step uu) ((),a1,[],s)).bind fun z=>sumE (fun y19=>
 some (.inl y19)
 ) (fun y20=>
 some (.inr y20)
 ) z
def S208_3l (uu:Nat):LoopE:=⟨3,⟨[0,1,5],bx3,(.con (.ref 0 [] 82))::(.int .u64)::(.acc 5 234)::sv11⟩,[(.ret,⟨[4],bx3,(.acc 5 234)::sv11⟩),(.pan,⟨[0],bx3,sv12⟩)],S208_3step uu⟩
def F208C (uu:Nat):Cfg:=cfg Tryz.prog 29 5 [F91c uu] [S208_3l uu] uu [F209p uu,F94p uu]
def F208p (uu:Nat):CallP:=⟨208,⟨2,bx1,(.con (.ref 0 [] 82))::(.int .u64)::sv11⟩,⟨1,bx1,(.slice 234)::sv11⟩,⟨1,bx1,sv12⟩,fun x=>F208 uu x.1 x.2.1 x.2.2,([],[],0,[],[],(),(),(),[],[],[],[])⟩
theorem F208k (uu:Nat):aa8 (F208C uu):=aai (qc (F91ok uu)<|q0) (pc (F209ok uu)<|pc (F94ok uu)<|p0)
theorem S208_3ok (uu:Nat):aas (F208C uu) (lp (abb Tryz.f208) 0):=okL (F208k uu) uu (S208_3l uu) L0
theorem F208ok (uu:Nat):(F208p uu).Ok Tryz.prog:=okPE Tryz.f208 (F208k uu) (L1 (S208_3ok uu))
abbrev S98_8x:=Unit×Unit×Int×(List PV)×Int×(List UInt8)×(List UInt8)×Unit×Unit×Unit×(List PV)×(List PV)×(List PV)×(List PV)×(List UInt8)×Bool×(List PV)×(List PV)×(List PV)
abbrev S98_8y:=(PV×(List PV)×Int×(List UInt8)×(List UInt8)×Unit×Unit×Unit×(List PV)×(List PV)×(List PV)×(List PV)×(List UInt8)×Bool×(List PV)×(List PV)×(List PV))⊕(Unit×Unit×Int×(List PV)×Int×(List UInt8)×(List UInt8)×Unit×Unit×Unit×(List PV)×(List PV)×(List PV)×(List PV)×(List UInt8)×Bool×(List PV)×(List PV)×(List PV))
def S98_8 (uu:Nat) (a13:Unit) (a14:Unit) (a15:Int) (s:(List PV)×Int×(List UInt8)×(List UInt8)×Unit×Unit×Unit×(List PV)×(List PV)×(List PV)×(List PV)×(List UInt8)×Bool×(List PV)×(List PV)×(List PV)):Option (S98_8x⊕S98_8y):=
 (F91 uu () ([125]:List UInt8) (s.1,s.2.1,s.2.2.1,s.2.2.2.1,(),(),(),s.2.2.2.2.2.2.2.1,s.2.2.2.2.2.2.2.2.1,s.2.2.2.2.2.2.2.2.2.1,s.2.2.2.2.2.2.2.2.2.2.1)).bind fun y16=>
 bif (!y16.1) then
 (F91 uu () ([114,101,115,101,114,118,101,100]:List UInt8) y16.2).bind fun y18=>
 bif y18.1 then
 (F208 uu () (2147483647:Int) y18.2).bind fun z=>sumE (fun y19=>
 bif decide (s.2.2.2.2.2.2.2.2.2.2.2.2.2.2.1.length+y19.1.length<=aal) then
 some (.inl ((),(),a15,y19.2.1,y19.2.2.1,y19.2.2.2.1,y19.2.2.2.2.1,(),(),(),y19.2.2.2.2.2.2.2.2.1,y19.2.2.2.2.2.2.2.2.2.1,y19.2.2.2.2.2.2.2.2.2.2.1,y19.2.2.2.2.2.2.2.2.2.2.2,s.2.2.2.2.2.2.2.2.2.2.2.1,s.2.2.2.2.2.2.2.2.2.2.2.2.1,s.2.2.2.2.2.2.2.2.2.2.2.2.2.1,(s.2.2.2.2.2.2.2.2.2.2.2.2.2.2.1++y19.1),s.2.2.2.2.2.2.2.2.2.2.2.2.2.2.2))
 else none
 ) (fun y20=>
 some (.inr (.inl (y20.1,y20.2.1,y20.2.2.1,y20.2.2.2.1,y20.2.2.2.2.1,(),(),(),y20.2.2.2.2.2.2.2.2.1,y20.2.2.2.2.2.2.2.2.2.1,y20.2.2.2.2.2.2.2.2.2.2.1,y20.2.2.2.2.2.2.2.2.2.2.2,s.2.2.2.2.2.2.2.2.2.2.2)))
 ) z
 else
 (F132 uu () y18.2).bind fun z=>sumE (fun y22=>
 let x24:=y22.1
 (F94 uu () ([61]:List UInt8) y22.2).bind fun z=>sumE (fun y25=>
 (F209 uu () (2147483647:Int) y25).bind fun z=>sumE (fun y27=>
 (F205 uu () y27.2).bind fun z=>sumE (fun y29=>
 (F94 uu () ([59]:List UInt8) y29.2).bind fun z=>sumE (fun y31=>
 let x33:=y27.1
 let x34:=y29.1
 bif decide (s.2.2.2.2.2.2.2.2.2.2.2.2.2.1.length+[(PV.agg [(PV.str x24),(PV.int x33),(PV.slice x34)])].length<=aal) then
 let x35:=s.2.2.2.2.2.2.2.2.2.2.2.2.2.1++[(PV.agg [(PV.str x24),(PV.int x33),(PV.slice x34)])]
 some (.inl ((),(),a15,y31.1,y31.2.1,y31.2.2.1,y31.2.2.2.1,(),(),(),y31.2.2.2.2.2.2.2.1,y31.2.2.2.2.2.2.2.2.1,y31.2.2.2.2.2.2.2.2.2.1,y31.2.2.2.2.2.2.2.2.2.2,s.2.2.2.2.2.2.2.2.2.2.2.1,s.2.2.2.2.2.2.2.2.2.2.2.2.1,x35,s.2.2.2.2.2.2.2.2.2.2.2.2.2.2))
 else none
 ) (fun y32=>
 some (.inr (.inl (y32.1,y32.2.1,y32.2.2.1,y32.2.2.2.1,y32.2.2.2.2.1,(),(),(),y32.2.2.2.2.2.2.2.2.1,y32.2.2.2.2.2.2.2.2.2.1,y32.2.2.2.2.2.2.2.2.2.2.1,y32.2.2.2.2.2.2.2.2.2.2.2,s.2.2.2.2.2.2.2.2.2.2.2)))
 ) z
 ) (fun y30=>
 some (.inr (.inl (y30.1,y30.2.1,y30.2.2.1,y30.2.2.2.1,y30.2.2.2.2.1,(),(),(),y30.2.2.2.2.2.2.2.2.1,y30.2.2.2.2.2.2.2.2.2.1,y30.2.2.2.2.2.2.2.2.2.2.1,y30.2.2.2.2.2.2.2.2.2.2.2,s.2.2.2.2.2.2.2.2.2.2.2)))
 ) z
 ) (fun y28=>
 some (.inr (.inl (y28.1,y28.2.1,y28.2.2.1,y28.2.2.2.1,y28.2.2.2.2.1,(),(),(),y28.2.2.2.2.2.2.2.2.1,y28.2.2.2.2.2.2.2.2.2.1,y28.2.2.2.2.2.2.2.2.2.2.1,y28.2.2.2.2.2.2.2.2.2.2.2,s.2.2.2.2.2.2.2.2.2.2.2)))
 ) z
 ) (fun y26=>
 some (.inr (.inl (y26.1,y26.2.1,y26.2.2.1,y26.2.2.2.1,y26.2.2.2.2.1,(),(),(),y26.2.2.2.2.2.2.2.2.1,y26.2.2.2.2.2.2.2.2.2.1,y26.2.2.2.2.2.2.2.2.2.2.1,y26.2.2.2.2.2.2.2.2.2.2.2,s.2.2.2.2.2.2.2.2.2.2.2)))
 ) z
 ) (fun y23=>
 some (.inr (.inl (y23.1,y23.2.1,y23.2.2.1,y23.2.2.2.1,y23.2.2.2.2.1,(),(),(),y23.2.2.2.2.2.2.2.2.1,y23.2.2.2.2.2.2.2.2.2.1,y23.2.2.2.2.2.2.2.2.2.2.1,y23.2.2.2.2.2.2.2.2.2.2.2,s.2.2.2.2.2.2.2.2.2.2.2)))
 ) z
 else
 some (.inr (.inr ((),(),a15,y16.2.1,y16.2.2.1,y16.2.2.2.1,y16.2.2.2.2.1,(),(),(),y16.2.2.2.2.2.2.2.2.1,y16.2.2.2.2.2.2.2.2.2.1,y16.2.2.2.2.2.2.2.2.2.2.1,y16.2.2.2.2.2.2.2.2.2.2.2,s.2.2.2.2.2.2.2.2.2.2.2)))
def S98_8step (uu:Nat) (x:S98_8x):Option (S98_8x⊕S98_8y):=S98_8 uu x.1 x.2.1 x.2.2.1 x.2.2.2
def F98 (uu:Nat) (a0:Unit) (a1:List UInt8) (s:Q0):Option ((Q0)⊕(PV×Q0)):=
 (F91 uu () ([111,112,101,110]:List UInt8) s).bind fun y1=>
 let x2:=y1.1
 (F94 uu () ([101,110,117,109]:List UInt8) y1.2).bind fun z=>sumE (fun y3=>
 bif decide (y3.2.2.2.2.2.2.2.2.2.2.length+[(PV.agg [(PV.str ([]:List UInt8)),(PV.bool x2),(PV.slice []),(PV.slice []),(PV.slice [])])].length<=aal) then
 let x6:=y3.2.2.2.2.2.2.2.2.2.2++[(PV.agg [(PV.str ([]:List UInt8)),(PV.bool x2),(PV.slice []),(PV.slice []),(PV.slice [])])]
 (F204 uu () a1 (y3.1,y3.2.1,y3.2.2.1,y3.2.2.2.1,(),(),(),y3.2.2.2.2.2.2.2.1,y3.2.2.2.2.2.2.2.2.1,y3.2.2.2.2.2.2.2.2.2.1,x6)).bind fun z=>sumE (fun y7=>
 (F205 uu () y7.2).bind fun z=>sumE (fun y9=>
 (F94 uu () ([123]:List UInt8) y9.2).bind fun z=>sumE (fun y11=>
 (abj uu (S98_8step uu) ((),(),(y3.2.2.2.2.2.2.2.2.2.2.length:Int),y11.1,y11.2.1,y11.2.2.1,y11.2.2.2.1,(),(),(),y11.2.2.2.2.2.2.2.1,y11.2.2.2.2.2.2.2.2.1,y11.2.2.2.2.2.2.2.2.2.1,y11.2.2.2.2.2.2.2.2.2.2,y7.1,x2,[],[],y9.1)).bind fun z=>sumE (fun y36=>
 some (.inr (y36.1,y36.2.1,y36.2.2.1,y36.2.2.2.1,y36.2.2.2.2.1,(),(),(),y36.2.2.2.2.2.2.2.2.1,y36.2.2.2.2.2.2.2.2.2.1,y36.2.2.2.2.2.2.2.2.2.2.1,y36.2.2.2.2.2.2.2.2.2.2.2.1))
 ) (fun y37=>
 let x38:=y37.2.2.1
 bif aaa x38 y37.2.2.2.2.2.2.2.2.2.2.2.2.2.1.length then
 let x44:=y37.2.2.2.2.2.2.2.2.2.2.2.2.2.1.set x38.toNat (PV.agg [(PV.str y37.2.2.2.2.2.2.2.2.2.2.2.2.2.2.1),(PV.bool y37.2.2.2.2.2.2.2.2.2.2.2.2.2.2.2.1),(PV.slice y37.2.2.2.2.2.2.2.2.2.2.2.2.2.2.2.2.1),(PV.slice y37.2.2.2.2.2.2.2.2.2.2.2.2.2.2.2.2.2.1),(PV.slice y37.2.2.2.2.2.2.2.2.2.2.2.2.2.2.2.2.2.2)])
 some (.inl (y37.2.2.2.1,y37.2.2.2.2.1,y37.2.2.2.2.2.1,y37.2.2.2.2.2.2.1,(),(),(),y37.2.2.2.2.2.2.2.2.2.2.1,y37.2.2.2.2.2.2.2.2.2.2.2.1,y37.2.2.2.2.2.2.2.2.2.2.2.2.1,x44))
 else none
 ) z
 ) (fun y12=>
 some (.inr y12)
 ) z
 ) (fun y10=>
 some (.inr y10)
 ) z
 ) (fun y8=>
 some (.inr y8)
 ) z
 else none
 ) (fun y4=>
 some (.inr y4)
 ) z
def S98_8l (uu:Nat):LoopE:=⟨8,⟨[0,4,5],bx4,(.con (.ref 0 [] 82))::(.con (.ref 5 [] 127))::(.int .i64)::sv17⟩,[(.pan,⟨[0],bx4,(.ifc 84)::sv17⟩),(.exit 0,⟨[0,4,5],bx4,(.con (.ref 0 [] 82))::(.con (.ref 5 [] 127))::(.int .i64)::sv17⟩)],S98_8step uu⟩
def F98C (uu:Nat):Cfg:=cfg Tryz.prog 77 5 [F91c uu] [S98_8l uu] uu [F94p uu,F204p uu,F205p uu,F208p uu,F132p uu,F209p uu]
def F98p (uu:Nat):CallP:=⟨98,⟨2,bx1,sv10⟩,⟨0,bx5,(.slice 72)::(.int .i64)::.str::.str::(.con (.arr 1 0 9))::(.con (.arr 2 0 63))::sv18⟩,⟨1,bx5,(.ifc 84)::(.slice 72)::(.int .i64)::.str::.str::(.con (.arr 1 0 9))::(.con (.arr 2 0 63))::sv18⟩,fun x=>F98 uu x.1 x.2.1 x.2.2,([],0,[],[],(),(),(),[],[],[],[])⟩
theorem F98k (uu:Nat):aa8 (F98C uu):=aai (qc (F91ok uu)<|q0) (pc (F94ok uu)<|pc (F204ok uu)<|pc (F205ok uu)<|pc (F208ok uu)<|pc (F132ok uu)<|pc (F209ok uu)<|p0)
theorem S98_8ok (uu:Nat):aas (F98C uu) (lp (abb Tryz.f98) 0):=okL (F98k uu) uu (S98_8l uu) L0
theorem F98ok (uu:Nat):(F98p uu).Ok Tryz.prog:=okPE Tryz.f98 (F98k uu) (L1 (S98_8ok uu))
def S207_3 (uu:Nat) (a1:Unit) (a2:List PV) (s:Q0):Option ((Unit×(List PV)×Q0)⊕(((List PV)×Q0)⊕(PV×Q0))):=
 (F95 uu () s).bind fun z=>sumE (fun y3=>
 bif decide (a2.length+[(PV.str y3.1)].length<=aal) then
 let x5:=a2++[(PV.str y3.1)]
 (F91 uu () ([59]:List UInt8) y3.2).bind fun y6=>
 bif y6.1 then
 some (.inr (.inl (x5,y6.2)))
 else
 (F94 uu () ([44]:List UInt8) y6.2).bind fun z=>sumE (fun y7=>
 some (.inl ((),x5,y7))
 ) (fun y8=>
 some (.inr (.inr y8))
 ) z
 else none
 ) (fun y4=>
 some (.inr (.inr y4))
 ) z
def S207_3step (uu:Nat) (x:Unit×(List PV)×Q0):Option ((Unit×(List PV)×Q0)⊕(((List PV)×Q0)⊕(PV×Q0))):=S207_3 uu x.1 x.2.1 x.2.2
def F207 (uu:Nat) (a0:Unit) (s:Q0):Option (((List PV)×Q0)⊕(PV×Q0)):=
 (abj uu (S207_3step uu) ((),[],s)).bind fun z=>sumE (fun y9=>
 some (.inl y9)
 ) (fun y10=>
 some (.inr y10)
 ) z
def S207_3l (uu:Nat):LoopE:=⟨3,⟨[0,3],bx3,(.con (.ref 0 [] 82))::(.acc 5 9)::sv11⟩,[(.ret,⟨[2],bx3,(.acc 5 9)::sv11⟩),(.pan,⟨[0],bx3,sv12⟩)],S207_3step uu⟩
def F207C (uu:Nat):Cfg:=cfg Tryz.prog 14 5 [F91c uu] [S207_3l uu] uu [F95p uu,F94p uu]
def F207p (uu:Nat):CallP:=⟨207,⟨1,bx1,sv8⟩,⟨1,bx1,(.slice 9)::sv11⟩,⟨1,bx1,sv12⟩,fun x=>F207 uu x.1 x.2,([],[],0,[],[],(),(),(),[],[],[],[])⟩
theorem F207k (uu:Nat):aa8 (F207C uu):=aai (qc (F91ok uu)<|q0) (pc (F95ok uu)<|pc (F94ok uu)<|p0)
theorem S207_3ok (uu:Nat):aas (F207C uu) (lp (abb Tryz.f207) 0):=okL (F207k uu) uu (S207_3l uu) L0
theorem F207ok (uu:Nat):(F207p uu).Ok Tryz.prog:=okPE Tryz.f207 (F207k uu) (L1 (S207_3ok uu))
def F120 (uu:Nat) (a0:List UInt8):Option (Int):=
 let x1:=a0==([114,101,113,117,105,114,101,100]:List UInt8)
 bif x1 then
 some (1:Int)
 else
 let x2:=a0==([111,112,116,105,111,110,97,108]:List UInt8)
 bif x2 then
 some (2:Int)
 else
 bif (a0==([112,108,97,105,110]:List UInt8)) then
 some (3:Int)
 else
 bif (a0==([108,105,115,116]:List UInt8)) then
 some (4:Int)
 else
 some (0:Int)
def F120c (uu:Nat):CallE:=⟨120,⟨1,[],[.str]⟩,⟨1,[],[(.int .i64)]⟩,fun x=>F120 uu x,0⟩
theorem F120ok (uu:Nat):(F120c uu).Ok Tryz.prog:=okJ Tryz.f120 12 0 uu [] [] false (q0) (p0) L0
def F55 (uu:Nat) (a0:Unit) (s:Q0):Option ((PV×Q0)⊕(PV×Q0)):=
 (F91 uu () ([109,97,112]:List UInt8) s).bind fun y1=>
 bif y1.1 then
 (F94 uu () ([60]:List UInt8) y1.2).bind fun z=>sumE (fun y2=>
 (F117 uu () y2).bind fun y4=>
 let x5:=y4.1 != (1:Int)
 let x6:=y4.2.1
 let x7:=y4.2.2.1
 bif imp (!x5) (aaa x7 x6.length) then
 (bif !x5 then F18 uu ((x6.getD x7.toNat .bad).fld 1).asStr else some 0).bind fun y11=>
 bif (bif x5 then true else (y11==(0:Int))) then
 some (.inr ((PV.agg [(PV.int y4.2.2.1),(PV.int (2:Int))]),y4.2))
 else
 let x14:=y4.2.1
 let x15:=y4.2.2.1
 bif aaa x15 x14.length then
 (F18 uu ((x14.getD x15.toNat .bad).fld 1).asStr).bind fun y19=>
 (F94 uu () ([44]:List UInt8) (y4.2.1,(IntKind.wrap .i64 (y4.2.2.1+(1:Int))),y4.2.2.2)).bind fun z=>sumE (fun y22=>
 (F52 uu () y22).bind fun z=>sumE (fun y24=>
 (F94 uu () ([62]:List UInt8) y24.2).bind fun z=>sumE (fun y26=>
 (F119 uu () (PV.agg [(PV.int (0:Int)),(PV.str ([]:List UInt8)),(PV.int (5:Int)),(PV.int y19),y24.1,(PV.str ([]:List UInt8)),(PV.bool false),(PV.agg [(PV.int (0:Int)),(PV.int (0:Int)),(PV.str ([]:List UInt8)),(PV.slice []),(PV.slice []),(PV.slice []),(PV.slice [])]),(PV.slice [])]) false y26).bind fun z=>sumE (fun y29=>
 some (.inl y29)
 ) (fun y30=>
 some (.inr y30)
 ) z
 ) (fun y27=>
 some (.inr y27)
 ) z
 ) (fun y25=>
 some (.inr y25)
 ) z
 ) (fun y23=>
 some (.inr y23)
 ) z
 else none
 else none
 ) (fun y3=>
 some (.inr y3)
 ) z
 else
 (F117 uu () y1.2).bind fun y31=>
 let x32:=y31.1 != (1:Int)
 let x33:=y31.2.1
 let x34:=y31.2.2.1
 bif imp (!x32) (aaa x34 x33.length) then
 (bif !x32 then F120 uu ((x33.getD x34.toNat .bad).fld 1).asStr else some 0).bind fun y38=>
 bif (bif x32 then true else (y38==(0:Int))) then
 some (.inr ((PV.agg [(PV.int y31.2.2.1),(PV.int (2:Int))]),y31.2))
 else
 let x41:=y31.2.1
 let x42:=y31.2.2.1
 bif aaa x42 x41.length then
 (F120 uu ((x41.getD x42.toNat .bad).fld 1).asStr).bind fun y46=>
 (F52 uu () (y31.2.1,(IntKind.wrap .i64 (y31.2.2.1+(1:Int))),y31.2.2.2)).bind fun z=>sumE (fun y49=>
 (F119 uu () (PV.agg [(PV.int (0:Int)),(PV.str ([]:List UInt8)),(PV.int y46),(PV.int (0:Int)),y49.1,(PV.str ([]:List UInt8)),(PV.bool false),(PV.agg [(PV.int (0:Int)),(PV.int (0:Int)),(PV.str ([]:List UInt8)),(PV.slice []),(PV.slice []),(PV.slice []),(PV.slice [])]),(PV.slice [])]) true y49.2).bind fun z=>sumE (fun y52=>
 some (.inl y52)
 ) (fun y53=>
 some (.inr y53)
 ) z
 ) (fun y50=>
 some (.inr y50)
 ) z
 else none
 else none
def F55p (uu:Nat):CallP:=⟨55,⟨1,bx1,sv8⟩,⟨1,bx1,(.data 54)::sv11⟩,⟨1,bx1,sv12⟩,fun x=>F55 uu x.1 x.2,(PV.bad,[],0,[],[],(),(),(),[],[],[],[])⟩
theorem F55ok (uu:Nat):(F55p uu).Ok Tryz.prog:=okPJ Tryz.f55 106 5 uu _ _ false (qc (F91ok uu)<|qc (F117ok uu)<|qc (F18ok uu)<|qc (F120ok uu)<|q0) (pc (F94ok uu)<|pc (F118ok uu)<|pc (F52ok uu)<|pc (F119ok uu)<|p0) L0
def B97p (r:(Unit×(List UInt8)×Int×Q0)->Option ((Q0)⊕(PV×Q0))):CallP:=⟨97,⟨3,bx1,(.con (.ref 0 [] 82))::.str::sv9⟩,⟨0,bx6,sv19⟩,⟨1,bx6,(.ifc 84)::sv19⟩,r,([],0,[],[],(),(),(),[],[],[],[])⟩
abbrev B97_9x:=Unit×Int×Int×Unit×(List PV)×Int×(List UInt8)×(List UInt8)×Unit×Unit×Unit×(List PV)×(List PV)×(List PV)×(List PV)×(List UInt8)×(List PV)×(List PV)×(List PV)×(List PV)
abbrev B97_9y:=(PV×(List PV)×Int×(List UInt8)×(List UInt8)×Unit×Unit×Unit×(List PV)×(List PV)×(List PV)×(List PV)×(List UInt8)×(List PV)×(List PV)×(List PV)×(List PV))⊕(Unit×Int×Unit×(List PV)×Int×(List UInt8)×(List UInt8)×Unit×Unit×Unit×(List PV)×(List PV)×(List PV)×(List PV)×(List UInt8)×(List PV)×(List PV)×(List PV)×(List PV))
def B97_9 (uu:Nat) (r0:(Unit×(List UInt8)×Int×Q0)->Option ((Q0)⊕(PV×Q0))) (a29:Unit) (a30:Int) (a31:Int) (a32:Unit) (s:(List PV)×Int×(List UInt8)×(List UInt8)×Unit×Unit×Unit×(List PV)×(List PV)×(List PV)×(List PV)×(List UInt8)×(List PV)×(List PV)×(List PV)×(List PV)):Option (B97_9x⊕B97_9y):=
 (F91 uu () ([125]:List UInt8) (s.1,s.2.1,s.2.2.1,s.2.2.2.1,(),(),(),s.2.2.2.2.2.2.2.1,s.2.2.2.2.2.2.2.2.1,s.2.2.2.2.2.2.2.2.2.1,s.2.2.2.2.2.2.2.2.2.2.1)).bind fun y33=>
 bif (!y33.1) then
 (F96 uu () ([117,110,105,111,110]:List UInt8) y33.2).bind fun y35=>
 bif y35.1 then
 (F206 uu () y35.2).bind fun z=>sumE (fun y37=>
 bif decide (s.2.2.2.2.2.2.2.2.2.2.2.2.1.length+y37.1.length<=aal) then
 some (.inl ((),a30,a31,(),y37.2.1,y37.2.2.1,y37.2.2.2.1,y37.2.2.2.2.1,(),(),(),y37.2.2.2.2.2.2.2.2.1,y37.2.2.2.2.2.2.2.2.2.1,y37.2.2.2.2.2.2.2.2.2.2.1,y37.2.2.2.2.2.2.2.2.2.2.2,s.2.2.2.2.2.2.2.2.2.2.2.1,(s.2.2.2.2.2.2.2.2.2.2.2.2.1++y37.1),s.2.2.2.2.2.2.2.2.2.2.2.2.2))
 else none
 ) (fun y38=>
 some (.inr (.inl (y38.1,y38.2.1,y38.2.2.1,y38.2.2.2.1,y38.2.2.2.2.1,(),(),(),y38.2.2.2.2.2.2.2.2.1,y38.2.2.2.2.2.2.2.2.2.1,y38.2.2.2.2.2.2.2.2.2.2.1,y38.2.2.2.2.2.2.2.2.2.2.2,s.2.2.2.2.2.2.2.2.2.2.2)))
 ) z
 else
 (F96 uu () ([109,101,115,115,97,103,101]:List UInt8) y35.2).bind fun y40=>
 bif y40.1 then
 (r0 ((),s.2.2.2.2.2.2.2.2.2.2.2.1,(IntKind.wrap .i64 (a30+(1:Int))),y40.2)).bind fun z=>sumE (fun y43=>
 some (.inl ((),a30,a31,(),y43.1,y43.2.1,y43.2.2.1,y43.2.2.2.1,(),(),(),y43.2.2.2.2.2.2.2.1,y43.2.2.2.2.2.2.2.2.1,y43.2.2.2.2.2.2.2.2.2.1,y43.2.2.2.2.2.2.2.2.2.2,s.2.2.2.2.2.2.2.2.2.2.2))
 ) (fun y44=>
 some (.inr (.inl (y44.1,y44.2.1,y44.2.2.1,y44.2.2.2.1,y44.2.2.2.2.1,(),(),(),y44.2.2.2.2.2.2.2.2.1,y44.2.2.2.2.2.2.2.2.2.1,y44.2.2.2.2.2.2.2.2.2.2.1,y44.2.2.2.2.2.2.2.2.2.2.2,s.2.2.2.2.2.2.2.2.2.2.2)))
 ) z
 else
 (F96 uu () ([101,110,117,109]:List UInt8) y40.2).bind fun y45=>
 let x46:=y45.1
 bif !x46 then
 (F96 uu () ([111,112,101,110]:List UInt8) y45.2).bind fun y47=>
 bif (bif x46 then true else y47.1) then
 (F98 uu () s.2.2.2.2.2.2.2.2.2.2.2.1 y47.2).bind fun z=>sumE (fun y49=>
 some (.inl ((),a30,a31,(),y49.1,y49.2.1,y49.2.2.1,y49.2.2.2.1,(),(),(),y49.2.2.2.2.2.2.2.1,y49.2.2.2.2.2.2.2.2.1,y49.2.2.2.2.2.2.2.2.2.1,y49.2.2.2.2.2.2.2.2.2.2,s.2.2.2.2.2.2.2.2.2.2.2))
 ) (fun y50=>
 some (.inr (.inl (y50.1,y50.2.1,y50.2.2.1,y50.2.2.2.1,y50.2.2.2.2.1,(),(),(),y50.2.2.2.2.2.2.2.2.1,y50.2.2.2.2.2.2.2.2.2.1,y50.2.2.2.2.2.2.2.2.2.2.1,y50.2.2.2.2.2.2.2.2.2.2.2,s.2.2.2.2.2.2.2.2.2.2.2)))
 ) z
 else
 (F91 uu () ([114,101,115,101,114,118,101,100]:List UInt8) y47.2).bind fun y51=>
 bif y51.1 then
 (F117 uu () y51.2).bind fun y53=>
 bif (y53.1==(3:Int)) then
 (F207 uu () y53.2).bind fun z=>sumE (fun y55=>
 bif decide (s.2.2.2.2.2.2.2.2.2.2.2.2.2.2.1.length+y55.1.length<=aal) then
 some (.inl ((),a30,a31,(),y55.2.1,y55.2.2.1,y55.2.2.2.1,y55.2.2.2.2.1,(),(),(),y55.2.2.2.2.2.2.2.2.1,y55.2.2.2.2.2.2.2.2.2.1,y55.2.2.2.2.2.2.2.2.2.2.1,y55.2.2.2.2.2.2.2.2.2.2.2,s.2.2.2.2.2.2.2.2.2.2.2.1,s.2.2.2.2.2.2.2.2.2.2.2.2.1,s.2.2.2.2.2.2.2.2.2.2.2.2.2.1,(s.2.2.2.2.2.2.2.2.2.2.2.2.2.2.1++y55.1),s.2.2.2.2.2.2.2.2.2.2.2.2.2.2.2))
 else none
 ) (fun y56=>
 some (.inr (.inl (y56.1,y56.2.1,y56.2.2.1,y56.2.2.2.1,y56.2.2.2.2.1,(),(),(),y56.2.2.2.2.2.2.2.2.1,y56.2.2.2.2.2.2.2.2.2.1,y56.2.2.2.2.2.2.2.2.2.2.1,y56.2.2.2.2.2.2.2.2.2.2.2,s.2.2.2.2.2.2.2.2.2.2.2)))
 ) z
 else
 (F208 uu () (65535:Int) y53.2).bind fun z=>sumE (fun y58=>
 bif decide (s.2.2.2.2.2.2.2.2.2.2.2.2.2.1.length+y58.1.length<=aal) then
 some (.inl ((),a30,a31,(),y58.2.1,y58.2.2.1,y58.2.2.2.1,y58.2.2.2.2.1,(),(),(),y58.2.2.2.2.2.2.2.2.1,y58.2.2.2.2.2.2.2.2.2.1,y58.2.2.2.2.2.2.2.2.2.2.1,y58.2.2.2.2.2.2.2.2.2.2.2,s.2.2.2.2.2.2.2.2.2.2.2.1,s.2.2.2.2.2.2.2.2.2.2.2.2.1,(s.2.2.2.2.2.2.2.2.2.2.2.2.2.1++y58.1),s.2.2.2.2.2.2.2.2.2.2.2.2.2.2))
 else none
 ) (fun y59=>
 some (.inr (.inl (y59.1,y59.2.1,y59.2.2.1,y59.2.2.2.1,y59.2.2.2.2.1,(),(),(),y59.2.2.2.2.2.2.2.2.1,y59.2.2.2.2.2.2.2.2.2.1,y59.2.2.2.2.2.2.2.2.2.2.1,y59.2.2.2.2.2.2.2.2.2.2.2,s.2.2.2.2.2.2.2.2.2.2.2)))
 ) z
 else
 (F55 uu () y51.2).bind fun z=>sumE (fun y61=>
 bif decide (s.2.2.2.2.2.2.2.2.2.2.2.2.1.length+[y61.1].length<=aal) then
 some (.inl ((),a30,a31,(),y61.2.1,y61.2.2.1,y61.2.2.2.1,y61.2.2.2.2.1,(),(),(),y61.2.2.2.2.2.2.2.2.1,y61.2.2.2.2.2.2.2.2.2.1,y61.2.2.2.2.2.2.2.2.2.2.1,y61.2.2.2.2.2.2.2.2.2.2.2,s.2.2.2.2.2.2.2.2.2.2.2.1,(s.2.2.2.2.2.2.2.2.2.2.2.2.1++[y61.1]),s.2.2.2.2.2.2.2.2.2.2.2.2.2))
 else none
 ) (fun y62=>
 some (.inr (.inl (y62.1,y62.2.1,y62.2.2.1,y62.2.2.2.1,y62.2.2.2.2.1,(),(),(),y62.2.2.2.2.2.2.2.2.1,y62.2.2.2.2.2.2.2.2.2.1,y62.2.2.2.2.2.2.2.2.2.2.1,y62.2.2.2.2.2.2.2.2.2.2.2,s.2.2.2.2.2.2.2.2.2.2.2)))
 ) z
 else
 bif (bif x46 then true else false) then
 (F98 uu () s.2.2.2.2.2.2.2.2.2.2.2.1 y45.2).bind fun z=>sumE (fun y65=>
 some (.inl ((),a30,a31,(),y65.1,y65.2.1,y65.2.2.1,y65.2.2.2.1,(),(),(),y65.2.2.2.2.2.2.2.1,y65.2.2.2.2.2.2.2.2.1,y65.2.2.2.2.2.2.2.2.2.1,y65.2.2.2.2.2.2.2.2.2.2,s.2.2.2.2.2.2.2.2.2.2.2))
 ) (fun y66=>
 some (.inr (.inl (y66.1,y66.2.1,y66.2.2.1,y66.2.2.2.1,y66.2.2.2.2.1,(),(),(),y66.2.2.2.2.2.2.2.2.1,y66.2.2.2.2.2.2.2.2.2.1,y66.2.2.2.2.2.2.2.2.2.2.1,y66.2.2.2.2.2.2.2.2.2.2.2,s.2.2.2.2.2.2.2.2.2.2.2)))
 ) z
 else
 (F91 uu () ([114,101,115,101,114,118,101,100]:List UInt8) y45.2).bind fun y67=>
 bif y67.1 then
 (F117 uu () y67.2).bind fun y69=>
 bif (y69.1==(3:Int)) then
 (F207 uu () y69.2).bind fun z=>sumE (fun y71=>
 bif decide (s.2.2.2.2.2.2.2.2.2.2.2.2.2.2.1.length+y71.1.length<=aal) then
 some (.inl ((),a30,a31,(),y71.2.1,y71.2.2.1,y71.2.2.2.1,y71.2.2.2.2.1,(),(),(),y71.2.2.2.2.2.2.2.2.1,y71.2.2.2.2.2.2.2.2.2.1,y71.2.2.2.2.2.2.2.2.2.2.1,y71.2.2.2.2.2.2.2.2.2.2.2,s.2.2.2.2.2.2.2.2.2.2.2.1,s.2.2.2.2.2.2.2.2.2.2.2.2.1,s.2.2.2.2.2.2.2.2.2.2.2.2.2.1,(s.2.2.2.2.2.2.2.2.2.2.2.2.2.2.1++y71.1),s.2.2.2.2.2.2.2.2.2.2.2.2.2.2.2))
 else none
 ) (fun y72=>
 some (.inr (.inl (y72.1,y72.2.1,y72.2.2.1,y72.2.2.2.1,y72.2.2.2.2.1,(),(),(),y72.2.2.2.2.2.2.2.2.1,y72.2.2.2.2.2.2.2.2.2.1,y72.2.2.2.2.2.2.2.2.2.2.1,y72.2.2.2.2.2.2.2.2.2.2.2,s.2.2.2.2.2.2.2.2.2.2.2)))
 ) z
 else
 (F208 uu () (65535:Int) y69.2).bind fun z=>sumE (fun y74=>
 bif decide (s.2.2.2.2.2.2.2.2.2.2.2.2.2.1.length+y74.1.length<=aal) then
 some (.inl ((),a30,a31,(),y74.2.1,y74.2.2.1,y74.2.2.2.1,y74.2.2.2.2.1,(),(),(),y74.2.2.2.2.2.2.2.2.1,y74.2.2.2.2.2.2.2.2.2.1,y74.2.2.2.2.2.2.2.2.2.2.1,y74.2.2.2.2.2.2.2.2.2.2.2,s.2.2.2.2.2.2.2.2.2.2.2.1,s.2.2.2.2.2.2.2.2.2.2.2.2.1,(s.2.2.2.2.2.2.2.2.2.2.2.2.2.1++y74.1),s.2.2.2.2.2.2.2.2.2.2.2.2.2.2))
 else none
 ) (fun y75=>
 some (.inr (.inl (y75.1,y75.2.1,y75.2.2.1,y75.2.2.2.1,y75.2.2.2.2.1,(),(),(),y75.2.2.2.2.2.2.2.2.1,y75.2.2.2.2.2.2.2.2.2.1,y75.2.2.2.2.2.2.2.2.2.2.1,y75.2.2.2.2.2.2.2.2.2.2.2,s.2.2.2.2.2.2.2.2.2.2.2)))
 ) z
 else
 (F55 uu () y67.2).bind fun z=>sumE (fun y77=>
 bif decide (s.2.2.2.2.2.2.2.2.2.2.2.2.1.length+[y77.1].length<=aal) then
 some (.inl ((),a30,a31,(),y77.2.1,y77.2.2.1,y77.2.2.2.1,y77.2.2.2.2.1,(),(),(),y77.2.2.2.2.2.2.2.2.1,y77.2.2.2.2.2.2.2.2.2.1,y77.2.2.2.2.2.2.2.2.2.2.1,y77.2.2.2.2.2.2.2.2.2.2.2,s.2.2.2.2.2.2.2.2.2.2.2.1,(s.2.2.2.2.2.2.2.2.2.2.2.2.1++[y77.1]),s.2.2.2.2.2.2.2.2.2.2.2.2.2))
 else none
 ) (fun y78=>
 some (.inr (.inl (y78.1,y78.2.1,y78.2.2.1,y78.2.2.2.1,y78.2.2.2.2.1,(),(),(),y78.2.2.2.2.2.2.2.2.1,y78.2.2.2.2.2.2.2.2.2.1,y78.2.2.2.2.2.2.2.2.2.2.1,y78.2.2.2.2.2.2.2.2.2.2.2,s.2.2.2.2.2.2.2.2.2.2.2)))
 ) z
 else
 some (.inr (.inr ((),a31,(),y33.2.1,y33.2.2.1,y33.2.2.2.1,y33.2.2.2.2.1,(),(),(),y33.2.2.2.2.2.2.2.2.1,y33.2.2.2.2.2.2.2.2.2.1,y33.2.2.2.2.2.2.2.2.2.2.1,y33.2.2.2.2.2.2.2.2.2.2.2,s.2.2.2.2.2.2.2.2.2.2.2)))
def B97_9step (uu:Nat) (r0:(Unit×(List UInt8)×Int×Q0)->Option ((Q0)⊕(PV×Q0))) (x:B97_9x):Option (B97_9x⊕B97_9y):=B97_9 uu r0 x.1 x.2.1 x.2.2.1 x.2.2.2.1 x.2.2.2.2
def B97 (uu:Nat) (r0:(Unit×(List UInt8)×Int×Q0)->Option ((Q0)⊕(PV×Q0))) (a0:Unit) (a1:List UInt8) (a2:Int) (s:Q0):Option ((Q0)⊕(PV×Q0)):=
 bif (decide (a2≥(16:Int))) then
 some (.inr ((PV.agg [(PV.int s.2.1),(PV.int (17:Int))]),s))
 else
 (F94 uu () ([109,101,115,115,97,103,101]:List UInt8) s).bind fun z=>sumE (fun y2=>
 (F204 uu () a1 y2).bind fun z=>sumE (fun y5=>
 let x7:=y5.1
 bif decide (y5.2.2.2.2.2.2.2.2.2.2.1.length+[(PV.agg [(PV.str x7),(PV.slice []),(PV.slice []),(PV.slice []),(PV.slice [])])].length<=aal) then
 let x8:=y5.2.2.2.2.2.2.2.2.2.2.1++[(PV.agg [(PV.str x7),(PV.slice []),(PV.slice []),(PV.slice []),(PV.slice [])])]
 (F205 uu () (y5.2.1,y5.2.2.1,y5.2.2.2.1,y5.2.2.2.2.1,(),(),(),y5.2.2.2.2.2.2.2.2.1,y5.2.2.2.2.2.2.2.2.2.1,x8,y5.2.2.2.2.2.2.2.2.2.2.2)).bind fun z=>sumE (fun y9=>
 (F94 uu () ([123]:List UInt8) y9.2).bind fun z=>sumE (fun y11=>
 (abj uu (B97_9step uu r0) ((),a2,(y2.2.2.2.2.2.2.2.2.2.1.length:Int),(),y11.1,y11.2.1,y11.2.2.1,y11.2.2.2.1,(),(),(),y11.2.2.2.2.2.2.2.1,y11.2.2.2.2.2.2.2.2.1,y11.2.2.2.2.2.2.2.2.2.1,y11.2.2.2.2.2.2.2.2.2.2,x7,[],[],[],y9.1)).bind fun z=>sumE (fun y80=>
 some (.inr (y80.1,y80.2.1,y80.2.2.1,y80.2.2.2.1,y80.2.2.2.2.1,(),(),(),y80.2.2.2.2.2.2.2.2.1,y80.2.2.2.2.2.2.2.2.2.1,y80.2.2.2.2.2.2.2.2.2.2.1,y80.2.2.2.2.2.2.2.2.2.2.2.1))
 ) (fun y81=>
 let x82:=y81.2.1
 bif aaa x82 y81.2.2.2.2.2.2.2.2.2.2.2.2.1.length then
 let x88:=y81.2.2.2.2.2.2.2.2.2.2.2.2.1.set x82.toNat (PV.agg [(PV.str y81.2.2.2.2.2.2.2.2.2.2.2.2.2.2.1),(PV.slice y81.2.2.2.2.2.2.2.2.2.2.2.2.2.2.2.1),(PV.slice y81.2.2.2.2.2.2.2.2.2.2.2.2.2.2.2.2.1),(PV.slice y81.2.2.2.2.2.2.2.2.2.2.2.2.2.2.2.2.2.1),(PV.slice y81.2.2.2.2.2.2.2.2.2.2.2.2.2.2.2.2.2.2)])
 some (.inl (y81.2.2.2.1,y81.2.2.2.2.1,y81.2.2.2.2.2.1,y81.2.2.2.2.2.2.1,(),(),(),y81.2.2.2.2.2.2.2.2.2.2.1,y81.2.2.2.2.2.2.2.2.2.2.2.1,x88,y81.2.2.2.2.2.2.2.2.2.2.2.2.2.1))
 else none
 ) z
 ) (fun y12=>
 some (.inr y12)
 ) z
 ) (fun y10=>
 some (.inr y10)
 ) z
 else none
 ) (fun y6=>
 some (.inr y6)
 ) z
 ) (fun y3=>
 some (.inr y3)
 ) z
def B97_9l (uu:Nat) (r0:(Unit×(List UInt8)×Int×Q0)->Option ((Q0)⊕(PV×Q0))):LoopE:=⟨9,⟨[0,2,6,7],bx7,(.con (.ref 0 [] 82))::(.int .i64)::(.int .i64)::(.con (.ref 5 [] 63))::sv20⟩,[(.pan,⟨[0],bx7,(.ifc 84)::sv20⟩),(.exit 0,⟨[0,6,7],bx7,(.con (.ref 0 [] 82))::(.int .i64)::(.con (.ref 5 [] 63))::sv20⟩)],B97_9step uu r0⟩
def B97C (uu:Nat) (r0:(Unit×(List UInt8)×Int×Q0)->Option ((Q0)⊕(PV×Q0))):Cfg:=cfg Tryz.prog 106 5 [F91c uu,F96c uu,F117c uu] [B97_9l uu r0] uu [F118p uu,F94p uu,F204p uu,F205p uu,F206p uu,B97p r0,F98p uu,F207p uu,F208p uu,F55p uu]
theorem B97k (uu:Nat) (r0:(Unit×(List UInt8)×Int×Q0)->Option ((Q0)⊕(PV×Q0))) (h0:(B97p r0).Ok Tryz.prog):aa8 (B97C uu r0):=aai (qc (F91ok uu)<|qc (F96ok uu)<|qc (F117ok uu)<|q0) (pc (F118ok uu)<|pc (F94ok uu)<|pc (F204ok uu)<|pc (F205ok uu)<|pc (F206ok uu)<|pc h0<|pc (F98ok uu)<|pc (F207ok uu)<|pc (F208ok uu)<|pc (F55ok uu)<|p0)
theorem B97_9ok (uu:Nat) (r0:(Unit×(List UInt8)×Int×Q0)->Option ((Q0)⊕(PV×Q0))) (h0:(B97p r0).Ok Tryz.prog):aas (B97C uu r0) (lp (abb Tryz.f97) 0):=okL (B97k uu r0 h0) uu (B97_9l uu r0) L0
theorem B97ok (uu:Nat) (r0:(Unit×(List UInt8)×Int×Q0)->Option ((Q0)⊕(PV×Q0))) (h0:(B97p r0).Ok Tryz.prog):(B97p (fun x=>B97 uu r0 x.1 x.2.1 x.2.2.1 x.2.2.2)).Ok Tryz.prog:=okPE Tryz.f97 (B97k uu r0 h0) (L1 (B97_9ok uu r0 h0))
def G97 (uu:Nat):Nat->((Unit×(List UInt8)×Int×Q0)->Option ((Q0)⊕(PV×Q0)))
 | 0=>fun _=>none
 | d+1=>fun x=>B97 uu (G97 uu d) x.1 x.2.1 x.2.2.1 x.2.2.2
theorem G97ok (uu:Nat):∀ d,(B97p (G97 uu d)).Ok Tryz.prog
 | 0=>a8n
 | d+1=>B97ok uu (G97 uu d) (G97ok uu d)
def F97 (uu:Nat) (a0:Unit) (a1:List UInt8) (a2:Int) (s:Q0):Option ((Q0)⊕(PV×Q0)):=limQ uu (fun d=>(G97 uu d)) (a0,a1,a2,s)
def F97p (uu:Nat):CallP:=⟨97,⟨3,bx1,(.con (.ref 0 [] 82))::.str::sv9⟩,⟨0,bx6,sv19⟩,⟨1,bx6,(.ifc 84)::sv19⟩,fun x=>F97 uu x.1 x.2.1 x.2.2.1 x.2.2.2,([],0,[],[],(),(),(),[],[],[],[])⟩
theorem F97ok (uu:Nat):(F97p uu).Ok Tryz.prog:=ban (F97p uu) (G:=(fun d=>(G97 uu d))) (fun x=>rfl) (fun d=>(G97ok uu d))
def F289 (uu:Nat) (a0:Unit) (s:Q0):Option ((Bool×(List UInt8)×Q0)⊕(PV×Q0)):=
 (F94 uu () ([40]:List UInt8) s).bind fun z=>sumE (fun y1=>
 (F91 uu () ([115,116,114,101,97,109]:List UInt8) y1).bind fun y3=>
 (F115 uu () y3.2).bind fun z=>sumE (fun y5=>
 (F94 uu () ([41]:List UInt8) y5.2).bind fun z=>sumE (fun y8=>
 some (.inl (y3.1,y5.1,y8))
 ) (fun y9=>
 some (.inr y9)
 ) z
 ) (fun y6=>
 some (.inr y6)
 ) z
 ) (fun y2=>
 some (.inr y2)
 ) z
def F289p (uu:Nat):CallP:=⟨289,⟨1,bx1,sv8⟩,⟨2,bx1,.bool::sv6⟩,⟨1,bx1,sv12⟩,fun x=>F289 uu x.1 x.2,(false,[],[],0,[],[],(),(),(),[],[],[],[])⟩
theorem F289ok (uu:Nat):(F289p uu).Ok Tryz.prog:=okPJ Tryz.f289 16 5 uu _ _ false (qc (F91ok uu)<|q0) (pc (F94ok uu)<|pc (F115ok uu)<|p0) L0
def F210 (uu:Nat) (a0:Unit) (s:Q0):Option ((PV×Q0)⊕(PV×Q0)):=
 (F94 uu () ([114,112,99]:List UInt8) s).bind fun z=>sumE (fun y1=>
 (F132 uu () y1).bind fun z=>sumE (fun y3=>
 let x5:=y3.1
 (F289 uu () y3.2).bind fun z=>sumE (fun y6=>
 let x8:=y6.1
 let x9:=y6.2.1
 (F94 uu () ([114,101,116,117,114,110,115]:List UInt8) y6.2.2).bind fun z=>sumE (fun y10=>
 (F289 uu () y10).bind fun z=>sumE (fun y12=>
 let x14:=y12.1
 let x15:=y12.2.1
 bif (bif x8 then x14 else false) then
 (F205 uu () y12.2.2).bind fun z=>sumE (fun y17=>
 (F94 uu () ([59]:List UInt8) y17.2).bind fun z=>sumE (fun y19=>
 some (.inl ((PV.agg [(PV.str x5),(PV.str x9),(PV.str x15),(PV.int (4:Int)),(PV.slice y17.1)]),y19))
 ) (fun y20=>
 some (.inr y20)
 ) z
 ) (fun y18=>
 some (.inr y18)
 ) z
 else
 bif x8 then
 (F205 uu () y12.2.2).bind fun z=>sumE (fun y22=>
 (F94 uu () ([59]:List UInt8) y22.2).bind fun z=>sumE (fun y24=>
 some (.inl ((PV.agg [(PV.str x5),(PV.str x9),(PV.str x15),(PV.int (3:Int)),(PV.slice y22.1)]),y24))
 ) (fun y25=>
 some (.inr y25)
 ) z
 ) (fun y23=>
 some (.inr y23)
 ) z
 else
 bif x14 then
 (F205 uu () y12.2.2).bind fun z=>sumE (fun y27=>
 (F94 uu () ([59]:List UInt8) y27.2).bind fun z=>sumE (fun y29=>
 some (.inl ((PV.agg [(PV.str x5),(PV.str x9),(PV.str x15),(PV.int (2:Int)),(PV.slice y27.1)]),y29))
 ) (fun y30=>
 some (.inr y30)
 ) z
 ) (fun y28=>
 some (.inr y28)
 ) z
 else
 (F205 uu () y12.2.2).bind fun z=>sumE (fun y32=>
 (F94 uu () ([59]:List UInt8) y32.2).bind fun z=>sumE (fun y34=>
 some (.inl ((PV.agg [(PV.str x5),(PV.str x9),(PV.str x15),(PV.int (1:Int)),(PV.slice y32.1)]),y34))
 ) (fun y35=>
 some (.inr y35)
 ) z
 ) (fun y33=>
 some (.inr y33)
 ) z
 ) (fun y13=>
 some (.inr y13)
 ) z
 ) (fun y11=>
 some (.inr y11)
 ) z
 ) (fun y7=>
 some (.inr y7)
 ) z
 ) (fun y4=>
 some (.inr y4)
 ) z
 ) (fun y2=>
 some (.inr y2)
 ) z
def F210p (uu:Nat):CallP:=⟨210,⟨1,bx1,sv8⟩,⟨1,bx1,(.data 188)::sv11⟩,⟨1,bx1,sv12⟩,fun x=>F210 uu x.1 x.2,(PV.bad,[],0,[],[],(),(),(),[],[],[],[])⟩
theorem F210ok (uu:Nat):(F210p uu).Ok Tryz.prog:=okPJ Tryz.f210 43 5 uu [] _ false (q0) (pc (F94ok uu)<|pc (F132ok uu)<|pc (F289ok uu)<|pc (F205ok uu)<|p0) L0
abbrev S99_5x:=Unit×Unit×(List PV)×Int×(List UInt8)×(List UInt8)×Unit×Unit×Unit×(List PV)×(List PV)×(List PV)×(List PV)×(List UInt8)×(List PV)×(List PV)
abbrev S99_5y:=(PV×(List PV)×Int×(List UInt8)×(List UInt8)×Unit×Unit×Unit×(List PV)×(List PV)×(List PV)×(List PV)×(List UInt8)×(List PV)×(List PV))⊕(Unit×Unit×(List PV)×Int×(List UInt8)×(List UInt8)×Unit×Unit×Unit×(List PV)×(List PV)×(List PV)×(List PV)×(List UInt8)×(List PV)×(List PV))
def S99_5 (uu:Nat) (a10:Unit) (a11:Unit) (s:(List PV)×Int×(List UInt8)×(List UInt8)×Unit×Unit×Unit×(List PV)×(List PV)×(List PV)×(List PV)×(List UInt8)×(List PV)×(List PV)):Option (S99_5x⊕S99_5y):=
 (F91 uu () ([125]:List UInt8) (s.1,s.2.1,s.2.2.1,s.2.2.2.1,(),(),(),s.2.2.2.2.2.2.2.1,s.2.2.2.2.2.2.2.2.1,s.2.2.2.2.2.2.2.2.2.1,s.2.2.2.2.2.2.2.2.2.2.1)).bind fun y12=>
 bif (!y12.1) then
 (F210 uu () y12.2).bind fun z=>sumE (fun y14=>
 bif decide (s.2.2.2.2.2.2.2.2.2.2.2.2.1.length+[y14.1].length<=aal) then
 some (.inl ((),(),y14.2.1,y14.2.2.1,y14.2.2.2.1,y14.2.2.2.2.1,(),(),(),y14.2.2.2.2.2.2.2.2.1,y14.2.2.2.2.2.2.2.2.2.1,y14.2.2.2.2.2.2.2.2.2.2.1,y14.2.2.2.2.2.2.2.2.2.2.2,s.2.2.2.2.2.2.2.2.2.2.2.1,(s.2.2.2.2.2.2.2.2.2.2.2.2.1++[y14.1]),s.2.2.2.2.2.2.2.2.2.2.2.2.2))
 else none
 ) (fun y15=>
 some (.inr (.inl (y15.1,y15.2.1,y15.2.2.1,y15.2.2.2.1,y15.2.2.2.2.1,(),(),(),y15.2.2.2.2.2.2.2.2.1,y15.2.2.2.2.2.2.2.2.2.1,y15.2.2.2.2.2.2.2.2.2.2.1,y15.2.2.2.2.2.2.2.2.2.2.2,s.2.2.2.2.2.2.2.2.2.2.2)))
 ) z
 else
 some (.inr (.inr ((),(),y12.2.1,y12.2.2.1,y12.2.2.2.1,y12.2.2.2.2.1,(),(),(),y12.2.2.2.2.2.2.2.2.1,y12.2.2.2.2.2.2.2.2.2.1,y12.2.2.2.2.2.2.2.2.2.2.1,y12.2.2.2.2.2.2.2.2.2.2.2,s.2.2.2.2.2.2.2.2.2.2.2)))
def S99_5step (uu:Nat) (x:S99_5x):Option (S99_5x⊕S99_5y):=S99_5 uu x.1 x.2.1 x.2.2
def F99 (uu:Nat) (a0:Unit) (s:Q0):Option ((Q0)⊕(PV×Q0)):=
 (F94 uu () ([115,101,114,118,105,99,101]:List UInt8) s).bind fun z=>sumE (fun y1=>
 (F204 uu () ([]:List UInt8) y1).bind fun z=>sumE (fun y3=>
 (F205 uu () y3.2).bind fun z=>sumE (fun y6=>
 (F94 uu () ([123]:List UInt8) y6.2).bind fun z=>sumE (fun y8=>
 (abj uu (S99_5step uu) ((),(),y8.1,y8.2.1,y8.2.2.1,y8.2.2.2.1,(),(),(),y8.2.2.2.2.2.2.2.1,y8.2.2.2.2.2.2.2.2.1,y8.2.2.2.2.2.2.2.2.2.1,y8.2.2.2.2.2.2.2.2.2.2,y3.1,[],y6.1)).bind fun z=>sumE (fun y17=>
 some (.inr (y17.1,y17.2.1,y17.2.2.1,y17.2.2.2.1,y17.2.2.2.2.1,(),(),(),y17.2.2.2.2.2.2.2.2.1,y17.2.2.2.2.2.2.2.2.2.1,y17.2.2.2.2.2.2.2.2.2.2.1,y17.2.2.2.2.2.2.2.2.2.2.2.1))
 ) (fun y18=>
 let x19:=y18.2.2.2.2.2.2.2.2.2.1
 let x20:=y18.2.2.2.2.2.2.2.2.2.2.2.2.2.1
 let x21:=y18.2.2.2.2.2.2.2.2.2.2.2.2.2.2.1
 let x22:=y18.2.2.2.2.2.2.2.2.2.2.2.2.2.2.2
 bif decide (x19.length+[(PV.agg [(PV.str x20),(PV.slice x21),(PV.slice x22)])].length<=aal) then
 let x23:=x19++[(PV.agg [(PV.str x20),(PV.slice x21),(PV.slice x22)])]
 some (.inl (y18.2.2.1,y18.2.2.2.1,y18.2.2.2.2.1,y18.2.2.2.2.2.1,(),(),(),x23,y18.2.2.2.2.2.2.2.2.2.2.1,y18.2.2.2.2.2.2.2.2.2.2.2.1,y18.2.2.2.2.2.2.2.2.2.2.2.2.1))
 else none
 ) z
 ) (fun y9=>
 some (.inr y9)
 ) z
 ) (fun y7=>
 some (.inr y7)
 ) z
 ) (fun y4=>
 some (.inr y4)
 ) z
 ) (fun y2=>
 some (.inr y2)
 ) z
def S99_5l (uu:Nat):LoopE:=⟨5,⟨[0,2],bx8,(.con (.ref 0 [] 82))::(.con (.ref 5 [] 130))::sv21⟩,[(.pan,⟨[0],bx8,(.ifc 84)::sv21⟩),(.exit 0,⟨[0,2],bx8,(.con (.ref 0 [] 82))::(.con (.ref 5 [] 130))::sv21⟩)],S99_5step uu⟩
def F99C (uu:Nat):Cfg:=cfg Tryz.prog 35 5 [F91c uu] [S99_5l uu] uu [F94p uu,F204p uu,F205p uu,F210p uu]
def F99p (uu:Nat):CallP:=⟨99,⟨1,bx1,sv8⟩,⟨0,bx1,sv11⟩,⟨1,bx1,sv12⟩,fun x=>F99 uu x.1 x.2,([],0,[],[],(),(),(),[],[],[],[])⟩
theorem F99k (uu:Nat):aa8 (F99C uu):=aai (qc (F91ok uu)<|q0) (pc (F94ok uu)<|pc (F204ok uu)<|pc (F205ok uu)<|pc (F210ok uu)<|p0)
theorem S99_5ok (uu:Nat):aas (F99C uu) (lp (abb Tryz.f99) 0):=okL (F99k uu) uu (S99_5l uu) L0
theorem F99ok (uu:Nat):(F99p uu).Ok Tryz.prog:=okPE Tryz.f99 (F99k uu) (L1 (S99_5ok uu))
def S44_4 (uu:Nat) (a13:Unit) (s:Q0):Option ((Unit×Q0)⊕((PV×Q0)⊕(Unit×Q0))):=
 (F91 uu () ([105,109,112,111,114,116]:List UInt8) s).bind fun y14=>
 bif y14.1 then
 (F95 uu () y14.2).bind fun z=>sumE (fun y15=>
 bif decide (y15.2.2.2.2.2.2.2.2.2.1.length+[(PV.str y15.1)].length<=aal) then
 (F94 uu () ([59]:List UInt8) (y15.2.1,y15.2.2.1,y15.2.2.2.1,y15.2.2.2.2.1,(),(),(),y15.2.2.2.2.2.2.2.2.1,(y15.2.2.2.2.2.2.2.2.2.1++[(PV.str y15.1)]),y15.2.2.2.2.2.2.2.2.2.2)).bind fun z=>sumE (fun y18=>
 some (.inl ((),y18))
 ) (fun y19=>
 some (.inr (.inl y19))
 ) z
 else none
 ) (fun y16=>
 some (.inr (.inl y16))
 ) z
 else
 some (.inr (.inr ((),y14.2)))
def S44_4step (uu:Nat) (x:Unit×Q0):Option ((Unit×Q0)⊕((PV×Q0)⊕(Unit×Q0))):=S44_4 uu x.1 x.2
def S44_7 (uu:Nat) (a36:Unit) (s:Q0):Option ((Unit×Q0)⊕((PV×Q0)⊕(Q0))):=
 bif (decide (s.2.1<(s.1.length:Int))) then
 (F96 uu () ([109,101,115,115,97,103,101]:List UInt8) s).bind fun y39=>
 bif y39.1 then
 (F97 uu () ([]:List UInt8) (0:Int) y39.2).bind fun z=>sumE (fun y41=>
 some (.inl ((),y41))
 ) (fun y42=>
 some (.inr (.inl y42))
 ) z
 else
 (F96 uu () ([101,110,117,109]:List UInt8) y39.2).bind fun y43=>
 let x44:=y43.1
 bif !x44 then
 (F96 uu () ([111,112,101,110]:List UInt8) y43.2).bind fun y45=>
 bif (bif x44 then true else y45.1) then
 (F98 uu () ([]:List UInt8) y45.2).bind fun z=>sumE (fun y47=>
 some (.inl ((),y47))
 ) (fun y48=>
 some (.inr (.inl y48))
 ) z
 else
 (F99 uu () y45.2).bind fun z=>sumE (fun y49=>
 some (.inl ((),y49))
 ) (fun y50=>
 some (.inr (.inl y50))
 ) z
 else
 bif (bif x44 then true else false) then
 (F98 uu () ([]:List UInt8) y43.2).bind fun z=>sumE (fun y52=>
 some (.inl ((),y52))
 ) (fun y53=>
 some (.inr (.inl y53))
 ) z
 else
 (F99 uu () y43.2).bind fun z=>sumE (fun y54=>
 some (.inl ((),y54))
 ) (fun y55=>
 some (.inr (.inl y55))
 ) z
 else
 some (.inr (.inr s))
def S44_7step (uu:Nat) (x:Unit×Q0):Option ((Unit×Q0)⊕((PV×Q0)⊕(Q0))):=S44_7 uu x.1 x.2
def F44 (uu:Nat) (a0:Unit) (s:Q0):Option ((Q0)⊕(PV×Q0)):=
 (F91 uu () ([115,112,97,99,101]:List UInt8) s).bind fun y1=>
 bif y1.1 then
 (F92 uu () (1:Int) () y1.2).bind fun z=>sumE (fun y2=>
 (F94 uu () ([59]:List UInt8) (y2.2.1,y2.2.2.1,y2.2.2.2.1,y2.1,(),(),(),y2.2.2.2.2.2.2.2.2)).bind fun z=>sumE (fun y4=>
 (abj uu (S44_4step uu) ((),y4)).bind fun z=>sumE (fun y20=>
 some (.inr y20)
 ) (fun y21=>
 (abj uu (S44_7step uu) ((),y21.2)).bind fun z=>sumE (fun y56=>
 some (.inr y56)
 ) (fun y57=>
 some (.inl y57)
 ) z
 ) z
 ) (fun y5=>
 some (.inr y5)
 ) z
 ) (fun y3=>
 some (.inr y3)
 ) z
 else
 (abj uu (S44_4step uu) ((),y1.2)).bind fun z=>sumE (fun y58=>
 some (.inr y58)
 ) (fun y59=>
 (abj uu (S44_7step uu) ((),y59.2)).bind fun z=>sumE (fun y60=>
 some (.inr y60)
 ) (fun y61=>
 some (.inl y61)
 ) z
 ) z
def S44_4l (uu:Nat):LoopE:=⟨4,⟨[0],bx9,(.con (.ref 0 [] 82))::sv22⟩,[(.pan,⟨[0],bx9,(.ifc 84)::sv22⟩),(.exit 0,⟨[0],bx9,(.con (.ref 0 [] 82))::sv22⟩)],S44_4step uu⟩
def S44_7l (uu:Nat):LoopE:=⟨7,⟨[0],bx10,(.con (.ref 0 [] 82))::sv23⟩,[(.pan,⟨[0],bx10,(.ifc 84)::sv23⟩),(.exit 2,⟨[],bx10,sv23⟩)],S44_7step uu⟩
def F44C (uu:Nat):Cfg:=cfg Tryz.prog 55 5 [F91c uu,F96c uu] [S44_4l uu,S44_7l uu] uu [F92p uu,F94p uu,F95p uu,F97p uu,F98p uu,F99p uu]
def F44p (uu:Nat):CallP:=⟨44,⟨1,bx1,sv8⟩,⟨0,bx10,sv23⟩,⟨1,bx10,(.ifc 84)::sv23⟩,fun x=>F44 uu x.1 x.2,([],0,[],[],(),(),(),[],[],[],[])⟩
theorem F44k (uu:Nat):aa8 (F44C uu):=aai (qc (F91ok uu)<|qc (F96ok uu)<|q0) (pc (F92ok uu)<|pc (F94ok uu)<|pc (F95ok uu)<|pc (F97ok uu)<|pc (F98ok uu)<|pc (F99ok uu)<|p0)
theorem S44_4ok (uu:Nat):aas (F44C uu) (lp (abb Tryz.f44) 0):=okL (F44k uu) uu (S44_4l uu) L0
theorem S44_7ok (uu:Nat):aas (F44C uu) (lp (abb Tryz.f44) 1):=okL (F44k uu) uu (S44_7l uu) L0
theorem F44ok (uu:Nat):(F44p uu).Ok Tryz.prog:=okPE Tryz.f44 (F44k uu) (L2 (S44_4ok uu) (S44_7ok uu))
def F43 (uu:Nat) (a0:Unit) (s:Q0):Option (PV×Q0):=(F44 uu () s).bind fun z=>sumE (fun y=>some ((PV.agg [(PV.int (0:Int)),(PV.int (0:Int))]),y)) (fun y=>some y) z
def F43c (uu:Nat):CallE:=⟨43,⟨1,bx1,(.con (.fn 44 1 [(.ref 0 [] 82)]))::sv11⟩,⟨1,bx10,(.data 84)::sv23⟩,fun x=>F43 uu x.1 x.2,(PV.bad,[],0,[],[],(),(),(),[],[],[],[])⟩
theorem F43ok (uu:Nat):(F43c uu).Ok Tryz.prog:=by
 intro x y h
 have h:F43 uu x.1 x.2=some y:=h
 unfold F43 at h
 obtain ⟨z,h1,h2⟩:=Option.bind_eq_some_iff.1 h
 cases z with
 | inl z=>
  have hm:=(F44ok uu ((),x.2.1,x.2.2.1,x.2.2.2.1,x.2.2.2.2.1,x.2.2.2.2.2.1,x.2.2.2.2.2.2.1,x.2.2.2.2.2.2.2.1,x.2.2.2.2.2.2.2.2.1,x.2.2.2.2.2.2.2.2.2.1,x.2.2.2.2.2.2.2.2.2.2.1,x.2.2.2.2.2.2.2.2.2.2.2)).1 z h1
  cases h2
  exact akr hm
 | inr z=>
  have hm:=(F44ok uu ((),x.2.1,x.2.2.1,x.2.2.2.1,x.2.2.2.2.1,x.2.2.2.2.2.1,x.2.2.2.2.2.2.1,x.2.2.2.2.2.2.2.1,x.2.2.2.2.2.2.2.2.1,x.2.2.2.2.2.2.2.2.2.1,x.2.2.2.2.2.2.2.2.2.2.1,x.2.2.2.2.2.2.2.2.2.2.2)).2 z h1
  cases h2
  exact akn hm
def F15 (uu:Nat) (a0:List UInt8) (a1:List UInt8):Option (PV×Int×Int):=
 (F28 uu a1).bind fun y1=>
 let x2:=y1.1
 let x4:=y1.2.2
 bif (x4 != (0:Int)) then
 some ((PV.agg [(PV.str ([]:List UInt8)),(PV.str ([]:List UInt8)),(PV.slice []),(PV.slice []),(PV.slice []),(PV.slice [])]),y1.2.1,x4)
 else
 (F43 uu () (x2,(0:Int),a0,([]:List UInt8),(),(),(),[],[],[],[])).bind fun y6=>
 bif (((y6.1.fld 1).asInt) != (0:Int)) then
 let x9:=(y6.1.fld 0).asInt
 let x11:=IntKind.wrap .i64 ((x2.length:Int)-(1:Int))
 let x12:=if x11<x9 then x11 else x9
 bif aaa x12 x2.length then
 some ((PV.agg [(PV.str ([]:List UInt8)),(PV.str ([]:List UInt8)),(PV.slice []),(PV.slice []),(PV.slice []),(PV.slice [])]),((x2.getD x12.toNat .bad).fld 3).asInt,((y6.1.fld 1).asInt))
 else none
 else
 some ((PV.agg [(PV.str y6.2.2.2.1),(PV.str y6.2.2.2.2.1),(PV.slice y6.2.2.2.2.2.2.2.2.2.1),(PV.slice y6.2.2.2.2.2.2.2.2.2.2.1),(PV.slice y6.2.2.2.2.2.2.2.2.2.2.2),(PV.slice y6.2.2.2.2.2.2.2.2.1)]),(0:Int),(0:Int))
def F15c (uu:Nat):CallE:=⟨15,⟨2,[],[.str,.str]⟩,⟨3,[],(.data 28)::sv2⟩,fun x=>F15 uu x.1 x.2,(PV.bad,0,0)⟩
theorem F15ok (uu:Nat):(F15c uu).Ok Tryz.prog:=okJ Tryz.f15 51 0 uu _ [] false (qc (F28ok uu)<|qc (F43ok uu)<|q0) (p0) L0
def F51 (uu:Nat) (a0:Unit) (a1:Unit) (s:Q3):Option ((Q3)⊕(PV×Q3)):=
 (F52 uu () (s.1,s.2.1,s.2.2.1,s.2.2.2.1,(),(),(),s.2.2.2.2.2.2.2.1,s.2.2.2.2.2.2.2.2.2)).bind fun z=>sumE (fun y1=>
 some (.inl (y1.2.1,y1.2.2.1,y1.2.2.2.1,y1.2.2.2.2.1,(),(),(),y1.2.2.2.2.2.2.2.2.1,y1.1,y1.2.2.2.2.2.2.2.2.2))
 ) (fun y2=>
 some (.inr (y2.1,y2.2.1,y2.2.2.1,y2.2.2.2.1,y2.2.2.2.2.1,(),(),(),y2.2.2.2.2.2.2.2.2.1,s.2.2.2.2.2.2.2.2.1,y2.2.2.2.2.2.2.2.2.2))
 ) z
def F51p (uu:Nat):CallP:=⟨51,⟨2,bx11,(.con (.ref 0 [] 82))::(.con (.ref 1 [] 40))::sv24⟩,⟨0,bx11,sv24⟩,⟨1,bx11,(.ifc 84)::sv24⟩,fun x=>F51 uu x.1 x.2.1 x.2.2,([],0,[],[],(),(),(),[],PV.bad,[],[],[])⟩
theorem F51ok (uu:Nat):(F51p uu).Ok Tryz.prog:=okPJ Tryz.f51 5 6 uu [] _ false (q0) (pc (F52ok uu)<|p0) L0
def F114 (uu:Nat) (a0:Unit) (a1:Unit) (s:Q2):Option ((Q2)⊕(PV×Q2)):=
 (F51 uu () () (s.2.2.2.1,s.2.2.2.2.1,s.2.2.2.2.2.1,s.2.2.2.2.2.2.1,(),(),(),s.2.2.2.2.2.2.2.2.2.2.1,s.2.2.1,s.2.2.2.2.2.2.2.2.2.2.2)).bind fun z=>sumE (fun y1=>
 some (.inl ((),(),y1.2.2.2.2.2.2.2.2.1,y1.1,y1.2.1,y1.2.2.1,y1.2.2.2.1,(),(),(),y1.2.2.2.2.2.2.2.1,y1.2.2.2.2.2.2.2.2.2))
 ) (fun y2=>
 some (.inr (y2.1,(),(),y2.2.2.2.2.2.2.2.2.2.1,y2.2.1,y2.2.2.1,y2.2.2.2.1,y2.2.2.2.2.1,(),(),(),y2.2.2.2.2.2.2.2.2.1,y2.2.2.2.2.2.2.2.2.2.2))
 ) z
def F114p (uu:Nat):CallP:=⟨114,⟨2,bx12,(.con (.ref 0 [] 97))::(.con (.ref 1 [] 80))::sv25⟩,⟨0,bx12,sv25⟩,⟨1,bx12,(.ifc 84)::sv25⟩,fun x=>F114 uu x.1 x.2.1 x.2.2,((),(),PV.bad,[],0,[],[],(),(),(),[],[],[],[])⟩
theorem F114ok (uu:Nat):(F114p uu).Ok Tryz.prog:=okPJ Tryz.f114 5 8 uu [] _ false (q0) (pc (F51ok uu)<|p0) L0
def F43_v1 (uu:Nat) (a0:Unit) (s:Q2):Option (PV×Q2):=(F114 uu () () s).bind fun z=>sumE (fun y=>some ((PV.agg [(PV.int (0:Int)),(PV.int (0:Int))]),y)) (fun y=>some y) z
def F43_v1c (uu:Nat):CallE:=⟨43,⟨1,bx12,(.con (.fn 114 0 [(.ref 0 [] 97),(.ref 1 [] 80)]))::sv25⟩,⟨1,bx12,(.data 84)::sv25⟩,fun x=>F43_v1 uu x.1 x.2,(PV.bad,(),(),PV.bad,[],0,[],[],(),(),(),[],[],[],[])⟩
theorem F43_v1ok (uu:Nat):(F43_v1c uu).Ok Tryz.prog:=by
 intro x y h
 have h:F43_v1 uu x.1 x.2=some y:=h
 unfold F43_v1 at h
 obtain ⟨z,h1,h2⟩:=Option.bind_eq_some_iff.1 h
 cases z with
 | inl z=>
  have hm:=(F114ok uu ((),(),x.2.1,x.2.2.1,x.2.2.2.1,x.2.2.2.2.1,x.2.2.2.2.2.1,x.2.2.2.2.2.2.1,x.2.2.2.2.2.2.2.1,x.2.2.2.2.2.2.2.2.1,x.2.2.2.2.2.2.2.2.2.1,x.2.2.2.2.2.2.2.2.2.2.1,x.2.2.2.2.2.2.2.2.2.2.2.1,x.2.2.2.2.2.2.2.2.2.2.2.2.1,x.2.2.2.2.2.2.2.2.2.2.2.2.2.1,x.2.2.2.2.2.2.2.2.2.2.2.2.2.2)).1 z h1
  cases h2
  exact akr hm
 | inr z=>
  have hm:=(F114ok uu ((),(),x.2.1,x.2.2.1,x.2.2.2.1,x.2.2.2.2.1,x.2.2.2.2.2.1,x.2.2.2.2.2.2.1,x.2.2.2.2.2.2.2.1,x.2.2.2.2.2.2.2.2.1,x.2.2.2.2.2.2.2.2.2.1,x.2.2.2.2.2.2.2.2.2.2.1,x.2.2.2.2.2.2.2.2.2.2.2.1,x.2.2.2.2.2.2.2.2.2.2.2.2.1,x.2.2.2.2.2.2.2.2.2.2.2.2.2.1,x.2.2.2.2.2.2.2.2.2.2.2.2.2.2)).2 z h1
  cases h2
  exact akn hm
def F50 (uu:Nat) (a0:List PV) (a1:Int) (a2:Unit) (a3:PV):Option (Int×Int×PV):=
 bif (bif (decide (a1<(0:Int))) then true else (decide (a1>(a0.length:Int)))) then
 some ((0:Int),(1:Int),a3)
 else
 (F43_v1 uu () ((),(),a3,a0,a1,([]:List UInt8),([]:List UInt8),(),(),(),[],[],[],[])).bind fun y5=>
 bif (((y5.1.fld 1).asInt) != (0:Int)) then
 some (((y5.1.fld 0).asInt),((y5.1.fld 1).asInt),y5.2.2.2.1)
 else
 some (y5.2.2.2.2.2.1,(0:Int),y5.2.2.2.1)
def F50c (uu:Nat):CallE:=⟨50,⟨3,[.box 40 .leaf],[(.slice 72),(.int .i64),(.con (.fn 51 0 [(.ref 0 [] 40)])),(.data 40)]⟩,⟨2,[.box 40 .leaf],[(.int .i64),(.int .i64),(.data 40)]⟩,fun x=>F50 uu x.1 x.2.1 x.2.2.1 x.2.2.2,(0,0,PV.bad)⟩
theorem F50ok (uu:Nat):(F50c uu).Ok Tryz.prog:=okJ Tryz.f50 35 1 uu _ [] false (qc (F43_v1ok uu)<|q0) (p0) L0
def F23 (uu:Nat) (a0:List PV) (a1:Int):Option (PV×Int×Int):=
 (F50 uu a0 a1 () (PV.agg [(PV.int (0:Int)),(PV.str ([]:List UInt8))])).bind fun y1=>
 some (y1.2.2,y1.1,y1.2.1)
def F23c (uu:Nat):CallE:=⟨23,⟨2,[],sv15⟩,⟨3,[],(.data 40)::sv2⟩,fun x=>F23 uu x.1 x.2,(PV.bad,0,0)⟩
theorem F23ok (uu:Nat):(F23c uu).Ok Tryz.prog:=okJ Tryz.f23 20 0 uu _ [] false (qc (F50ok uu)<|q0) (p0) L0
def F20 (uu:Nat) (a0:Int):Option ((List UInt8)):=
 bif (bif (decide (a0<(1:Int))) then true else (decide (a0>(8:Int)))) then
 some ([]:List UInt8)
 else
 (F49 uu).bind fun y4=>
 let x5:=IntKind.wrap .i64 (a0-(1:Int))
 bif aaa x5 8 then
 some ((y4.fld x5.toNat).asStr)
 else none
def F20c (uu:Nat):CallE:=⟨20,⟨1,[],[(.int .i64)]⟩,⟨1,[],[.str]⟩,fun x=>F20 uu x,[]⟩
theorem F20ok (uu:Nat):(F20c uu).Ok Tryz.prog:=okJ Tryz.f20 13 0 uu _ [] false (qc (F49ok uu)<|q0) (p0) L0
def F14 (uu:Nat) :Option (Bool):=
 (F15 uu ([120]:List UInt8) ([115,112,97,99,101,32,97,59,32,109,101,115,115,97,103,101,32,77,32,123,32,112,108,97,105,110,32,117,51,50,32,110,32,61,32,49,59,32,109,101,115,115,97,103,101,32,78,32,123,32,125,32,125]:List UInt8)).bind fun y1=>
 let x2:=y1.1
 (F15 uu ([120]:List UInt8) ([10,109,101,115,115,97,103,101,32,114,112,99,32,123,32,125]:List UInt8)).bind fun y5=>
 let x21:=bif (bif (bif (bif (y1.2.2 != (0:Int)) then true else (y1.2.1 != (0:Int))) then true else (!(((x2.fld 0).asStr)==([120]:List UInt8)))) then true else (!(((x2.fld 1).asStr)==([97]:List UInt8)))) then true else ((((x2.fld 3).asList).length:Int) != (2:Int))
 let x22:=(x2.fld 3).asList
 bif imp (!x21) (aaa (0:Int) x22.length) then
 let x28:=bif x21 then true else ((((x22.getD (0:Int).toNat .bad).fld 1).asList.length:Int) != (1:Int))
 let x29:=(x2.fld 3).asList
 bif imp (!x28) (aaa (1:Int) x29.length) then
 bif (bif x28 then true else (!(((x29.getD (1:Int).toNat .bad).fld 0).asStr==([77,46,78]:List UInt8)))) then
 some false
 else
 let x35:=(x2.fld 3).asList
 bif aaa (0:Int) x35.length then
 let x38:=((x35.getD (0:Int).toNat .bad).fld 1).asList
 bif aaa (0:Int) x38.length then
 let x39:=x38.getD (0:Int).toNat .bad
 (F23 uu [(PV.agg [(PV.int (1:Int)),(PV.str ([98,111,111,108]:List UInt8)),(PV.int (0:Int)),(PV.int (0:Int))])] (0:Int)).bind fun y40=>
 let x41:=y40.1
 let x68:=bif (bif (bif (bif (bif (bif (bif (bif (bif (y5.2.1==(2:Int)) then (y5.2.2==(8:Int)) else false) then (((x39.fld 0).asInt)==(1:Int)) else false) then (((x39.fld 1).asStr)==([110]:List UInt8)) else false) then (((x39.fld 2).asInt)==(3:Int)) else false) then ((((x39.fld 4).fld 0).asInt)==(4:Int)) else false) then (((x41.fld 0).asInt)==(1:Int)) else false) then (((x41.fld 1).asStr)==([]:List UInt8)) else false) then (y40.2.1==(1:Int)) else false) then (y40.2.2==(0:Int)) else false
 (bif x68 then F18 uu ([105,54,52]:List UInt8) else some 0).bind fun y69=>
 let x71:=bif x68 then (y69==(3:Int)) else false
 (bif x71 then F20 uu (7:Int) else some []).bind fun y72=>
 some (bif x71 then (y72==([116,101,120,116]:List UInt8)) else false)
 else none
 else none
 else none
 else none
def F14c (uu:Nat):CallE:=⟨14,⟨0,[],[]⟩,⟨1,[],[.bool]⟩,fun x=>F14 uu ,false⟩
theorem F14ok (uu:Nat):(F14c uu).Ok Tryz.prog:=okJ Tryz.f14 127 0 uu _ [] false (qc (F15ok uu)<|qc (F23ok uu)<|qc (F18ok uu)<|qc (F20ok uu)<|q0) (p0) L0
theorem awake09_run:F14 1000=some true:=a6c (by kernel_rfl)
def ad8 (uu:Nat):Option Bool:=some true
def asz (uu:Nat):CallE:={ f:=14,A:=⟨0,[],[]⟩,R:=⟨1,[],[.bool]⟩,F:=fun x=>ad8 uu,dflt:=false }
theorem avf (uu:Nat):(F14c uu).F=fun _=>F14 uu:=rfl
theorem ay9 (uu:Nat):(asz uu).Ok Tryz.prog:=fun x y h=>F14ok 1000 () y ((congrFun (avf 1000) ()).trans (awake09_run.trans h))
def F21 (uu:Nat) (a0:Int):Option ((List UInt8)):=
 bif (a0==(1:Int)) then
 some ([98,111,111,108]:List UInt8)
 else
 bif (a0==(2:Int)) then
 some ([105,51,50]:List UInt8)
 else
 bif (a0==(3:Int)) then
 some ([105,54,52]:List UInt8)
 else
 bif (a0==(4:Int)) then
 some ([117,51,50]:List UInt8)
 else
 bif (a0==(5:Int)) then
 some ([117,54,52]:List UInt8)
 else
 bif (a0==(6:Int)) then
 some ([100,111,117,98,108,101]:List UInt8)
 else
 bif (a0==(7:Int)) then
 some ([116,101,120,116]:List UInt8)
 else
 bif (a0==(8:Int)) then
 some ([98,121,116,101,115]:List UInt8)
 else
 some ([]:List UInt8)
def S19_3 (uu:Nat) (a1:List UInt8) (a2:Int):Option (((List UInt8)×Int)⊕((Int)⊕(Unit))):=
 bif (decide (a2<=(8:Int))) then
 (F21 uu a2).bind fun y4=>
 bif (y4==a1) then
 some (.inr (.inl a2))
 else
 some (.inl (a1,(IntKind.wrap .i64 (a2+(1:Int)))))
 else
 some (.inr (.inr ()))
def S19_3step (uu:Nat) (x:(List UInt8)×Int):Option (((List UInt8)×Int)⊕((Int)⊕(Unit))):=S19_3 uu x.1 x.2
def F19 (uu:Nat) (a0:List UInt8):Option (Int):=
 (abj uu (S19_3step uu) (a0,(1:Int))).bind fun z=>sumE (fun y7=>
 some y7
 ) (fun y8=>
 some (0:Int)
 ) z
def S22_5 (uu:Nat) (a3:List PV) (a4:Int):Option (((List PV)×Int)⊕((Bool)⊕(Unit))):=
 bif (decide (a4<(a3.length:Int))) then
 bif aaa a4 a3.length then
 bif (decide ((((a3.getD a4.toNat .bad).fld 1).asStr.length:Int)>(300:Int))) then
 some (.inr (.inl false))
 else
 some (.inl (a3,(IntKind.wrap .i64 (a4+(1:Int)))))
 else none
 else
 some (.inr (.inr ()))
def S22_5step (uu:Nat) (x:(List PV)×Int):Option (((List PV)×Int)⊕((Bool)⊕(Unit))):=S22_5 uu x.1 x.2
def F22 (uu:Nat) (a0:List PV):Option (Bool):=
 bif (decide ((a0.length:Int)>(80:Int))) then
 some false
 else
 (abj uu (S22_5step uu) (a0,(0:Int))).bind fun z=>sumE (fun y13=>
 some y13
 ) (fun y14=>
 some true
 ) z
def S22_5l (uu:Nat):LoopE:=⟨5,⟨[0,3],[],sv15⟩,[(.ret,⟨[2],[],[.bool]⟩),(.exit 0,⟨[],[],[]⟩)],S22_5step uu⟩
def F22C (uu:Nat):Cfg:=cfg Tryz.prog 20 0 [] [S22_5l uu] uu
def F22c (uu:Nat):CallE:=⟨22,⟨1,[],[(.slice 72)]⟩,⟨1,[],[.bool]⟩,fun x=>F22 uu x,false⟩
theorem F22k (uu:Nat):aa8 (F22C uu):=aai (q0) (p0)
theorem S22_5ok (uu:Nat):aas (F22C uu) (lp (abb Tryz.f22) 0):=okL (F22k uu) uu (S22_5l uu) L0
theorem F22ok (uu:Nat):(F22c uu).Ok Tryz.prog:=okE Tryz.f22 (F22k uu) (L1 (S22_5ok uu))
def F105 (uu:Nat) (a0:Unit) (a1:Int) (s:Q4):Option (Bool×Q4):=
 let x4:=bif (s.2.2.1==(0:Int)) then (decide (s.2.1<(s.1.length:Int))) else false
 bif imp x4 (aaa s.2.1 s.1.length) then
 some ((bif x4 then (((s.1.getD s.2.1.toNat .bad).fld 0).asInt==a1) else false),s)
 else none
def F294 (uu:Nat) (a0:List UInt8):Option (Bool):=
 bif (a0==([109,101,115,115,97,103,101]:List UInt8)) then
 some true
 else
 bif (a0==([101,110,117,109]:List UInt8)) then
 some true
 else
 bif (a0==([115,101,114,118,105,99,101]:List UInt8)) then
 some true
 else
 bif (a0==([117,110,105,111,110]:List UInt8)) then
 some true
 else
 bif (a0==([109,97,112]:List UInt8)) then
 some true
 else
 bif (a0==([108,105,115,116]:List UInt8)) then
 some true
 else
 let x7:=a0==([114,101,113,117,105,114,101,100]:List UInt8)
 bif x7 then
 some true
 else
 let x8:=a0==([111,112,116,105,111,110,97,108]:List UInt8)
 bif x8 then
 some true
 else
 bif (a0==([112,108,97,105,110]:List UInt8)) then
 some true
 else
 bif (a0==([100,101,102,97,117,108,116]:List UInt8)) then
 some true
 else
 let x11:=a0==([114,101,115,101,114,118,101,100]:List UInt8)
 bif x11 then
 some true
 else
 bif (a0==([105,109,112,111,114,116]:List UInt8)) then
 some true
 else
 bif (a0==([115,112,97,99,101]:List UInt8)) then
 some true
 else
 bif (a0==([114,112,99]:List UInt8)) then
 some true
 else
 bif (a0==([115,116,114,101,97,109]:List UInt8)) then
 some true
 else
 bif (a0==([114,101,116,117,114,110,115]:List UInt8)) then
 some true
 else
 bif (a0==([111,112,101,110]:List UInt8)) then
 some true
 else
 bif (a0==([116,114,117,101]:List UInt8)) then
 some true
 else
 bif (a0==([102,97,108,115,101]:List UInt8)) then
 some true
 else
 bif (a0==([110,97,110]:List UInt8)) then
 some true
 else
 bif (a0==([105,110,102]:List UInt8)) then
 some true
 else
 some false
def F107 (uu:Nat) (a0:Unit) (a1:Int) (a2:List UInt8) (s:Q4):Option (Bool×Q4):=
 (F105 uu () a1 s).bind fun y1=>
 let x2:=y1.1
 let x3:=y1.2.1
 let x4:=y1.2.2.1
 bif imp x2 (aaa x4 x3.length) then
 some ((bif x2 then (((x3.getD x4.toNat .bad).fld 1).asStr==a2) else false),y1.2)
 else none
def F256 (uu:Nat) (a0:Int):Option (Bool):=
 some (bif (decide (a0≥(1:Int))) then (decide (a0<=(9:Int))) else false)
def F340 (uu:Nat) (a0:Int):Option (Int):=
 bif (bif (decide (a0≥(48:Int))) then (decide (a0<=(57:Int))) else false) then
 some (IntKind.wrap .i64 (IntKind.wrap .u8 (a0-(48:Int))))
 else
 bif (bif (decide (a0≥(97:Int))) then (decide (a0<=(102:Int))) else false) then
 some (IntKind.wrap .i64 ((IntKind.wrap .i64 (IntKind.wrap .u8 (a0-(97:Int))))+(10:Int)))
 else
 some (-1:Int)
abbrev S364_6x:=(List UInt8)×(List UInt8)×Int
abbrev S364_6y:=((List UInt8)×Int)⊕((List UInt8))
def S364_6 (uu:Nat) (a4:List UInt8) (a5:List UInt8) (a6:Int):Option (S364_6x⊕S364_6y):=
 bif (decide (a6<(a4.length:Int))) then
 bif aaa a6 a4.length then
 (F340 uu ((a4.getD a6.toNat 0).toNat:Int)).bind fun y10=>
 let x11:=decide (y10<(0:Int))
 let x12:=IntKind.wrap .i64 (a6+(1:Int))
 bif imp (!x11) (aaa x12 a4.length) then
 (bif !x11 then F340 uu ((a4.getD x12.toNat 0).toNat:Int) else some 0).bind fun y14=>
 bif (bif x11 then true else (decide (y14<(0:Int)))) then
 some (.inr (.inl (([]:List UInt8),(2:Int))))
 else
 bif aaa a6 a4.length then
 (F340 uu ((a4.getD a6.toNat 0).toNat:Int)).bind fun y18=>
 let x20:=IntKind.wrap .i64 (a6+(1:Int))
 bif aaa x20 a4.length then
 (F340 uu ((a4.getD x20.toNat 0).toNat:Int)).bind fun y22=>
 let x24:=IntKind.wrap .u8 (IntKind.wrap .i64 ((IntKind.wrap .i64 ((16:Int)*y18))+y22))
 bif decide (a5.length+([(PV.int x24)].map aan).length<=aa2) then
 some (.inl (a4,(a5++([(PV.int x24)].map aan)),(IntKind.wrap .i64 (a6+(2:Int)))))
 else none
 else none
 else none
 else none
 else none
 else
 some (.inr (.inr a5))
def S364_6step (uu:Nat) (x:S364_6x):Option (S364_6x⊕S364_6y):=S364_6 uu x.1 x.2.1 x.2.2
def F364 (uu:Nat) (a0:List UInt8):Option ((List UInt8)×Int):=
 bif (((a0.length:Int).tmod (2:Int)) != (0:Int)) then
 some (([]:List UInt8),(2:Int))
 else
 (abj uu (S364_6step uu) (a0,([]:List UInt8),(0:Int))).bind fun z=>sumE (fun y27=>
 some (y27.1,y27.2)
 ) (fun y28=>
 some (y28,(0:Int))
 ) z
def F155 (uu:Nat) (a0:Int):Option (Int):=
 let x1:=a0.tmod (9223372036854775808:Int)
 bif (decide (x1>(9218868437227405312:Int))) then
 some (0:Int)
 else
 bif (x1==(9218868437227405312:Int)) then
 some (1:Int)
 else
 bif (x1==(0:Int)) then
 some (2:Int)
 else
 bif (decide (x1<(4503599627370496:Int))) then
 some (3:Int)
 else
 some (4:Int)
abbrev S316_16x:=Unit×(List UInt8)×Unit×Int×PV×PV
abbrev S316_16y:=(Unit×Unit×PV×PV)
def S316_16 (uu:Nat) (a14:Unit) (a15:List UInt8) (a16:Unit) (a17:Int) (a18:PV) (a19:PV):Option (S316_16x⊕S316_16y):=
 bif (decide (a17<(a15.length:Int))) then
 bif aaa a17 a15.length then
 some (.inl ((),a15,(),(IntKind.wrap .i64 (a17+(1:Int))),a18,(PV.agg [(PV.int ((a19.fld 0).asInt)),(PV.int (IntKind.wrap .u64 ((IntKind.wrap .u64 ((256:Int)*((a19.fld 1).asInt)))+(IntKind.wrap .u64 ((a15.getD a17.toNat 0).toNat:Int))))),(PV.str ((a19.fld 2).asStr)),(PV.slice ((a19.fld 3).asList)),(PV.slice ((a19.fld 4).asList)),(PV.slice ((a19.fld 5).asList)),(PV.slice ((a19.fld 6).asList))])))
 else none
 else
 some (.inr ((),(),a18,a19))
def S316_16step (uu:Nat) (x:S316_16x):Option (S316_16x⊕S316_16y):=S316_16 uu x.1 x.2.1 x.2.2.1 x.2.2.2.1 x.2.2.2.2.1 x.2.2.2.2.2
def F316 (uu:Nat) (a0:List UInt8):Option (PV×Int):=
 bif (a0==([110,97,110]:List UInt8)) then
 some ((PV.agg [(PV.int (6:Int)),(PV.int (9221120237041090560:Int)),(PV.str ([]:List UInt8)),(PV.slice []),(PV.slice []),(PV.slice []),(PV.slice [])]),(0:Int))
 else
 bif (a0==([105,110,102]:List UInt8)) then
 some ((PV.agg [(PV.int (6:Int)),(PV.int (9218868437227405312:Int)),(PV.str ([]:List UInt8)),(PV.slice []),(PV.slice []),(PV.slice []),(PV.slice [])]),(0:Int))
 else
 bif (a0==([45,105,110,102]:List UInt8)) then
 some ((PV.agg [(PV.int (6:Int)),(PV.int (18442240474082181120:Int)),(PV.str ([]:List UInt8)),(PV.slice []),(PV.slice []),(PV.slice []),(PV.slice [])]),(0:Int))
 else
 let x5:=(a0.length:Int) != (18:Int)
 bif imp (!x5) (decide (0<=(0:Int)/\(0:Int)<=(2:Int)/\(2:Int)<=(a0.length:Int))) then
 bif (bif x5 then true else (!(((a0.take (2:Int).toNat).drop (0:Int).toNat)==([48,120]:List UInt8)))) then
 some ((PV.agg [(PV.int (0:Int)),(PV.int (0:Int)),(PV.str ([]:List UInt8)),(PV.slice []),(PV.slice []),(PV.slice []),(PV.slice [])]),(2:Int))
 else
 bif decide (0<=(2:Int)/\(2:Int)<=(a0.length:Int)/\(a0.length:Int)<=(a0.length:Int)) then
 (F364 uu ((a0.take (a0.length:Int).toNat).drop (2:Int).toNat)).bind fun y10=>
 bif (y10.2 != (0:Int)) then
 some ((PV.agg [(PV.int (0:Int)),(PV.int (0:Int)),(PV.str ([]:List UInt8)),(PV.slice []),(PV.slice []),(PV.slice []),(PV.slice [])]),(2:Int))
 else
 (abj uu (S316_16step uu) ((),y10.1,(),(0:Int),(PV.agg [(PV.int (0:Int)),(PV.int (0:Int)),(PV.str ([]:List UInt8)),(PV.slice []),(PV.slice []),(PV.slice []),(PV.slice [])]),(PV.agg [(PV.int (6:Int)),(PV.int (0:Int)),(PV.str ([]:List UInt8)),(PV.slice []),(PV.slice []),(PV.slice []),(PV.slice [])]))).bind fun y28=>
 (F155 uu ((y28.2.2.2.fld 1).asInt)).bind fun y30=>
 bif (decide (y30<=(1:Int))) then
 some ((PV.agg [(PV.int (0:Int)),(PV.int (0:Int)),(PV.str ([]:List UInt8)),(PV.slice []),(PV.slice []),(PV.slice []),(PV.slice [])]),(2:Int))
 else
 some (y28.2.2.2,(0:Int))
 else none
 else none
def F320 (uu:Nat) (a0:List UInt8) (a1:Int) (a2:Int) (a3:Int):Option (Bool):=
 let x2:=decide (a1<(a0.length:Int))
 bif imp x2 (aaa a1 a0.length) then
 let x5:=bif x2 then (decide (((a0.getD a1.toNat 0).toNat:Int)≥a2)) else false
 bif imp x5 (aaa a1 a0.length) then
 some (bif x5 then (decide (((a0.getD a1.toNat 0).toNat:Int)<=a3)) else false)
 else none
 else none
abbrev S319_3x:=(List UInt8)×Int×Int×Int
abbrev S319_3y:=(Bool)⊕(Unit)
def S319_3 (uu:Nat) (a1:List UInt8) (a2:Int) (a3:Int) (a4:Int):Option (S319_3x⊕S319_3y):=
 bif (decide (a4<a3)) then
 (F320 uu a1 (IntKind.wrap .i64 (a2+a4)) (128:Int) (191:Int)).bind fun y7=>
 bif (!y7) then
 some (.inr (.inl false))
 else
 some (.inl (a1,a2,a3,(IntKind.wrap .i64 (a4+(1:Int)))))
 else
 some (.inr (.inr ()))
def S319_3step (uu:Nat) (x:S319_3x):Option (S319_3x⊕S319_3y):=S319_3 uu x.1 x.2.1 x.2.2.1 x.2.2.2
def F319 (uu:Nat) (a0:List UInt8) (a1:Int) (a2:Int):Option (Bool):=
 (abj uu (S319_3step uu) (a0,a1,a2,(0:Int))).bind fun z=>sumE (fun y10=>
 some y10
 ) (fun y11=>
 some true
 ) z
def F243 (uu:Nat) (a0:List UInt8) (a1:Int):Option (Int):=
 bif aaa a1 a0.length then
 let x1:=((a0.getD a1.toNat 0).toNat:Int)
 bif (decide (x1<(128:Int))) then
 some (1:Int)
 else
 let x5:=bif (decide (x1≥(194:Int))) then (decide (x1<=(223:Int))) else false
 (bif x5 then F319 uu a0 (IntKind.wrap .i64 (a1+(1:Int))) (1:Int) else some false).bind fun y7=>
 bif (bif x5 then y7 else false) then
 some (2:Int)
 else
 let x9:=x1==(224:Int)
 (bif x9 then F320 uu a0 (IntKind.wrap .i64 (a1+(1:Int))) (160:Int) (191:Int) else some false).bind fun y11=>
 let x12:=bif x9 then y11 else false
 (bif x12 then F319 uu a0 (IntKind.wrap .i64 (a1+(2:Int))) (1:Int) else some false).bind fun y14=>
 bif (bif x12 then y14 else false) then
 some (3:Int)
 else
 let x16:=x1==(237:Int)
 (bif x16 then F320 uu a0 (IntKind.wrap .i64 (a1+(1:Int))) (128:Int) (159:Int) else some false).bind fun y18=>
 let x19:=bif x16 then y18 else false
 (bif x19 then F319 uu a0 (IntKind.wrap .i64 (a1+(2:Int))) (1:Int) else some false).bind fun y21=>
 bif (bif x19 then y21 else false) then
 some (3:Int)
 else
 let x27:=bif (bif (decide (x1≥(225:Int))) then (decide (x1<=(239:Int))) else false) then (x1 != (237:Int)) else false
 (bif x27 then F319 uu a0 (IntKind.wrap .i64 (a1+(1:Int))) (2:Int) else some false).bind fun y29=>
 bif (bif x27 then y29 else false) then
 some (3:Int)
 else
 let x31:=x1==(240:Int)
 (bif x31 then F320 uu a0 (IntKind.wrap .i64 (a1+(1:Int))) (144:Int) (191:Int) else some false).bind fun y33=>
 let x34:=bif x31 then y33 else false
 (bif x34 then F319 uu a0 (IntKind.wrap .i64 (a1+(2:Int))) (2:Int) else some false).bind fun y36=>
 bif (bif x34 then y36 else false) then
 some (4:Int)
 else
 let x40:=bif (decide (x1≥(241:Int))) then (decide (x1<=(243:Int))) else false
 (bif x40 then F319 uu a0 (IntKind.wrap .i64 (a1+(1:Int))) (3:Int) else some false).bind fun y42=>
 bif (bif x40 then y42 else false) then
 some (4:Int)
 else
 let x44:=x1==(244:Int)
 (bif x44 then F320 uu a0 (IntKind.wrap .i64 (a1+(1:Int))) (128:Int) (143:Int) else some false).bind fun y46=>
 let x47:=bif x44 then y46 else false
 (bif x47 then F319 uu a0 (IntKind.wrap .i64 (a1+(2:Int))) (2:Int) else some false).bind fun y49=>
 bif (bif x47 then y49 else false) then
 some (4:Int)
 else
 some (0:Int)
 else none
def F244 (uu:Nat) (a0:Int):Option ((List UInt8)):=
 let x1:=IntKind.wrap .u8 (a0.tdiv (16:Int))
 let x3:=IntKind.wrap .u8 ((IntKind.wrap .u8 (a0.tdiv (16:Int)))+(1:Int))
 bif decide (0<=x1/\x1<=x3/\x3<=(([48,49,50,51,52,53,54,55,56,57,97,98,99,100,101,102]:List UInt8).length:Int)) then
 let x4:=(([48,49,50,51,52,53,54,55,56,57,97,98,99,100,101,102]:List UInt8).take x3.toNat).drop x1.toNat
 let x5:=a0.tmod (16:Int)
 let x7:=IntKind.wrap .u8 ((a0.tmod (16:Int))+(1:Int))
 bif decide (0<=x5/\x5<=x7/\x7<=(([48,49,50,51,52,53,54,55,56,57,97,98,99,100,101,102]:List UInt8).length:Int)) then
 let x8:=(([48,49,50,51,52,53,54,55,56,57,97,98,99,100,101,102]:List UInt8).take x7.toNat).drop x5.toNat
 bif decide (x4.length+x8.length<=aa2) then
 some (x4++x8)
 else none
 else none
 else none
abbrev S139_4x:=(List UInt8)×(List UInt8)×Int
abbrev S139_4y:=((List UInt8))
def S139_4 (uu:Nat) (a1:List UInt8) (a2:List UInt8) (a3:Int):Option (S139_4x⊕S139_4y):=
 bif (decide (a3<(a1.length:Int))) then
 (F243 uu a1 a3).bind fun y6=>
 bif aaa a3 a1.length then
 let x7:=((a1.getD a3.toNat 0).toNat:Int)
 bif (x7==(34:Int)) then
 bif decide (a2.length+([92,34]:List UInt8).length<=aa2) then
 let x9:=a2++([92,34]:List UInt8)
 bif (y6==(0:Int)) then
 some (.inl (a1,x9,(IntKind.wrap .i64 (a3+(1:Int)))))
 else
 some (.inl (a1,x9,(IntKind.wrap .i64 (a3+y6))))
 else none
 else
 bif (x7==(92:Int)) then
 bif decide (a2.length+([92,92]:List UInt8).length<=aa2) then
 let x14:=a2++([92,92]:List UInt8)
 bif (y6==(0:Int)) then
 some (.inl (a1,x14,(IntKind.wrap .i64 (a3+(1:Int)))))
 else
 some (.inl (a1,x14,(IntKind.wrap .i64 (a3+y6))))
 else none
 else
 bif (x7==(10:Int)) then
 bif decide (a2.length+([92,110]:List UInt8).length<=aa2) then
 let x19:=a2++([92,110]:List UInt8)
 bif (y6==(0:Int)) then
 some (.inl (a1,x19,(IntKind.wrap .i64 (a3+(1:Int)))))
 else
 some (.inl (a1,x19,(IntKind.wrap .i64 (a3+y6))))
 else none
 else
 bif (x7==(9:Int)) then
 bif decide (a2.length+([92,116]:List UInt8).length<=aa2) then
 let x24:=a2++([92,116]:List UInt8)
 bif (y6==(0:Int)) then
 some (.inl (a1,x24,(IntKind.wrap .i64 (a3+(1:Int)))))
 else
 some (.inl (a1,x24,(IntKind.wrap .i64 (a3+y6))))
 else none
 else
 bif (x7==(13:Int)) then
 bif decide (a2.length+([92,114]:List UInt8).length<=aa2) then
 let x29:=a2++([92,114]:List UInt8)
 bif (y6==(0:Int)) then
 some (.inl (a1,x29,(IntKind.wrap .i64 (a3+(1:Int)))))
 else
 some (.inl (a1,x29,(IntKind.wrap .i64 (a3+y6))))
 else none
 else
 bif (bif (bif (decide (x7<(32:Int))) then true else (x7==(127:Int))) then true else (y6==(0:Int))) then
 bif decide (a2.length+([92,120]:List UInt8).length<=aa2) then
 let x38:=a2++([92,120]:List UInt8)
 (F244 uu x7).bind fun y39=>
 bif decide (x38.length+y39.length<=aa2) then
 let x40:=x38++y39
 bif (y6==(0:Int)) then
 some (.inl (a1,x40,(IntKind.wrap .i64 (a3+(1:Int)))))
 else
 some (.inl (a1,x40,(IntKind.wrap .i64 (a3+y6))))
 else none
 else none
 else
 let x44:=IntKind.wrap .i64 (a3+y6)
 bif decide (0<=a3/\a3<=x44/\x44<=(a1.length:Int)) then
 let x45:=(a1.take x44.toNat).drop a3.toNat
 bif decide (a2.length+x45.length<=aa2) then
 let x46:=a2++x45
 bif (y6==(0:Int)) then
 some (.inl (a1,x46,(IntKind.wrap .i64 (a3+(1:Int)))))
 else
 some (.inl (a1,x46,(IntKind.wrap .i64 (a3+y6))))
 else none
 else none
 else none
 else
 some (.inr a2)
def S139_4step (uu:Nat) (x:S139_4x):Option (S139_4x⊕S139_4y):=S139_4 uu x.1 x.2.1 x.2.2
def F139 (uu:Nat) (a0:List UInt8):Option ((List UInt8)):=
 (abj uu (S139_4step uu) (a0,([34]:List UInt8),(0:Int))).bind fun y50=>
 bif decide (y50.length+([34]:List UInt8).length<=aa2) then
 some (y50++([34]:List UInt8))
 else none
def F292 (uu:Nat) (a0:List UInt8) (a1:Int):Option (Int×Int):=
 bif (decide ((IntKind.wrap .i64 (a1+(1:Int)))≥(a0.length:Int))) then
 some ((0:Int),(0:Int))
 else
 let x4:=IntKind.wrap .i64 (a1+(1:Int))
 bif aaa x4 a0.length then
 let x5:=((a0.getD x4.toNat 0).toNat:Int)
 bif (x5==(34:Int)) then
 let x7:=IntKind.wrap .i64 (a1+(1:Int))
 bif aaa x7 a0.length then
 some (((a0.getD x7.toNat 0).toNat:Int),(2:Int))
 else none
 else
 bif (x5==(92:Int)) then
 let x10:=IntKind.wrap .i64 (a1+(1:Int))
 bif aaa x10 a0.length then
 some (((a0.getD x10.toNat 0).toNat:Int),(2:Int))
 else none
 else
 bif (x5==(110:Int)) then
 some ((10:Int),(2:Int))
 else
 bif (x5==(116:Int)) then
 some ((9:Int),(2:Int))
 else
 bif (x5==(114:Int)) then
 some ((13:Int),(2:Int))
 else
 let x15:=IntKind.wrap .i64 (a1+(1:Int))
 bif aaa x15 a0.length then
 let x21:=bif (((a0.getD x15.toNat 0).toNat:Int) != (120:Int)) then true else (decide ((IntKind.wrap .i64 (a1+(3:Int)))≥(a0.length:Int)))
 let x22:=IntKind.wrap .i64 (a1+(2:Int))
 bif imp (!x21) (aaa x22 a0.length) then
 (bif !x21 then F340 uu ((a0.getD x22.toNat 0).toNat:Int) else some 0).bind fun y24=>
 let x26:=bif x21 then true else (decide (y24<(0:Int)))
 let x27:=IntKind.wrap .i64 (a1+(3:Int))
 bif imp (!x26) (aaa x27 a0.length) then
 (bif !x26 then F340 uu ((a0.getD x27.toNat 0).toNat:Int) else some 0).bind fun y29=>
 bif (bif x26 then true else (decide (y29<(0:Int)))) then
 some ((0:Int),(0:Int))
 else
 let x32:=IntKind.wrap .i64 (a1+(2:Int))
 bif aaa x32 a0.length then
 (F340 uu ((a0.getD x32.toNat 0).toNat:Int)).bind fun y34=>
 let x36:=IntKind.wrap .i64 (a1+(3:Int))
 bif aaa x36 a0.length then
 (F340 uu ((a0.getD x36.toNat 0).toNat:Int)).bind fun y38=>
 some ((IntKind.wrap .u8 (IntKind.wrap .i64 ((IntKind.wrap .i64 ((16:Int)*y34))+y38))),(4:Int))
 else none
 else none
 else none
 else none
 else none
 else none
abbrev S215_6x:=(List UInt8)×(List UInt8)×Int
abbrev S215_6y:=((List UInt8)×Int×Int)⊕(Unit)
def S215_6 (uu:Nat) (a6:List UInt8) (a7:List UInt8) (a8:Int):Option (S215_6x⊕S215_6y):=
 bif (decide (a8<(a6.length:Int))) then
 bif aaa a8 a6.length then
 bif (((a6.getD a8.toNat 0).toNat:Int)==(34:Int)) then
 (F139 uu a7).bind fun y13=>
 let x14:=IntKind.wrap .i64 (a8+(1:Int))
 bif decide (0<=(0:Int)/\(0:Int)<=x14/\x14<=(a6.length:Int)) then
 bif (!(y13==((a6.take x14.toNat).drop (0:Int).toNat))) then
 some (.inr (.inl (([]:List UInt8),(0:Int),(2:Int))))
 else
 some (.inr (.inl (a7,(IntKind.wrap .i64 (a8+(1:Int))),(0:Int))))
 else none
 else
 bif aaa a8 a6.length then
 bif (((a6.getD a8.toNat 0).toNat:Int) != (92:Int)) then
 let x20:=IntKind.wrap .i64 (a8+(1:Int))
 bif decide (0<=a8/\a8<=x20/\x20<=(a6.length:Int)) then
 let x21:=(a6.take x20.toNat).drop a8.toNat
 bif decide (a7.length+x21.length<=aa2) then
 some (.inl (a6,(a7++x21),(IntKind.wrap .i64 (a8+(1:Int)))))
 else none
 else none
 else
 (F292 uu a6 a8).bind fun y24=>
 let x25:=y24.1
 let x26:=y24.2
 bif (x26==(0:Int)) then
 some (.inr (.inl (([]:List UInt8),(0:Int),(2:Int))))
 else
 bif decide (a7.length+([(PV.int x25)].map aan).length<=aa2) then
 some (.inl (a6,(a7++([(PV.int x25)].map aan)),(IntKind.wrap .i64 (a8+x26))))
 else none
 else none
 else none
 else
 some (.inr (.inr ()))
def S215_6step (uu:Nat) (x:S215_6x):Option (S215_6x⊕S215_6y):=S215_6 uu x.1 x.2.1 x.2.2
def F215 (uu:Nat) (a0:List UInt8):Option ((List UInt8)×Int×Int):=
 let x2:=(a0.length:Int)==(0:Int)
 bif imp (!x2) (aaa (0:Int) a0.length) then
 bif (bif x2 then true else (((a0.getD (0:Int).toNat 0).toNat:Int) != (34:Int))) then
 some (([]:List UInt8),(0:Int),(2:Int))
 else
 (abj uu (S215_6step uu) (a0,([]:List UInt8),(1:Int))).bind fun z=>sumE (fun y30=>
 some (y30.1,y30.2.1,y30.2.2)
 ) (fun y31=>
 some (([]:List UInt8),(0:Int),(2:Int))
 ) z
 else none
def S324_3 (uu:Nat) (a1:List UInt8) (a2:Int):Option (((List UInt8)×Int)⊕((Int)⊕(Unit))):=
 bif (decide (a2<(a1.length:Int))) then
 (F243 uu a1 a2).bind fun y5=>
 bif (y5==(0:Int)) then
 some (.inr (.inl a2))
 else
 some (.inl (a1,(IntKind.wrap .i64 (a2+y5))))
 else
 some (.inr (.inr ()))
def S324_3step (uu:Nat) (x:(List UInt8)×Int):Option (((List UInt8)×Int)⊕((Int)⊕(Unit))):=S324_3 uu x.1 x.2
def F324 (uu:Nat) (a0:List UInt8):Option (Int):=
 (abj uu (S324_3step uu) (a0,(0:Int))).bind fun z=>sumE (fun y8=>
 some y8
 ) (fun y9=>
 some (-1:Int)
 ) z
def F259 (uu:Nat) (a0:List UInt8):Option (Bool):=
 (F324 uu a0).bind fun y1=>
 some (decide (y1<(0:Int)))
def F317 (uu:Nat) (a0:Int) (a1:List UInt8):Option (PV×Int):=
 (F215 uu a1).bind fun y1=>
 let x2:=y1.1
 bif (bif (y1.2.2 != (0:Int)) then true else (y1.2.1 != (a1.length:Int))) then
 some ((PV.agg [(PV.int (0:Int)),(PV.int (0:Int)),(PV.str ([]:List UInt8)),(PV.slice []),(PV.slice []),(PV.slice []),(PV.slice [])]),(2:Int))
 else
 bif (a0==(8:Int)) then
 (F364 uu x2).bind fun y10=>
 let x11:=y10.1
 bif (y10.2 != (0:Int)) then
 some ((PV.agg [(PV.int (0:Int)),(PV.int (0:Int)),(PV.str ([]:List UInt8)),(PV.slice []),(PV.slice []),(PV.slice []),(PV.slice [])]),(2:Int))
 else
 bif (decide ((x11.length:Int)>(4096:Int))) then
 some ((PV.agg [(PV.int (0:Int)),(PV.int (0:Int)),(PV.str ([]:List UInt8)),(PV.slice []),(PV.slice []),(PV.slice []),(PV.slice [])]),(3:Int))
 else
 some ((PV.agg [(PV.int a0),(PV.int (0:Int)),(PV.str x11),(PV.slice []),(PV.slice []),(PV.slice []),(PV.slice [])]),(0:Int))
 else
 (F259 uu x2).bind fun y16=>
 bif (!y16) then
 some ((PV.agg [(PV.int (0:Int)),(PV.int (0:Int)),(PV.str ([]:List UInt8)),(PV.slice []),(PV.slice []),(PV.slice []),(PV.slice [])]),(7:Int))
 else
 bif (decide ((x2.length:Int)>(4096:Int))) then
 some ((PV.agg [(PV.int (0:Int)),(PV.int (0:Int)),(PV.str ([]:List UInt8)),(PV.slice []),(PV.slice []),(PV.slice []),(PV.slice [])]),(3:Int))
 else
 some ((PV.agg [(PV.int a0),(PV.int (0:Int)),(PV.str x2),(PV.slice []),(PV.slice []),(PV.slice []),(PV.slice [])]),(0:Int))
abbrev S365_9x:=(List UInt8)×Bool×Int×Bool×Int
abbrev S365_9y:=(Int×Bool×Int)⊕(Bool×Int×Bool)
def S365_9 (uu:Nat) (a13:List UInt8) (a14:Bool) (a15:Int) (a16:Bool) (a17:Int):Option (S365_9x⊕S365_9y):=
 bif (decide (a17<(a13.length:Int))) then
 bif aaa a17 a13.length then
 let x21:=decide (((a13.getD a17.toNat 0).toNat:Int)<(48:Int))
 bif imp (!x21) (aaa a17 a13.length) then
 bif (bif x21 then true else (decide (((a13.getD a17.toNat 0).toNat:Int)>(57:Int)))) then
 some (.inr (.inl ((0:Int),false,(2:Int))))
 else
 bif aaa a17 a13.length then
 let x27:=IntKind.wrap .u64 (IntKind.wrap .u8 (((a13.getD a17.toNat 0).toNat:Int)-(48:Int)))
 bif (decide (a15>(IntKind.wrap .u64 ((IntKind.wrap .u64 ((18446744073709551615:Int)-x27)).tdiv (10:Int))))) then
 some (.inl (a13,a14,a15,true,(IntKind.wrap .i64 (a17+(1:Int)))))
 else
 bif (!a16) then
 some (.inl (a13,a14,(IntKind.wrap .u64 ((IntKind.wrap .u64 ((10:Int)*a15))+x27)),a16,(IntKind.wrap .i64 (a17+(1:Int)))))
 else
 some (.inl (a13,a14,a15,a16,(IntKind.wrap .i64 (a17+(1:Int)))))
 else none
 else none
 else none
 else
 some (.inr (.inr (a14,a15,a16)))
def S365_9step (uu:Nat) (x:S365_9x):Option (S365_9x⊕S365_9y):=S365_9 uu x.1 x.2.1 x.2.2.1 x.2.2.2.1 x.2.2.2.2
def F365 (uu:Nat) (a0:List UInt8):Option (Int×Bool×Int):=
 let x2:=decide ((a0.length:Int)>(0:Int))
 bif imp x2 (aaa (0:Int) a0.length) then
 bif (bif x2 then (((a0.getD (0:Int).toNat 0).toNat:Int)==(45:Int)) else false) then
 bif decide (0<=(1:Int)/\(1:Int)<=(a0.length:Int)/\(a0.length:Int)<=(a0.length:Int)) then
 let x6:=(a0.take (a0.length:Int).toNat).drop (1:Int).toNat
 let x7:=x6==([]:List UInt8)
 bif imp (!x7) (aaa (0:Int) x6.length) then
 bif (bif x7 then true else (bif (((x6.getD (0:Int).toNat 0).toNat:Int)==(48:Int)) then (!(a0==([48]:List UInt8))) else false)) then
 some ((0:Int),false,(2:Int))
 else
 (abj uu (S365_9step uu) (x6,true,(0:Int),false,(0:Int))).bind fun z=>sumE (fun y37=>
 some (y37.1,y37.2.1,y37.2.2)
 ) (fun y38=>
 bif y38.2.2 then
 some ((0:Int),false,(6:Int))
 else
 some (y38.2.1,y38.1,(0:Int))
 ) z
 else none
 else none
 else
 let x42:=a0==([]:List UInt8)
 bif imp (!x42) (aaa (0:Int) a0.length) then
 bif (bif x42 then true else (bif (((a0.getD (0:Int).toNat 0).toNat:Int)==(48:Int)) then (!(a0==([48]:List UInt8))) else false)) then
 some ((0:Int),false,(2:Int))
 else
 (abj uu (S365_9step uu) (a0,false,(0:Int),false,(0:Int))).bind fun z=>sumE (fun y48=>
 some (y48.1,y48.2.1,y48.2.2)
 ) (fun y49=>
 bif y49.2.2 then
 some ((0:Int),false,(6:Int))
 else
 some (y49.2.1,y49.1,(0:Int))
 ) z
 else none
 else none
def F366 (uu:Nat) (a0:Int):Option (Bool):=
 some (bif (a0==(2:Int)) then true else (a0==(3:Int)))
def F257 (uu:Nat) (a0:PV):Option (Bool):=
 some (bif (bif (bif ((((a0.fld 3).asList).length:Int)==(0:Int)) then ((((a0.fld 4).asList).length:Int)==(0:Int)) else false) then ((((a0.fld 5).asList).length:Int)==(0:Int)) else false) then ((((a0.fld 6).asList).length:Int)==(0:Int)) else false)
def F258 (uu:Nat) (a0:Int):Option (Bool):=
 some (bif (a0==(7:Int)) then true else (a0==(8:Int)))
def F153 (uu:Nat) (a0:Int) (a1:PV):Option (Bool):=
 (F256 uu a0).bind fun y1=>
 let x5:=bif (!y1) then true else (((a1.fld 0).asInt) != a0)
 (bif !x5 then F257 uu a1 else some false).bind fun y6=>
 bif (bif x5 then true else (!y6)) then
 some false
 else
 (F258 uu a0).bind fun y9=>
 bif y9 then
 let x15:=bif (((a1.fld 1).asInt)==(0:Int)) then (decide ((((a1.fld 2).asStr).length:Int)<=(4096:Int))) else false
 let x16:=a0==(8:Int)
 (bif bif !x16 then x15 else false then F259 uu ((a1.fld 2).asStr) else some false).bind fun y18=>
 some (bif x15 then (bif x16 then true else y18) else false)
 else
 bif (!(((a1.fld 2).asStr)==([]:List UInt8))) then
 some false
 else
 bif (a0==(1:Int)) then
 some (decide (((a1.fld 1).asInt)<=(1:Int)))
 else
 bif (a0==(2:Int)) then
 let x28:=IntKind.wrap .i64 ((a1.fld 1).asInt)
 some (bif (decide (x28≥(-2147483648:Int))) then (decide (x28<=(2147483647:Int))) else false)
 else
 bif (a0==(4:Int)) then
 some (decide (((a1.fld 1).asInt)<(4294967296:Int)))
 else
 bif (a0==(9:Int)) then
 some (decide (((a1.fld 1).asInt)<(2147483648:Int)))
 else
 some true
def F318 (uu:Nat) (a0:Int) (a1:List UInt8):Option (PV×Int):=
 (F365 uu a1).bind fun y1=>
 let x2:=y1.1
 let x3:=y1.2.1
 let x4:=y1.2.2
 bif (x4 != (0:Int)) then
 some ((PV.agg [(PV.int (0:Int)),(PV.int (0:Int)),(PV.str ([]:List UInt8)),(PV.slice []),(PV.slice []),(PV.slice []),(PV.slice [])]),x4)
 else
 (bif x3 then F366 uu a0 else some false).bind fun y6=>
 let x10:=bif x3 then (bif (!y6) then true else (decide (x2>(9223372036854775808:Int)))) else false
 let x11:=!x3
 (bif bif x11 then !x10 else false then F366 uu a0 else some false).bind fun y12=>
 bif (bif x10 then true else (bif (bif x11 then y12 else false) then (decide (x2≥(9223372036854775808:Int))) else false)) then
 some ((PV.agg [(PV.int (0:Int)),(PV.int (0:Int)),(PV.str ([]:List UInt8)),(PV.slice []),(PV.slice []),(PV.slice []),(PV.slice [])]),(6:Int))
 else
 bif x3 then
 let x17:=IntKind.wrap .u64 (0-x2)
 (F153 uu a0 (PV.agg [(PV.int a0),(PV.int x17),(PV.str ([]:List UInt8)),(PV.slice []),(PV.slice []),(PV.slice []),(PV.slice [])])).bind fun y18=>
 bif (!y18) then
 some ((PV.agg [(PV.int (0:Int)),(PV.int (0:Int)),(PV.str ([]:List UInt8)),(PV.slice []),(PV.slice []),(PV.slice []),(PV.slice [])]),(6:Int))
 else
 some ((PV.agg [(PV.int a0),(PV.int x17),(PV.str ([]:List UInt8)),(PV.slice []),(PV.slice []),(PV.slice []),(PV.slice [])]),(0:Int))
 else
 (F153 uu a0 (PV.agg [(PV.int a0),(PV.int x2),(PV.str ([]:List UInt8)),(PV.slice []),(PV.slice []),(PV.slice []),(PV.slice [])])).bind fun y20=>
 bif (!y20) then
 some ((PV.agg [(PV.int (0:Int)),(PV.int (0:Int)),(PV.str ([]:List UInt8)),(PV.slice []),(PV.slice []),(PV.slice []),(PV.slice [])]),(6:Int))
 else
 some ((PV.agg [(PV.int a0),(PV.int x2),(PV.str ([]:List UInt8)),(PV.slice []),(PV.slice []),(PV.slice []),(PV.slice [])]),(0:Int))
def F242 (uu:Nat) (a0:Int) (a1:List UInt8):Option (PV×Int):=
 (F256 uu a0).bind fun y1=>
 bif (!y1) then
 some ((PV.agg [(PV.int (0:Int)),(PV.int (0:Int)),(PV.str ([]:List UInt8)),(PV.slice []),(PV.slice []),(PV.slice []),(PV.slice [])]),(1:Int))
 else
 bif (a0==(1:Int)) then
 bif (bif (!(a1==([116,114,117,101]:List UInt8))) then (!(a1==([102,97,108,115,101]:List UInt8))) else false) then
 some ((PV.agg [(PV.int (0:Int)),(PV.int (0:Int)),(PV.str ([]:List UInt8)),(PV.slice []),(PV.slice []),(PV.slice []),(PV.slice [])]),(2:Int))
 else
 bif (a1==([116,114,117,101]:List UInt8)) then
 some ((PV.agg [(PV.int a0),(PV.int (1:Int)),(PV.str ([]:List UInt8)),(PV.slice []),(PV.slice []),(PV.slice []),(PV.slice [])]),(0:Int))
 else
 some ((PV.agg [(PV.int a0),(PV.int (0:Int)),(PV.str ([]:List UInt8)),(PV.slice []),(PV.slice []),(PV.slice []),(PV.slice [])]),(0:Int))
 else
 bif (a0==(6:Int)) then
 (F316 uu a1).bind fun y9=>
 some (y9.1,y9.2)
 else
 bif (a0==(7:Int)) then
 (F317 uu a0 a1).bind fun y13=>
 some (y13.1,y13.2)
 else
 bif (a0==(8:Int)) then
 let x17:=a1==([]:List UInt8)
 bif imp (!x17) (aaa (0:Int) a1.length) then
 bif (bif x17 then true else (((a1.getD (0:Int).toNat 0).toNat:Int) != (120:Int))) then
 some ((PV.agg [(PV.int (0:Int)),(PV.int (0:Int)),(PV.str ([]:List UInt8)),(PV.slice []),(PV.slice []),(PV.slice []),(PV.slice [])]),(2:Int))
 else
 bif decide (0<=(1:Int)/\(1:Int)<=(a1.length:Int)/\(a1.length:Int)<=(a1.length:Int)) then
 (F317 uu a0 ((a1.take (a1.length:Int).toNat).drop (1:Int).toNat)).bind fun y22=>
 some (y22.1,y22.2)
 else none
 else none
 else
 (F318 uu a0 a1).bind fun y25=>
 some (y25.1,y25.2)
def F102 (uu:Nat) (a0:Unit) (a1:Int) (a2:List UInt8) (s:Q4):Option (Bool×Q4):=
 (F107 uu () a1 a2 s).bind fun y1=>
 bif (!y1.1) then
 some (false,y1.2)
 else
 some (true,y1.2.1,(IntKind.wrap .i64 (y1.2.2.1+(1:Int))),y1.2.2.2)
def F54 (uu:Nat) (a0:Unit) (a1:Unit) (s:Q3):Option ((Q3)⊕(PV×Q3)):=
 (F55 uu () (s.1,s.2.1,s.2.2.1,s.2.2.2.1,(),(),(),s.2.2.2.2.2.2.2.1,s.2.2.2.2.2.2.2.2.2)).bind fun z=>sumE (fun y1=>
 some (.inl (y1.2.1,y1.2.2.1,y1.2.2.2.1,y1.2.2.2.2.1,(),(),(),y1.2.2.2.2.2.2.2.2.1,y1.1,y1.2.2.2.2.2.2.2.2.2))
 ) (fun y2=>
 some (.inr (y2.1,y2.2.1,y2.2.2.1,y2.2.2.2.1,y2.2.2.2.2.1,(),(),(),y2.2.2.2.2.2.2.2.2.1,s.2.2.2.2.2.2.2.2.1,y2.2.2.2.2.2.2.2.2.2))
 ) z
def F54p (uu:Nat):CallP:=⟨54,⟨2,bx13,(.con (.ref 0 [] 82))::(.con (.ref 1 [] 54))::sv26⟩,⟨0,bx13,sv26⟩,⟨1,bx13,(.ifc 84)::sv26⟩,fun x=>F54 uu x.1 x.2.1 x.2.2,([],0,[],[],(),(),(),[],PV.bad,[],[],[])⟩
theorem F54ok (uu:Nat):(F54p uu).Ok Tryz.prog:=okPJ Tryz.f54 5 6 uu [] _ false (q0) (pc (F55ok uu)<|p0) L0
def F114_v2 (uu:Nat) (a0:Unit) (a1:Unit) (s:Q2):Option ((Q2)⊕(PV×Q2)):=
 (F54 uu () () (s.2.2.2.1,s.2.2.2.2.1,s.2.2.2.2.2.1,s.2.2.2.2.2.2.1,(),(),(),s.2.2.2.2.2.2.2.2.2.2.1,s.2.2.1,s.2.2.2.2.2.2.2.2.2.2.2)).bind fun z=>sumE (fun y1=>
 some (.inl ((),(),y1.2.2.2.2.2.2.2.2.1,y1.1,y1.2.1,y1.2.2.1,y1.2.2.2.1,(),(),(),y1.2.2.2.2.2.2.2.1,y1.2.2.2.2.2.2.2.2.2))
 ) (fun y2=>
 some (.inr (y2.1,(),(),y2.2.2.2.2.2.2.2.2.2.1,y2.2.1,y2.2.2.1,y2.2.2.2.1,y2.2.2.2.2.1,(),(),(),y2.2.2.2.2.2.2.2.2.1,y2.2.2.2.2.2.2.2.2.2.2))
 ) z
def F114_v2p (uu:Nat):CallP:=⟨114,⟨2,bx14,(.con (.ref 0 [] 97))::(.con (.ref 1 [] 80))::sv27⟩,⟨0,bx14,sv27⟩,⟨1,bx14,(.ifc 84)::sv27⟩,fun x=>F114_v2 uu x.1 x.2.1 x.2.2,((),(),PV.bad,[],0,[],[],(),(),(),[],[],[],[])⟩
theorem F114_v2ok (uu:Nat):(F114_v2p uu).Ok Tryz.prog:=okPJ Tryz.f114 5 8 uu [] _ false (q0) (pc (F54ok uu)<|p0) L0
def F43_v3 (uu:Nat) (a0:Unit) (s:Q2):Option (PV×Q2):=(F114_v2 uu () () s).bind fun z=>sumE (fun y=>some ((PV.agg [(PV.int (0:Int)),(PV.int (0:Int))]),y)) (fun y=>some y) z
def F43_v3c (uu:Nat):CallE:=⟨43,⟨1,bx14,(.con (.fn 114 0 [(.ref 0 [] 97),(.ref 1 [] 80)]))::sv27⟩,⟨1,bx14,(.data 84)::sv27⟩,fun x=>F43_v3 uu x.1 x.2,(PV.bad,(),(),PV.bad,[],0,[],[],(),(),(),[],[],[],[])⟩
theorem F43_v3ok (uu:Nat):(F43_v3c uu).Ok Tryz.prog:=by
 intro x y h
 have h:F43_v3 uu x.1 x.2=some y:=h
 unfold F43_v3 at h
 obtain ⟨z,h1,h2⟩:=Option.bind_eq_some_iff.1 h
 cases z with
 | inl z=>
  have hm:=(F114_v2ok uu ((),(),x.2.1,x.2.2.1,x.2.2.2.1,x.2.2.2.2.1,x.2.2.2.2.2.1,x.2.2.2.2.2.2.1,x.2.2.2.2.2.2.2.1,x.2.2.2.2.2.2.2.2.1,x.2.2.2.2.2.2.2.2.2.1,x.2.2.2.2.2.2.2.2.2.2.1,x.2.2.2.2.2.2.2.2.2.2.2.1,x.2.2.2.2.2.2.2.2.2.2.2.2.1,x.2.2.2.2.2.2.2.2.2.2.2.2.2.1,x.2.2.2.2.2.2.2.2.2.2.2.2.2.2)).1 z h1
  cases h2
  exact akr hm
 | inr z=>
  have hm:=(F114_v2ok uu ((),(),x.2.1,x.2.2.1,x.2.2.2.1,x.2.2.2.2.1,x.2.2.2.2.2.1,x.2.2.2.2.2.2.1,x.2.2.2.2.2.2.2.1,x.2.2.2.2.2.2.2.2.1,x.2.2.2.2.2.2.2.2.2.1,x.2.2.2.2.2.2.2.2.2.2.1,x.2.2.2.2.2.2.2.2.2.2.2.1,x.2.2.2.2.2.2.2.2.2.2.2.2.1,x.2.2.2.2.2.2.2.2.2.2.2.2.2.1,x.2.2.2.2.2.2.2.2.2.2.2.2.2.2)).2 z h1
  cases h2
  exact akn hm
def F50_v2 (uu:Nat) (a0:List PV) (a1:Int) (a2:Unit) (a3:PV):Option (Int×Int×PV):=
 bif (bif (decide (a1<(0:Int))) then true else (decide (a1>(a0.length:Int)))) then
 some ((0:Int),(1:Int),a3)
 else
 (F43_v3 uu () ((),(),a3,a0,a1,([]:List UInt8),([]:List UInt8),(),(),(),[],[],[],[])).bind fun y5=>
 bif (((y5.1.fld 1).asInt) != (0:Int)) then
 some (((y5.1.fld 0).asInt),((y5.1.fld 1).asInt),y5.2.2.2.1)
 else
 some (y5.2.2.2.2.2.1,(0:Int),y5.2.2.2.1)
def F50_v2c (uu:Nat):CallE:=⟨50,⟨3,[.box 54 .leaf],[(.slice 72),(.int .i64),(.con (.fn 54 0 [(.ref 0 [] 54)])),(.data 54)]⟩,⟨2,[.box 54 .leaf],[(.int .i64),(.int .i64),(.data 54)]⟩,fun x=>F50_v2 uu x.1 x.2.1 x.2.2.1 x.2.2.2,(0,0,PV.bad)⟩
theorem F50_v2ok (uu:Nat):(F50_v2c uu).Ok Tryz.prog:=okJ Tryz.f50 35 1 uu _ [] false (qc (F43_v3ok uu)<|q0) (p0) L0
def F25 (uu:Nat) (a0:List PV) (a1:Int):Option (PV×Int×Int):=
 (F50_v2 uu a0 a1 () (PV.agg [(PV.int (0:Int)),(PV.str ([]:List UInt8)),(PV.int (0:Int)),(PV.int (0:Int)),(PV.agg [(PV.int (0:Int)),(PV.str ([]:List UInt8))]),(PV.str ([]:List UInt8)),(PV.bool false),(PV.agg [(PV.int (0:Int)),(PV.int (0:Int)),(PV.str ([]:List UInt8)),(PV.slice []),(PV.slice []),(PV.slice []),(PV.slice [])]),(PV.slice [])])).bind fun y1=>
 some (y1.2.2,y1.1,y1.2.1)
def F25c (uu:Nat):CallE:=⟨25,⟨2,[],sv15⟩,⟨3,[],(.data 54)::sv2⟩,fun x=>F25 uu x.1 x.2,(PV.bad,0,0)⟩
theorem F25ok (uu:Nat):(F25c uu).Ok Tryz.prog:=okJ Tryz.f25 20 0 uu _ [] false (qc (F50_v2ok uu)<|q0) (p0) L0
def F152 (uu:Nat) (a0:List UInt8):Option (Int):=
 let x1:=a0==([100,101,112,114,101,99,97,116,101,100]:List UInt8)
 bif x1 then
 some (1:Int)
 else
 bif (a0==([115,101,99,114,101,116]:List UInt8)) then
 some (1:Int)
 else
 let x3:=a0==([105,100,101,109,112,111,116,101,110,116]:List UInt8)
 bif x3 then
 some (1:Int)
 else
 bif (a0==([100,111,99]:List UInt8)) then
 some (7:Int)
 else
 bif (a0==([97,108,105,97,115]:List UInt8)) then
 some (7:Int)
 else
 bif (a0==([114,111,117,116,101]:List UInt8)) then
 some (7:Int)
 else
 bif (a0==([111,119,110,101,114]:List UInt8)) then
 some (7:Int)
 else
 bif (a0==([115,105,110,99,101]:List UInt8)) then
 some (4:Int)
 else
 bif (a0==([117,110,116,105,108]:List UInt8)) then
 some (4:Int)
 else
 bif (a0==([108,101,110,103,116,104]:List UInt8)) then
 some (4:Int)
 else
 bif (a0==([116,105,109,101,111,117,116]:List UInt8)) then
 some (4:Int)
 else
 bif (a0==([109,105,110]:List UInt8)) then
 some (3:Int)
 else
 bif (a0==([109,97,120]:List UInt8)) then
 some (3:Int)
 else
 some (0:Int)
def B57c (r:(PV×PV)->Option (Bool)):CallE:=⟨57,⟨2,[],sv28⟩,⟨1,[],[.bool]⟩,r,false⟩
abbrev B57_5x:=Unit×Unit×Int×PV×PV
abbrev B57_5y:=(Bool×PV×PV)⊕(Unit×Unit×PV×PV)
def B57_5 (uu:Nat) (r0:(PV×PV)->Option (Bool)) (a36:Unit) (a37:Unit) (a38:Int) (a39:PV) (a40:PV):Option (B57_5x⊕B57_5y):=
 bif (decide (a38<(((a39.fld 3).asList).length:Int))) then
 let x44:=(a39.fld 3).asList
 bif aaa a38 x44.length then
 let x46:=(a40.fld 3).asList
 bif aaa a38 x46.length then
 (r0 ((x44.getD a38.toNat .bad),(x46.getD a38.toNat .bad))).bind fun y48=>
 bif (!y48) then
 some (.inr (.inl (false,a39,a40)))
 else
 some (.inl ((),(),(IntKind.wrap .i64 (a38+(1:Int))),a39,a40))
 else none
 else none
 else
 some (.inr (.inr ((),(),a39,a40)))
def B57_5step (uu:Nat) (r0:(PV×PV)->Option (Bool)) (x:B57_5x):Option (B57_5x⊕B57_5y):=B57_5 uu r0 x.1 x.2.1 x.2.2.1 x.2.2.2.1 x.2.2.2.2
abbrev B57_10x:=Unit×Unit×Int×PV×PV
abbrev B57_10y:=(Bool×PV×PV)⊕(Unit×Unit×PV×PV)
def B57_10 (uu:Nat) (r0:(PV×PV)->Option (Bool)) (a53:Unit) (a54:Unit) (a55:Int) (a56:PV) (a57:PV):Option (B57_10x⊕B57_10y):=
 bif (decide (a55<(((a56.fld 4).asList).length:Int))) then
 let x61:=(a56.fld 4).asList
 bif aaa a55 x61.length then
 let x64:=(a57.fld 4).asList
 bif aaa a55 x64.length then
 (r0 (((x61.getD a55.toNat .bad).fld 0),((x64.getD a55.toNat .bad).fld 0))).bind fun y67=>
 let x68:=!y67
 let x69:=(a56.fld 4).asList
 bif imp (!x68) (aaa a55 x69.length) then
 let x72:=(a57.fld 4).asList
 bif imp (!x68) (aaa a55 x72.length) then
 (bif !x68 then r0 (((x69.getD a55.toNat .bad).fld 1),((x72.getD a55.toNat .bad).fld 1)) else some false).bind fun y75=>
 bif (bif x68 then true else (!y75)) then
 some (.inr (.inl (false,a56,a57)))
 else
 some (.inl ((),(),(IntKind.wrap .i64 (a55+(1:Int))),a56,a57))
 else none
 else none
 else none
 else none
 else
 some (.inr (.inr ((),(),a56,a57)))
def B57_10step (uu:Nat) (r0:(PV×PV)->Option (Bool)) (x:B57_10x):Option (B57_10x⊕B57_10y):=B57_10 uu r0 x.1 x.2.1 x.2.2.1 x.2.2.2.1 x.2.2.2.2
abbrev B57_15x:=Unit×Unit×Int×PV×PV
abbrev B57_15y:=(Bool×PV×PV)⊕(Unit×Unit×PV×PV)
def B57_15 (uu:Nat) (r0:(PV×PV)->Option (Bool)) (a81:Unit) (a82:Unit) (a83:Int) (a84:PV) (a85:PV):Option (B57_15x⊕B57_15y):=
 bif (decide (a83<(((a84.fld 5).asList).length:Int))) then
 let x89:=(a84.fld 5).asList
 bif aaa a83 x89.length then
 let x93:=(a85.fld 5).asList
 bif aaa a83 x93.length then
 let x97:=((x89.getD a83.toNat .bad).fld 0).asInt != ((x93.getD a83.toNat .bad).fld 0).asInt
 let x98:=(a84.fld 5).asList
 bif imp (!x97) (aaa a83 x98.length) then
 let x101:=(a85.fld 5).asList
 bif imp (!x97) (aaa a83 x101.length) then
 (bif !x97 then r0 (((x98.getD a83.toNat .bad).fld 1),((x101.getD a83.toNat .bad).fld 1)) else some false).bind fun y104=>
 bif (bif x97 then true else (!y104)) then
 some (.inr (.inl (false,a84,a85)))
 else
 some (.inl ((),(),(IntKind.wrap .i64 (a83+(1:Int))),a84,a85))
 else none
 else none
 else none
 else none
 else
 some (.inr (.inr ((),(),a84,a85)))
def B57_15step (uu:Nat) (r0:(PV×PV)->Option (Bool)) (x:B57_15x):Option (B57_15x⊕B57_15y):=B57_15 uu r0 x.1 x.2.1 x.2.2.1 x.2.2.2.1 x.2.2.2.2
abbrev B57_20x:=Unit×Unit×Int×PV×PV
abbrev B57_20y:=(Bool×PV×PV)⊕(PV×PV)
def B57_20 (uu:Nat) (r0:(PV×PV)->Option (Bool)) (a110:Unit) (a111:Unit) (a112:Int) (a113:PV) (a114:PV):Option (B57_20x⊕B57_20y):=
 bif (decide (a112<(((a113.fld 6).asList).length:Int))) then
 let x118:=(a113.fld 6).asList
 bif aaa a112 x118.length then
 let x119:=x118.getD a112.toNat .bad
 let x120:=(a114.fld 6).asList
 bif aaa a112 x120.length then
 let x121:=x120.getD a112.toNat .bad
 let x122:=!(bif ((x119.fld 0).asInt)==((x121.fld 0).asInt) then (bif ((x119.fld 1).asInt)==((x121.fld 1).asInt) then (bif ((x119.fld 2).asInt)==((x121.fld 2).asInt) then (bif ((x119.fld 3).asStr)==((x121.fld 3).asStr) then true else false) else false) else false) else false)
 bif x122 then
 some (.inr (.inl (false,a113,a114)))
 else
 some (.inl ((),(),(IntKind.wrap .i64 (a112+(1:Int))),a113,a114))
 else none
 else none
 else
 some (.inr (.inr (a113,a114)))
def B57_20step (uu:Nat) (r0:(PV×PV)->Option (Bool)) (x:B57_20x):Option (B57_20x⊕B57_20y):=B57_20 uu r0 x.1 x.2.1 x.2.2.1 x.2.2.2.1 x.2.2.2.2
def B57 (uu:Nat) (r0:(PV×PV)->Option (Bool)) (a0:PV) (a1:PV):Option (Bool):=
 bif (bif (bif (bif (bif (bif (bif (((a0.fld 0).asInt) != ((a1.fld 0).asInt)) then true else (((a0.fld 1).asInt) != ((a1.fld 1).asInt))) then true else (!(((a0.fld 2).asStr)==((a1.fld 2).asStr)))) then true else ((((a0.fld 3).asList).length:Int) != (((a1.fld 3).asList).length:Int))) then true else ((((a0.fld 4).asList).length:Int) != (((a1.fld 4).asList).length:Int))) then true else ((((a0.fld 5).asList).length:Int) != (((a1.fld 5).asList).length:Int))) then true else ((((a0.fld 6).asList).length:Int) != (((a1.fld 6).asList).length:Int))) then
 some false
 else
 (abj uu (B57_5step uu r0) ((),(),(0:Int),a0,a1)).bind fun z=>sumE (fun y51=>
 some y51.1
 ) (fun y52=>
 (abj uu (B57_10step uu r0) ((),(),(0:Int),y52.2.2.1,y52.2.2.2)).bind fun z=>sumE (fun y79=>
 some y79.1
 ) (fun y80=>
 (abj uu (B57_15step uu r0) ((),(),(0:Int),y80.2.2.1,y80.2.2.2)).bind fun z=>sumE (fun y108=>
 some y108.1
 ) (fun y109=>
 (abj uu (B57_20step uu r0) ((),(),(0:Int),y109.2.2.1,y109.2.2.2)).bind fun z=>sumE (fun y124=>
 some y124.1
 ) (fun y125=>
 some true
 ) z
 ) z
 ) z
 ) z
def B57_5l (uu:Nat) (r0:(PV×PV)->Option (Bool)):LoopE:=⟨5,⟨[2,3,5],bx15,sv29⟩,[(.ret,⟨[4],bx15,sv30⟩),(.exit 0,⟨[2,3],bx15,sv31⟩)],B57_5step uu r0⟩
def B57_10l (uu:Nat) (r0:(PV×PV)->Option (Bool)):LoopE:=⟨10,⟨[2,3,6],bx15,sv29⟩,[(.ret,⟨[4],bx15,sv30⟩),(.exit 2,⟨[2,3],bx15,sv31⟩)],B57_10step uu r0⟩
def B57_15l (uu:Nat) (r0:(PV×PV)->Option (Bool)):LoopE:=⟨15,⟨[2,3,7],bx15,sv29⟩,[(.ret,⟨[4],bx15,sv30⟩),(.exit 4,⟨[2,3],bx15,sv31⟩)],B57_15step uu r0⟩
def B57_20l (uu:Nat) (r0:(PV×PV)->Option (Bool)):LoopE:=⟨20,⟨[2,3,8],bx15,sv29⟩,[(.ret,⟨[4],bx15,sv30⟩),(.exit 6,⟨[],bx15,sv28⟩)],B57_20step uu r0⟩
def B57C (uu:Nat) (r0:(PV×PV)->Option (Bool)):Cfg:=cfg Tryz.prog 174 0 [B57c r0] [B57_5l uu r0,B57_10l uu r0,B57_15l uu r0,B57_20l uu r0] uu
theorem B57k (uu:Nat) (r0:(PV×PV)->Option (Bool)) (h0:(B57c r0).Ok Tryz.prog):aa8 (B57C uu r0):=aai (qc h0<|q0) (p0)
theorem B57_5ok (uu:Nat) (r0:(PV×PV)->Option (Bool)) (h0:(B57c r0).Ok Tryz.prog):aas (B57C uu r0) (lp (abb Tryz.f57) 0):=okL (B57k uu r0 h0) uu (B57_5l uu r0) L0
theorem B57_10ok (uu:Nat) (r0:(PV×PV)->Option (Bool)) (h0:(B57c r0).Ok Tryz.prog):aas (B57C uu r0) (lp (abb Tryz.f57) 1):=okL (B57k uu r0 h0) uu (B57_10l uu r0) L0
theorem B57_15ok (uu:Nat) (r0:(PV×PV)->Option (Bool)) (h0:(B57c r0).Ok Tryz.prog):aas (B57C uu r0) (lp (abb Tryz.f57) 2):=okL (B57k uu r0 h0) uu (B57_15l uu r0) L0
theorem B57_20ok (uu:Nat) (r0:(PV×PV)->Option (Bool)) (h0:(B57c r0).Ok Tryz.prog):aas (B57C uu r0) (lp (abb Tryz.f57) 3):=okL (B57k uu r0 h0) uu (B57_20l uu r0) L0
theorem B57ok (uu:Nat) (r0:(PV×PV)->Option (Bool)) (h0:(B57c r0).Ok Tryz.prog):(B57c (fun x=>B57 uu r0 x.1 x.2)).Ok Tryz.prog:=okE Tryz.f57 (B57k uu r0 h0) (L4 (B57_5ok uu r0 h0) (B57_10ok uu r0 h0) (B57_15ok uu r0 h0) (B57_20ok uu r0 h0))
def G57 (uu:Nat):Nat->((PV×PV)->Option (Bool))
 | 0=>fun _=>none
 | d+1=>fun x=>B57 uu (G57 uu d) x.1 x.2
theorem G57ok (uu:Nat):∀ d,(B57c (G57 uu d)).Ok Tryz.prog
 | 0=>baa
 | d+1=>B57ok uu (G57 uu d) (G57ok uu d)
def F57 (uu:Nat) (a0:PV) (a1:PV):Option (Bool):=limQ uu (fun d=>(G57 uu d)) (a0,a1)
def F57c (uu:Nat):CallE:=⟨57,⟨2,[],sv28⟩,⟨1,[],[.bool]⟩,fun x=>F57 uu x.1 x.2,false⟩
theorem F57ok (uu:Nat):(F57c uu).Ok Tryz.prog:=okLim (F57c uu) (G:=(fun d=>(G57 uu d))) (fun x=>rfl) (fun d=>(G57ok uu d))
abbrev S58_5x:=(List PV)×(List PV)×Int
abbrev S58_5y:=(Bool)⊕(Unit)
def S58_5 (uu:Nat) (a4:List PV) (a5:List PV) (a6:Int):Option (S58_5x⊕S58_5y):=
 bif (decide (a6<(a4.length:Int))) then
 bif aaa a6 a4.length then
 bif aaa a6 a5.length then
 let x15:=!(((a4.getD a6.toNat .bad).fld 0).asStr==((a5.getD a6.toNat .bad).fld 0).asStr)
 bif imp (!x15) (aaa a6 a4.length) then
 bif imp (!x15) (aaa a6 a5.length) then
 (bif !x15 then F57 uu ((a4.getD a6.toNat .bad).fld 1) ((a5.getD a6.toNat .bad).fld 1) else some false).bind fun y20=>
 bif (bif x15 then true else (!y20)) then
 some (.inr (.inl false))
 else
 some (.inl (a4,a5,(IntKind.wrap .i64 (a6+(1:Int)))))
 else none
 else none
 else none
 else none
 else
 some (.inr (.inr ()))
def S58_5step (uu:Nat) (x:S58_5x):Option (S58_5x⊕S58_5y):=S58_5 uu x.1 x.2.1 x.2.2
def F58 (uu:Nat) (a0:List PV) (a1:List PV):Option (Bool):=
 bif ((a0.length:Int) != (a1.length:Int)) then
 some false
 else
 (abj uu (S58_5step uu) (a0,a1,(0:Int))).bind fun z=>sumE (fun y24=>
 some y24
 ) (fun y25=>
 some true
 ) z
def S58_5l (uu:Nat):LoopE:=⟨5,⟨[0,1,5],[],[(.slice 116),(.slice 116),(.int .i64)]⟩,[(.ret,⟨[4],[],[.bool]⟩),(.exit 0,⟨[],[],[]⟩)],S58_5step uu⟩
def F58C (uu:Nat):Cfg:=cfg Tryz.prog 42 0 [F57c uu] [S58_5l uu] uu
def F58c (uu:Nat):CallE:=⟨58,⟨2,[],[(.slice 116),(.slice 116)]⟩,⟨1,[],[.bool]⟩,fun x=>F58 uu x.1 x.2,false⟩
theorem F58k (uu:Nat):aa8 (F58C uu):=aai (qc (F57ok uu)<|q0) (p0)
theorem S58_5ok (uu:Nat):aas (F58C uu) (lp (abb Tryz.f58) 0):=okL (F58k uu) uu (S58_5l uu) L0
theorem F58ok (uu:Nat):(F58c uu).Ok Tryz.prog:=okE Tryz.f58 (F58k uu) (L1 (S58_5ok uu))
def F27 (uu:Nat) (a0:PV) (a1:PV):Option (Bool):=
 let x31:=bif (bif (bif (bif (bif (bif (bif (((a0.fld 0).asInt)==((a1.fld 0).asInt)) then (((a0.fld 1).asStr)==((a1.fld 1).asStr)) else false) then (((a0.fld 2).asInt)==((a1.fld 2).asInt)) else false) then (((a0.fld 3).asInt)==((a1.fld 3).asInt)) else false) then ((((a0.fld 4).fld 0).asInt)==(((a1.fld 4).fld 0).asInt)) else false) then ((((a0.fld 4).fld 1).asStr)==(((a1.fld 4).fld 1).asStr)) else false) then (((a0.fld 5).asStr)==((a1.fld 5).asStr)) else false) then (((a0.fld 6).asBool)==((a1.fld 6).asBool)) else false
 (bif x31 then F57 uu (a0.fld 7) (a1.fld 7) else some false).bind fun y34=>
 let x35:=bif x31 then y34 else false
 (bif x35 then F58 uu ((a0.fld 8).asList) ((a1.fld 8).asList) else some false).bind fun y38=>
 some (bif x35 then y38 else false)
def F27c (uu:Nat):CallE:=⟨27,⟨2,[],[(.data 54),(.data 54)]⟩,⟨1,[],[.bool]⟩,fun x=>F27 uu x.1 x.2,false⟩
theorem F27ok (uu:Nat):(F27c uu).Ok Tryz.prog:=okJ Tryz.f27 77 0 uu _ [] false (qc (F57ok uu)<|qc (F58ok uu)<|q0) (p0) L0
def F8 (uu:Nat) (a0:List UInt8):Option (Bool):=
 bif (decide ((a0.length:Int)>(6000:Int))) then
 (ad8 uu).bind fun y3=>
 some y3
 else
 (F28 uu a0).bind fun y4=>
 let x5:=y4.1
 let x8:=y4.2.2 != (0:Int)
 (bif !x8 then F22 uu x5 else some false).bind fun y9=>
 bif (bif x8 then true else (!y9)) then
 (ad8 uu).bind fun y12=>
 some y12
 else
 (F25 uu x5 (0:Int)).bind fun y13=>
 bif (bif (y13.2.2 != (0:Int)) then true else (y13.2.1 != (x5.length:Int))) then
 (ad8 uu).bind fun y21=>
 some y21
 else
 bif decide (([109,101,115,115,97,103,101,32,77,32,123,10]:List UInt8).length+a0.length<=aa2) then
 bif decide ((([109,101,115,115,97,103,101,32,77,32,123,10]:List UInt8)++a0).length+([10,125]:List UInt8).length<=aa2) then
 let x22:=(([109,101,115,115,97,103,101,32,77,32,123,10]:List UInt8)++a0)++([10,125]:List UInt8)
 (F15 uu ([]:List UInt8) x22).bind fun y23=>
 let x24:=y23.1
 let x31:=bif (y23.2.2==(0:Int)) then ((((x24.fld 3).asList).length:Int)==(1:Int)) else false
 let x32:=(x24.fld 3).asList
 bif imp x31 (aaa (0:Int) x32.length) then
 let x38:=bif x31 then ((((x32.getD (0:Int).toNat .bad).fld 1).asList.length:Int)==(1:Int)) else false
 let x39:=(x24.fld 3).asList
 bif imp x38 (aaa (0:Int) x39.length) then
 let x42:=((x39.getD (0:Int).toNat .bad).fld 1).asList
 bif imp x38 (aaa (0:Int) x42.length) then
 (bif x38 then F27 uu (x42.getD (0:Int).toNat .bad) y13.1 else some false).bind fun y44=>
 let x53:=bif (bif (bif x38 then y44 else false) then ((((x24.fld 4).asList).length:Int)==(0:Int)) else false) then ((((x24.fld 5).asList).length:Int)==(0:Int)) else false
 (bif x53 then ad8 uu else some false).bind fun y54=>
 some (bif x53 then y54 else false)
 else none
 else none
 else none
 else none
 else none
def F8c (uu:Nat):CallE:=⟨8,⟨1,[],[.str]⟩,⟨1,[],[.bool]⟩,fun x=>F8 uu x,false⟩
theorem F8ok (uu:Nat):(F8c uu).Ok Tryz.prog:=okJ Tryz.f8 96 0 uu _ [] false (qc (ay9 uu)<|qc (F28ok uu)<|qc (F22ok uu)<|qc (F25ok uu)<|qc (F15ok uu)<|qc (F27ok uu)<|q0) (p0) L0
end
end Go.Ab
