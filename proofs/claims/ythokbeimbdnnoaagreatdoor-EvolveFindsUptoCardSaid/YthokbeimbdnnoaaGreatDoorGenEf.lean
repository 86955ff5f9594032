/- A part of the proof: lemmas on how the program runs over plain data. -/
import Derived.Test.YthokbeimbdnnoaaGreatDoorAbFmtE
import Derived.Test.YthokbeimbdnnoaaGreatDoorAbLoop
import Derived.KernelRfl
set_option linter.unusedVariables false
set_option linter.unusedSimpArgs false
set_option linter.unnecessarySimpa false
namespace Go.Ab
open Go Go.Proofs
set_option maxRecDepth 100000
noncomputable section
abbrev bx0:List BSh:=[.box 303 .leaf,.acc]
abbrev bx1:List BSh:=[.box 9 .leaf]
abbrev bx2:List BSh:=[.box 9 .leaf,.box 63 .leaf]
abbrev bx3:List BSh:=[.box 3 .leaf]
abbrev bx4:List BSh:=[.box 3 .leaf,.box 59 .leaf]
abbrev bx5:List BSh:=[.box 66 (.agg 66 [.leaf]),.acc]
abbrev bx6:List BSh:=[.box 66 (.agg 66 [.leaf]),.acc,.box 63 .leaf,.box 63 .leaf]
abbrev bx7:List BSh:=[.box 9 .leaf,.box 73 .leaf]
abbrev bx8:List BSh:=[.box 3 .leaf,.box 103 .leaf]
abbrev bx9:List BSh:=[.box 66 (.agg 66 [.leaf]),.acc,.box 73 .leaf,.box 73 .leaf]
abbrev bx10:List BSh:=[.box 9 .leaf,.box 78 .leaf]
abbrev bx11:List BSh:=[.box 78 .leaf,.box 105 .leaf]
abbrev bx12:List BSh:=[.box 66 (.agg 66 [.leaf]),.acc,.box 78 .leaf,.box 78 .leaf]
abbrev bx13:List BSh:=[.box 66 (.agg 66 [.leaf]),.acc,.box 26 .leaf,.box 26 .leaf]
abbrev bx14:List BSh:=[.arr 34 0]
abbrev bx15:List BSh:=[.box 26 .leaf,.box 26 .leaf,.box 66 (.agg 66 [.leaf]),.acc]
abbrev bx16:List BSh:=[.box 26 .leaf,.box 179 .leaf,.map 9 63,.map 9 4,.box 179 (.agg 179 [.leaf,.leaf])]
abbrev bx17:List BSh:=[.arr 9 0]
abbrev bx18:List BSh:=[.box 26 .leaf,.box 179 .leaf,.arr 9 1,.box 63 .leaf,.mit 9 4]
abbrev bx19:List BSh:=[.box 26 .leaf,.box 179 .leaf,.arr 9 1]
abbrev bx20:List BSh:=[.box 26 .leaf,.box 26 .leaf,.arr 9 1,.arr 9 0,.acc]
abbrev bx21:List BSh:=[.box 26 .leaf,.acc]
abbrev bx22:List BSh:=[.box 134 (.agg 134 [.leaf,.leaf]),.acc]
abbrev bx23:List BSh:=[.box 26 .leaf]
abbrev bx24:List BSh:=[.arr 4 0,.box 26 .leaf,.box 63 .leaf]
abbrev bx25:List BSh:=[.box 26 .leaf,.arr 4 0]
abbrev bx26:List BSh:=[.box 63 .leaf,.box 59 .leaf]
abbrev bx27:List BSh:=[.box 26 .leaf,.box 59 .leaf,.box 56 .leaf]
abbrev bx28:List BSh:=[.box 26 .leaf,.box 63 .leaf]
abbrev bx29:List BSh:=[.box 26 .leaf,.box 63 .leaf,.box 134 (.agg 134 [.leaf,.leaf]),.acc,.box 59 .leaf]
abbrev bx30:List BSh:=[.box 26 .leaf,.box 63 .leaf,.box 134 (.agg 134 [.leaf,.leaf]),.acc]
abbrev bx31:List BSh:=[.box 73 .leaf,.box 134 (.agg 134 [.leaf,.leaf]),.acc,.box 103 .leaf]
abbrev bx32:List BSh:=[.box 73 .leaf,.box 134 (.agg 134 [.leaf,.leaf]),.acc]
abbrev bx33:List BSh:=[.box 26 .leaf,.box 78 .leaf,.box 134 (.agg 134 [.leaf,.leaf]),.acc]
abbrev bx34:List BSh:=[.box 26 .leaf,.box 134 (.agg 134 [.leaf,.leaf]),.acc]
abbrev bx35:List BSh:=[.box 26 (.agg 26 [.leaf,.leaf,.leaf]),.box 26 (.agg 26 [.leaf,.leaf,.leaf]),.box 26 (.agg 26 [.leaf,.leaf,.leaf]),.acc,.acc,.acc,.acc,.acc,.acc,.box 63 (.agg 63 [.leaf,.leaf,.leaf,.leaf,.leaf]),.box 63 (.agg 63 [.leaf,.leaf,.leaf,.leaf,.leaf]),.acc]
abbrev bx36:List BSh:=[.box 26 (.agg 26 [.leaf,.leaf,.leaf]),.box 26 (.agg 26 [.leaf,.leaf,.leaf]),.box 26 (.agg 26 [.leaf,.leaf,.leaf]),.acc,.acc,.acc,.acc,.acc,.acc]
abbrev bx37:List BSh:=[.box 26 (.agg 26 [.leaf,.leaf,.leaf]),.box 26 (.agg 26 [.leaf,.leaf,.leaf]),.box 26 (.agg 26 [.leaf,.leaf,.leaf]),.acc,.acc,.acc,.acc,.acc,.acc,.box 73 (.agg 73 [.leaf,.leaf,.leaf,.leaf,.leaf]),.box 73 (.agg 73 [.leaf,.leaf,.leaf,.leaf,.leaf]),.acc]
abbrev bx38:List BSh:=[.box 26 (.agg 26 [.leaf,.leaf,.leaf]),.box 26 (.agg 26 [.leaf,.leaf,.leaf]),.box 26 (.agg 26 [.leaf,.leaf,.leaf]),.acc,.acc,.acc,.acc,.acc,.acc,.box 78 (.agg 78 [.leaf,.leaf,.leaf]),.box 78 (.agg 78 [.leaf,.leaf,.leaf]),.acc]
abbrev bx39:List BSh:=[.box 63 .leaf,.box 63 .leaf]
abbrev bx40:List BSh:=[.box 73 .leaf,.box 73 .leaf]
abbrev bx41:List BSh:=[.box 78 .leaf,.box 78 .leaf]
abbrev sv0:List Shape:=[(.con (.ref 0 [] 9)),.str]
abbrev sv1:List Shape:=[.str,(.data 63)]
abbrev sv2:List Shape:=[(.data 26),.str]
abbrev sv3:List Shape:=[.bool,(.int .i64)]
abbrev sv4:List Shape:=[(.int .i64),(.data 59)]
abbrev sv5:List Shape:=[.str,(.int .i64)]
abbrev sv7:List Shape:=[(.int .i64),(.int .i64)]
abbrev sv9:List Shape:=[.str,(.data 73)]
abbrev sv10:List Shape:=[(.int .i64),(.data 103)]
abbrev sv12:List Shape:=[.str,(.data 78)]
abbrev sv13:List Shape:=[(.data 78),(.data 105)]
abbrev sv26:List Shape:=[(.con (.fn 65 0 [])),(.slice 34)]
abbrev sv29:List Shape:=[(.data 26),(.data 26)]
abbrev sv34:List Shape:=[(.data 179),(.slice 9)]
abbrev sv35:List Shape:=[(.data 179),.str]
abbrev sv36:List Shape:=[(.slice 9),(.slice 9)]
abbrev sv38:List Shape:=[(.acc 1 9),(.data 26)]
abbrev sv40:List Shape:=[.str,(.acc 1 208)]
abbrev sv41:List Shape:=[(.int .i64),(.data 26)]
abbrev sv44:List Shape:=[(.data 26),(.slice 4)]
abbrev sv45:List Shape:=[(.data 63),(.data 59)]
abbrev sv47:List Shape:=[(.data 26),(.data 63)]
abbrev sv49:List Shape:=[.str,(.acc 2 208)]
abbrev sv50:List Shape:=[.str,(.acc 3 208)]
abbrev sv58:List Shape:=[(.data 63),(.data 63)]
abbrev sv59:List Shape:=[(.data 73),(.data 73)]
abbrev sv60:List Shape:=[(.data 78),(.data 78)]
abbrev sv6:List Shape:=.str::sv5
abbrev sv8:List Shape:=(.acc 1 34)::sv58
abbrev sv11:List Shape:=(.acc 1 34)::sv59
abbrev sv14:List Shape:=(.acc 1 34)::sv60
abbrev sv16:List Shape:=(.acc 1 34)::sv29
abbrev sv25:List Shape:=(.int .i64)::sv26
abbrev sv33:List Shape:=[(.int .i64),(.int .i64),(.slice 9)]
abbrev sv42:List Shape:=(.slice 4)::sv47
abbrev sv43:List Shape:=(.int .i64)::sv44
abbrev sv46:List Shape:=[(.data 26),(.data 59),(.data 56)]
abbrev sv57:List Shape:=(.int .i64)::sv58
abbrev sv18:List Shape:=[(.int .i64),(.con (.fn 65 0 [])),(.int .i64),(.slice 34)]
abbrev sv19:List Shape:=(.int .i64)::sv25
abbrev sv20:List Shape:=[(.int .i64),(.int .i64),(.int .i64),(.slice 34)]
abbrev sv23:List Shape:=[(.con (.arr 0 0 34)),(.int .i64),(.int .i64),(.slice 34)]
abbrev sv28:List Shape:=[(.con (.ref 2 [] 66)),(.data 26),(.data 26),(.acc 3 34)]
abbrev sv31:List Shape:=(.int .i64)::sv33
abbrev sv39:List Shape:=(.int .i64)::(.int .i64)::sv40
abbrev sv48:List Shape:=(.data 26)::(.data 63)::sv50
abbrev sv53:List Shape:=(.int .i64)::(.data 26)::sv49
abbrev sv54:List Shape:=(.con (.ref 1 [] 134))::(.data 26)::sv49
abbrev sv15:List Shape:=(.int .i64)::(.int .i64)::sv16
abbrev sv17:List Shape:=[(.int .i64),(.con (.fn 65 0 [])),(.int .i64),(.int .i64),(.slice 34)]
abbrev sv27:List Shape:=[(.int .i64),(.int .i64),(.data 26),(.data 26),(.acc 3 34)]
abbrev sv32:List Shape:=(.con (.arr 0 0 9))::sv31
abbrev sv37:List Shape:=(.int .i64)::(.con (.ref 0 [] 26))::(.acc 1 9)::sv41
abbrev sv52:List Shape:=(.con (.ref 0 [] 26))::sv54
abbrev sv21:List Shape:=(.con (.arr 0 0 34))::(.int .i64)::sv19
abbrev sv22:List Shape:=(.con (.arr 0 0 34))::sv17
abbrev sv24:List Shape:=(.int .i64)::(.con (.fn 65 0 []))::sv20
abbrev sv30:List Shape:=[(.data 26),(.data 179),(.map 9 63),(.map 9 4),(.con (.mref 2)),(.con (.mref 3))]
abbrev sv51:List Shape:=(.con (.ref 0 [] 26))::(.con (.ref 1 [] 134))::sv53
abbrev sv55:List Shape:=[(.int .i64),(.int .i64),(.slice 63),(.slice 73),(.slice 78),(.acc 3 63),(.acc 4 73),(.acc 5 78),(.acc 6 63),(.acc 7 73),(.acc 8 78)]
abbrev sv56:List Shape:=[(.con (.ref 1 [] 26)),(.con (.ref 2 [] 26)),(.slice 63),(.slice 73),(.slice 78),(.acc 3 63),(.acc 4 73),(.acc 5 78),(.acc 6 63),(.acc 7 73),(.acc 8 78)]
def F255 (uu:Nat) (a0:Int):Option (Bool):=
 some ((af6 .and .i64 a0 (IntKind.wrap .i64 (a0-(1:Int))))==(0:Int))
def F255c (uu:Nat):CallE:=⟨255,⟨1,[],[(.int .i64)]⟩,⟨1,[],[.bool]⟩,fun x=>F255 uu x,false⟩
theorem F255ok (uu:Nat):(F255c uu).Ok Tryz.prog:=okJ Tryz.f255 8 0 uu [] [] false (q0) (p0) L0
abbrev S226_12x:=(List PV)×Int×Bool×Bool×(List PV)×(List UInt8)×Unit×Int×Int×Int×Int×PV
abbrev S226_12y:=((List PV)×Int×Bool×Bool×(List PV)×(List UInt8)×Unit×Int×PV)
def S226_12 (uu:Nat) (a14:List PV) (a15:Int) (a16:Bool) (a17:Bool) (a18:List PV) (a19:List UInt8) (a20:Unit) (a21:Int) (a22:Int) (a23:Int) (a24:Int) (a25:PV):Option (S226_12x⊕S226_12y):=
 bif (decide (a15≥a23)) then
 let x27:=IntKind.wrap .i64 (a21-(1:Int))
 let x28:=af6 .and .u64 a15 a24
 bif aaa x28 (([48,49,50,51,52,53,54,55,56,57,97,98,99,100,101,102,103,104,105,106,107,108,109,110,111,112,113,114,115,116,117,118,119,120,121,122]:List UInt8).length) then
 let x29:=((([48,49,50,51,52,53,54,55,56,57,97,98,99,100,101,102,103,104,105,106,107,108,109,110,111,112,113,114,115,116,117,118,119,120,121,122]:List UInt8).getD x28.toNat 0).toNat:Int)
 bif aaa x27 65 then
 bif decide (0<=a22) then
 some (.inl (a14,(a15.fdiv (2^(min a22.toNat (IntKind.bits .u64)))),a16,a17,a18,a19,(),x27,a22,a23,a24,(PV.agg (a25.parts.set x27.toNat (PV.int x29)))))
 else none
 else none
 else none
 else
 some (.inr (a14,a15,a16,a17,a18,a19,(),a21,a25))
def S226_12step (uu:Nat) (x:S226_12x):Option (S226_12x⊕S226_12y):=S226_12 uu x.1 x.2.1 x.2.2.1 x.2.2.2.1 x.2.2.2.2.1 x.2.2.2.2.2.1 x.2.2.2.2.2.2.1 x.2.2.2.2.2.2.2.1 x.2.2.2.2.2.2.2.2.1 x.2.2.2.2.2.2.2.2.2.1 x.2.2.2.2.2.2.2.2.2.2.1 x.2.2.2.2.2.2.2.2.2.2.2
abbrev S226_19x:=(List PV)×Int×Bool×Bool×(List PV)×(List UInt8)×Unit×Int×Int×PV
abbrev S226_19y:=((List PV)×Int×Bool×Bool×(List PV)×(List UInt8)×Unit×Int×PV)
def S226_19 (uu:Nat) (a45:List PV) (a46:Int) (a47:Bool) (a48:Bool) (a49:List PV) (a50:List UInt8) (a51:Unit) (a52:Int) (a53:Int) (a54:PV):Option (S226_19x⊕S226_19y):=
 bif (decide (a46≥a53)) then
 let x56:=IntKind.wrap .i64 (a52-(1:Int))
 bif !(decide (a53=0)) then
 let x57:=IntKind.wrap .u64 (a46.tdiv a53)
 let x59:=IntKind.wrap .u64 (a46-(IntKind.wrap .u64 (x57*a53)))
 bif aaa x59 (([48,49,50,51,52,53,54,55,56,57,97,98,99,100,101,102,103,104,105,106,107,108,109,110,111,112,113,114,115,116,117,118,119,120,121,122]:List UInt8).length) then
 let x60:=((([48,49,50,51,52,53,54,55,56,57,97,98,99,100,101,102,103,104,105,106,107,108,109,110,111,112,113,114,115,116,117,118,119,120,121,122]:List UInt8).getD x59.toNat 0).toNat:Int)
 bif aaa x56 65 then
 some (.inl (a45,x57,a47,a48,a49,a50,(),x56,a53,(PV.agg (a54.parts.set x56.toNat (PV.int x60)))))
 else none
 else none
 else none
 else
 some (.inr (a45,a46,a47,a48,a49,a50,(),a52,a54))
def S226_19step (uu:Nat) (x:S226_19x):Option (S226_19x⊕S226_19y):=S226_19 uu x.1 x.2.1 x.2.2.1 x.2.2.2.1 x.2.2.2.2.1 x.2.2.2.2.2.1 x.2.2.2.2.2.2.1 x.2.2.2.2.2.2.2.1 x.2.2.2.2.2.2.2.2.1 x.2.2.2.2.2.2.2.2.2
def F226 (uu:Nat) (a0:List PV) (a1:Int) (a2:Int) (a3:Bool) (a4:Bool):Option ((List PV)×(List UInt8)):=
 bif (bif (bif (decide (a2<(2:Int))) then true else (a2==(10:Int))) then true else (decide (a2>(36:Int)))) then
 none
 else
 bif a3 then
 let x6:=IntKind.wrap .u64 (0-a1)
 (F255 uu a2).bind fun y7=>
 bif y7 then
 (Ltz uu (IntKind.wrap .u64 a2)).bind fun y9=>
 (aah uu (S226_12step uu) (a0,x6,a3,a4,[],([]:List UInt8),(),(65:Int),(IntKind.wrap .u64 y9),(IntKind.wrap .u64 a2),(IntKind.wrap .u64 ((IntKind.wrap .u64 a2)-(1:Int))),(PV.agg (List.replicate 65 (PV.int (0:Int)))))).bind fun y31=>
 let x33:=IntKind.wrap .i64 (y31.2.2.2.2.2.2.2.1-(1:Int))
 let x34:=y31.2.1
 bif aaa x34 (([48,49,50,51,52,53,54,55,56,57,97,98,99,100,101,102,103,104,105,106,107,108,109,110,111,112,113,114,115,116,117,118,119,120,121,122]:List UInt8).length) then
 let x35:=((([48,49,50,51,52,53,54,55,56,57,97,98,99,100,101,102,103,104,105,106,107,108,109,110,111,112,113,114,115,116,117,118,119,120,121,122]:List UInt8).getD x34.toNat 0).toNat:Int)
 bif aaa x33 65 then
 bif y31.2.2.1 then
 let x37:=IntKind.wrap .i64 (x33-(1:Int))
 bif aaa x37 65 then
 bif y31.2.2.2.1 then
 bif decide (0<=x37/\x37<65/\x37<=(65:Int)/\(65:Int)<=65) then
 none
 else none
 else
 bif decide (0<=x37/\x37<65/\x37<=(65:Int)/\(65:Int)<=65) then
 let x40:=(((PV.agg ((PV.agg (y31.2.2.2.2.2.2.2.2.parts.set x33.toNat (PV.int x35))).parts.set x37.toNat (PV.int (45:Int)))).parts.drop x37.toNat).take ((65:Int).toNat-x37.toNat)).map aa9
 some (y31.2.2.2.2.1,x40)
 else none
 else none
 else
 bif y31.2.2.2.1 then
 bif decide (0<=x33/\x33<65/\x33<=(65:Int)/\(65:Int)<=65) then
 none
 else none
 else
 bif decide (0<=x33/\x33<65/\x33<=(65:Int)/\(65:Int)<=65) then
 let x43:=(((PV.agg (y31.2.2.2.2.2.2.2.2.parts.set x33.toNat (PV.int x35))).parts.drop x33.toNat).take ((65:Int).toNat-x33.toNat)).map aa9
 some (y31.2.2.2.2.1,x43)
 else none
 else none
 else none
 else
 (aah uu (S226_19step uu) (a0,x6,a3,a4,[],([]:List UInt8),(),(65:Int),(IntKind.wrap .u64 a2),(PV.agg (List.replicate 65 (PV.int (0:Int)))))).bind fun y61=>
 let x63:=IntKind.wrap .i64 (y61.2.2.2.2.2.2.2.1-(1:Int))
 let x64:=y61.2.1
 bif aaa x64 (([48,49,50,51,52,53,54,55,56,57,97,98,99,100,101,102,103,104,105,106,107,108,109,110,111,112,113,114,115,116,117,118,119,120,121,122]:List UInt8).length) then
 let x65:=((([48,49,50,51,52,53,54,55,56,57,97,98,99,100,101,102,103,104,105,106,107,108,109,110,111,112,113,114,115,116,117,118,119,120,121,122]:List UInt8).getD x64.toNat 0).toNat:Int)
 bif aaa x63 65 then
 bif y61.2.2.1 then
 let x67:=IntKind.wrap .i64 (x63-(1:Int))
 bif aaa x67 65 then
 bif y61.2.2.2.1 then
 bif decide (0<=x67/\x67<65/\x67<=(65:Int)/\(65:Int)<=65) then
 none
 else none
 else
 bif decide (0<=x67/\x67<65/\x67<=(65:Int)/\(65:Int)<=65) then
 let x70:=(((PV.agg ((PV.agg (y61.2.2.2.2.2.2.2.2.parts.set x63.toNat (PV.int x65))).parts.set x67.toNat (PV.int (45:Int)))).parts.drop x67.toNat).take ((65:Int).toNat-x67.toNat)).map aa9
 some (y61.2.2.2.2.1,x70)
 else none
 else none
 else
 bif y61.2.2.2.1 then
 bif decide (0<=x63/\x63<65/\x63<=(65:Int)/\(65:Int)<=65) then
 none
 else none
 else
 bif decide (0<=x63/\x63<65/\x63<=(65:Int)/\(65:Int)<=65) then
 let x73:=(((PV.agg (y61.2.2.2.2.2.2.2.2.parts.set x63.toNat (PV.int x65))).parts.drop x63.toNat).take ((65:Int).toNat-x63.toNat)).map aa9
 some (y61.2.2.2.2.1,x73)
 else none
 else none
 else none
 else
 (F255 uu a2).bind fun y74=>
 bif y74 then
 (Ltz uu (IntKind.wrap .u64 a2)).bind fun y76=>
 (aah uu (S226_12step uu) (a0,a1,a3,a4,[],([]:List UInt8),(),(65:Int),(IntKind.wrap .u64 y76),(IntKind.wrap .u64 a2),(IntKind.wrap .u64 ((IntKind.wrap .u64 a2)-(1:Int))),(PV.agg (List.replicate 65 (PV.int (0:Int)))))).bind fun y81=>
 let x83:=IntKind.wrap .i64 (y81.2.2.2.2.2.2.2.1-(1:Int))
 let x84:=y81.2.1
 bif aaa x84 (([48,49,50,51,52,53,54,55,56,57,97,98,99,100,101,102,103,104,105,106,107,108,109,110,111,112,113,114,115,116,117,118,119,120,121,122]:List UInt8).length) then
 let x85:=((([48,49,50,51,52,53,54,55,56,57,97,98,99,100,101,102,103,104,105,106,107,108,109,110,111,112,113,114,115,116,117,118,119,120,121,122]:List UInt8).getD x84.toNat 0).toNat:Int)
 bif aaa x83 65 then
 bif y81.2.2.1 then
 let x87:=IntKind.wrap .i64 (x83-(1:Int))
 bif aaa x87 65 then
 bif y81.2.2.2.1 then
 bif decide (0<=x87/\x87<65/\x87<=(65:Int)/\(65:Int)<=65) then
 none
 else none
 else
 bif decide (0<=x87/\x87<65/\x87<=(65:Int)/\(65:Int)<=65) then
 let x90:=(((PV.agg ((PV.agg (y81.2.2.2.2.2.2.2.2.parts.set x83.toNat (PV.int x85))).parts.set x87.toNat (PV.int (45:Int)))).parts.drop x87.toNat).take ((65:Int).toNat-x87.toNat)).map aa9
 some (y81.2.2.2.2.1,x90)
 else none
 else none
 else
 bif y81.2.2.2.1 then
 bif decide (0<=x83/\x83<65/\x83<=(65:Int)/\(65:Int)<=65) then
 none
 else none
 else
 bif decide (0<=x83/\x83<65/\x83<=(65:Int)/\(65:Int)<=65) then
 let x93:=(((PV.agg (y81.2.2.2.2.2.2.2.2.parts.set x83.toNat (PV.int x85))).parts.drop x83.toNat).take ((65:Int).toNat-x83.toNat)).map aa9
 some (y81.2.2.2.2.1,x93)
 else none
 else none
 else none
 else
 (aah uu (S226_19step uu) (a0,a1,a3,a4,[],([]:List UInt8),(),(65:Int),(IntKind.wrap .u64 a2),(PV.agg (List.replicate 65 (PV.int (0:Int)))))).bind fun y95=>
 let x97:=IntKind.wrap .i64 (y95.2.2.2.2.2.2.2.1-(1:Int))
 let x98:=y95.2.1
 bif aaa x98 (([48,49,50,51,52,53,54,55,56,57,97,98,99,100,101,102,103,104,105,106,107,108,109,110,111,112,113,114,115,116,117,118,119,120,121,122]:List UInt8).length) then
 let x99:=((([48,49,50,51,52,53,54,55,56,57,97,98,99,100,101,102,103,104,105,106,107,108,109,110,111,112,113,114,115,116,117,118,119,120,121,122]:List UInt8).getD x98.toNat 0).toNat:Int)
 bif aaa x97 65 then
 bif y95.2.2.1 then
 let x101:=IntKind.wrap .i64 (x97-(1:Int))
 bif aaa x101 65 then
 bif y95.2.2.2.1 then
 bif decide (0<=x101/\x101<65/\x101<=(65:Int)/\(65:Int)<=65) then
 none
 else none
 else
 bif decide (0<=x101/\x101<65/\x101<=(65:Int)/\(65:Int)<=65) then
 let x104:=(((PV.agg ((PV.agg (y95.2.2.2.2.2.2.2.2.parts.set x97.toNat (PV.int x99))).parts.set x101.toNat (PV.int (45:Int)))).parts.drop x101.toNat).take ((65:Int).toNat-x101.toNat)).map aa9
 some (y95.2.2.2.2.1,x104)
 else none
 else none
 else
 bif y95.2.2.2.1 then
 bif decide (0<=x97/\x97<65/\x97<=(65:Int)/\(65:Int)<=65) then
 none
 else none
 else
 bif decide (0<=x97/\x97<65/\x97<=(65:Int)/\(65:Int)<=65) then
 let x107:=(((PV.agg (y95.2.2.2.2.2.2.2.2.parts.set x97.toNat (PV.int x99))).parts.drop x97.toNat).take ((65:Int).toNat-x97.toNat)).map aa9
 some (y95.2.2.2.2.1,x107)
 else none
 else none
 else none
def S226_12l (uu:Nat):LoopE:=⟨12,⟨[0,1,3,4,10,11,12,13,14,15,16],bx0,[(.slice 5),(.int .u64),.bool,.bool,(.acc 1 5),.str,(.con (.ref 0 [] 303)),(.int .i64),(.int .u64),(.int .u64),(.int .u64),(.data 303)]⟩,[(.exit 0,⟨[0,1,3,4,10,11,12,13],bx0,[(.slice 5),(.int .u64),.bool,.bool,(.acc 1 5),.str,(.con (.ref 0 [] 303)),(.int .i64),(.data 303)]⟩)],S226_12step uu⟩
def S226_19l (uu:Nat):LoopE:=⟨19,⟨[0,1,3,4,10,11,12,13,17],bx0,[(.slice 5),(.int .u64),.bool,.bool,(.acc 1 5),.str,(.con (.ref 0 [] 303)),(.int .i64),(.int .u64),(.data 303)]⟩,[(.exit 2,⟨[0,1,3,4,10,11,12,13],bx0,[(.slice 5),(.int .u64),.bool,.bool,(.acc 1 5),.str,(.con (.ref 0 [] 303)),(.int .i64),(.data 303)]⟩)],S226_19step uu⟩
def F226C (uu:Nat):Cfg:=cfg Tryz.prog 102 0 [F255c uu,Ltzc uu] [S226_12l uu,S226_19l uu] uu
def F226c (uu:Nat):CallE:=⟨226,⟨5,[],[(.slice 5),(.int .u64),(.int .i64),.bool,.bool]⟩,⟨2,[],[(.slice 5),.str]⟩,fun x=>F226 uu x.1 x.2.1 x.2.2.1 x.2.2.2.1 x.2.2.2.2,([],[])⟩
theorem F226k (uu:Nat):aal (F226C uu):=aad (qc (F255ok uu)<|qc (Ltzok uu)<|q0) (p0)
theorem S226_12ok (uu:Nat):LoopOk (F226C uu) (lp (aai Tryz.f226) 0):=okL (F226k uu) uu (S226_12l uu) L0
theorem S226_19ok (uu:Nat):LoopOk (F226C uu) (lp (aai Tryz.f226) 1):=okL (F226k uu) uu (S226_19l uu) L0
theorem F226ok (uu:Nat):(F226c uu).Ok Tryz.prog:=okE Tryz.f226 (F226k uu) (L2 (S226_12ok uu) (S226_19ok uu))
def F322 (uu:Nat) (a0:Int) (a1:Int):Option ((List UInt8)):=
 bif (a1==(10:Int)) then
 bif (decide (a0<(100:Int))) then
 none
 else
 none
 else
 (F226 uu [] a0 a1 false false).bind fun y4=>
 some y4.2
def F322c (uu:Nat):CallE:=⟨322,⟨2,[],[(.int .u64),(.int .i64)]⟩,⟨1,[],[.str]⟩,fun x=>F322 uu x.1 x.2,[]⟩
theorem F322ok (uu:Nat):(F322c uu).Ok Tryz.prog:=okJ Tryz.f322 32 0 uu _ [] false (qc (F226ok uu)<|q0) (p0) L0
def Lfmt (uu:Nat) (u base:Int):Option (List UInt8):=bif decide (base=10) then at2 uu u base else F322 uu u base
def a4h (uu:Nat):CallE:={ f:=322,A:=⟨2,[],[.int .u64,.int .i64]⟩,R:=⟨1,[],[.str]⟩,F:=fun x=>Lfmt uu x.1 x.2,dflt:=[] }
theorem a4i (uu:Nat):(a4h uu).Ok Tryz.prog:=by
 intro x y h
 have h:Lfmt uu x.1 x.2=some y:=h
 unfold Lfmt at h
 cases hb:decide (x.2=10) with
 | true=>rw [hb] at h;exact a2g uu x y h
 | false=>rw [hb] at h;exact F322ok uu x y h
def F86 (uu:Nat) (a0:PV) (a1:Unit) (a2:List UInt8):Option (Bool×(List UInt8)):=
 some ((((a0.fld 0).asStr)==a2),a2)
def F86c (uu:Nat):CallE:=⟨86,⟨2,bx1,(.data 63)::sv0⟩,⟨1,bx1,[.bool,.str]⟩,fun x=>F86 uu x.1 x.2.1 x.2.2,(false,[])⟩
theorem F86ok (uu:Nat):(F86c uu).Ok Tryz.prog:=okJ Tryz.f86 8 1 uu [] [] false (q0) (p0) L0
abbrev S85_3x:=Unit×Unit×(List PV)×Int×Int×(List UInt8)×PV
abbrev S85_3y:=(Unit×Bool×(List UInt8)×PV)⊕(Unit×(List UInt8)×PV)
def S85_3 (uu:Nat) (a2:Unit) (a3:Unit) (a4:List PV) (a5:Int) (a6:Int) (a7:List UInt8) (a8:PV):Option (S85_3x⊕S85_3y):=
 bif (decide (a6<a5)) then
 bif aaa a6 a4.length then
 let x10:=a4.getD a6.toNat .bad
 (F86 uu x10 () a7).bind fun y11=>
 bif y11.1 then
 some (.inr (.inl ((),true,y11.2,x10)))
 else
 some (.inl ((),(),a4,a5,(IntKind.wrap .i64 (a6+(1:Int))),y11.2,a8))
 else none
 else
 some (.inr (.inr ((),a7,a8)))
def S85_3step (uu:Nat) (x:S85_3x):Option (S85_3x⊕S85_3y):=S85_3 uu x.1 x.2.1 x.2.2.1 x.2.2.2.1 x.2.2.2.2.1 x.2.2.2.2.2.1 x.2.2.2.2.2.2
def F85 (uu:Nat) (a0:List PV) (a1:Unit) (a2:List UInt8):Option (PV×Bool×(List UInt8)):=
 (aah uu (S85_3step uu) ((),(),a0,(a0.length:Int),(0:Int),a2,(PV.agg [(PV.str ([]:List UInt8)),(PV.slice []),(PV.slice []),(PV.slice []),(PV.slice [])]))).bind fun z=>sumE (fun y13=>
 some (y13.2.2.2,y13.2.1,y13.2.2.1)
 ) (fun y14=>
 some ((PV.agg [(PV.str ([]:List UInt8)),(PV.slice []),(PV.slice []),(PV.slice []),(PV.slice [])]),false,y14.2.1)
 ) z
def S85_3l (uu:Nat):LoopE:=⟨3,⟨[1,4,9,10,11],bx2,(.con (.fn 86 0 [(.ref 0 [] 9)]))::(.con (.ref 1 [] 63))::(.slice 63)::(.int .i64)::(.int .i64)::sv1⟩,[(.ret,⟨[4,5],bx2,(.con (.ref 1 [] 63))::.bool::sv1⟩),(.exit 0,⟨[4],bx2,(.con (.ref 1 [] 63))::sv1⟩)],S85_3step uu⟩
def F85C (uu:Nat):Cfg:=cfg Tryz.prog 21 1 [F86c uu] [S85_3l uu] uu
def F85c (uu:Nat):CallE:=⟨85,⟨2,bx1,[(.slice 63),(.con (.fn 86 0 [(.ref 0 [] 9)])),.str]⟩,⟨2,bx1,[(.data 63),.bool,.str]⟩,fun x=>F85 uu x.1 x.2.1 x.2.2,(PV.bad,false,[])⟩
theorem F85k (uu:Nat):aal (F85C uu):=aad (qc (F86ok uu)<|q0) (p0)
theorem S85_3ok (uu:Nat):LoopOk (F85C uu) (lp (aai Tryz.f85) 0):=okL (F85k uu) uu (S85_3l uu) L0
theorem F85ok (uu:Nat):(F85c uu).Ok Tryz.prog:=okE Tryz.f85 (F85k uu) (L1 (S85_3ok uu))
def F35 (uu:Nat) (a0:PV) (a1:List UInt8):Option (PV×Bool):=
 (F85 uu ((a0.fld 0).asList) () a1).bind fun y2=>
 some (y2.1,y2.2.1)
def F35c (uu:Nat):CallE:=⟨35,⟨2,[],sv2⟩,⟨2,[],[(.data 63),.bool]⟩,fun x=>F35 uu x.1 x.2,(PV.bad,false)⟩
theorem F35ok (uu:Nat):(F35c uu).Ok Tryz.prog:=okJ Tryz.f35 12 0 uu _ [] false (qc (F85ok uu)<|q0) (p0) L0
def F194 (uu:Nat) (a0:PV) (a1:Unit) (a2:Int):Option (Bool×Int):=
 some ((((a0.fld 0).asInt)==a2),a2)
def F194c (uu:Nat):CallE:=⟨194,⟨2,bx3,[(.data 59),(.con (.ref 0 [] 3)),(.int .i64)]⟩,⟨1,bx3,sv3⟩,fun x=>F194 uu x.1 x.2.1 x.2.2,(false,0)⟩
theorem F194ok (uu:Nat):(F194c uu).Ok Tryz.prog:=okJ Tryz.f194 8 1 uu [] [] false (q0) (p0) L0
abbrev S193_3x:=Unit×Unit×(List PV)×Int×Int×Int×PV
abbrev S193_3y:=(Unit×Bool×Int×PV)⊕(Unit×Int×PV)
def S193_3 (uu:Nat) (a2:Unit) (a3:Unit) (a4:List PV) (a5:Int) (a6:Int) (a7:Int) (a8:PV):Option (S193_3x⊕S193_3y):=
 bif (decide (a6<a5)) then
 bif aaa a6 a4.length then
 let x10:=a4.getD a6.toNat .bad
 (F194 uu x10 () a7).bind fun y11=>
 bif y11.1 then
 some (.inr (.inl ((),true,y11.2,x10)))
 else
 some (.inl ((),(),a4,a5,(IntKind.wrap .i64 (a6+(1:Int))),y11.2,a8))
 else none
 else
 some (.inr (.inr ((),a7,a8)))
def S193_3step (uu:Nat) (x:S193_3x):Option (S193_3x⊕S193_3y):=S193_3 uu x.1 x.2.1 x.2.2.1 x.2.2.2.1 x.2.2.2.2.1 x.2.2.2.2.2.1 x.2.2.2.2.2.2
def F193 (uu:Nat) (a0:List PV) (a1:Unit) (a2:Int):Option (PV×Bool×Int):=
 (aah uu (S193_3step uu) ((),(),a0,(a0.length:Int),(0:Int),a2,(PV.agg [(PV.int (0:Int)),(PV.str ([]:List UInt8)),(PV.int (0:Int)),(PV.int (0:Int)),(PV.agg [(PV.int (0:Int)),(PV.str ([]:List UInt8))]),(PV.str ([]:List UInt8)),(PV.bool false),(PV.agg [(PV.int (0:Int)),(PV.int (0:Int)),(PV.str ([]:List UInt8)),(PV.slice []),(PV.slice []),(PV.slice []),(PV.slice [])]),(PV.slice [])]))).bind fun z=>sumE (fun y13=>
 some (y13.2.2.2,y13.2.1,y13.2.2.1)
 ) (fun y14=>
 some ((PV.agg [(PV.int (0:Int)),(PV.str ([]:List UInt8)),(PV.int (0:Int)),(PV.int (0:Int)),(PV.agg [(PV.int (0:Int)),(PV.str ([]:List UInt8))]),(PV.str ([]:List UInt8)),(PV.bool false),(PV.agg [(PV.int (0:Int)),(PV.int (0:Int)),(PV.str ([]:List UInt8)),(PV.slice []),(PV.slice []),(PV.slice []),(PV.slice [])]),(PV.slice [])]),false,y14.2.1)
 ) z
def S193_3l (uu:Nat):LoopE:=⟨3,⟨[1,4,9,10,11],bx4,(.con (.fn 194 0 [(.ref 0 [] 3)]))::(.con (.ref 1 [] 59))::(.slice 59)::(.int .i64)::(.int .i64)::sv4⟩,[(.ret,⟨[4,5],bx4,(.con (.ref 1 [] 59))::.bool::sv4⟩),(.exit 0,⟨[4],bx4,(.con (.ref 1 [] 59))::sv4⟩)],S193_3step uu⟩
def F193C (uu:Nat):Cfg:=cfg Tryz.prog 21 1 [F194c uu] [S193_3l uu] uu
def F193c (uu:Nat):CallE:=⟨193,⟨2,bx3,[(.slice 59),(.con (.fn 194 0 [(.ref 0 [] 3)])),(.int .i64)]⟩,⟨2,bx3,(.data 59)::sv3⟩,fun x=>F193 uu x.1 x.2.1 x.2.2,(PV.bad,false,0)⟩
theorem F193k (uu:Nat):aal (F193C uu):=aad (qc (F194ok uu)<|q0) (p0)
theorem S193_3ok (uu:Nat):LoopOk (F193C uu) (lp (aai Tryz.f193) 0):=okL (F193k uu) uu (S193_3l uu) L0
theorem F193ok (uu:Nat):(F193c uu).Ok Tryz.prog:=okE Tryz.f193 (F193k uu) (L1 (S193_3ok uu))
def F129 (uu:Nat) (a0:PV) (a1:Int):Option (PV×Bool):=
 (F193 uu ((a0.fld 1).asList) () a1).bind fun y2=>
 some (y2.1,y2.2.1)
def F129c (uu:Nat):CallE:=⟨129,⟨2,[],[(.data 63),(.int .i64)]⟩,⟨2,[],[(.data 59),.bool]⟩,fun x=>F129 uu x.1 x.2,(PV.bad,false)⟩
theorem F129ok (uu:Nat):(F129c uu).Ok Tryz.prog:=okJ Tryz.f129 12 0 uu _ [] false (qc (F193ok uu)<|q0) (p0) L0
def F36 (uu:Nat) (a0:Unit) (a1:List PV) (a2:List PV):Option ((List PV)):=
 bif decide (a2.length+a1.length<=aam) then
 some (a2++a1)
 else none
def F36c (uu:Nat):CallE:=⟨36,⟨2,bx5,[(.con (.ref 0 [] 66)),(.slice 34),(.acc 1 34)]⟩,⟨0,bx5,[(.acc 1 34)]⟩,fun x=>F36 uu x.1 x.2.1 x.2.2,[]⟩
theorem F36ok (uu:Nat):(F36c uu).Ok Tryz.prog:=okJ Tryz.f36 13 2 uu [] [] false (q0) (p0) L0
def F153 (uu:Nat) (a0:Unit) (a1:Int) (a2:List UInt8) (a3:Int) (a4:List UInt8) (a5:List UInt8) (a6:Bool) (a7:List PV):Option ((List PV)):=
 bif a6 then
 (F36 uu () [(PV.agg [(PV.int a1),(PV.str a2),(PV.int a3),(PV.str a4),(PV.str a5)])] a7).bind fun y1=>
 some y1
 else
 some a7
def F153c (uu:Nat):CallE:=⟨153,⟨7,bx5,[(.con (.ref 0 [] 66)),(.int .i64),.str,(.int .i64),.str,.str,.bool,(.acc 1 34)]⟩,⟨0,bx5,[(.acc 1 34)]⟩,fun x=>F153 uu x.1 x.2.1 x.2.2.1 x.2.2.2.1 x.2.2.2.2.1 x.2.2.2.2.2.1 x.2.2.2.2.2.2.1 x.2.2.2.2.2.2.2,[]⟩
theorem F153ok (uu:Nat):(F153c uu).Ok Tryz.prog:=okJ Tryz.f153 24 2 uu _ [] false (qc (F36ok uu)<|q0) (p0) L0
def F247 (uu:Nat) (a0:Int):Option (Bool):=
 some (bif (decide (a0≥(1:Int))) then (decide (a0<=(8:Int))) else false)
def F247c (uu:Nat):CallE:=⟨247,⟨1,[],[(.int .i64)]⟩,⟨1,[],[.bool]⟩,fun x=>F247 uu x,false⟩
theorem F247ok (uu:Nat):(F247c uu).Ok Tryz.prog:=okJ Tryz.f247 9 0 uu [] [] false (q0) (p0) L0
def F249 (uu:Nat) :Option (PV):=
 let x1:=(PV.agg [(PV.str ([98,111,111,108]:List UInt8)),(PV.str ([105,51,50]:List UInt8)),(PV.str ([105,54,52]:List UInt8)),(PV.str ([117,51,50]:List UInt8)),(PV.str ([117,54,52]:List UInt8)),(PV.str ([100,111,117,98,108,101]:List UInt8)),(PV.str ([116,101,120,116]:List UInt8)),(PV.str ([98,121,116,101,115]:List UInt8))])
 some x1
def F249c (uu:Nat):CallE:=⟨249,⟨0,[],[]⟩,⟨1,[],[(.data 299)]⟩,fun x=>F249 uu ,PV.bad⟩
theorem F249ok (uu:Nat):(F249c uu).Ok Tryz.prog:=okJ Tryz.f249 2 0 uu [] [] false (q0) (p0) L0
def F214 (uu:Nat) (a0:Int):Option ((List UInt8)):=
 bif (bif (decide (a0<(1:Int))) then true else (decide (a0>(8:Int)))) then
 some ([]:List UInt8)
 else
 (F249 uu).bind fun y4=>
 let x5:=IntKind.wrap .i64 (a0-(1:Int))
 bif aaa x5 8 then
 some ((y4.fld x5.toNat).asStr)
 else none
def F214c (uu:Nat):CallE:=⟨214,⟨1,[],[(.int .i64)]⟩,⟨1,[],[.str]⟩,fun x=>F214 uu x,[]⟩
theorem F214ok (uu:Nat):(F214c uu).Ok Tryz.prog:=okJ Tryz.f214 13 0 uu _ [] false (qc (F249ok uu)<|q0) (p0) L0
def F257 (uu:Nat) (a0:List UInt8) (a1:List UInt8):Option (Bool):=
 let x3:=decide ((a0.length:Int)≥(a1.length:Int))
 let x4:=(a1.length:Int)
 bif imp x3 (decide (0<=(0:Int)/\(0:Int)<=x4/\x4<=(a0.length:Int))) then
 some (bif x3 then (((a0.take x4.toNat).drop (0:Int).toNat)==a1) else false)
 else none
def F257c (uu:Nat):CallE:=⟨257,⟨2,[],[.str,.str]⟩,⟨1,[],[.bool]⟩,fun x=>F257 uu x.1 x.2,false⟩
theorem F257ok (uu:Nat):(F257c uu).Ok Tryz.prog:=okJ Tryz.f257 18 0 uu [] [] false (q0) (p0) L0
def F301 (uu:Nat) (a0:List UInt8) (a1:List UInt8):Option ((List UInt8)):=
 (F257 uu a0 a1).bind fun y1=>
 bif y1 then
 let x2:=(a1.length:Int)
 bif decide (0<=x2/\x2<=(a0.length:Int)/\(a0.length:Int)<=(a0.length:Int)) then
 some ((a0.take (a0.length:Int).toNat).drop x2.toNat)
 else none
 else
 some a0
def F301c (uu:Nat):CallE:=⟨301,⟨2,[],[.str,.str]⟩,⟨1,[],[.str]⟩,fun x=>F301 uu x.1 x.2,[]⟩
theorem F301ok (uu:Nat):(F301c uu).Ok Tryz.prog:=okJ Tryz.f301 13 0 uu _ [] false (qc (F257ok uu)<|q0) (p0) L0
def F281 (uu:Nat) (a0:List UInt8) (a1:List UInt8):Option ((List UInt8)):=
 (F301 uu a0 a1).bind fun y1=>
 some y1
def F281c (uu:Nat):CallE:=⟨281,⟨2,[],[.str,.str]⟩,⟨1,[],[.str]⟩,fun x=>F281 uu x.1 x.2,[]⟩
theorem F281ok (uu:Nat):(F281c uu).Ok Tryz.prog:=okJ Tryz.f281 8 0 uu _ [] false (qc (F301ok uu)<|q0) (p0) L0
def F315 (uu:Nat) (a0:Int):Option (Int):=
 bif (bif (decide (a0≥(97:Int))) then (decide (a0<=(122:Int))) else false) then
 some (1:Int)
 else
 bif (bif (decide (a0≥(65:Int))) then (decide (a0<=(90:Int))) else false) then
 some (2:Int)
 else
 bif (bif (decide (a0≥(48:Int))) then (decide (a0<=(57:Int))) else false) then
 some (3:Int)
 else
 bif (a0==(95:Int)) then
 some (4:Int)
 else
 some (0:Int)
def F315c (uu:Nat):CallE:=⟨315,⟨1,[],[(.int .i32)]⟩,⟨1,[],[(.int .i64)]⟩,fun x=>F315 uu x,0⟩
theorem F315ok (uu:Nat):(F315c uu).Ok Tryz.prog:=okJ Tryz.f315 27 0 uu [] [] false (q0) (p0) L0
abbrev S300_3x:=(List UInt8)×Unit×(List UInt8)×Int
abbrev S300_3y:=(Bool×(List UInt8)×Int)⊕((List UInt8)×(List UInt8)×Int)
def S300_3 (uu:Nat) (a1:List UInt8) (a2:Unit) (a3:List UInt8) (a4:Int):Option (S300_3x⊕S300_3y):=
 bif (decide (a4.toNat<a3.length)) then
 bif decide (a4.toNat<a3.length) then
 bif decide (a4.toNat<a3.length) then
 (F315 uu ((Utf8.decode ⟨a3.toArray⟩ a4.toNat).1:Int)).bind fun y8=>
 bif (bif (y8==(0:Int)) then true else (bif (bif ((a4.toNat:Int)==(0:Int)) then (y8 != (1:Int)) else false) then (y8 != (2:Int)) else false)) then
 some (.inr (.inl (false,a3,((bif decide (a4.toNat<a3.length) then a4.toNat+(Utf8.decode ⟨a3.toArray⟩ a4.toNat).2 else a4.toNat:Nat):Int))))
 else
 some (.inl (a1,(),a3,((bif decide (a4.toNat<a3.length) then a4.toNat+(Utf8.decode ⟨a3.toArray⟩ a4.toNat).2 else a4.toNat:Nat):Int)))
 else none
 else none
 else
 some (.inr (.inr (a1,a3,((bif decide (a4.toNat<a3.length) then a4.toNat+(Utf8.decode ⟨a3.toArray⟩ a4.toNat).2 else a4.toNat:Nat):Int))))
def S300_3step (uu:Nat) (x:S300_3x):Option (S300_3x⊕S300_3y):=S300_3 uu x.1 x.2.1 x.2.2.1 x.2.2.2
def F300 (uu:Nat) (a0:List UInt8):Option (Bool):=
 (aah uu (S300_3step uu) (a0,(),a0,((0:Nat):Int))).bind fun z=>sumE (fun y16=>
 some y16.1
 ) (fun y17=>
 some (bif (decide ((y17.1.length:Int)≥(1:Int))) then (decide ((y17.1.length:Int)<=(40:Int))) else false)
 ) z
def S300_3l (uu:Nat):LoopE:=⟨3,⟨[0,7],[.iter],.str::(.con (.iref 0))::sv5⟩,[(.ret,⟨[2],[.iter],.bool::sv5⟩),(.exit 0,⟨[0],[.iter],sv6⟩)],S300_3step uu⟩
def F300C (uu:Nat):Cfg:=cfg Tryz.prog 36 0 [F315c uu] [S300_3l uu] uu
def F300c (uu:Nat):CallE:=⟨300,⟨1,[],[.str]⟩,⟨1,[],[.bool]⟩,fun x=>F300 uu x,false⟩
theorem F300k (uu:Nat):aal (F300C uu):=aad (qc (F315ok uu)<|q0) (p0)
theorem S300_3ok (uu:Nat):LoopOk (F300C uu) (lp (aai Tryz.f300) 0):=okL (F300k uu) uu (S300_3l uu) L0
theorem F300ok (uu:Nat):(F300c uu).Ok Tryz.prog:=okE Tryz.f300 (F300k uu) (L1 (S300_3ok uu))
abbrev S280_3x:=(List UInt8)×(List PV)×Int×Int
abbrev S280_3y:=(Bool)⊕((List UInt8))
def S280_3 (uu:Nat) (a3:List UInt8) (a4:List PV) (a5:Int) (a6:Int):Option (S280_3x⊕S280_3y):=
 bif (decide (a6<a5)) then
 bif aaa a6 a4.length then
 (F300 uu (a4.getD a6.toNat .bad).asStr).bind fun y10=>
 bif (!y10) then
 some (.inr (.inl false))
 else
 some (.inl (a3,a4,a5,(IntKind.wrap .i64 (a6+(1:Int)))))
 else none
 else
 some (.inr (.inr a3))
def S280_3step (uu:Nat) (x:S280_3x):Option (S280_3x⊕S280_3y):=S280_3 uu x.1 x.2.1 x.2.2.1 x.2.2.2
def F280 (uu:Nat) (a0:List UInt8):Option (Bool):=
 (amh uu a0 ([46]:List UInt8)).bind fun y1=>
 (aah uu (S280_3step uu) (a0,y1,(y1.length:Int),(0:Int))).bind fun z=>sumE (fun y13=>
 some y13
 ) (fun y14=>
 some (decide ((y14.length:Int)<=(120:Int)))
 ) z
def S280_3l (uu:Nat):LoopE:=⟨3,⟨[0,6,7,8],[],.str::(.slice 9)::sv7⟩,[(.ret,⟨[2],[],[.bool]⟩),(.exit 0,⟨[0],[],[.str]⟩)],S280_3step uu⟩
def F280C (uu:Nat):Cfg:=cfg Tryz.prog 19 0 [av0 uu,F300c uu] [S280_3l uu] uu
def F280c (uu:Nat):CallE:=⟨280,⟨1,[],[.str]⟩,⟨1,[],[.bool]⟩,fun x=>F280 uu x,false⟩
theorem F280k (uu:Nat):aal (F280C uu):=aad (qc (azd uu)<|qc (F300ok uu)<|q0) (p0)
theorem S280_3ok (uu:Nat):LoopOk (F280C uu) (lp (aai Tryz.f280) 0):=okL (F280k uu) uu (S280_3l uu) L0
theorem F280ok (uu:Nat):(F280c uu).Ok Tryz.prog:=okE Tryz.f280 (F280k uu) (L1 (S280_3ok uu))
def F248 (uu:Nat) (a0:List UInt8):Option (Bool):=
 (F281 uu a0 ([46]:List UInt8)).bind fun y1=>
 (F280 uu y1).bind fun y2=>
 some y2
def F248c (uu:Nat):CallE:=⟨248,⟨1,[],[.str]⟩,⟨1,[],[.bool]⟩,fun x=>F248 uu x,false⟩
theorem F248ok (uu:Nat):(F248c uu).Ok Tryz.prog:=okJ Tryz.f248 6 0 uu _ [] false (qc (F281ok uu)<|qc (F280ok uu)<|q0) (p0) L0
def F212 (uu:Nat) (a0:PV):Option ((List UInt8)):=
 (F247 uu ((a0.fld 0).asInt)).bind fun y2=>
 bif (bif y2 then (((a0.fld 1).asStr)==([]:List UInt8)) else false) then
 (F214 uu ((a0.fld 0).asInt)).bind fun y7=>
 some y7
 else
 let x15:=bif (bif (((a0.fld 0).asInt)==(0:Int)) then true else (((a0.fld 0).asInt)==(9:Int))) then true else (((a0.fld 0).asInt)==(10:Int))
 (bif x15 then F248 uu ((a0.fld 1).asStr) else some false).bind fun y17=>
 bif (bif x15 then y17 else false) then
 some ((a0.fld 1).asStr)
 else
 some ([]:List UInt8)
def F212c (uu:Nat):CallE:=⟨212,⟨1,[],[(.data 49)]⟩,⟨1,[],[.str]⟩,fun x=>F212 uu x,[]⟩
theorem F212ok (uu:Nat):(F212c uu).Ok Tryz.prog:=okJ Tryz.f212 36 0 uu _ [] false (qc (F247ok uu)<|qc (F214ok uu)<|qc (F248ok uu)<|q0) (p0) L0
def F213 (uu:Nat) (a0:Int):Option ((List UInt8)):=
 bif (a0==(1:Int)) then
 some ([114,101,113,117,105,114,101,100]:List UInt8)
 else
 bif (a0==(2:Int)) then
 some ([111,112,116,105,111,110,97,108]:List UInt8)
 else
 bif (a0==(3:Int)) then
 some ([112,108,97,105,110]:List UInt8)
 else
 bif (a0==(4:Int)) then
 some ([108,105,115,116]:List UInt8)
 else
 bif (a0==(5:Int)) then
 some ([109,97,112]:List UInt8)
 else
 some ([]:List UInt8)
def F213c (uu:Nat):CallE:=⟨213,⟨1,[],[(.int .i64)]⟩,⟨1,[],[.str]⟩,fun x=>F213 uu x,[]⟩
theorem F213ok (uu:Nat):(F213c uu).Ok Tryz.prog:=okJ Tryz.f213 14 0 uu [] [] false (q0) (p0) L0
def F316 (uu:Nat) (a0:List UInt8):Option (Bool):=
 bif (a0==([109,101,115,115,97,103,101]:List UInt8)) then
 some true
 else
 bif (a0==([101,110,117,109]:List UInt8)) then
 some true
 else
 bif (a0==([115,101,114,118,105,99,101]:List UInt8)) then
 some true
 else
 bif (a0==([117,110,105,111,110]:List UInt8)) then
 some true
 else
 bif (a0==([109,97,112]:List UInt8)) then
 some true
 else
 bif (a0==([108,105,115,116]:List UInt8)) then
 some true
 else
 let x7:=a0==([114,101,113,117,105,114,101,100]:List UInt8)
 bif x7 then
 some true
 else
 let x8:=a0==([111,112,116,105,111,110,97,108]:List UInt8)
 bif x8 then
 some true
 else
 bif (a0==([112,108,97,105,110]:List UInt8)) then
 some true
 else
 bif (a0==([100,101,102,97,117,108,116]:List UInt8)) then
 some true
 else
 let x11:=a0==([114,101,115,101,114,118,101,100]:List UInt8)
 bif x11 then
 some true
 else
 bif (a0==([105,109,112,111,114,116]:List UInt8)) then
 some true
 else
 bif (a0==([115,112,97,99,101]:List UInt8)) then
 some true
 else
 bif (a0==([114,112,99]:List UInt8)) then
 some true
 else
 bif (a0==([115,116,114,101,97,109]:List UInt8)) then
 some true
 else
 bif (a0==([114,101,116,117,114,110,115]:List UInt8)) then
 some true
 else
 bif (a0==([111,112,101,110]:List UInt8)) then
 some true
 else
 bif (a0==([116,114,117,101]:List UInt8)) then
 some true
 else
 bif (a0==([102,97,108,115,101]:List UInt8)) then
 some true
 else
 bif (a0==([110,97,110]:List UInt8)) then
 some true
 else
 bif (a0==([105,110,102]:List UInt8)) then
 some true
 else
 some false
def F316c (uu:Nat):CallE:=⟨316,⟨1,[],[.str]⟩,⟨1,[],[.bool]⟩,fun x=>F316 uu x,false⟩
theorem F316ok (uu:Nat):(F316c uu).Ok Tryz.prog:=okJ Tryz.f316 27 0 uu [] [] false (q0) (p0) L0
def F302 (uu:Nat) (a0:List UInt8):Option (Bool):=
 (F300 uu a0).bind fun y1=>
 (bif y1 then F316 uu a0 else some false).bind fun y2=>
 some (bif y1 then (!y2) else false)
def F302c (uu:Nat):CallE:=⟨302,⟨1,[],[.str]⟩,⟨1,[],[.bool]⟩,fun x=>F302 uu x,false⟩
theorem F302ok (uu:Nat):(F302c uu).Ok Tryz.prog:=okJ Tryz.f302 10 0 uu _ [] false (qc (F300ok uu)<|qc (F316ok uu)<|q0) (p0) L0
def F282 (uu:Nat) (a0:PV):Option (Bool):=
 let x2:=((a0.fld 0).asInt)==(9:Int)
 (bif x2 then F302 uu ((a0.fld 2).asStr) else some false).bind fun y4=>
 some (bif (bif (bif x2 then y4 else false) then (((a0.fld 1).asInt)==(0:Int)) else false) then ((IntKind.wrap .i64 ((IntKind.wrap .i64 ((IntKind.wrap .i64 ((((a0.fld 3).asList).length:Int)+(((a0.fld 4).asList).length:Int)))+(((a0.fld 5).asList).length:Int)))+(((a0.fld 6).asList).length:Int)))==(0:Int)) else false)
def F282c (uu:Nat):CallE:=⟨282,⟨1,[],[(.data 56)]⟩,⟨1,[],[.bool]⟩,fun x=>F282 uu x,false⟩
theorem F282ok (uu:Nat):(F282c uu).Ok Tryz.prog:=okJ Tryz.f282 34 0 uu _ [] false (qc (F302ok uu)<|q0) (p0) L0
def F303 (uu:Nat) (a0:Int):Option (Bool):=
 some (bif (decide (a0≥(1:Int))) then (decide (a0<=(9:Int))) else false)
def F303c (uu:Nat):CallE:=⟨303,⟨1,[],[(.int .i64)]⟩,⟨1,[],[.bool]⟩,fun x=>F303 uu x,false⟩
theorem F303ok (uu:Nat):(F303c uu).Ok Tryz.prog:=okJ Tryz.f303 9 0 uu [] [] false (q0) (p0) L0
def F317 (uu:Nat) (a0:Int):Option (Bool):=
 some (bif (a0==(7:Int)) then true else (a0==(8:Int)))
def F317c (uu:Nat):CallE:=⟨317,⟨1,[],[(.int .i64)]⟩,⟨1,[],[.bool]⟩,fun x=>F317 uu x,false⟩
theorem F317ok (uu:Nat):(F317c uu).Ok Tryz.prog:=okJ Tryz.f317 9 0 uu [] [] false (q0) (p0) L0
def F304 (uu:Nat) (a0:PV):Option (Bool):=
 bif (decide ((IntKind.wrap .i64 ((IntKind.wrap .i64 ((IntKind.wrap .i64 ((((a0.fld 3).asList).length:Int)+(((a0.fld 4).asList).length:Int)))+(((a0.fld 5).asList).length:Int)))+(((a0.fld 6).asList).length:Int)))>(0:Int))) then
 some false
 else
 (F317 uu ((a0.fld 0).asInt)).bind fun y14=>
 bif y14 then
 some (((a0.fld 1).asInt)==(0:Int))
 else
 some (((a0.fld 2).asStr)==([]:List UInt8))
def F304c (uu:Nat):CallE:=⟨304,⟨1,[],[(.data 56)]⟩,⟨1,[],[.bool]⟩,fun x=>F304 uu x,false⟩
theorem F304ok (uu:Nat):(F304c uu).Ok Tryz.prog:=okJ Tryz.f304 28 0 uu _ [] false (qc (F317ok uu)<|q0) (p0) L0
def F305 (uu:Nat) (a0:Int) (a1:Int):Option (Bool):=
 bif (a0==(1:Int)) then
 some (decide (a1<=(1:Int)))
 else
 bif (a0==(2:Int)) then
 some (bif (decide ((IntKind.wrap .i64 a1)≥(-2147483648:Int))) then (decide ((IntKind.wrap .i64 a1)<=(2147483647:Int))) else false)
 else
 bif (a0==(9:Int)) then
 some (decide (a1<=(2147483647:Int)))
 else
 bif (a0==(4:Int)) then
 some (decide (a1<=(4294967295:Int)))
 else
 some true
def F305c (uu:Nat):CallE:=⟨305,⟨2,[],[(.int .i64),(.int .u64)]⟩,⟨1,[],[.bool]⟩,fun x=>F305 uu x.1 x.2,false⟩
theorem F305ok (uu:Nat):(F305c uu).Ok Tryz.prog:=okJ Tryz.f305 28 0 uu [] [] false (q0) (p0) L0
def F227 (uu:Nat) (a0:List UInt8) (a1:List UInt8):Option (Bool):=
 (F257 uu a0 a1).bind fun y1=>
 some y1
def F227c (uu:Nat):CallE:=⟨227,⟨2,[],[.str,.str]⟩,⟨1,[],[.bool]⟩,fun x=>F227 uu x.1 x.2,false⟩
theorem F227ok (uu:Nat):(F227c uu).Ok Tryz.prog:=okJ Tryz.f227 8 0 uu _ [] false (qc (F257ok uu)<|q0) (p0) L0
def F166 (uu:Nat) (a0:List UInt8) (a1:Int) (a2:Int):Option (Bool):=
 let x1:=a2==(65533:Int)
 bif imp x1 (decide (0<=a1/\a1<=(a0.length:Int)/\(a0.length:Int)<=(a0.length:Int))) then
 (bif x1 then F227 uu ((a0.take (a0.length:Int).toNat).drop a1.toNat) ([239,191,189]:List UInt8) else some false).bind fun y3=>
 some (bif x1 then (!y3) else false)
 else none
def F166c (uu:Nat):CallE:=⟨166,⟨3,[],[.str,(.int .i64),(.int .i32)]⟩,⟨1,[],[.bool]⟩,fun x=>F166 uu x.1 x.2.1 x.2.2,false⟩
theorem F166ok (uu:Nat):(F166c uu).Ok Tryz.prog:=okJ Tryz.f166 16 0 uu _ [] false (qc (F227ok uu)<|q0) (p0) L0
abbrev S318_3x:=(List UInt8)×Unit×(List UInt8)×Int
abbrev S318_3y:=(Int×(List UInt8)×Int)⊕((List UInt8)×Int)
def S318_3 (uu:Nat) (a1:List UInt8) (a2:Unit) (a3:List UInt8) (a4:Int):Option (S318_3x⊕S318_3y):=
 bif (decide (a4.toNat<a3.length)) then
 bif decide (a4.toNat<a3.length) then
 let x6:=(a4.toNat:Int)
 bif decide (a4.toNat<a3.length) then
 (F166 uu a1 x6 ((Utf8.decode ⟨a3.toArray⟩ a4.toNat).1:Int)).bind fun y8=>
 bif y8 then
 some (.inr (.inl (x6,a3,((bif decide (a4.toNat<a3.length) then a4.toNat+(Utf8.decode ⟨a3.toArray⟩ a4.toNat).2 else a4.toNat:Nat):Int))))
 else
 some (.inl (a1,(),a3,((bif decide (a4.toNat<a3.length) then a4.toNat+(Utf8.decode ⟨a3.toArray⟩ a4.toNat).2 else a4.toNat:Nat):Int)))
 else none
 else none
 else
 some (.inr (.inr (a3,((bif decide (a4.toNat<a3.length) then a4.toNat+(Utf8.decode ⟨a3.toArray⟩ a4.toNat).2 else a4.toNat:Nat):Int))))
def S318_3step (uu:Nat) (x:S318_3x):Option (S318_3x⊕S318_3y):=S318_3 uu x.1 x.2.1 x.2.2.1 x.2.2.2
def F318 (uu:Nat) (a0:List UInt8):Option (Int):=
 (aah uu (S318_3step uu) (a0,(),a0,((0:Nat):Int))).bind fun z=>sumE (fun y9=>
 some y9.1
 ) (fun y10=>
 some (-1:Int)
 ) z
def S318_3l (uu:Nat):LoopE:=⟨3,⟨[0,6],[.iter],.str::(.con (.iref 0))::sv5⟩,[(.ret,⟨[2],[.iter],(.int .i64)::sv5⟩),(.exit 0,⟨[],[.iter],sv5⟩)],S318_3step uu⟩
def F318C (uu:Nat):Cfg:=cfg Tryz.prog 16 0 [F166c uu] [S318_3l uu] uu
def F318c (uu:Nat):CallE:=⟨318,⟨1,[],[.str]⟩,⟨1,[],[(.int .i64)]⟩,fun x=>F318 uu x,0⟩
theorem F318k (uu:Nat):aal (F318C uu):=aad (qc (F166ok uu)<|q0) (p0)
theorem S318_3ok (uu:Nat):LoopOk (F318C uu) (lp (aai Tryz.f318) 0):=okL (F318k uu) uu (S318_3l uu) L0
theorem F318ok (uu:Nat):(F318c uu).Ok Tryz.prog:=okE Tryz.f318 (F318k uu) (L1 (S318_3ok uu))
def F306 (uu:Nat) (a0:List UInt8):Option (Bool):=
 (F318 uu a0).bind fun y1=>
 some (decide (y1<(0:Int)))
def F306c (uu:Nat):CallE:=⟨306,⟨1,[],[.str]⟩,⟨1,[],[.bool]⟩,fun x=>F306 uu x,false⟩
theorem F306ok (uu:Nat):(F306c uu).Ok Tryz.prog:=okJ Tryz.f306 6 0 uu _ [] false (qc (F318ok uu)<|q0) (p0) L0
def F283 (uu:Nat) (a0:Int) (a1:PV):Option (Bool):=
 (F303 uu a0).bind fun y1=>
 let x5:=bif (!y1) then true else (((a1.fld 0).asInt) != a0)
 (bif !x5 then F304 uu a1 else some false).bind fun y6=>
 let x8:=bif x5 then true else (!y6)
 (bif !x8 then F305 uu a0 ((a1.fld 1).asInt) else some false).bind fun y10=>
 bif (bif (bif x8 then true else (!y10)) then true else (decide ((((a1.fld 2).asStr).length:Int)>(4096:Int)))) then
 some false
 else
 let x17:=a0 != (7:Int)
 (bif !x17 then F306 uu ((a1.fld 2).asStr) else some false).bind fun y19=>
 some (bif x17 then true else y19)
def F283c (uu:Nat):CallE:=⟨283,⟨2,[],[(.int .i64),(.data 56)]⟩,⟨1,[],[.bool]⟩,fun x=>F283 uu x.1 x.2,false⟩
theorem F283ok (uu:Nat):(F283c uu).Ok Tryz.prog:=okJ Tryz.f283 39 0 uu _ [] false (qc (F303ok uu)<|qc (F304ok uu)<|qc (F305ok uu)<|qc (F306ok uu)<|q0) (p0) L0
def F319 (uu:Nat) (a0:Bool):Option ((List UInt8)):=
 bif a0 then
 some ([116,114,117,101]:List UInt8)
 else
 some ([102,97,108,115,101]:List UInt8)
def F319c (uu:Nat):CallE:=⟨319,⟨1,[],[.bool]⟩,⟨1,[],[.str]⟩,fun x=>F319 uu x,[]⟩
theorem F319ok (uu:Nat):(F319c uu).Ok Tryz.prog:=okJ Tryz.f319 4 0 uu [] [] false (q0) (p0) L0
def F307 (uu:Nat) (a0:Bool):Option ((List UInt8)):=
 (F319 uu a0).bind fun y1=>
 some y1
def F307c (uu:Nat):CallE:=⟨307,⟨1,[],[.bool]⟩,⟨1,[],[.str]⟩,fun x=>F307 uu x,[]⟩
theorem F307ok (uu:Nat):(F307c uu).Ok Tryz.prog:=okJ Tryz.f307 5 0 uu _ [] false (qc (F319ok uu)<|q0) (p0) L0
def F320 (uu:Nat) (a0:Int):Option (Int):=
 let x1:=af6 .and .u64 a0 (9218868437227405312:Int)
 let x2:=af6 .and .u64 a0 (4503599627370495:Int)
 bif (bif (x1==(9218868437227405312:Int)) then (x2 != (0:Int)) else false) then
 some (0:Int)
 else
 bif (x1==(9218868437227405312:Int)) then
 some (1:Int)
 else
 bif (bif (x1==(0:Int)) then (x2==(0:Int)) else false) then
 some (2:Int)
 else
 bif (x1==(0:Int)) then
 some (3:Int)
 else
 some (4:Int)
def F320c (uu:Nat):CallE:=⟨320,⟨1,[],[(.int .u64)]⟩,⟨1,[],[(.int .i64)]⟩,fun x=>F320 uu x,0⟩
theorem F320ok (uu:Nat):(F320c uu).Ok Tryz.prog:=okJ Tryz.f320 29 0 uu [] [] false (q0) (p0) L0
def F310 (uu:Nat) (a0:Int) (a1:Int):Option ((List UInt8)):=
 (Lfmt uu a0 a1).bind fun y1=>
 some y1
def F310c (uu:Nat):CallE:=⟨310,⟨2,[],[(.int .u64),(.int .i64)]⟩,⟨1,[],[.str]⟩,fun x=>F310 uu x.1 x.2,[]⟩
theorem F310ok (uu:Nat):(F310c uu).Ok Tryz.prog:=okJ Tryz.f310 8 0 uu _ [] false (qc (a4i uu)<|q0) (p0) L0
def F308 (uu:Nat) (a0:Int):Option ((List UInt8)):=
 (F320 uu a0).bind fun y1=>
 bif (y1==(0:Int)) then
 some ([110,97,110]:List UInt8)
 else
 bif (bif (y1==(1:Int)) then ((af6 .and .u64 a0 (9223372036854775808:Int)) != (0:Int)) else false) then
 some ([45,105,110,102]:List UInt8)
 else
 bif (y1==(1:Int)) then
 some ([105,110,102]:List UInt8)
 else
 (F310 uu a0 (16:Int)).bind fun y8=>
 (aiz uu ([48]:List UInt8) (IntKind.wrap .i64 ((16:Int)-(y8.length:Int)))).bind fun y11=>
 bif decide (([48,120]:List UInt8).length+y11.length<=abe) then
 bif decide ((([48,120]:List UInt8)++y11).length+y8.length<=abe) then
 some ((([48,120]:List UInt8)++y11)++y8)
 else none
 else none
def F308c (uu:Nat):CallE:=⟨308,⟨1,[],[(.int .u64)]⟩,⟨1,[],[.str]⟩,fun x=>F308 uu x,[]⟩
theorem F308ok (uu:Nat):(F308c uu).Ok Tryz.prog:=okJ Tryz.f308 30 0 uu _ [] false (qc (F320ok uu)<|qc (F310ok uu)<|qc (avz uu)<|q0) (p0) L0
def F167 (uu:Nat) (a0:Int):Option ((List UInt8)):=
 let x1:=a0.fdiv (2^(min (4:Int).toNat (IntKind.bits .u8)))
 let x3:=IntKind.wrap .u8 ((a0.fdiv (2^(min (4:Int).toNat (IntKind.bits .u8))))+(1:Int))
 bif decide (0<=x1/\x1<=x3/\x3<=(([48,49,50,51,52,53,54,55,56,57,97,98,99,100,101,102]:List UInt8).length:Int)) then
 let x4:=(([48,49,50,51,52,53,54,55,56,57,97,98,99,100,101,102]:List UInt8).take x3.toNat).drop x1.toNat
 bif decide (([92,120]:List UInt8).length+x4.length<=abe) then
 let x5:=af6 .and .u8 a0 (15:Int)
 let x7:=IntKind.wrap .u8 ((af6 .and .u8 a0 (15:Int))+(1:Int))
 bif decide (0<=x5/\x5<=x7/\x7<=(([48,49,50,51,52,53,54,55,56,57,97,98,99,100,101,102]:List UInt8).length:Int)) then
 let x8:=(([48,49,50,51,52,53,54,55,56,57,97,98,99,100,101,102]:List UInt8).take x7.toNat).drop x5.toNat
 bif decide ((([92,120]:List UInt8)++x4).length+x8.length<=abe) then
 some ((([92,120]:List UInt8)++x4)++x8)
 else none
 else none
 else none
 else none
def F167c (uu:Nat):CallE:=⟨167,⟨1,[],[(.int .u8)]⟩,⟨1,[],[.str]⟩,fun x=>F167 uu x,[]⟩
theorem F167ok (uu:Nat):(F167c uu).Ok Tryz.prog:=okJ Tryz.f167 17 0 uu [] [] false (q0) (p0) L0
def F103 (uu:Nat) (a0:List UInt8) (a1:Int) (a2:Int):Option ((List UInt8)):=
 bif (a2==(34:Int)) then
 some ([92,34]:List UInt8)
 else
 bif (a2==(92:Int)) then
 some ([92,92]:List UInt8)
 else
 bif (a2==(10:Int)) then
 some ([92,110]:List UInt8)
 else
 bif (a2==(9:Int)) then
 some ([92,116]:List UInt8)
 else
 bif (a2==(13:Int)) then
 some ([92,114]:List UInt8)
 else
 let x8:=bif (decide (a2<(32:Int))) then true else (a2==(127:Int))
 (bif !x8 then F166 uu a0 a1 a2 else some false).bind fun y9=>
 bif (bif x8 then true else y9) then
 bif aaa a1 a0.length then
 (F167 uu ((a0.getD a1.toNat 0).toNat:Int)).bind fun y12=>
 some y12
 else none
 else
 some ((Utf8.encode a2).data.toList)
def F103c (uu:Nat):CallE:=⟨103,⟨3,[],[.str,(.int .i64),(.int .i32)]⟩,⟨1,[],[.str]⟩,fun x=>F103 uu x.1 x.2.1 x.2.2,[]⟩
theorem F103ok (uu:Nat):(F103c uu).Ok Tryz.prog:=okJ Tryz.f103 41 0 uu _ [] false (qc (F166ok uu)<|qc (F167ok uu)<|q0) (p0) L0
abbrev S53_5x:=(List UInt8)×Unit×Unit×(List UInt8)×(List UInt8)×Int
abbrev S53_5y:=(Unit×(List UInt8)×(List UInt8)×Int)
def S53_5 (uu:Nat) (a2:List UInt8) (a3:Unit) (a4:Unit) (a5:List UInt8) (a6:List UInt8) (a7:Int):Option (S53_5x⊕S53_5y):=
 bif (decide (a7.toNat<a6.length)) then
 bif decide (a7.toNat<a6.length) then
 bif decide (a7.toNat<a6.length) then
 (F103 uu a2 (a7.toNat:Int) ((Utf8.decode ⟨a6.toArray⟩ a7.toNat).1:Int)).bind fun y11=>
 (abm uu y11 a5).bind fun y12=>
 some (.inl (a2,(),(),y12.2.2,a6,((bif decide (a7.toNat<a6.length) then a7.toNat+(Utf8.decode ⟨a6.toArray⟩ a7.toNat).2 else a7.toNat:Nat):Int)))
 else none
 else none
 else
 some (.inr ((),a5,a6,((bif decide (a7.toNat<a6.length) then a7.toNat+(Utf8.decode ⟨a6.toArray⟩ a7.toNat).2 else a7.toNat:Nat):Int)))
def S53_5step (uu:Nat) (x:S53_5x):Option (S53_5x⊕S53_5y):=S53_5 uu x.1 x.2.1 x.2.2.1 x.2.2.2.1 x.2.2.2.2.1 x.2.2.2.2.2
def F53 (uu:Nat) (a0:List UInt8):Option ((List UInt8)):=
 (abm uu ([34]:List UInt8) []).bind fun y1=>
 (aah uu (S53_5step uu) (a0,(),(),y1.2.2,a0,((0:Nat):Int))).bind fun y13=>
 (abm uu ([34]:List UInt8) y13.2.1).bind fun y14=>
 (am6 uu y14.2.2).bind fun y15=>
 some y15.1
def S53_5l (uu:Nat):LoopE:=⟨5,⟨[0,3,8],[.bld 89,.iter],.str::(.con (.bref 0 89))::(.con (.iref 1))::sv6⟩,[(.exit 0,⟨[3],[.bld 89,.iter],(.con (.bref 0 89))::sv6⟩)],S53_5step uu⟩
def F53C (uu:Nat):Cfg:=cfg Tryz.prog 20 0 [ade uu,F103c uu,aho uu] [S53_5l uu] uu
def F53c (uu:Nat):CallE:=⟨53,⟨1,[],[.str]⟩,⟨1,[],[.str]⟩,fun x=>F53 uu x,[]⟩
theorem F53k (uu:Nat):aal (F53C uu):=aad (qc (aen uu)<|qc (F103ok uu)<|qc (ajt uu)<|q0) (p0)
theorem S53_5ok (uu:Nat):LoopOk (F53C uu) (lp (aai Tryz.f53) 0):=okL (F53k uu) uu (S53_5l uu) L0
theorem F53ok (uu:Nat):(F53c uu).Ok Tryz.prog:=okE Tryz.f53 (F53k uu) (L1 (S53_5ok uu))
abbrev S309_4x:=(List UInt8)×(List PV)×Int×Int
abbrev S309_4y:=((List PV))
def S309_4 (uu:Nat) (a4:List UInt8) (a5:List PV) (a6:Int) (a7:Int):Option (S309_4x⊕S309_4y):=
 bif (decide (a7<a6)) then
 bif aaa a7 a4.length then
 let x10:=((a4.getD a7.toNat 0).toNat:Int).fdiv (2^(min (4:Int).toNat (IntKind.bits .u8)))
 bif aaa x10 (([48,49,50,51,52,53,54,55,56,57,97,98,99,100,101,102]:List UInt8).length) then
 let x11:=((([48,49,50,51,52,53,54,55,56,57,97,98,99,100,101,102]:List UInt8).getD x10.toNat 0).toNat:Int)
 bif aaa a7 a4.length then
 let x13:=af6 .and .u8 ((a4.getD a7.toNat 0).toNat:Int) (15:Int)
 bif aaa x13 (([48,49,50,51,52,53,54,55,56,57,97,98,99,100,101,102]:List UInt8).length) then
 let x14:=((([48,49,50,51,52,53,54,55,56,57,97,98,99,100,101,102]:List UInt8).getD x13.toNat 0).toNat:Int)
 bif decide (a5.length+[(PV.int x11),(PV.int x14)].length<=aam) then
 some (.inl (a4,(a5++[(PV.int x11),(PV.int x14)]),a6,(IntKind.wrap .i64 (a7+(1:Int)))))
 else none
 else none
 else none
 else none
 else none
 else
 some (.inr a5)
def S309_4step (uu:Nat) (x:S309_4x):Option (S309_4x⊕S309_4y):=S309_4 uu x.1 x.2.1 x.2.2.1 x.2.2.2
def F309 (uu:Nat) (a0:List UInt8):Option ((List UInt8)):=
 let x2:=IntKind.wrap .i64 ((2:Int)*(a0.length:Int))
 bif decide (0<=x2/\x2<=aam) then
 (aah uu (S309_4step uu) (a0,[],(a0.length:Int),(0:Int))).bind fun y17=>
 some (y17.map aa9)
 else none
def S309_4l (uu:Nat):LoopE:=⟨4,⟨[0,3,10,11],[.acc],.str::(.acc 0 5)::sv7⟩,[(.exit 0,⟨[3],[.acc],[(.acc 0 5)]⟩)],S309_4step uu⟩
def F309C (uu:Nat):Cfg:=cfg Tryz.prog 30 0 [] [S309_4l uu] uu
def F309c (uu:Nat):CallE:=⟨309,⟨1,[],[.str]⟩,⟨1,[],[.str]⟩,fun x=>F309 uu x,[]⟩
theorem F309k (uu:Nat):aal (F309C uu):=aad (q0) (p0)
theorem S309_4ok (uu:Nat):LoopOk (F309C uu) (lp (aai Tryz.f309) 0):=okL (F309k uu) uu (S309_4l uu) L0
theorem F309ok (uu:Nat):(F309c uu).Ok Tryz.prog:=okE Tryz.f309 (F309k uu) (L1 (S309_4ok uu))
def F284 (uu:Nat) (a0:PV):Option ((List UInt8)):=
 (F283 uu ((a0.fld 0).asInt) a0).bind fun y2=>
 bif (!y2) then
 some ([]:List UInt8)
 else
 let x4:=(a0.fld 0).asInt
 bif (x4==(1:Int)) then
 (F307 uu (((a0.fld 1).asInt)==(1:Int))).bind fun y8=>
 some y8
 else
 bif (x4==(2:Int)) then
 (aos uu (IntKind.wrap .i64 ((a0.fld 1).asInt))).bind fun y12=>
 some y12
 else
 bif (x4==(3:Int)) then
 (aos uu (IntKind.wrap .i64 ((a0.fld 1).asInt))).bind fun y16=>
 some y16
 else
 bif (x4==(6:Int)) then
 (F308 uu ((a0.fld 1).asInt)).bind fun y19=>
 some y19
 else
 bif (x4==(7:Int)) then
 (F53 uu ((a0.fld 2).asStr)).bind fun y22=>
 some y22
 else
 bif (x4==(8:Int)) then
 (F309 uu ((a0.fld 2).asStr)).bind fun y25=>
 (F53 uu y25).bind fun y26=>
 bif decide (([120]:List UInt8).length+y26.length<=abe) then
 some (([120]:List UInt8)++y26)
 else none
 else
 (F310 uu ((a0.fld 1).asInt) (10:Int)).bind fun y28=>
 some y28
def F284c (uu:Nat):CallE:=⟨284,⟨1,[],[(.data 56)]⟩,⟨1,[],[.str]⟩,fun x=>F284 uu x,[]⟩
theorem F284ok (uu:Nat):(F284c uu).Ok Tryz.prog:=okJ Tryz.f284 43 0 uu _ [] false (qc (F283ok uu)<|qc (F307ok uu)<|qc (avy uu)<|qc (F308ok uu)<|qc (F53ok uu)<|qc (F309ok uu)<|qc (F310ok uu)<|q0) (p0) L0
def F250 (uu:Nat) (a0:PV):Option ((List UInt8)):=
 (F282 uu a0).bind fun y1=>
 bif y1 then
 some ((a0.fld 2).asStr)
 else
 (F283 uu ((a0.fld 0).asInt) a0).bind fun y4=>
 bif (!y4) then
 some ([]:List UInt8)
 else
 bif (bif (((a0.fld 0).asInt)==(6:Int)) then true else (((a0.fld 0).asInt)==(8:Int))) then
 (F284 uu a0).bind fun y11=>
 (F53 uu y11).bind fun y12=>
 some y12
 else
 (F284 uu a0).bind fun y13=>
 some y13
def F250c (uu:Nat):CallE:=⟨250,⟨1,[],[(.data 56)]⟩,⟨1,[],[.str]⟩,fun x=>F250 uu x,[]⟩
theorem F250ok (uu:Nat):(F250c uu).Ok Tryz.prog:=okJ Tryz.f250 28 0 uu _ [] false (qc (F282ok uu)<|qc (F283ok uu)<|qc (F284ok uu)<|qc (F53ok uu)<|q0) (p0) L0
def F215 (uu:Nat) (a0:PV):Option ((List UInt8)):=
 bif (!((a0.fld 6).asBool)) then
 some ([]:List UInt8)
 else
 (F250 uu (a0.fld 7)).bind fun y4=>
 some y4
def F215c (uu:Nat):CallE:=⟨215,⟨1,[],[(.data 59)]⟩,⟨1,[],[.str]⟩,fun x=>F215 uu x,[]⟩
theorem F215ok (uu:Nat):(F215c uu).Ok Tryz.prog:=okJ Tryz.f215 9 0 uu _ [] false (qc (F250ok uu)<|q0) (p0) L0
def F152 (uu:Nat) (a0:Unit) (a1:List UInt8) (a2:PV) (a3:PV) (a4:List PV):Option ((List PV)):=
 (F153 uu () (5:Int) a1 ((a2.fld 0).asInt) ((a2.fld 1).asStr) ((a3.fld 1).asStr) (!(((a2.fld 1).asStr)==((a3.fld 1).asStr))) a4).bind fun y7=>
 (F212 uu (a2.fld 4)).bind fun y10=>
 (F212 uu (a3.fld 4)).bind fun y12=>
 (F153 uu () (6:Int) a1 ((a2.fld 0).asInt) y10 y12 (bif ((((a2.fld 4).fld 0).asInt) != (((a3.fld 4).fld 0).asInt)) then true else (!((((a2.fld 4).fld 1).asStr)==(((a3.fld 4).fld 1).asStr)))) y7).bind fun y20=>
 (F213 uu ((a2.fld 2).asInt)).bind fun y23=>
 (F213 uu ((a3.fld 2).asInt)).bind fun y25=>
 (F153 uu () (7:Int) a1 ((a2.fld 0).asInt) y23 y25 (((a2.fld 2).asInt) != ((a3.fld 2).asInt)) y20).bind fun y29=>
 (F214 uu ((a2.fld 3).asInt)).bind fun y32=>
 (F214 uu ((a3.fld 3).asInt)).bind fun y34=>
 (F153 uu () (8:Int) a1 ((a2.fld 0).asInt) y32 y34 (((a2.fld 3).asInt) != ((a3.fld 3).asInt)) y29).bind fun y38=>
 (F153 uu () (9:Int) a1 ((a2.fld 0).asInt) ((a2.fld 5).asStr) ((a3.fld 5).asStr) (!(((a2.fld 5).asStr)==((a3.fld 5).asStr))) y38).bind fun y45=>
 let x46:=a2.fld 7
 let x47:=a3.fld 7
 (F215 uu a2).bind fun y49=>
 (F215 uu a3).bind fun y50=>
 (F153 uu () (10:Int) a1 ((a2.fld 0).asInt) y49 y50 (bif (bif (bif (!(((a2.fld 6).asBool)==((a3.fld 6).asBool))) then true else (((x46.fld 0).asInt) != ((x47.fld 0).asInt))) then true else (((x46.fld 1).asInt) != ((x47.fld 1).asInt))) then true else (!(((x46.fld 2).asStr)==((x47.fld 2).asStr)))) y45).bind fun y66=>
 some y66
def F152c (uu:Nat):CallE:=⟨152,⟨4,bx5,[(.con (.ref 0 [] 66)),.str,(.data 59),(.data 59),(.acc 1 34)]⟩,⟨0,bx5,[(.acc 1 34)]⟩,fun x=>F152 uu x.1 x.2.1 x.2.2.1 x.2.2.2.1 x.2.2.2.2,[]⟩
theorem F152ok (uu:Nat):(F152c uu).Ok Tryz.prog:=okJ Tryz.f152 136 2 uu _ [] false (qc (F153ok uu)<|qc (F212ok uu)<|qc (F213ok uu)<|qc (F214ok uu)<|qc (F215ok uu)<|q0) (p0) L0
abbrev S82_3x:=Unit×Unit×Unit×(List PV)×Int×Int×(List PV)×PV×PV
abbrev S82_3y:=(Unit×Unit×Unit×(List PV)×PV×PV)
def S82_3 (uu:Nat) (a3:Unit) (a4:Unit) (a5:Unit) (a6:List PV) (a7:Int) (a8:Int) (a9:List PV) (a10:PV) (a11:PV):Option (S82_3x⊕S82_3y):=
 bif (decide (a8<a7)) then
 bif aaa a8 a6.length then
 let x13:=a6.getD a8.toNat .bad
 (F129 uu a11 ((x13.fld 0).asInt)).bind fun y15=>
 bif y15.2 then
 (F152 uu () ((a10.fld 0).asStr) x13 y15.1 a9).bind fun y19=>
 some (.inl ((),(),(),a6,a7,(IntKind.wrap .i64 (a8+(1:Int))),y19,a10,a11))
 else
 (F36 uu () [(PV.agg [(PV.int (3:Int)),(PV.str ((a10.fld 0).asStr)),(PV.int ((x13.fld 0).asInt)),(PV.str ((x13.fld 1).asStr)),(PV.str ([]:List UInt8))])] a9).bind fun y24=>
 some (.inl ((),(),(),a6,a7,(IntKind.wrap .i64 (a8+(1:Int))),y24,a10,a11))
 else none
 else
 some (.inr ((),(),(),a9,a10,a11))
def S82_3step (uu:Nat) (x:S82_3x):Option (S82_3x⊕S82_3y):=S82_3 uu x.1 x.2.1 x.2.2.1 x.2.2.2.1 x.2.2.2.2.1 x.2.2.2.2.2.1 x.2.2.2.2.2.2.1 x.2.2.2.2.2.2.2.1 x.2.2.2.2.2.2.2.2
abbrev S82_11x:=Unit×Unit×(List PV)×Int×Int×(List PV)×PV×PV
abbrev S82_11y:=((List PV)×PV×PV)
def S82_11 (uu:Nat) (a29:Unit) (a30:Unit) (a31:List PV) (a32:Int) (a33:Int) (a34:List PV) (a35:PV) (a36:PV):Option (S82_11x⊕S82_11y):=
 bif (decide (a33<a32)) then
 bif aaa a33 a31.length then
 let x38:=a31.getD a33.toNat .bad
 (F129 uu a35 ((x38.fld 0).asInt)).bind fun y40=>
 bif (!y40.2) then
 (F36 uu () [(PV.agg [(PV.int (4:Int)),(PV.str ((a35.fld 0).asStr)),(PV.int ((x38.fld 0).asInt)),(PV.str ([]:List UInt8)),(PV.str ((x38.fld 1).asStr))])] a34).bind fun y47=>
 some (.inl ((),(),a31,a32,(IntKind.wrap .i64 (a33+(1:Int))),y47,a35,a36))
 else
 some (.inl ((),(),a31,a32,(IntKind.wrap .i64 (a33+(1:Int))),a34,a35,a36))
 else none
 else
 some (.inr (a34,a35,a36))
def S82_11step (uu:Nat) (x:S82_11x):Option (S82_11x⊕S82_11y):=S82_11 uu x.1 x.2.1 x.2.2.1 x.2.2.2.1 x.2.2.2.2.1 x.2.2.2.2.2.1 x.2.2.2.2.2.2.1 x.2.2.2.2.2.2.2
def F82 (uu:Nat) (a0:Unit) (a1:PV) (a2:PV) (a3:List PV):Option ((List PV)):=
 let x1:=(a1.fld 1).asList
 (aah uu (S82_3step uu) ((),(),(),x1,(x1.length:Int),(0:Int),a3,a1,a2)).bind fun y26=>
 let x27:=(y26.2.2.2.2.2.fld 1).asList
 (aah uu (S82_11step uu) ((),(),x27,(x27.length:Int),(0:Int),y26.2.2.2.1,y26.2.2.2.2.1,y26.2.2.2.2.2)).bind fun y50=>
 some y50.1
def S82_3l (uu:Nat):LoopE:=⟨3,⟨[0,4,5,15,16,17],bx6,(.con (.ref 0 [] 66))::(.con (.ref 2 [] 63))::(.con (.ref 3 [] 63))::(.slice 59)::(.int .i64)::(.int .i64)::sv8⟩,[(.exit 0,⟨[0,4,5],bx6,(.con (.ref 0 [] 66))::(.con (.ref 2 [] 63))::(.con (.ref 3 [] 63))::sv8⟩)],S82_3step uu⟩
def S82_11l (uu:Nat):LoopE:=⟨11,⟨[0,4,47,48,49],bx6,(.con (.ref 0 [] 66))::(.con (.ref 2 [] 63))::(.slice 59)::(.int .i64)::(.int .i64)::sv8⟩,[(.exit 2,⟨[],bx6,sv8⟩)],S82_11step uu⟩
def F82C (uu:Nat):Cfg:=cfg Tryz.prog 73 2 [F129c uu,F152c uu,F36c uu] [S82_3l uu,S82_11l uu] uu
def F82c (uu:Nat):CallE:=⟨82,⟨3,bx5,[(.con (.ref 0 [] 66)),(.data 63),(.data 63),(.acc 1 34)]⟩,⟨0,bx5,[(.acc 1 34)]⟩,fun x=>F82 uu x.1 x.2.1 x.2.2.1 x.2.2.2,[]⟩
theorem F82k (uu:Nat):aal (F82C uu):=aad (qc (F129ok uu)<|qc (F152ok uu)<|qc (F36ok uu)<|q0) (p0)
theorem S82_3ok (uu:Nat):LoopOk (F82C uu) (lp (aai Tryz.f82) 0):=okL (F82k uu) uu (S82_3l uu) L0
theorem S82_11ok (uu:Nat):LoopOk (F82C uu) (lp (aai Tryz.f82) 1):=okL (F82k uu) uu (S82_11l uu) L0
theorem F82ok (uu:Nat):(F82c uu).Ok Tryz.prog:=okE Tryz.f82 (F82k uu) (L2 (S82_3ok uu) (S82_11ok uu))
def F88 (uu:Nat) (a0:PV) (a1:Unit) (a2:List UInt8):Option (Bool×(List UInt8)):=
 some ((((a0.fld 0).asStr)==a2),a2)
def F88c (uu:Nat):CallE:=⟨88,⟨2,bx1,(.data 73)::sv0⟩,⟨1,bx1,[.bool,.str]⟩,fun x=>F88 uu x.1 x.2.1 x.2.2,(false,[])⟩
theorem F88ok (uu:Nat):(F88c uu).Ok Tryz.prog:=okJ Tryz.f88 8 1 uu [] [] false (q0) (p0) L0
abbrev S87_3x:=Unit×Unit×(List PV)×Int×Int×(List UInt8)×PV
abbrev S87_3y:=(Unit×Bool×(List UInt8)×PV)⊕(Unit×(List UInt8)×PV)
def S87_3 (uu:Nat) (a2:Unit) (a3:Unit) (a4:List PV) (a5:Int) (a6:Int) (a7:List UInt8) (a8:PV):Option (S87_3x⊕S87_3y):=
 bif (decide (a6<a5)) then
 bif aaa a6 a4.length then
 let x10:=a4.getD a6.toNat .bad
 (F88 uu x10 () a7).bind fun y11=>
 bif y11.1 then
 some (.inr (.inl ((),true,y11.2,x10)))
 else
 some (.inl ((),(),a4,a5,(IntKind.wrap .i64 (a6+(1:Int))),y11.2,a8))
 else none
 else
 some (.inr (.inr ((),a7,a8)))
def S87_3step (uu:Nat) (x:S87_3x):Option (S87_3x⊕S87_3y):=S87_3 uu x.1 x.2.1 x.2.2.1 x.2.2.2.1 x.2.2.2.2.1 x.2.2.2.2.2.1 x.2.2.2.2.2.2
def F87 (uu:Nat) (a0:List PV) (a1:Unit) (a2:List UInt8):Option (PV×Bool×(List UInt8)):=
 (aah uu (S87_3step uu) ((),(),a0,(a0.length:Int),(0:Int),a2,(PV.agg [(PV.str ([]:List UInt8)),(PV.bool false),(PV.slice []),(PV.slice []),(PV.slice [])]))).bind fun z=>sumE (fun y13=>
 some (y13.2.2.2,y13.2.1,y13.2.2.1)
 ) (fun y14=>
 some ((PV.agg [(PV.str ([]:List UInt8)),(PV.bool false),(PV.slice []),(PV.slice []),(PV.slice [])]),false,y14.2.1)
 ) z
def S87_3l (uu:Nat):LoopE:=⟨3,⟨[1,4,9,10,11],bx7,(.con (.fn 88 0 [(.ref 0 [] 9)]))::(.con (.ref 1 [] 73))::(.slice 73)::(.int .i64)::(.int .i64)::sv9⟩,[(.ret,⟨[4,5],bx7,(.con (.ref 1 [] 73))::.bool::sv9⟩),(.exit 0,⟨[4],bx7,(.con (.ref 1 [] 73))::sv9⟩)],S87_3step uu⟩
def F87C (uu:Nat):Cfg:=cfg Tryz.prog 21 1 [F88c uu] [S87_3l uu] uu
def F87c (uu:Nat):CallE:=⟨87,⟨2,bx1,[(.slice 73),(.con (.fn 88 0 [(.ref 0 [] 9)])),.str]⟩,⟨2,bx1,[(.data 73),.bool,.str]⟩,fun x=>F87 uu x.1 x.2.1 x.2.2,(PV.bad,false,[])⟩
theorem F87k (uu:Nat):aal (F87C uu):=aad (qc (F88ok uu)<|q0) (p0)
theorem S87_3ok (uu:Nat):LoopOk (F87C uu) (lp (aai Tryz.f87) 0):=okL (F87k uu) uu (S87_3l uu) L0
theorem F87ok (uu:Nat):(F87c uu).Ok Tryz.prog:=okE Tryz.f87 (F87k uu) (L1 (S87_3ok uu))
def F37 (uu:Nat) (a0:PV) (a1:List UInt8):Option (PV×Bool):=
 (F87 uu ((a0.fld 1).asList) () a1).bind fun y2=>
 some (y2.1,y2.2.1)
def F37c (uu:Nat):CallE:=⟨37,⟨2,[],sv2⟩,⟨2,[],[(.data 73),.bool]⟩,fun x=>F37 uu x.1 x.2,(PV.bad,false)⟩
theorem F37ok (uu:Nat):(F37c uu).Ok Tryz.prog:=okJ Tryz.f37 12 0 uu _ [] false (qc (F87ok uu)<|q0) (p0) L0
def F154 (uu:Nat) (a0:Bool):Option ((List UInt8)):=
 bif a0 then
 some ([111,112,101,110]:List UInt8)
 else
 some ([99,108,111,115,101,100]:List UInt8)
def F154c (uu:Nat):CallE:=⟨154,⟨1,[],[.bool]⟩,⟨1,[],[.str]⟩,fun x=>F154 uu x,[]⟩
theorem F154ok (uu:Nat):(F154c uu).Ok Tryz.prog:=okJ Tryz.f154 4 0 uu [] [] false (q0) (p0) L0
def F196 (uu:Nat) (a0:PV) (a1:Unit) (a2:Int):Option (Bool×Int):=
 some ((((a0.fld 1).asInt)==a2),a2)
def F196c (uu:Nat):CallE:=⟨196,⟨2,bx3,[(.data 103),(.con (.ref 0 [] 3)),(.int .i64)]⟩,⟨1,bx3,sv3⟩,fun x=>F196 uu x.1 x.2.1 x.2.2,(false,0)⟩
theorem F196ok (uu:Nat):(F196c uu).Ok Tryz.prog:=okJ Tryz.f196 8 1 uu [] [] false (q0) (p0) L0
abbrev S195_3x:=Unit×Unit×(List PV)×Int×Int×Int×PV
abbrev S195_3y:=(Unit×Bool×Int×PV)⊕(Unit×Int×PV)
def S195_3 (uu:Nat) (a2:Unit) (a3:Unit) (a4:List PV) (a5:Int) (a6:Int) (a7:Int) (a8:PV):Option (S195_3x⊕S195_3y):=
 bif (decide (a6<a5)) then
 bif aaa a6 a4.length then
 let x10:=a4.getD a6.toNat .bad
 (F196 uu x10 () a7).bind fun y11=>
 bif y11.1 then
 some (.inr (.inl ((),true,y11.2,x10)))
 else
 some (.inl ((),(),a4,a5,(IntKind.wrap .i64 (a6+(1:Int))),y11.2,a8))
 else none
 else
 some (.inr (.inr ((),a7,a8)))
def S195_3step (uu:Nat) (x:S195_3x):Option (S195_3x⊕S195_3y):=S195_3 uu x.1 x.2.1 x.2.2.1 x.2.2.2.1 x.2.2.2.2.1 x.2.2.2.2.2.1 x.2.2.2.2.2.2
def F195 (uu:Nat) (a0:List PV) (a1:Unit) (a2:Int):Option (PV×Bool×Int):=
 (aah uu (S195_3step uu) ((),(),a0,(a0.length:Int),(0:Int),a2,(PV.agg [(PV.str ([]:List UInt8)),(PV.int (0:Int)),(PV.slice [])]))).bind fun z=>sumE (fun y13=>
 some (y13.2.2.2,y13.2.1,y13.2.2.1)
 ) (fun y14=>
 some ((PV.agg [(PV.str ([]:List UInt8)),(PV.int (0:Int)),(PV.slice [])]),false,y14.2.1)
 ) z
def S195_3l (uu:Nat):LoopE:=⟨3,⟨[1,4,9,10,11],bx8,(.con (.fn 196 0 [(.ref 0 [] 3)]))::(.con (.ref 1 [] 103))::(.slice 103)::(.int .i64)::(.int .i64)::sv10⟩,[(.ret,⟨[4,5],bx8,(.con (.ref 1 [] 103))::.bool::sv10⟩),(.exit 0,⟨[4],bx8,(.con (.ref 1 [] 103))::sv10⟩)],S195_3step uu⟩
def F195C (uu:Nat):Cfg:=cfg Tryz.prog 21 1 [F196c uu] [S195_3l uu] uu
def F195c (uu:Nat):CallE:=⟨195,⟨2,bx3,[(.slice 103),(.con (.fn 196 0 [(.ref 0 [] 3)])),(.int .i64)]⟩,⟨2,bx3,(.data 103)::sv3⟩,fun x=>F195 uu x.1 x.2.1 x.2.2,(PV.bad,false,0)⟩
theorem F195k (uu:Nat):aal (F195C uu):=aad (qc (F196ok uu)<|q0) (p0)
theorem S195_3ok (uu:Nat):LoopOk (F195C uu) (lp (aai Tryz.f195) 0):=okL (F195k uu) uu (S195_3l uu) L0
theorem F195ok (uu:Nat):(F195c uu).Ok Tryz.prog:=okE Tryz.f195 (F195k uu) (L1 (S195_3ok uu))
def F130 (uu:Nat) (a0:PV) (a1:Int):Option (PV×Bool):=
 (F195 uu ((a0.fld 2).asList) () a1).bind fun y2=>
 some (y2.1,y2.2.1)
def F130c (uu:Nat):CallE:=⟨130,⟨2,[],[(.data 73),(.int .i64)]⟩,⟨2,[],[(.data 103),.bool]⟩,fun x=>F130 uu x.1 x.2,(PV.bad,false)⟩
theorem F130ok (uu:Nat):(F130c uu).Ok Tryz.prog:=okJ Tryz.f130 12 0 uu _ [] false (qc (F195ok uu)<|q0) (p0) L0
abbrev S83_4x:=Unit×Unit×Unit×(List PV)×Int×Int×(List PV)×PV×PV
abbrev S83_4y:=(Unit×Unit×Unit×(List PV)×PV×PV)
def S83_4 (uu:Nat) (a12:Unit) (a13:Unit) (a14:Unit) (a15:List PV) (a16:Int) (a17:Int) (a18:List PV) (a19:PV) (a20:PV):Option (S83_4x⊕S83_4y):=
 bif (decide (a17<a16)) then
 bif aaa a17 a15.length then
 let x22:=a15.getD a17.toNat .bad
 (F130 uu a20 ((x22.fld 1).asInt)).bind fun y24=>
 let x25:=y24.1
 bif y24.2 then
 (F153 uu () (16:Int) ((a19.fld 0).asStr) ((x22.fld 1).asInt) ((x22.fld 0).asStr) ((x25.fld 0).asStr) (!(((x22.fld 0).asStr)==((x25.fld 0).asStr))) a18).bind fun y34=>
 some (.inl ((),(),(),a15,a16,(IntKind.wrap .i64 (a17+(1:Int))),y34,a19,a20))
 else
 (F36 uu () [(PV.agg [(PV.int (14:Int)),(PV.str ((a19.fld 0).asStr)),(PV.int ((x22.fld 1).asInt)),(PV.str ((x22.fld 0).asStr)),(PV.str ([]:List UInt8))])] a18).bind fun y39=>
 some (.inl ((),(),(),a15,a16,(IntKind.wrap .i64 (a17+(1:Int))),y39,a19,a20))
 else none
 else
 some (.inr ((),(),(),a18,a19,a20))
def S83_4step (uu:Nat) (x:S83_4x):Option (S83_4x⊕S83_4y):=S83_4 uu x.1 x.2.1 x.2.2.1 x.2.2.2.1 x.2.2.2.2.1 x.2.2.2.2.2.1 x.2.2.2.2.2.2.1 x.2.2.2.2.2.2.2.1 x.2.2.2.2.2.2.2.2
abbrev S83_12x:=Unit×Unit×(List PV)×Int×Int×(List PV)×PV×PV
abbrev S83_12y:=((List PV)×PV×PV)
def S83_12 (uu:Nat) (a44:Unit) (a45:Unit) (a46:List PV) (a47:Int) (a48:Int) (a49:List PV) (a50:PV) (a51:PV):Option (S83_12x⊕S83_12y):=
 bif (decide (a48<a47)) then
 bif aaa a48 a46.length then
 let x53:=a46.getD a48.toNat .bad
 (F130 uu a50 ((x53.fld 1).asInt)).bind fun y55=>
 bif (!y55.2) then
 (F36 uu () [(PV.agg [(PV.int (15:Int)),(PV.str ((a50.fld 0).asStr)),(PV.int ((x53.fld 1).asInt)),(PV.str ([]:List UInt8)),(PV.str ((x53.fld 0).asStr))])] a49).bind fun y62=>
 some (.inl ((),(),a46,a47,(IntKind.wrap .i64 (a48+(1:Int))),y62,a50,a51))
 else
 some (.inl ((),(),a46,a47,(IntKind.wrap .i64 (a48+(1:Int))),a49,a50,a51))
 else none
 else
 some (.inr (a49,a50,a51))
def S83_12step (uu:Nat) (x:S83_12x):Option (S83_12x⊕S83_12y):=S83_12 uu x.1 x.2.1 x.2.2.1 x.2.2.2.1 x.2.2.2.2.1 x.2.2.2.2.2.1 x.2.2.2.2.2.2.1 x.2.2.2.2.2.2.2
def F83 (uu:Nat) (a0:Unit) (a1:PV) (a2:PV) (a3:List PV):Option ((List PV)):=
 (F154 uu ((a1.fld 1).asBool)).bind fun y3=>
 (F154 uu ((a2.fld 1).asBool)).bind fun y5=>
 (F153 uu () (13:Int) ((a1.fld 0).asStr) (-1:Int) y3 y5 (!(((a1.fld 1).asBool)==((a2.fld 1).asBool))) a3).bind fun y9=>
 let x10:=(a1.fld 2).asList
 (aah uu (S83_4step uu) ((),(),(),x10,(x10.length:Int),(0:Int),y9,a1,a2)).bind fun y41=>
 let x42:=(y41.2.2.2.2.2.fld 2).asList
 (aah uu (S83_12step uu) ((),(),x42,(x42.length:Int),(0:Int),y41.2.2.2.1,y41.2.2.2.2.1,y41.2.2.2.2.2)).bind fun y65=>
 some y65.1
def S83_4l (uu:Nat):LoopE:=⟨4,⟨[0,4,5,30,31,32],bx9,(.con (.ref 0 [] 66))::(.con (.ref 2 [] 73))::(.con (.ref 3 [] 73))::(.slice 103)::(.int .i64)::(.int .i64)::sv11⟩,[(.exit 0,⟨[0,4,5],bx9,(.con (.ref 0 [] 66))::(.con (.ref 2 [] 73))::(.con (.ref 3 [] 73))::sv11⟩)],S83_4step uu⟩
def S83_12l (uu:Nat):LoopE:=⟨12,⟨[0,4,71,72,73],bx9,(.con (.ref 0 [] 66))::(.con (.ref 2 [] 73))::(.slice 103)::(.int .i64)::(.int .i64)::sv11⟩,[(.exit 2,⟨[],bx9,sv11⟩)],S83_12step uu⟩
def F83C (uu:Nat):Cfg:=cfg Tryz.prog 97 2 [F154c uu,F153c uu,F130c uu,F36c uu] [S83_4l uu,S83_12l uu] uu
def F83c (uu:Nat):CallE:=⟨83,⟨3,bx5,[(.con (.ref 0 [] 66)),(.data 73),(.data 73),(.acc 1 34)]⟩,⟨0,bx5,[(.acc 1 34)]⟩,fun x=>F83 uu x.1 x.2.1 x.2.2.1 x.2.2.2,[]⟩
theorem F83k (uu:Nat):aal (F83C uu):=aad (qc (F154ok uu)<|qc (F153ok uu)<|qc (F130ok uu)<|qc (F36ok uu)<|q0) (p0)
theorem S83_4ok (uu:Nat):LoopOk (F83C uu) (lp (aai Tryz.f83) 0):=okL (F83k uu) uu (S83_4l uu) L0
theorem S83_12ok (uu:Nat):LoopOk (F83C uu) (lp (aai Tryz.f83) 1):=okL (F83k uu) uu (S83_12l uu) L0
theorem F83ok (uu:Nat):(F83c uu).Ok Tryz.prog:=okE Tryz.f83 (F83k uu) (L2 (S83_4ok uu) (S83_12ok uu))
def F90 (uu:Nat) (a0:PV) (a1:Unit) (a2:List UInt8):Option (Bool×(List UInt8)):=
 some ((((a0.fld 0).asStr)==a2),a2)
def F90c (uu:Nat):CallE:=⟨90,⟨2,bx1,(.data 78)::sv0⟩,⟨1,bx1,[.bool,.str]⟩,fun x=>F90 uu x.1 x.2.1 x.2.2,(false,[])⟩
theorem F90ok (uu:Nat):(F90c uu).Ok Tryz.prog:=okJ Tryz.f90 8 1 uu [] [] false (q0) (p0) L0
abbrev S89_3x:=Unit×Unit×(List PV)×Int×Int×(List UInt8)×PV
abbrev S89_3y:=(Unit×Bool×(List UInt8)×PV)⊕(Unit×(List UInt8)×PV)
def S89_3 (uu:Nat) (a2:Unit) (a3:Unit) (a4:List PV) (a5:Int) (a6:Int) (a7:List UInt8) (a8:PV):Option (S89_3x⊕S89_3y):=
 bif (decide (a6<a5)) then
 bif aaa a6 a4.length then
 let x10:=a4.getD a6.toNat .bad
 (F90 uu x10 () a7).bind fun y11=>
 bif y11.1 then
 some (.inr (.inl ((),true,y11.2,x10)))
 else
 some (.inl ((),(),a4,a5,(IntKind.wrap .i64 (a6+(1:Int))),y11.2,a8))
 else none
 else
 some (.inr (.inr ((),a7,a8)))
def S89_3step (uu:Nat) (x:S89_3x):Option (S89_3x⊕S89_3y):=S89_3 uu x.1 x.2.1 x.2.2.1 x.2.2.2.1 x.2.2.2.2.1 x.2.2.2.2.2.1 x.2.2.2.2.2.2
def F89 (uu:Nat) (a0:List PV) (a1:Unit) (a2:List UInt8):Option (PV×Bool×(List UInt8)):=
 (aah uu (S89_3step uu) ((),(),a0,(a0.length:Int),(0:Int),a2,(PV.agg [(PV.str ([]:List UInt8)),(PV.slice []),(PV.slice [])]))).bind fun z=>sumE (fun y13=>
 some (y13.2.2.2,y13.2.1,y13.2.2.1)
 ) (fun y14=>
 some ((PV.agg [(PV.str ([]:List UInt8)),(PV.slice []),(PV.slice [])]),false,y14.2.1)
 ) z
def S89_3l (uu:Nat):LoopE:=⟨3,⟨[1,4,9,10,11],bx10,(.con (.fn 90 0 [(.ref 0 [] 9)]))::(.con (.ref 1 [] 78))::(.slice 78)::(.int .i64)::(.int .i64)::sv12⟩,[(.ret,⟨[4,5],bx10,(.con (.ref 1 [] 78))::.bool::sv12⟩),(.exit 0,⟨[4],bx10,(.con (.ref 1 [] 78))::sv12⟩)],S89_3step uu⟩
def F89C (uu:Nat):Cfg:=cfg Tryz.prog 21 1 [F90c uu] [S89_3l uu] uu
def F89c (uu:Nat):CallE:=⟨89,⟨2,bx1,[(.slice 78),(.con (.fn 90 0 [(.ref 0 [] 9)])),.str]⟩,⟨2,bx1,[(.data 78),.bool,.str]⟩,fun x=>F89 uu x.1 x.2.1 x.2.2,(PV.bad,false,[])⟩
theorem F89k (uu:Nat):aal (F89C uu):=aad (qc (F90ok uu)<|q0) (p0)
theorem S89_3ok (uu:Nat):LoopOk (F89C uu) (lp (aai Tryz.f89) 0):=okL (F89k uu) uu (S89_3l uu) L0
theorem F89ok (uu:Nat):(F89c uu).Ok Tryz.prog:=okE Tryz.f89 (F89k uu) (L1 (S89_3ok uu))
def F38 (uu:Nat) (a0:PV) (a1:List UInt8):Option (PV×Bool):=
 (F89 uu ((a0.fld 2).asList) () a1).bind fun y2=>
 some (y2.1,y2.2.1)
def F38c (uu:Nat):CallE:=⟨38,⟨2,[],sv2⟩,⟨2,[],[(.data 78),.bool]⟩,fun x=>F38 uu x.1 x.2,(PV.bad,false)⟩
theorem F38ok (uu:Nat):(F38c uu).Ok Tryz.prog:=okJ Tryz.f38 12 0 uu _ [] false (qc (F89ok uu)<|q0) (p0) L0
abbrev S155_3x:=(List UInt8)×Unit×(List PV)×Int×Int×PV×PV
abbrev S155_3y:=(Unit×Bool×PV×PV)⊕(Unit×PV×PV)
def S155_3 (uu:Nat) (a3:List UInt8) (a4:Unit) (a5:List PV) (a6:Int) (a7:Int) (a8:PV) (a9:PV):Option (S155_3x⊕S155_3y):=
 bif (decide (a7<a6)) then
 bif aaa a7 a5.length then
 let x11:=a5.getD a7.toNat .bad
 bif (((x11.fld 0).asStr)==a3) then
 some (.inr (.inl ((),true,a8,x11)))
 else
 some (.inl (a3,(),a5,a6,(IntKind.wrap .i64 (a7+(1:Int))),a8,a9))
 else none
 else
 some (.inr (.inr ((),a8,a9)))
def S155_3step (uu:Nat) (x:S155_3x):Option (S155_3x⊕S155_3y):=S155_3 uu x.1 x.2.1 x.2.2.1 x.2.2.2.1 x.2.2.2.2.1 x.2.2.2.2.2.1 x.2.2.2.2.2.2
def F155 (uu:Nat) (a0:PV) (a1:List UInt8):Option (PV×Bool):=
 let x1:=(a0.fld 1).asList
 (aah uu (S155_3step uu) (a1,(),x1,(x1.length:Int),(0:Int),a0,(PV.agg [(PV.str ([]:List UInt8)),(PV.str ([]:List UInt8)),(PV.str ([]:List UInt8)),(PV.int (0:Int)),(PV.slice [])]))).bind fun z=>sumE (fun y15=>
 some (y15.2.2.2,y15.2.1)
 ) (fun y16=>
 some ((PV.agg [(PV.str ([]:List UInt8)),(PV.str ([]:List UInt8)),(PV.str ([]:List UInt8)),(PV.int (0:Int)),(PV.slice [])]),false)
 ) z
def S155_3l (uu:Nat):LoopE:=⟨3,⟨[1,4,9,10,11],bx11,.str::(.con (.ref 1 [] 105))::(.slice 105)::(.int .i64)::(.int .i64)::sv13⟩,[(.ret,⟨[4,5],bx11,(.con (.ref 1 [] 105))::.bool::sv13⟩),(.exit 0,⟨[4],bx11,(.con (.ref 1 [] 105))::sv13⟩)],S155_3step uu⟩
def F155C (uu:Nat):Cfg:=cfg Tryz.prog 22 0 [] [S155_3l uu] uu
def F155c (uu:Nat):CallE:=⟨155,⟨2,[],[(.data 78),.str]⟩,⟨2,[],[(.data 105),.bool]⟩,fun x=>F155 uu x.1 x.2,(PV.bad,false)⟩
theorem F155k (uu:Nat):aal (F155C uu):=aad (q0) (p0)
theorem S155_3ok (uu:Nat):LoopOk (F155C uu) (lp (aai Tryz.f155) 0):=okL (F155k uu) uu (S155_3l uu) L0
theorem F155ok (uu:Nat):(F155c uu).Ok Tryz.prog:=okE Tryz.f155 (F155k uu) (L1 (S155_3ok uu))
def F156 (uu:Nat) (a0:PV):Option ((List UInt8)):=
 let x1:=(a0.fld 0).asStr
 bif decide (x1.length+([58,32]:List UInt8).length<=abe) then
 let x2:=x1++([58,32]:List UInt8)
 let x3:=(a0.fld 1).asStr
 bif decide (x2.length+x3.length<=abe) then
 let x4:=x2++x3
 bif decide (x4.length+([32,45,62,32]:List UInt8).length<=abe) then
 let x5:=x4++([32,45,62,32]:List UInt8)
 let x6:=(a0.fld 2).asStr
 bif decide (x5.length+x6.length<=abe) then
 some (x5++x6)
 else none
 else none
 else none
 else none
def F156c (uu:Nat):CallE:=⟨156,⟨1,[],[(.data 105)]⟩,⟨1,[],[.str]⟩,fun x=>F156 uu x,[]⟩
theorem F156ok (uu:Nat):(F156c uu).Ok Tryz.prog:=okJ Tryz.f156 13 0 uu [] [] false (q0) (p0) L0
def F157 (uu:Nat) (a0:Int):Option ((List UInt8)):=
 bif (a0==(1:Int)) then
 some ([117,110,97,114,121]:List UInt8)
 else
 bif (a0==(2:Int)) then
 some ([115,101,114,118,101,114]:List UInt8)
 else
 bif (a0==(3:Int)) then
 some ([99,108,105,101,110,116]:List UInt8)
 else
 bif (a0==(4:Int)) then
 some ([98,111,116,104]:List UInt8)
 else
 some ([]:List UInt8)
def F157c (uu:Nat):CallE:=⟨157,⟨1,[],[(.int .i64)]⟩,⟨1,[],[.str]⟩,fun x=>F157 uu x,[]⟩
theorem F157ok (uu:Nat):(F157c uu).Ok Tryz.prog:=okJ Tryz.f157 12 0 uu [] [] false (q0) (p0) L0
abbrev S84_3x:=Unit×Unit×Unit×(List PV)×Int×Int×(List PV)×PV×PV
abbrev S84_3y:=(Unit×Unit×Unit×(List PV)×PV×PV)
def S84_3 (uu:Nat) (a3:Unit) (a4:Unit) (a5:Unit) (a6:List PV) (a7:Int) (a8:Int) (a9:List PV) (a10:PV) (a11:PV):Option (S84_3x⊕S84_3y):=
 bif (decide (a8<a7)) then
 bif aaa a8 a6.length then
 let x13:=a6.getD a8.toNat .bad
 (F155 uu a11 ((x13.fld 0).asStr)).bind fun y15=>
 let x16:=y15.1
 bif (!y15.2) then
 (F36 uu () [(PV.agg [(PV.int (19:Int)),(PV.str ((a10.fld 0).asStr)),(PV.int (-1:Int)),(PV.str ((x13.fld 0).asStr)),(PV.str ([]:List UInt8))])] a9).bind fun y21=>
 some (.inl ((),(),(),a6,a7,(IntKind.wrap .i64 (a8+(1:Int))),y21,a10,a11))
 else
 (F156 uu x13).bind fun y24=>
 (F156 uu x16).bind fun y25=>
 (F153 uu () (21:Int) ((a10.fld 0).asStr) (-1:Int) y24 y25 (bif (!(((x13.fld 1).asStr)==((x16.fld 1).asStr))) then true else (!(((x13.fld 2).asStr)==((x16.fld 2).asStr)))) a9).bind fun y33=>
 let x35:=(x13.fld 0).asStr
 bif decide (x35.length+([58,32]:List UInt8).length<=abe) then
 let x36:=x35++([58,32]:List UInt8)
 (F157 uu ((x13.fld 3).asInt)).bind fun y38=>
 bif decide (x36.length+y38.length<=abe) then
 let x40:=(x13.fld 0).asStr
 bif decide (x40.length+([58,32]:List UInt8).length<=abe) then
 let x41:=x40++([58,32]:List UInt8)
 (F157 uu ((x16.fld 3).asInt)).bind fun y43=>
 bif decide (x41.length+y43.length<=abe) then
 (F153 uu () (22:Int) ((a10.fld 0).asStr) (-1:Int) (x36++y38) (x41++y43) (((x13.fld 3).asInt) != ((x16.fld 3).asInt)) y33).bind fun y48=>
 some (.inl ((),(),(),a6,a7,(IntKind.wrap .i64 (a8+(1:Int))),y48,a10,a11))
 else none
 else none
 else none
 else none
 else none
 else
 some (.inr ((),(),(),a9,a10,a11))
def S84_3step (uu:Nat) (x:S84_3x):Option (S84_3x⊕S84_3y):=S84_3 uu x.1 x.2.1 x.2.2.1 x.2.2.2.1 x.2.2.2.2.1 x.2.2.2.2.2.1 x.2.2.2.2.2.2.1 x.2.2.2.2.2.2.2.1 x.2.2.2.2.2.2.2.2
abbrev S84_12x:=Unit×Unit×(List PV)×Int×Int×(List PV)×PV×PV
abbrev S84_12y:=((List PV)×PV×PV)
def S84_12 (uu:Nat) (a53:Unit) (a54:Unit) (a55:List PV) (a56:Int) (a57:Int) (a58:List PV) (a59:PV) (a60:PV):Option (S84_12x⊕S84_12y):=
 bif (decide (a57<a56)) then
 bif aaa a57 a55.length then
 let x62:=a55.getD a57.toNat .bad
 (F155 uu a59 ((x62.fld 0).asStr)).bind fun y64=>
 bif (!y64.2) then
 (F36 uu () [(PV.agg [(PV.int (20:Int)),(PV.str ((a59.fld 0).asStr)),(PV.int (-1:Int)),(PV.str ([]:List UInt8)),(PV.str ((x62.fld 0).asStr))])] a58).bind fun y70=>
 some (.inl ((),(),a55,a56,(IntKind.wrap .i64 (a57+(1:Int))),y70,a59,a60))
 else
 some (.inl ((),(),a55,a56,(IntKind.wrap .i64 (a57+(1:Int))),a58,a59,a60))
 else none
 else
 some (.inr (a58,a59,a60))
def S84_12step (uu:Nat) (x:S84_12x):Option (S84_12x⊕S84_12y):=S84_12 uu x.1 x.2.1 x.2.2.1 x.2.2.2.1 x.2.2.2.2.1 x.2.2.2.2.2.1 x.2.2.2.2.2.2.1 x.2.2.2.2.2.2.2
def F84 (uu:Nat) (a0:Unit) (a1:PV) (a2:PV) (a3:List PV):Option ((List PV)):=
 let x1:=(a1.fld 1).asList
 (aah uu (S84_3step uu) ((),(),(),x1,(x1.length:Int),(0:Int),a3,a1,a2)).bind fun y50=>
 let x51:=(y50.2.2.2.2.2.fld 1).asList
 (aah uu (S84_12step uu) ((),(),x51,(x51.length:Int),(0:Int),y50.2.2.2.1,y50.2.2.2.2.1,y50.2.2.2.2.2)).bind fun y73=>
 some y73.1
def S84_3l (uu:Nat):LoopE:=⟨3,⟨[0,4,5,15,16,17],bx12,(.con (.ref 0 [] 66))::(.con (.ref 2 [] 78))::(.con (.ref 3 [] 78))::(.slice 105)::(.int .i64)::(.int .i64)::sv14⟩,[(.exit 0,⟨[0,4,5],bx12,(.con (.ref 0 [] 66))::(.con (.ref 2 [] 78))::(.con (.ref 3 [] 78))::sv14⟩)],S84_3step uu⟩
def S84_12l (uu:Nat):LoopE:=⟨12,⟨[0,4,83,84,85],bx12,(.con (.ref 0 [] 66))::(.con (.ref 2 [] 78))::(.slice 105)::(.int .i64)::(.int .i64)::sv14⟩,[(.exit 2,⟨[],bx12,sv14⟩)],S84_12step uu⟩
def F84C (uu:Nat):Cfg:=cfg Tryz.prog 107 2 [F155c uu,F36c uu,F156c uu,F153c uu,F157c uu] [S84_3l uu,S84_12l uu] uu
def F84c (uu:Nat):CallE:=⟨84,⟨3,bx5,[(.con (.ref 0 [] 66)),(.data 78),(.data 78),(.acc 1 34)]⟩,⟨0,bx5,[(.acc 1 34)]⟩,fun x=>F84 uu x.1 x.2.1 x.2.2.1 x.2.2.2,[]⟩
theorem F84k (uu:Nat):aal (F84C uu):=aad (qc (F155ok uu)<|qc (F36ok uu)<|qc (F156ok uu)<|qc (F153ok uu)<|qc (F157ok uu)<|q0) (p0)
theorem S84_3ok (uu:Nat):LoopOk (F84C uu) (lp (aai Tryz.f84) 0):=okL (F84k uu) uu (S84_3l uu) L0
theorem S84_12ok (uu:Nat):LoopOk (F84C uu) (lp (aai Tryz.f84) 1):=okL (F84k uu) uu (S84_12l uu) L0
theorem F84ok (uu:Nat):(F84c uu).Ok Tryz.prog:=okE Tryz.f84 (F84k uu) (L2 (S84_3ok uu) (S84_12ok uu))
abbrev S34_3x:=Unit×Unit×Unit×(List PV)×Int×Int×(List PV)×PV×PV
abbrev S34_3y:=(Unit×Unit×Unit×(List PV)×PV×PV)
def S34_3 (uu:Nat) (a3:Unit) (a4:Unit) (a5:Unit) (a6:List PV) (a7:Int) (a8:Int) (a9:List PV) (a10:PV) (a11:PV):Option (S34_3x⊕S34_3y):=
 bif (decide (a8<a7)) then
 bif aaa a8 a6.length then
 let x13:=a6.getD a8.toNat .bad
 (F35 uu a11 ((x13.fld 0).asStr)).bind fun y15=>
 bif y15.2 then
 (F82 uu () x13 y15.1 a9).bind fun y18=>
 some (.inl ((),(),(),a6,a7,(IntKind.wrap .i64 (a8+(1:Int))),y18,a10,a11))
 else
 (F36 uu () [(PV.agg [(PV.int (1:Int)),(PV.str ((x13.fld 0).asStr)),(PV.int (-1:Int)),(PV.str ([]:List UInt8)),(PV.str ([]:List UInt8))])] a9).bind fun y21=>
 some (.inl ((),(),(),a6,a7,(IntKind.wrap .i64 (a8+(1:Int))),y21,a10,a11))
 else none
 else
 some (.inr ((),(),(),a9,a10,a11))
def S34_3step (uu:Nat) (x:S34_3x):Option (S34_3x⊕S34_3y):=S34_3 uu x.1 x.2.1 x.2.2.1 x.2.2.2.1 x.2.2.2.2.1 x.2.2.2.2.2.1 x.2.2.2.2.2.2.1 x.2.2.2.2.2.2.2.1 x.2.2.2.2.2.2.2.2
abbrev S34_11x:=Unit×Unit×Unit×(List PV)×Int×Int×(List PV)×PV×PV
abbrev S34_11y:=(Unit×Unit×Unit×(List PV)×PV×PV)
def S34_11 (uu:Nat) (a26:Unit) (a27:Unit) (a28:Unit) (a29:List PV) (a30:Int) (a31:Int) (a32:List PV) (a33:PV) (a34:PV):Option (S34_11x⊕S34_11y):=
 bif (decide (a31<a30)) then
 bif aaa a31 a29.length then
 let x36:=a29.getD a31.toNat .bad
 (F37 uu a34 ((x36.fld 0).asStr)).bind fun y38=>
 bif y38.2 then
 (F83 uu () x36 y38.1 a32).bind fun y41=>
 some (.inl ((),(),(),a29,a30,(IntKind.wrap .i64 (a31+(1:Int))),y41,a33,a34))
 else
 (F36 uu () [(PV.agg [(PV.int (11:Int)),(PV.str ((x36.fld 0).asStr)),(PV.int (-1:Int)),(PV.str ([]:List UInt8)),(PV.str ([]:List UInt8))])] a32).bind fun y44=>
 some (.inl ((),(),(),a29,a30,(IntKind.wrap .i64 (a31+(1:Int))),y44,a33,a34))
 else none
 else
 some (.inr ((),(),(),a32,a33,a34))
def S34_11step (uu:Nat) (x:S34_11x):Option (S34_11x⊕S34_11y):=S34_11 uu x.1 x.2.1 x.2.2.1 x.2.2.2.1 x.2.2.2.2.1 x.2.2.2.2.2.1 x.2.2.2.2.2.2.1 x.2.2.2.2.2.2.2.1 x.2.2.2.2.2.2.2.2
abbrev S34_19x:=Unit×Unit×(List PV)×Int×Int×(List PV)×PV×PV
abbrev S34_19y:=((List PV)×PV×PV)
def S34_19 (uu:Nat) (a49:Unit) (a50:Unit) (a51:List PV) (a52:Int) (a53:Int) (a54:List PV) (a55:PV) (a56:PV):Option (S34_19x⊕S34_19y):=
 bif (decide (a53<a52)) then
 bif aaa a53 a51.length then
 let x58:=a51.getD a53.toNat .bad
 (F38 uu a56 ((x58.fld 0).asStr)).bind fun y60=>
 bif y60.2 then
 (F84 uu () x58 y60.1 a54).bind fun y63=>
 some (.inl ((),(),a51,a52,(IntKind.wrap .i64 (a53+(1:Int))),y63,a55,a56))
 else
 (F36 uu () [(PV.agg [(PV.int (17:Int)),(PV.str ((x58.fld 0).asStr)),(PV.int (-1:Int)),(PV.str ([]:List UInt8)),(PV.str ([]:List UInt8))])] a54).bind fun y66=>
 some (.inl ((),(),a51,a52,(IntKind.wrap .i64 (a53+(1:Int))),y66,a55,a56))
 else none
 else
 some (.inr (a54,a55,a56))
def S34_19step (uu:Nat) (x:S34_19x):Option (S34_19x⊕S34_19y):=S34_19 uu x.1 x.2.1 x.2.2.1 x.2.2.2.1 x.2.2.2.2.1 x.2.2.2.2.2.1 x.2.2.2.2.2.2.1 x.2.2.2.2.2.2.2
def F34 (uu:Nat) (a0:Unit) (a1:PV) (a2:PV) (a3:List PV):Option ((List PV)):=
 let x1:=(a1.fld 0).asList
 (aah uu (S34_3step uu) ((),(),(),x1,(x1.length:Int),(0:Int),a3,a1,a2)).bind fun y23=>
 let x24:=(y23.2.2.2.2.1.fld 1).asList
 (aah uu (S34_11step uu) ((),(),(),x24,(x24.length:Int),(0:Int),y23.2.2.2.1,y23.2.2.2.2.1,y23.2.2.2.2.2)).bind fun y46=>
 let x47:=(y46.2.2.2.2.1.fld 2).asList
 (aah uu (S34_19step uu) ((),(),x47,(x47.length:Int),(0:Int),y46.2.2.2.1,y46.2.2.2.2.1,y46.2.2.2.2.2)).bind fun y68=>
 some y68.1
def S34_3l (uu:Nat):LoopE:=⟨3,⟨[0,4,5,19,20,21],bx13,(.con (.ref 0 [] 66))::(.con (.ref 2 [] 26))::(.con (.ref 3 [] 26))::(.slice 63)::sv15⟩,[(.exit 0,⟨[0,4,5],bx13,(.con (.ref 0 [] 66))::(.con (.ref 2 [] 26))::(.con (.ref 3 [] 26))::sv16⟩)],S34_3step uu⟩
def S34_11l (uu:Nat):LoopE:=⟨11,⟨[0,4,5,45,46,47],bx13,(.con (.ref 0 [] 66))::(.con (.ref 2 [] 26))::(.con (.ref 3 [] 26))::(.slice 73)::sv15⟩,[(.exit 2,⟨[0,4,5],bx13,(.con (.ref 0 [] 66))::(.con (.ref 2 [] 26))::(.con (.ref 3 [] 26))::sv16⟩)],S34_11step uu⟩
def S34_19l (uu:Nat):LoopE:=⟨19,⟨[0,5,71,72,73],bx13,(.con (.ref 0 [] 66))::(.con (.ref 3 [] 26))::(.slice 78)::sv15⟩,[(.exit 4,⟨[],bx13,sv16⟩)],S34_19step uu⟩
def F34C (uu:Nat):Cfg:=cfg Tryz.prog 96 2 [F35c uu,F82c uu,F36c uu,F37c uu,F83c uu,F38c uu,F84c uu] [S34_3l uu,S34_11l uu,S34_19l uu] uu
def F34c (uu:Nat):CallE:=⟨34,⟨3,bx5,[(.con (.ref 0 [] 66)),(.data 26),(.data 26),(.acc 1 34)]⟩,⟨0,bx5,[(.acc 1 34)]⟩,fun x=>F34 uu x.1 x.2.1 x.2.2.1 x.2.2.2,[]⟩
theorem F34k (uu:Nat):aal (F34C uu):=aad (qc (F35ok uu)<|qc (F82ok uu)<|qc (F36ok uu)<|qc (F37ok uu)<|qc (F83ok uu)<|qc (F38ok uu)<|qc (F84ok uu)<|q0) (p0)
theorem S34_3ok (uu:Nat):LoopOk (F34C uu) (lp (aai Tryz.f34) 0):=okL (F34k uu) uu (S34_3l uu) L0
theorem S34_11ok (uu:Nat):LoopOk (F34C uu) (lp (aai Tryz.f34) 1):=okL (F34k uu) uu (S34_11l uu) L0
theorem S34_19ok (uu:Nat):LoopOk (F34C uu) (lp (aai Tryz.f34) 2):=okL (F34k uu) uu (S34_19l uu) L0
theorem F34ok (uu:Nat):(F34c uu).Ok Tryz.prog:=okE Tryz.f34 (F34k uu) (L3 (S34_3ok uu) (S34_11ok uu) (S34_19ok uu))
def F91 (uu:Nat) (a0:Unit):Option (Unit):=
 some ()
def F91c (uu:Nat):CallE:=⟨91,⟨1,[],[(.con .nils)]⟩,⟨1,[],[(.con .nils)]⟩,fun x=>F91 uu x,()⟩
theorem F91ok (uu:Nat):(F91c uu).Ok Tryz.prog:=okJ Tryz.f91 8 0 uu [] [] true (q0) (p0) L0
def F91_v1 (uu:Nat) (a0:List PV):Option (Unit×(List PV)):=
 bif decide (a0.length<=aam) then
 some ((),a0)
 else none
def F91_v1c (uu:Nat):CallE:=⟨91,⟨1,[],[(.sln 34)]⟩,⟨1,[.arr 34 1],[(.con (.arr 0 1 34)),(.slice 34)]⟩,fun x=>F91_v1 uu x,((),[])⟩
theorem F91_v1ok (uu:Nat):(F91_v1c uu).Ok Tryz.prog:=okJ Tryz.f91 8 0 uu [] [] true (q0) (p0) L0
def F91_v2 (uu:Nat) (a0:List PV):Option (Unit×(List PV)):=F91_v1 uu a0
def F91_v2c (uu:Nat):CallE:=⟨91,⟨1,[],[(.slice 34)]⟩,⟨1,[.arr 34 1],[(.con (.arr 0 1 34)),(.slice 34)]⟩,fun x=>F91_v2 uu x,((),[])⟩
theorem F91_v2ok (uu:Nat):(F91_v2c uu).Ok Tryz.prog:=by
 intro x y h
 have h:F91_v1 uu x=some y:=h
 have h2:=F91_v1ok uu x y h
 unfold F91_v1 at h
 obtain ⟨hb,rfl⟩:=aaw h
 exact arp (fun _=>F91ok uu () () rfl) h2
def F125 (uu:Nat) (a0:Int):Option (Int):=
 bif (bif (decide (a0≥(1:Int))) then (decide (a0<=(10:Int))) else false) then
 some (1:Int)
 else
 bif (bif (decide (a0≥(11:Int))) then (decide (a0<=(16:Int))) else false) then
 some (2:Int)
 else
 some (3:Int)
def F125c (uu:Nat):CallE:=⟨125,⟨1,[],[(.int .i64)]⟩,⟨1,[],[(.int .i64)]⟩,fun x=>F125 uu x,0⟩
theorem F125ok (uu:Nat):(F125c uu).Ok Tryz.prog:=okJ Tryz.f125 17 0 uu [] [] false (q0) (p0) L0
def F189 (uu:Nat) (a0:Int):Option (Bool):=
 some (a0 != a0)
def F189c (uu:Nat):CallE:=⟨189,⟨1,[],[(.int .i64)]⟩,⟨1,[],[.bool]⟩,fun x=>F189 uu x,false⟩
theorem F189ok (uu:Nat):(F189c uu).Ok Tryz.prog:=okJ Tryz.f189 6 0 uu [] [] false (q0) (p0) L0
def F124 (uu:Nat) (a0:Int) (a1:Int):Option (Int):=
 (F189 uu a0).bind fun y1=>
 (F189 uu a1).bind fun y2=>
 bif y1 then
 bif y2 then
 some (0:Int)
 else
 some (-1:Int)
 else
 bif y2 then
 some (1:Int)
 else
 bif (decide (a0<a1)) then
 some (-1:Int)
 else
 bif (decide (a0>a1)) then
 some (1:Int)
 else
 some (0:Int)
def F124c (uu:Nat):CallE:=⟨124,⟨2,[],sv7⟩,⟨1,[],[(.int .i64)]⟩,fun x=>F124 uu x.1 x.2,0⟩
theorem F124ok (uu:Nat):(F124c uu).Ok Tryz.prog:=okJ Tryz.f124 20 0 uu _ [] false (qc (F189ok uu)<|q0) (p0) L0
def F190 (uu:Nat) (a0:List UInt8):Option (Bool):=
 some (!(a0==a0))
def F190c (uu:Nat):CallE:=⟨190,⟨1,[],[.str]⟩,⟨1,[],[.bool]⟩,fun x=>F190 uu x,false⟩
theorem F190ok (uu:Nat):(F190c uu).Ok Tryz.prog:=okJ Tryz.f190 6 0 uu [] [] false (q0) (p0) L0
def F126 (uu:Nat) (a0:List UInt8) (a1:List UInt8):Option (Int):=
 (F190 uu a0).bind fun y1=>
 (F190 uu a1).bind fun y2=>
 bif y1 then
 bif y2 then
 some (0:Int)
 else
 some (-1:Int)
 else
 bif y2 then
 some (1:Int)
 else
 bif (Op.bytesLess a0 a1) then
 some (-1:Int)
 else
 bif (!(Op.bytesLess a0 a1||a0==a1)) then
 some (1:Int)
 else
 some (0:Int)
def F126c (uu:Nat):CallE:=⟨126,⟨2,[],[.str,.str]⟩,⟨1,[],[(.int .i64)]⟩,fun x=>F126 uu x.1 x.2,0⟩
theorem F126ok (uu:Nat):(F126c uu).Ok Tryz.prog:=okJ Tryz.f126 20 0 uu _ [] false (qc (F190ok uu)<|q0) (p0) L0
def F127 (uu:Nat) (a0:PV):Option ((List UInt8)):=
 let x1:=(a0.fld 0).asInt
 bif (x1==(19:Int)) then
 some ((a0.fld 3).asStr)
 else
 bif (x1==(20:Int)) then
 some ((a0.fld 4).asStr)
 else
 bif (x1==(21:Int)) then
 (Lcut uu ((a0.fld 3).asStr) ([58,32]:List UInt8)).bind fun y8=>
 some y8.1
 else
 bif (x1==(22:Int)) then
 (Lcut uu ((a0.fld 3).asStr) ([58,32]:List UInt8)).bind fun y14=>
 some y14.1
 else
 some ([]:List UInt8)
def F127c (uu:Nat):CallE:=⟨127,⟨1,[],[(.data 34)]⟩,⟨1,[],[.str]⟩,fun x=>F127 uu x,[]⟩
theorem F127ok (uu:Nat):(F127c uu).Ok Tryz.prog:=okJ Tryz.f127 27 0 uu _ [] false (qc (a4g uu)<|q0) (p0) L0
abbrev S123_4x:=Int×(List PV)×Int×Int
abbrev S123_4y:=(Int)⊕(Int)
def S123_4 (uu:Nat) (a2:Int) (a3:List PV) (a4:Int) (a5:Int):Option (S123_4x⊕S123_4y):=
 bif (decide (a5<a4)) then
 bif aaa a5 a3.length then
 let x8:=(a3.getD a5.toNat .bad).asInt
 bif (x8 != a2) then
 some (.inr (.inl x8))
 else
 some (.inl (a2,a3,a4,(IntKind.wrap .i64 (a5+(1:Int)))))
 else none
 else
 some (.inr (.inr a2))
def S123_4step (uu:Nat) (x:S123_4x):Option (S123_4x⊕S123_4y):=S123_4 uu x.1 x.2.1 x.2.2.1 x.2.2.2
def F123 (uu:Nat) (a0:List PV):Option (Int):=
 (aah uu (S123_4step uu) ((0:Int),a0,(a0.length:Int),(0:Int))).bind fun z=>sumE (fun y11=>
 some y11
 ) (fun y12=>
 some y12
 ) z
def S123_4l (uu:Nat):LoopE:=⟨4,⟨[3,6,7,8],[],(.int .i64)::(.slice 3)::sv7⟩,[(.ret,⟨[2],[],[(.int .i64)]⟩),(.exit 0,⟨[3],[],[(.int .i64)]⟩)],S123_4step uu⟩
def F123C (uu:Nat):Cfg:=cfg Tryz.prog 18 0 [] [S123_4l uu] uu
def F123c (uu:Nat):CallE:=⟨123,⟨1,[],[(.slice 3)]⟩,⟨1,[],[(.int .i64)]⟩,fun x=>F123 uu x,0⟩
theorem F123k (uu:Nat):aal (F123C uu):=aad (q0) (p0)
theorem S123_4ok (uu:Nat):LoopOk (F123C uu) (lp (aai Tryz.f123) 0):=okL (F123k uu) uu (S123_4l uu) L0
theorem F123ok (uu:Nat):(F123c uu).Ok Tryz.prog:=okE Tryz.f123 (F123k uu) (L1 (S123_4ok uu))
def F65 (uu:Nat) (a0:PV) (a1:PV):Option (Int):=
 (F125 uu ((a0.fld 0).asInt)).bind fun y2=>
 (F125 uu ((a1.fld 0).asInt)).bind fun y4=>
 (F124 uu y2 y4).bind fun y5=>
 (F126 uu ((a0.fld 1).asStr) ((a1.fld 1).asStr)).bind fun y8=>
 (F124 uu ((a0.fld 2).asInt) ((a1.fld 2).asInt)).bind fun y11=>
 (F127 uu a0).bind fun y12=>
 (F127 uu a1).bind fun y13=>
 (F126 uu y12 y13).bind fun y14=>
 (F124 uu ((a0.fld 0).asInt) ((a1.fld 0).asInt)).bind fun y17=>
 (F126 uu ((a0.fld 3).asStr) ((a1.fld 3).asStr)).bind fun y20=>
 (F126 uu ((a0.fld 4).asStr) ((a1.fld 4).asStr)).bind fun y23=>
 (F123 uu [(PV.int y5),(PV.int y8),(PV.int y11),(PV.int y14),(PV.int y17),(PV.int y20),(PV.int y23)]).bind fun y24=>
 some y24
def F65c (uu:Nat):CallE:=⟨65,⟨2,[],[(.data 34),(.data 34)]⟩,⟨1,[],[(.int .i64)]⟩,fun x=>F65 uu x.1 x.2,0⟩
theorem F65ok (uu:Nat):(F65c uu).Ok Tryz.prog:=okJ Tryz.f65 44 0 uu _ [] false (qc (F125ok uu)<|qc (F124ok uu)<|qc (F126ok uu)<|qc (F127ok uu)<|qc (F123ok uu)<|q0) (p0) L0
abbrev S216_5x:=Unit×Int×Int×Unit×Int×Int×(List PV)
abbrev S216_5y:=(Unit×Int×Int×Unit×Int×(List PV))
def S216_5 (uu:Nat) (a9:Unit) (a10:Int) (a11:Int) (a12:Unit) (a13:Int) (a14:Int) (a15:List PV):Option (S216_5x⊕S216_5y):=
 let x16:=decide (a14>a10)
 bif imp x16 (aaa a14 a15.length) then
 let x18:=IntKind.wrap .i64 (a14-(1:Int))
 bif imp x16 (aaa x18 a15.length) then
 (bif x16 then F65 uu (a15.getD a14.toNat .bad) (a15.getD x18.toNat .bad) else some 0).bind fun y20=>
 bif (bif x16 then (decide (y20<(0:Int))) else false) then
 let x23:=IntKind.wrap .i64 (a14-(1:Int))
 let x24:=IntKind.wrap .i64 (a14-(1:Int))
 bif aaa x24 a15.length then
 bif aaa a14 a15.length then
 bif aaa a14 a15.length then
 let x27:=a15.set a14.toNat (a15.getD x24.toNat .bad)
 bif aaa x23 x27.length then
 some (.inl ((),a10,a11,(),a13,(IntKind.wrap .i64 (a14-(1:Int))),(x27.set x23.toNat (a15.getD a14.toNat .bad))))
 else none
 else none
 else none
 else none
 else
 some (.inr ((),a10,a11,(),a13,a15))
 else none
 else none
def S216_5step (uu:Nat) (x:S216_5x):Option (S216_5x⊕S216_5y):=S216_5 uu x.1 x.2.1 x.2.2.1 x.2.2.2.1 x.2.2.2.2.1 x.2.2.2.2.2.1 x.2.2.2.2.2.2
abbrev S216_2x:=Unit×Int×Int×Unit×Int×(List PV)
abbrev S216_2y:=((List PV))
def S216_2 (uu:Nat) (a2:Unit) (a3:Int) (a4:Int) (a5:Unit) (a6:Int) (a7:List PV):Option (S216_2x⊕S216_2y):=
 bif (decide (a6<a4)) then
 (aah uu (S216_5step uu) ((),a3,a4,(),a6,a6,a7)).bind fun y30=>
 some (.inl ((),y30.2.1,y30.2.2.1,(),(IntKind.wrap .i64 (y30.2.2.2.2.1+(1:Int))),y30.2.2.2.2.2))
 else
 some (.inr a7)
def S216_2step (uu:Nat) (x:S216_2x):Option (S216_2x⊕S216_2y):=S216_2 uu x.1 x.2.1 x.2.2.1 x.2.2.2.1 x.2.2.2.2.1 x.2.2.2.2.2
def F216 (uu:Nat) (a0:Unit) (a1:Int) (a2:Int) (a3:Unit) (a4:List PV):Option ((List PV)):=
 (aah uu (S216_2step uu) ((),a1,a2,(),(IntKind.wrap .i64 (a1+(1:Int))),a4)).bind fun y33=>
 some y33
def S216_5l (uu:Nat):LoopE:=⟨5,⟨[0,1,2,3,8,9],bx14,(.con (.arr 0 0 34))::(.int .i64)::sv17⟩,[(.exit 2,⟨[0,1,2,3,8],bx14,(.con (.arr 0 0 34))::(.int .i64)::sv18⟩)],S216_5step uu⟩
def S216_2l (uu:Nat):LoopE:=⟨2,⟨[0,1,2,3,8],bx14,(.con (.arr 0 0 34))::(.int .i64)::sv18⟩,[(.exit 0,⟨[],bx14,[(.slice 34)]⟩)],S216_2step uu⟩
def F216C (uu:Nat):Cfg:=cfg Tryz.prog 53 1 [F65c uu] [S216_5l uu,S216_2l uu] uu
def F216c (uu:Nat):CallE:=⟨216,⟨4,bx14,(.con (.arr 0 0 34))::sv19⟩,⟨0,bx14,[(.slice 34)]⟩,fun x=>F216 uu x.1 x.2.1 x.2.2.1 x.2.2.2.1 x.2.2.2.2,[]⟩
theorem F216k (uu:Nat):aal (F216C uu):=aad (qc (F65ok uu)<|q0) (p0)
theorem S216_5ok (uu:Nat):LoopOk (F216C uu) (lp (lp (aai Tryz.f216) 0) 0):=okL (F216k uu) uu (S216_5l uu) L0
theorem S216_2ok (uu:Nat):LoopOk (F216C uu) (lp (aai Tryz.f216) 0):=okL (F216k uu) uu (S216_2l uu) (L1 (S216_5ok uu))
theorem F216ok (uu:Nat):(F216c uu).Ok Tryz.prog:=okE Tryz.f216 (F216k uu) (L1 (S216_2ok uu))
abbrev S285_2x:=Unit×Int×Int×Int×Int×(List PV)
abbrev S285_2y:=((List PV))
def S285_2 (uu:Nat) (a1:Unit) (a2:Int) (a3:Int) (a4:Int) (a5:Int) (a6:List PV):Option (S285_2x⊕S285_2y):=
 bif (decide (a5<a4)) then
 let x8:=IntKind.wrap .i64 (a2+a5)
 let x9:=IntKind.wrap .i64 (a3+a5)
 let x10:=IntKind.wrap .i64 (a3+a5)
 bif aaa x10 a6.length then
 let x12:=IntKind.wrap .i64 (a2+a5)
 bif aaa x12 a6.length then
 bif aaa x8 a6.length then
 let x14:=a6.set x8.toNat (a6.getD x10.toNat .bad)
 bif aaa x9 x14.length then
 some (.inl ((),a2,a3,a4,(IntKind.wrap .i64 (a5+(1:Int))),(x14.set x9.toNat (a6.getD x12.toNat .bad))))
 else none
 else none
 else none
 else none
 else
 some (.inr a6)
def S285_2step (uu:Nat) (x:S285_2x):Option (S285_2x⊕S285_2y):=S285_2 uu x.1 x.2.1 x.2.2.1 x.2.2.2.1 x.2.2.2.2.1 x.2.2.2.2.2
def F285 (uu:Nat) (a0:Unit) (a1:Int) (a2:Int) (a3:Int) (a4:Unit) (a5:List PV):Option ((List PV)):=
 (aah uu (S285_2step uu) ((),a1,a2,a3,(0:Int),a5)).bind fun y17=>
 some y17
def S285_2l (uu:Nat):LoopE:=⟨2,⟨[0,1,2,3,10],bx14,(.con (.arr 0 0 34))::(.int .i64)::sv20⟩,[(.exit 0,⟨[],bx14,[(.slice 34)]⟩)],S285_2step uu⟩
def F285C (uu:Nat):Cfg:=cfg Tryz.prog 38 1 [] [S285_2l uu] uu
def F285c (uu:Nat):CallE:=⟨285,⟨5,bx14,sv21⟩,⟨0,bx14,[(.slice 34)]⟩,fun x=>F285 uu x.1 x.2.1 x.2.2.1 x.2.2.2.1 x.2.2.2.2.1 x.2.2.2.2.2,[]⟩
theorem F285k (uu:Nat):aal (F285C uu):=aad (q0) (p0)
theorem S285_2ok (uu:Nat):LoopOk (F285C uu) (lp (aai Tryz.f285) 0):=okL (F285k uu) uu (S285_2l uu) L0
theorem F285ok (uu:Nat):(F285c uu).Ok Tryz.prog:=okE Tryz.f285 (F285k uu) (L1 (S285_2ok uu))
abbrev S251_3x:=Unit×Int×Unit×Int×Int×(List PV)
abbrev S251_3y:=(Unit×Int×Unit×Int×(List PV))
def S251_3 (uu:Nat) (a3:Unit) (a4:Int) (a5:Unit) (a6:Int) (a7:Int) (a8:List PV):Option (S251_3x⊕S251_3y):=
 bif (a6 != a7) then
 bif (decide (a6>a7)) then
 (F285 uu () (IntKind.wrap .i64 (a4-a6)) a4 a7 () a8).bind fun y12=>
 some (.inl ((),a4,(),(IntKind.wrap .i64 (a6-a7)),a7,y12))
 else
 (F285 uu () (IntKind.wrap .i64 (a4-a6)) (IntKind.wrap .i64 ((IntKind.wrap .i64 (a4+a7))-a6)) a6 () a8).bind fun y17=>
 some (.inl ((),a4,(),a6,(IntKind.wrap .i64 (a7-a6)),y17))
 else
 some (.inr ((),a4,(),a6,a8))
def S251_3step (uu:Nat) (x:S251_3x):Option (S251_3x⊕S251_3y):=S251_3 uu x.1 x.2.1 x.2.2.1 x.2.2.2.1 x.2.2.2.2.1 x.2.2.2.2.2
def F251 (uu:Nat) (a0:Unit) (a1:Int) (a2:Int) (a3:Int) (a4:Unit) (a5:List PV):Option ((List PV)):=
 (aah uu (S251_3step uu) ((),a2,(),(IntKind.wrap .i64 (a2-a1)),(IntKind.wrap .i64 (a3-a2)),a5)).bind fun y19=>
 (F285 uu () (IntKind.wrap .i64 (y19.2.1-y19.2.2.2.1)) y19.2.1 y19.2.2.2.1 () y19.2.2.2.2).bind fun y25=>
 some y25
def S251_3l (uu:Nat):LoopE:=⟨3,⟨[0,2,4,10,11],bx14,sv22⟩,[(.exit 0,⟨[0,2,4,10],bx14,(.con (.arr 0 0 34))::sv18⟩)],S251_3step uu⟩
def F251C (uu:Nat):Cfg:=cfg Tryz.prog 58 1 [F285c uu] [S251_3l uu] uu
def F251c (uu:Nat):CallE:=⟨251,⟨5,bx14,sv21⟩,⟨0,bx14,[(.slice 34)]⟩,fun x=>F251 uu x.1 x.2.1 x.2.2.1 x.2.2.2.1 x.2.2.2.2.1 x.2.2.2.2.2,[]⟩
theorem F251k (uu:Nat):aal (F251C uu):=aad (qc (F285ok uu)<|q0) (p0)
theorem S251_3ok (uu:Nat):LoopOk (F251C uu) (lp (aai Tryz.f251) 0):=okL (F251k uu) uu (S251_3l uu) L0
theorem F251ok (uu:Nat):(F251c uu).Ok Tryz.prog:=okE Tryz.f251 (F251k uu) (L1 (S251_3ok uu))
def B217c (r:(Unit×Int×Int×Int×Unit×(List PV))->Option ((List PV))):CallE:=⟨217,⟨5,bx14,sv21⟩,⟨0,bx14,[(.slice 34)]⟩,r,[]⟩
abbrev B217_4x:=Unit×Int×Unit×Int×Int×(List PV)
abbrev B217_4y:=(Unit×Int×Int×(List PV))
def B217_4 (uu:Nat) (r0:(Unit×Int×Int×Int×Unit×(List PV))->Option ((List PV))) (a3:Unit) (a4:Int) (a5:Unit) (a6:Int) (a7:Int) (a8:List PV):Option (B217_4x⊕B217_4y):=
 bif (decide (a6<a7)) then
 let x13:=IntKind.wrap .i64 ((IntKind.wrap .u64 (IntKind.wrap .i64 (a6+a7))).fdiv (2^(min (1:Int).toNat (IntKind.bits .u64))))
 bif aaa x13 a8.length then
 bif aaa a4 a8.length then
 (F65 uu (a8.getD x13.toNat .bad) (a8.getD a4.toNat .bad)).bind fun y16=>
 bif (decide (y16<(0:Int))) then
 some (.inl ((),a4,(),(IntKind.wrap .i64 (x13+(1:Int))),a7,a8))
 else
 some (.inl ((),a4,(),a6,x13,a8))
 else none
 else none
 else
 some (.inr ((),a4,a6,a8))
def B217_4step (uu:Nat) (r0:(Unit×Int×Int×Int×Unit×(List PV))->Option ((List PV))) (x:B217_4x):Option (B217_4x⊕B217_4y):=B217_4 uu r0 x.1 x.2.1 x.2.2.1 x.2.2.2.1 x.2.2.2.2.1 x.2.2.2.2.2
abbrev B217_10x:=Unit×Int×Int×(List PV)
abbrev B217_10y:=((List PV))
def B217_10 (uu:Nat) (r0:(Unit×Int×Int×Int×Unit×(List PV))->Option ((List PV))) (a21:Unit) (a22:Int) (a23:Int) (a24:List PV):Option (B217_10x⊕B217_10y):=
 bif (decide (a23<(IntKind.wrap .i64 (a22-(1:Int))))) then
 let x27:=IntKind.wrap .i64 (a23+(1:Int))
 let x28:=IntKind.wrap .i64 (a23+(1:Int))
 bif aaa x28 a24.length then
 bif aaa a23 a24.length then
 bif aaa a23 a24.length then
 let x31:=a24.set a23.toNat (a24.getD x28.toNat .bad)
 bif aaa x27 x31.length then
 some (.inl ((),a22,(IntKind.wrap .i64 (a23+(1:Int))),(x31.set x27.toNat (a24.getD a23.toNat .bad))))
 else none
 else none
 else none
 else none
 else
 some (.inr a24)
def B217_10step (uu:Nat) (r0:(Unit×Int×Int×Int×Unit×(List PV))->Option ((List PV))) (x:B217_10x):Option (B217_10x⊕B217_10y):=B217_10 uu r0 x.1 x.2.1 x.2.2.1 x.2.2.2
abbrev B217_16x:=Unit×Int×Unit×Int×Int×(List PV)
abbrev B217_16y:=(Unit×Int×Int×(List PV))
def B217_16 (uu:Nat) (r0:(Unit×Int×Int×Int×Unit×(List PV))->Option ((List PV))) (a37:Unit) (a38:Int) (a39:Unit) (a40:Int) (a41:Int) (a42:List PV):Option (B217_16x⊕B217_16y):=
 bif (decide (a40<a41)) then
 let x47:=IntKind.wrap .i64 ((IntKind.wrap .u64 (IntKind.wrap .i64 (a40+a41))).fdiv (2^(min (1:Int).toNat (IntKind.bits .u64))))
 bif aaa a38 a42.length then
 bif aaa x47 a42.length then
 (F65 uu (a42.getD a38.toNat .bad) (a42.getD x47.toNat .bad)).bind fun y50=>
 bif (!(decide (y50<(0:Int)))) then
 some (.inl ((),a38,(),(IntKind.wrap .i64 (x47+(1:Int))),a41,a42))
 else
 some (.inl ((),a38,(),a40,x47,a42))
 else none
 else none
 else
 some (.inr ((),a38,a40,a42))
def B217_16step (uu:Nat) (r0:(Unit×Int×Int×Int×Unit×(List PV))->Option ((List PV))) (x:B217_16x):Option (B217_16x⊕B217_16y):=B217_16 uu r0 x.1 x.2.1 x.2.2.1 x.2.2.2.1 x.2.2.2.2.1 x.2.2.2.2.2
abbrev B217_22x:=Unit×Int×Int×(List PV)
abbrev B217_22y:=((List PV))
def B217_22 (uu:Nat) (r0:(Unit×Int×Int×Int×Unit×(List PV))->Option ((List PV))) (a56:Unit) (a57:Int) (a58:Int) (a59:List PV):Option (B217_22x⊕B217_22y):=
 bif (decide (a58>a57)) then
 let x61:=IntKind.wrap .i64 (a58-(1:Int))
 let x62:=IntKind.wrap .i64 (a58-(1:Int))
 bif aaa x62 a59.length then
 bif aaa a58 a59.length then
 bif aaa a58 a59.length then
 let x65:=a59.set a58.toNat (a59.getD x62.toNat .bad)
 bif aaa x61 x65.length then
 some (.inl ((),a57,(IntKind.wrap .i64 (a58-(1:Int))),(x65.set x61.toNat (a59.getD a58.toNat .bad))))
 else none
 else none
 else none
 else none
 else
 some (.inr a59)
def B217_22step (uu:Nat) (r0:(Unit×Int×Int×Int×Unit×(List PV))->Option ((List PV))) (x:B217_22x):Option (B217_22x⊕B217_22y):=B217_22 uu r0 x.1 x.2.1 x.2.2.1 x.2.2.2
abbrev B217_34x:=Unit×Int×Int×Int×Unit×Int×Int×Int×Int×Int×(List PV)
abbrev B217_34y:=(Unit×Int×Int×Int×Unit×Int×Int×Int×(List PV))
def B217_34 (uu:Nat) (r0:(Unit×Int×Int×Int×Unit×(List PV))->Option ((List PV))) (a77:Unit) (a78:Int) (a79:Int) (a80:Int) (a81:Unit) (a82:Int) (a83:Int) (a84:Int) (a85:Int) (a86:Int) (a87:List PV):Option (B217_34x⊕B217_34y):=
 bif (decide (a84<a85)) then
 let x92:=IntKind.wrap .i64 ((IntKind.wrap .u64 (IntKind.wrap .i64 (a84+a85))).fdiv (2^(min (1:Int).toNat (IntKind.bits .u64))))
 let x93:=IntKind.wrap .i64 (a86-x92)
 bif aaa x93 a87.length then
 bif aaa x92 a87.length then
 (F65 uu (a87.getD x93.toNat .bad) (a87.getD x92.toNat .bad)).bind fun y96=>
 bif (!(decide (y96<(0:Int)))) then
 some (.inl ((),a78,a79,a80,(),a82,a83,(IntKind.wrap .i64 (x92+(1:Int))),a85,a86,a87))
 else
 some (.inl ((),a78,a79,a80,(),a82,a83,a84,x92,a86,a87))
 else none
 else none
 else
 some (.inr ((),a78,a79,a80,(),a82,a83,a84,a87))
def B217_34step (uu:Nat) (r0:(Unit×Int×Int×Int×Unit×(List PV))->Option ((List PV))) (x:B217_34x):Option (B217_34x⊕B217_34y):=B217_34 uu r0 x.1 x.2.1 x.2.2.1 x.2.2.2.1 x.2.2.2.2.1 x.2.2.2.2.2.1 x.2.2.2.2.2.2.1 x.2.2.2.2.2.2.2.1 x.2.2.2.2.2.2.2.2.1 x.2.2.2.2.2.2.2.2.2.1 x.2.2.2.2.2.2.2.2.2.2
def B217 (uu:Nat) (r0:(Unit×Int×Int×Int×Unit×(List PV))->Option ((List PV))) (a0:Unit) (a1:Int) (a2:Int) (a3:Int) (a4:Unit) (a5:List PV):Option ((List PV)):=
 bif ((IntKind.wrap .i64 (a2-a1))==(1:Int)) then
 (aah uu (B217_4step uu r0) ((),a1,(),a2,a3,a5)).bind fun y19=>
 (aah uu (B217_10step uu r0) ((),y19.2.2.1,y19.2.1,y19.2.2.2)).bind fun y34=>
 some y34
 else
 bif ((IntKind.wrap .i64 (a3-a2))==(1:Int)) then
 (aah uu (B217_16step uu r0) ((),a2,(),a1,a2,a5)).bind fun y54=>
 (aah uu (B217_22step uu r0) ((),y54.2.2.1,y54.2.1,y54.2.2.2)).bind fun y68=>
 some y68
 else
 let x72:=IntKind.wrap .i64 ((IntKind.wrap .u64 (IntKind.wrap .i64 (a1+a3))).fdiv (2^(min (1:Int).toNat (IntKind.bits .u64))))
 let x73:=IntKind.wrap .i64 (x72+a2)
 bif (decide (a2>x72)) then
 (aah uu (B217_34step uu r0) ((),a1,a2,a3,(),x72,x73,(IntKind.wrap .i64 (x73-a3)),x72,(IntKind.wrap .i64 (x73-(1:Int))),a5)).bind fun y100=>
 let x103:=IntKind.wrap .i64 (y100.2.2.2.2.2.2.1-y100.2.2.2.2.2.2.2.1)
 bif (bif (decide (y100.2.2.2.2.2.2.2.1<y100.2.2.1)) then (decide (y100.2.2.1<x103)) else false) then
 (F251 uu () y100.2.2.2.2.2.2.2.1 y100.2.2.1 x103 () y100.2.2.2.2.2.2.2.2).bind fun y112=>
 bif (bif (decide (y100.2.1<y100.2.2.2.2.2.2.2.1)) then (decide (y100.2.2.2.2.2.2.2.1<y100.2.2.2.2.2.1)) else false) then
 (r0 ((),y100.2.1,y100.2.2.2.2.2.2.2.1,y100.2.2.2.2.2.1,(),y112)).bind fun y123=>
 bif (bif (decide (y100.2.2.2.2.2.1<x103)) then (decide (x103<y100.2.2.2.1)) else false) then
 (r0 ((),y100.2.2.2.2.2.1,x103,y100.2.2.2.1,(),y123)).bind fun y131=>
 some y131
 else
 some y123
 else
 bif (bif (decide (y100.2.2.2.2.2.1<x103)) then (decide (x103<y100.2.2.2.1)) else false) then
 (r0 ((),y100.2.2.2.2.2.1,x103,y100.2.2.2.1,(),y112)).bind fun y139=>
 some y139
 else
 some y112
 else
 bif (bif (decide (y100.2.1<y100.2.2.2.2.2.2.2.1)) then (decide (y100.2.2.2.2.2.2.2.1<y100.2.2.2.2.2.1)) else false) then
 (r0 ((),y100.2.1,y100.2.2.2.2.2.2.2.1,y100.2.2.2.2.2.1,(),y100.2.2.2.2.2.2.2.2)).bind fun y150=>
 bif (bif (decide (y100.2.2.2.2.2.1<x103)) then (decide (x103<y100.2.2.2.1)) else false) then
 (r0 ((),y100.2.2.2.2.2.1,x103,y100.2.2.2.1,(),y150)).bind fun y158=>
 some y158
 else
 some y150
 else
 bif (bif (decide (y100.2.2.2.2.2.1<x103)) then (decide (x103<y100.2.2.2.1)) else false) then
 (r0 ((),y100.2.2.2.2.2.1,x103,y100.2.2.2.1,(),y100.2.2.2.2.2.2.2.2)).bind fun y166=>
 some y166
 else
 some y100.2.2.2.2.2.2.2.2
 else
 (aah uu (B217_34step uu r0) ((),a1,a2,a3,(),x72,x73,a1,a2,(IntKind.wrap .i64 (x73-(1:Int))),a5)).bind fun y168=>
 let x171:=IntKind.wrap .i64 (y168.2.2.2.2.2.2.1-y168.2.2.2.2.2.2.2.1)
 bif (bif (decide (y168.2.2.2.2.2.2.2.1<y168.2.2.1)) then (decide (y168.2.2.1<x171)) else false) then
 (F251 uu () y168.2.2.2.2.2.2.2.1 y168.2.2.1 x171 () y168.2.2.2.2.2.2.2.2).bind fun y180=>
 bif (bif (decide (y168.2.1<y168.2.2.2.2.2.2.2.1)) then (decide (y168.2.2.2.2.2.2.2.1<y168.2.2.2.2.2.1)) else false) then
 (r0 ((),y168.2.1,y168.2.2.2.2.2.2.2.1,y168.2.2.2.2.2.1,(),y180)).bind fun y191=>
 bif (bif (decide (y168.2.2.2.2.2.1<x171)) then (decide (x171<y168.2.2.2.1)) else false) then
 (r0 ((),y168.2.2.2.2.2.1,x171,y168.2.2.2.1,(),y191)).bind fun y199=>
 some y199
 else
 some y191
 else
 bif (bif (decide (y168.2.2.2.2.2.1<x171)) then (decide (x171<y168.2.2.2.1)) else false) then
 (r0 ((),y168.2.2.2.2.2.1,x171,y168.2.2.2.1,(),y180)).bind fun y207=>
 some y207
 else
 some y180
 else
 bif (bif (decide (y168.2.1<y168.2.2.2.2.2.2.2.1)) then (decide (y168.2.2.2.2.2.2.2.1<y168.2.2.2.2.2.1)) else false) then
 (r0 ((),y168.2.1,y168.2.2.2.2.2.2.2.1,y168.2.2.2.2.2.1,(),y168.2.2.2.2.2.2.2.2)).bind fun y218=>
 bif (bif (decide (y168.2.2.2.2.2.1<x171)) then (decide (x171<y168.2.2.2.1)) else false) then
 (r0 ((),y168.2.2.2.2.2.1,x171,y168.2.2.2.1,(),y218)).bind fun y226=>
 some y226
 else
 some y218
 else
 bif (bif (decide (y168.2.2.2.2.2.1<x171)) then (decide (x171<y168.2.2.2.1)) else false) then
 (r0 ((),y168.2.2.2.2.2.1,x171,y168.2.2.2.1,(),y168.2.2.2.2.2.2.2.2)).bind fun y234=>
 some y234
 else
 some y168.2.2.2.2.2.2.2.2
def B217_4l (uu:Nat) (r0:(Unit×Int×Int×Int×Unit×(List PV))->Option ((List PV))):LoopE:=⟨4,⟨[0,1,4,10,11],bx14,sv22⟩,[(.exit 0,⟨[0,1,10],bx14,sv23⟩)],B217_4step uu r0⟩
def B217_10l (uu:Nat) (r0:(Unit×Int×Int×Int×Unit×(List PV))->Option ((List PV))):LoopE:=⟨10,⟨[0,10,13],bx14,sv23⟩,[(.exit 2,⟨[],bx14,[(.slice 34)]⟩)],B217_10step uu r0⟩
def B217_16l (uu:Nat) (r0:(Unit×Int×Int×Int×Unit×(List PV))->Option ((List PV))):LoopE:=⟨16,⟨[0,2,4,14,15],bx14,sv22⟩,[(.exit 4,⟨[0,2,14],bx14,sv23⟩)],B217_16step uu r0⟩
def B217_22l (uu:Nat) (r0:(Unit×Int×Int×Int×Unit×(List PV))->Option ((List PV))):LoopE:=⟨22,⟨[0,14,17],bx14,sv23⟩,[(.exit 6,⟨[],bx14,[(.slice 34)]⟩)],B217_22step uu r0⟩
def B217_34l (uu:Nat) (r0:(Unit×Int×Int×Int×Unit×(List PV))->Option ((List PV))):LoopE:=⟨34,⟨[0,1,2,3,4,18,19,20,21,22],bx14,(.con (.arr 0 0 34))::(.int .i64)::(.int .i64)::(.int .i64)::(.con (.fn 65 0 []))::(.int .i64)::(.int .i64)::sv20⟩,[(.exit 8,⟨[0,1,2,3,4,18,19,20],bx14,(.con (.arr 0 0 34))::(.int .i64)::(.int .i64)::sv24⟩)],B217_34step uu r0⟩
def B217C (uu:Nat) (r0:(Unit×Int×Int×Int×Unit×(List PV))->Option ((List PV))):Cfg:=cfg Tryz.prog 220 1 [F65c uu,F251c uu,B217c r0] [B217_4l uu r0,B217_10l uu r0,B217_16l uu r0,B217_22l uu r0,B217_34l uu r0] uu
theorem B217k (uu:Nat) (r0:(Unit×Int×Int×Int×Unit×(List PV))->Option ((List PV))) (h0:(B217c r0).Ok Tryz.prog):aal (B217C uu r0):=aad (qc (F65ok uu)<|qc (F251ok uu)<|qc h0<|q0) (p0)
theorem B217_4ok (uu:Nat) (r0:(Unit×Int×Int×Int×Unit×(List PV))->Option ((List PV))) (h0:(B217c r0).Ok Tryz.prog):LoopOk (B217C uu r0) (lp (aai Tryz.f217) 0):=okL (B217k uu r0 h0) uu (B217_4l uu r0) L0
theorem B217_10ok (uu:Nat) (r0:(Unit×Int×Int×Int×Unit×(List PV))->Option ((List PV))) (h0:(B217c r0).Ok Tryz.prog):LoopOk (B217C uu r0) (lp (aai Tryz.f217) 1):=okL (B217k uu r0 h0) uu (B217_10l uu r0) L0
theorem B217_16ok (uu:Nat) (r0:(Unit×Int×Int×Int×Unit×(List PV))->Option ((List PV))) (h0:(B217c r0).Ok Tryz.prog):LoopOk (B217C uu r0) (lp (aai Tryz.f217) 2):=okL (B217k uu r0 h0) uu (B217_16l uu r0) L0
theorem B217_22ok (uu:Nat) (r0:(Unit×Int×Int×Int×Unit×(List PV))->Option ((List PV))) (h0:(B217c r0).Ok Tryz.prog):LoopOk (B217C uu r0) (lp (aai Tryz.f217) 3):=okL (B217k uu r0 h0) uu (B217_22l uu r0) L0
theorem B217_34ok (uu:Nat) (r0:(Unit×Int×Int×Int×Unit×(List PV))->Option ((List PV))) (h0:(B217c r0).Ok Tryz.prog):LoopOk (B217C uu r0) (lp (aai Tryz.f217) 4):=okL (B217k uu r0 h0) uu (B217_34l uu r0) L0
theorem B217ok (uu:Nat) (r0:(Unit×Int×Int×Int×Unit×(List PV))->Option ((List PV))) (h0:(B217c r0).Ok Tryz.prog):(B217c (fun x=>B217 uu r0 x.1 x.2.1 x.2.2.1 x.2.2.2.1 x.2.2.2.2.1 x.2.2.2.2.2)).Ok Tryz.prog:=okE Tryz.f217 (B217k uu r0 h0) (apq 5 (by kernel_rfl) fun i hi=>match i,hi with | 0,_=>(B217_4ok uu r0 h0) | 1,_=>(B217_10ok uu r0 h0) | 2,_=>(B217_16ok uu r0 h0) | 3,_=>(B217_22ok uu r0 h0) | 4,_=>(B217_34ok uu r0 h0) | n+5,h=>absurd h (by omega))
def G217 (uu:Nat):Nat->((Unit×Int×Int×Int×Unit×(List PV))->Option ((List PV)))
 | 0=>fun _=>none
 | d+1=>fun x=>B217 uu (G217 uu d) x.1 x.2.1 x.2.2.1 x.2.2.2.1 x.2.2.2.2.1 x.2.2.2.2.2
theorem G217ok (uu:Nat):∀ d,(B217c (G217 uu d)).Ok Tryz.prog
 | 0=>a2b
 | d+1=>B217ok uu (G217 uu d) (G217ok uu d)
def F217 (uu:Nat) (a0:Unit) (a1:Int) (a2:Int) (a3:Int) (a4:Unit) (a5:List PV):Option ((List PV)):=limQ uu (fun d=>(G217 uu d)) (a0,a1,a2,a3,a4,a5)
def F217c (uu:Nat):CallE:=⟨217,⟨5,bx14,sv21⟩,⟨0,bx14,[(.slice 34)]⟩,fun x=>F217 uu x.1 x.2.1 x.2.2.1 x.2.2.2.1 x.2.2.2.2.1 x.2.2.2.2.2,[]⟩
theorem F217ok (uu:Nat):(F217c uu).Ok Tryz.prog:=a5o (F217c uu) (G:=(fun d=>(G217 uu d))) (fun x=>rfl) (fun d=>(G217ok uu d))
abbrev S158_3x:=Unit×Int×Unit×Int×Int×Int×(List PV)
abbrev S158_3y:=(Unit×Int×Unit×Int×Int×(List PV))
def S158_3 (uu:Nat) (a1:Unit) (a2:Int) (a3:Unit) (a4:Int) (a5:Int) (a6:Int) (a7:List PV):Option (S158_3x⊕S158_3y):=
 bif (decide (a6<=a2)) then
 (F216 uu () a5 a6 () a7).bind fun y9=>
 some (.inl ((),a2,(),a4,a6,(IntKind.wrap .i64 (a6+a4)),y9))
 else
 some (.inr ((),a2,(),a4,a5,a7))
def S158_3step (uu:Nat) (x:S158_3x):Option (S158_3x⊕S158_3y):=S158_3 uu x.1 x.2.1 x.2.2.1 x.2.2.2.1 x.2.2.2.2.1 x.2.2.2.2.2.1 x.2.2.2.2.2.2
abbrev S158_10x:=Unit×Int×Unit×Int×Int×Int×(List PV)
abbrev S158_10y:=(Unit×Int×Unit×Int×Int×(List PV))
def S158_10 (uu:Nat) (a22:Unit) (a23:Int) (a24:Unit) (a25:Int) (a26:Int) (a27:Int) (a28:List PV):Option (S158_10x⊕S158_10y):=
 bif (decide (a27<=a23)) then
 (F217 uu () a26 (IntKind.wrap .i64 (a26+a25)) a27 () a28).bind fun y31=>
 some (.inl ((),a23,(),a25,a27,(IntKind.wrap .i64 (a27+(IntKind.wrap .i64 ((2:Int)*a25)))),y31))
 else
 some (.inr ((),a23,(),a25,a26,a28))
def S158_10step (uu:Nat) (x:S158_10x):Option (S158_10x⊕S158_10y):=S158_10 uu x.1 x.2.1 x.2.2.1 x.2.2.2.1 x.2.2.2.2.1 x.2.2.2.2.2.1 x.2.2.2.2.2.2
abbrev S158_8x:=Unit×Int×Unit×Int×(List PV)
abbrev S158_8y:=((List PV))
def S158_8 (uu:Nat) (a15:Unit) (a16:Int) (a17:Unit) (a18:Int) (a19:List PV):Option (S158_8x⊕S158_8y):=
 bif (decide (a18<a16)) then
 (aah uu (S158_10step uu) ((),a16,(),a18,(0:Int),(IntKind.wrap .i64 ((2:Int)*a18)),a19)).bind fun y34=>
 let x37:=IntKind.wrap .i64 (y34.2.2.2.2.1+y34.2.2.2.1)
 bif (decide (x37<y34.2.1)) then
 (F217 uu () y34.2.2.2.2.1 x37 y34.2.1 () y34.2.2.2.2.2).bind fun y42=>
 some (.inl ((),y34.2.1,(),(IntKind.wrap .i64 (y34.2.2.2.1*(2:Int))),y42))
 else
 some (.inl ((),y34.2.1,(),(IntKind.wrap .i64 (y34.2.2.2.1*(2:Int))),y34.2.2.2.2.2))
 else
 some (.inr a19)
def S158_8step (uu:Nat) (x:S158_8x):Option (S158_8x⊕S158_8y):=S158_8 uu x.1 x.2.1 x.2.2.1 x.2.2.2.1 x.2.2.2.2
def F158 (uu:Nat) (a0:Unit) (a1:Int) (a2:Unit) (a3:List PV):Option ((List PV)):=
 (aah uu (S158_3step uu) ((),a1,(),(20:Int),(0:Int),(20:Int),a3)).bind fun y11=>
 (F216 uu () y11.2.2.2.2.1 y11.2.1 () y11.2.2.2.2.2).bind fun y14=>
 (aah uu (S158_8step uu) ((),y11.2.1,(),y11.2.2.2.1,y14)).bind fun y47=>
 some y47
def S158_3l (uu:Nat):LoopE:=⟨3,⟨[0,1,2,6,7,8],bx14,(.con (.arr 0 0 34))::sv24⟩,[(.exit 0,⟨[0,1,2,6,7],bx14,sv22⟩)],S158_3step uu⟩
def S158_10l (uu:Nat):LoopE:=⟨10,⟨[0,1,2,6,7,8],bx14,(.con (.arr 0 0 34))::sv24⟩,[(.exit 4,⟨[0,1,2,6,7],bx14,sv22⟩)],S158_10step uu⟩
def S158_8l (uu:Nat):LoopE:=⟨8,⟨[0,1,2,6],bx14,(.con (.arr 0 0 34))::sv18⟩,[(.exit 2,⟨[],bx14,[(.slice 34)]⟩)],S158_8step uu⟩
def F158C (uu:Nat):Cfg:=cfg Tryz.prog 63 1 [F216c uu,F217c uu] [S158_3l uu,S158_10l uu,S158_8l uu] uu
def F158c (uu:Nat):CallE:=⟨158,⟨3,bx14,(.con (.arr 0 0 34))::sv25⟩,⟨0,bx14,[(.slice 34)]⟩,fun x=>F158 uu x.1 x.2.1 x.2.2.1 x.2.2.2,[]⟩
theorem F158k (uu:Nat):aal (F158C uu):=aad (qc (F216ok uu)<|qc (F217ok uu)<|q0) (p0)
theorem S158_3ok (uu:Nat):LoopOk (F158C uu) (lp (aai Tryz.f158) 0):=okL (F158k uu) uu (S158_3l uu) L0
theorem S158_10ok (uu:Nat):LoopOk (F158C uu) (lp (lp (aai Tryz.f158) 1) 0):=okL (F158k uu) uu (S158_10l uu) L0
theorem S158_8ok (uu:Nat):LoopOk (F158C uu) (lp (aai Tryz.f158) 1):=okL (F158k uu) uu (S158_8l uu) (L1 (S158_10ok uu))
theorem F158ok (uu:Nat):(F158c uu).Ok Tryz.prog:=okE Tryz.f158 (F158k uu) (L2 (S158_3ok uu) (S158_8ok uu))
def F92 (uu:Nat) (a0:Unit) (a1:Unit) (a2:List PV):Option ((List PV)):=
 (F158 uu () (a2.length:Int) () a2).bind fun y2=>
 some y2
def F92c (uu:Nat):CallE:=⟨92,⟨2,bx14,(.con (.arr 0 0 34))::sv26⟩,⟨0,bx14,[(.slice 34)]⟩,fun x=>F92 uu x.1 x.2.1 x.2.2,[]⟩
theorem F92ok (uu:Nat):(F92c uu).Ok Tryz.prog:=okJ Tryz.f92 9 1 uu _ [] false (qc (F158ok uu)<|q0) (p0) L0
def F39 (uu:Nat) (a0:List PV):Option ((List PV)):=
 (F91_v2 uu a0).bind fun y1=>
 (F92 uu () () y1.2).bind fun y2=>
 some y2
def F39c (uu:Nat):CallE:=⟨39,⟨1,[],[(.slice 34)]⟩,⟨1,[],[(.slice 34)]⟩,fun x=>F39 uu x,[]⟩
theorem F39ok (uu:Nat):(F39c uu).Ok Tryz.prog:=okJ Tryz.f39 9 0 uu _ [] false (qc (F91_v2ok uu)<|qc (F92ok uu)<|q0) (p0) L0
abbrev S14_5x:=Unit×Unit×Unit×(List PV)×Int×Int×PV×PV×(List PV)
abbrev S14_5y:=(Unit×Unit×Unit×PV×PV×(List PV))
def S14_5 (uu:Nat) (a4:Unit) (a5:Unit) (a6:Unit) (a7:List PV) (a8:Int) (a9:Int) (a10:PV) (a11:PV) (a12:List PV):Option (S14_5x⊕S14_5y):=
 bif (decide (a9<a8)) then
 bif aaa a9 a7.length then
 let x14:=a7.getD a9.toNat .bad
 (F35 uu a10 ((x14.fld 0).asStr)).bind fun y16=>
 bif (!y16.2) then
 (F36 uu () [(PV.agg [(PV.int (2:Int)),(PV.str ((x14.fld 0).asStr)),(PV.int (-1:Int)),(PV.str ([]:List UInt8)),(PV.str ([]:List UInt8))])] a12).bind fun y21=>
 some (.inl ((),(),(),a7,a8,(IntKind.wrap .i64 (a9+(1:Int))),a10,a11,y21))
 else
 some (.inl ((),(),(),a7,a8,(IntKind.wrap .i64 (a9+(1:Int))),a10,a11,a12))
 else none
 else
 some (.inr ((),(),(),a10,a11,a12))
def S14_5step (uu:Nat) (x:S14_5x):Option (S14_5x⊕S14_5y):=S14_5 uu x.1 x.2.1 x.2.2.1 x.2.2.2.1 x.2.2.2.2.1 x.2.2.2.2.2.1 x.2.2.2.2.2.2.1 x.2.2.2.2.2.2.2.1 x.2.2.2.2.2.2.2.2
abbrev S14_12x:=Unit×Unit×Unit×(List PV)×Int×Int×PV×PV×(List PV)
abbrev S14_12y:=(Unit×Unit×Unit×PV×PV×(List PV))
def S14_12 (uu:Nat) (a27:Unit) (a28:Unit) (a29:Unit) (a30:List PV) (a31:Int) (a32:Int) (a33:PV) (a34:PV) (a35:List PV):Option (S14_12x⊕S14_12y):=
 bif (decide (a32<a31)) then
 bif aaa a32 a30.length then
 let x37:=a30.getD a32.toNat .bad
 (F37 uu a33 ((x37.fld 0).asStr)).bind fun y39=>
 bif (!y39.2) then
 (F36 uu () [(PV.agg [(PV.int (12:Int)),(PV.str ((x37.fld 0).asStr)),(PV.int (-1:Int)),(PV.str ([]:List UInt8)),(PV.str ([]:List UInt8))])] a35).bind fun y44=>
 some (.inl ((),(),(),a30,a31,(IntKind.wrap .i64 (a32+(1:Int))),a33,a34,y44))
 else
 some (.inl ((),(),(),a30,a31,(IntKind.wrap .i64 (a32+(1:Int))),a33,a34,a35))
 else none
 else
 some (.inr ((),(),(),a33,a34,a35))
def S14_12step (uu:Nat) (x:S14_12x):Option (S14_12x⊕S14_12y):=S14_12 uu x.1 x.2.1 x.2.2.1 x.2.2.2.1 x.2.2.2.2.1 x.2.2.2.2.2.1 x.2.2.2.2.2.2.1 x.2.2.2.2.2.2.2.1 x.2.2.2.2.2.2.2.2
abbrev S14_19x:=Unit×Unit×(List PV)×Int×Int×PV×PV×(List PV)
abbrev S14_19y:=(Unit×PV×PV×(List PV))
def S14_19 (uu:Nat) (a50:Unit) (a51:Unit) (a52:List PV) (a53:Int) (a54:Int) (a55:PV) (a56:PV) (a57:List PV):Option (S14_19x⊕S14_19y):=
 bif (decide (a54<a53)) then
 bif aaa a54 a52.length then
 let x59:=a52.getD a54.toNat .bad
 (F38 uu a55 ((x59.fld 0).asStr)).bind fun y61=>
 bif (!y61.2) then
 (F36 uu () [(PV.agg [(PV.int (18:Int)),(PV.str ((x59.fld 0).asStr)),(PV.int (-1:Int)),(PV.str ([]:List UInt8)),(PV.str ([]:List UInt8))])] a57).bind fun y66=>
 some (.inl ((),(),a52,a53,(IntKind.wrap .i64 (a54+(1:Int))),a55,a56,y66))
 else
 some (.inl ((),(),a52,a53,(IntKind.wrap .i64 (a54+(1:Int))),a55,a56,a57))
 else none
 else
 some (.inr ((),a55,a56,a57))
def S14_19step (uu:Nat) (x:S14_19x):Option (S14_19x⊕S14_19y):=S14_19 uu x.1 x.2.1 x.2.2.1 x.2.2.2.1 x.2.2.2.2.1 x.2.2.2.2.2.1 x.2.2.2.2.2.2.1 x.2.2.2.2.2.2.2
def F14 (uu:Nat) (a0:PV) (a1:PV):Option ((List PV)):=
 (F34 uu () a0 a1 []).bind fun y1=>
 let x2:=(a1.fld 0).asList
 (aah uu (S14_5step uu) ((),(),(),x2,(x2.length:Int),(0:Int),a0,a1,y1)).bind fun y24=>
 let x25:=(y24.2.2.2.2.1.fld 1).asList
 (aah uu (S14_12step uu) ((),(),(),x25,(x25.length:Int),(0:Int),y24.2.2.2.1,y24.2.2.2.2.1,y24.2.2.2.2.2)).bind fun y47=>
 let x48:=(y47.2.2.2.2.1.fld 2).asList
 (aah uu (S14_19step uu) ((),(),x48,(x48.length:Int),(0:Int),y47.2.2.2.1,y47.2.2.2.2.1,y47.2.2.2.2.2)).bind fun y69=>
 (F39 uu y69.2.2.2).bind fun y71=>
 some y71
def S14_5l (uu:Nat):LoopE:=⟨5,⟨[2,3,5,25,26,27],bx15,(.con (.ref 0 [] 26))::(.con (.ref 1 [] 26))::(.con (.ref 2 [] 66))::(.slice 63)::sv27⟩,[(.exit 0,⟨[2,3,5],bx15,(.con (.ref 0 [] 26))::(.con (.ref 1 [] 26))::sv28⟩)],S14_5step uu⟩
def S14_12l (uu:Nat):LoopE:=⟨12,⟨[2,3,5,48,49,50],bx15,(.con (.ref 0 [] 26))::(.con (.ref 1 [] 26))::(.con (.ref 2 [] 66))::(.slice 73)::sv27⟩,[(.exit 2,⟨[2,3,5],bx15,(.con (.ref 0 [] 26))::(.con (.ref 1 [] 26))::sv28⟩)],S14_12step uu⟩
def S14_19l (uu:Nat):LoopE:=⟨19,⟨[2,5,71,72,73],bx15,(.con (.ref 0 [] 26))::(.con (.ref 2 [] 66))::(.slice 78)::sv27⟩,[(.exit 4,⟨[5],bx15,sv28⟩)],S14_19step uu⟩
def F14C (uu:Nat):Cfg:=cfg Tryz.prog 98 0 [F34c uu,F35c uu,F36c uu,F37c uu,F38c uu,F39c uu] [S14_5l uu,S14_12l uu,S14_19l uu] uu
def F14c (uu:Nat):CallE:=⟨14,⟨2,[],sv29⟩,⟨1,[],[(.slice 34)]⟩,fun x=>F14 uu x.1 x.2,[]⟩
theorem F14k (uu:Nat):aal (F14C uu):=aad (qc (F34ok uu)<|qc (F35ok uu)<|qc (F36ok uu)<|qc (F37ok uu)<|qc (F38ok uu)<|qc (F39ok uu)<|q0) (p0)
theorem S14_5ok (uu:Nat):LoopOk (F14C uu) (lp (aai Tryz.f14) 0):=okL (F14k uu) uu (S14_5l uu) L0
theorem S14_12ok (uu:Nat):LoopOk (F14C uu) (lp (aai Tryz.f14) 1):=okL (F14k uu) uu (S14_12l uu) L0
theorem S14_19ok (uu:Nat):LoopOk (F14C uu) (lp (aai Tryz.f14) 2):=okL (F14k uu) uu (S14_19l uu) L0
theorem F14ok (uu:Nat):(F14c uu).Ok Tryz.prog:=okE Tryz.f14 (F14k uu) (L3 (S14_5ok uu) (S14_12ok uu) (S14_19ok uu))
abbrev S114_4x:=Unit×Unit×Unit×(List PV)×Int×Int×PV×PV×(List (PV×PV))×(List (PV×PV))×Unit×Unit
abbrev S114_4y:=(Unit×Unit×Unit×PV×PV×(List (PV×PV))×(List (PV×PV))×Unit×Unit)
def S114_4 (uu:Nat) (a3:Unit) (a4:Unit) (a5:Unit) (a6:List PV) (a7:Int) (a8:Int) (a9:PV) (a10:PV) (a11:List (PV×PV)) (a12:List (PV×PV)) (a13:Unit) (a14:Unit):Option (S114_4x⊕S114_4y):=
 bif (decide (a8<a7)) then
 bif aaa a8 a6.length then
 let x16:=a6.getD a8.toNat .bad
 bif (!(PV.mhas a11 (PV.str ((x16.fld 0).asStr)))) then
 some (.inl ((),(),(),a6,a7,(IntKind.wrap .i64 (a8+(1:Int))),a9,a10,PV.mput a11 (PV.str ((x16.fld 0).asStr)) x16,a12,(),()))
 else
 some (.inl ((),(),(),a6,a7,(IntKind.wrap .i64 (a8+(1:Int))),a9,a10,a11,a12,(),()))
 else none
 else
 some (.inr ((),(),(),a9,a10,a11,a12,(),()))
def S114_4step (uu:Nat) (x:S114_4x):Option (S114_4x⊕S114_4y):=S114_4 uu x.1 x.2.1 x.2.2.1 x.2.2.2.1 x.2.2.2.2.1 x.2.2.2.2.2.1 x.2.2.2.2.2.2.1 x.2.2.2.2.2.2.2.1 x.2.2.2.2.2.2.2.2.1 x.2.2.2.2.2.2.2.2.2.1 x.2.2.2.2.2.2.2.2.2.2.1 x.2.2.2.2.2.2.2.2.2.2.2
abbrev S114_11x:=Unit×Unit×(List PV)×Int×Int×PV×PV×(List (PV×PV))×(List (PV×PV))×Unit×Unit
abbrev S114_11y:=(Unit×Unit×PV×PV×(List (PV×PV))×(List (PV×PV))×Unit×Unit)
def S114_11 (uu:Nat) (a27:Unit) (a28:Unit) (a29:List PV) (a30:Int) (a31:Int) (a32:PV) (a33:PV) (a34:List (PV×PV)) (a35:List (PV×PV)) (a36:Unit) (a37:Unit):Option (S114_11x⊕S114_11y):=
 bif (decide (a31<a30)) then
 bif aaa a31 a29.length then
 some (.inl ((),(),a29,a30,(IntKind.wrap .i64 (a31+(1:Int))),a32,a33,a34,PV.mput a35 (PV.str (((a29.getD a31.toNat .bad).fld 0).asStr)) (PV.bool true),(),()))
 else none
 else
 some (.inr ((),(),a32,a33,a34,a35,(),()))
def S114_11step (uu:Nat) (x:S114_11x):Option (S114_11x⊕S114_11y):=S114_11 uu x.1 x.2.1 x.2.2.1 x.2.2.2.1 x.2.2.2.2.1 x.2.2.2.2.2.1 x.2.2.2.2.2.2.1 x.2.2.2.2.2.2.2.1 x.2.2.2.2.2.2.2.2.1 x.2.2.2.2.2.2.2.2.2.1 x.2.2.2.2.2.2.2.2.2.2
def F114 (uu:Nat) (a0:PV):Option (PV):=
 let x1:=(a0.fld 0).asList
 (aah uu (S114_4step uu) ((),(),(),x1,(x1.length:Int),(0:Int),a0,(PV.agg [(PV.map []),(PV.map [])]),[],[],(),())).bind fun y24=>
 let x25:=(y24.2.2.2.1.fld 1).asList
 (aah uu (S114_11step uu) ((),(),x25,(x25.length:Int),(0:Int),y24.2.2.2.1,y24.2.2.2.2.1,y24.2.2.2.2.2.1,y24.2.2.2.2.2.2.1,(),())).bind fun y42=>
 some (PV.agg [(PV.map y42.2.2.2.2.1),(PV.map y42.2.2.2.2.2.1)])
def S114_4l (uu:Nat):LoopE:=⟨4,⟨[1,2,3,14,15,16],bx16,(.con (.ref 0 [] 26))::(.con (.ref 1 [] 179))::(.con (.ref 4 [] 179))::(.slice 63)::(.int .i64)::(.int .i64)::sv30⟩,[(.exit 0,⟨[1,2,3],bx16,(.con (.ref 0 [] 26))::(.con (.ref 1 [] 179))::(.con (.ref 4 [] 179))::sv30⟩)],S114_4step uu⟩
def S114_11l (uu:Nat):LoopE:=⟨11,⟨[2,3,37,38,39],bx16,(.con (.ref 1 [] 179))::(.con (.ref 4 [] 179))::(.slice 73)::(.int .i64)::(.int .i64)::sv30⟩,[(.exit 2,⟨[2,3],bx16,(.con (.ref 1 [] 179))::(.con (.ref 4 [] 179))::sv30⟩)],S114_11step uu⟩
def F114C (uu:Nat):Cfg:=cfg Tryz.prog 49 0 [] [S114_4l uu,S114_11l uu] uu
def F114c (uu:Nat):CallE:=⟨114,⟨1,[],[(.data 26)]⟩,⟨1,[],[(.data 179)]⟩,fun x=>F114 uu x,PV.bad⟩
theorem F114k (uu:Nat):aal (F114C uu):=aad (q0) (p0)
theorem S114_4ok (uu:Nat):LoopOk (F114C uu) (lp (aai Tryz.f114) 0):=okL (F114k uu) uu (S114_4l uu) L0
theorem S114_11ok (uu:Nat):LoopOk (F114C uu) (lp (aai Tryz.f114) 1):=okL (F114k uu) uu (S114_11l uu) L0
theorem F114ok (uu:Nat):(F114c uu).Ok Tryz.prog:=okE Tryz.f114 (F114k uu) (L2 (S114_4ok uu) (S114_11ok uu))
def F228 (uu:Nat) (a0:PV) (a1:PV):Option (Bool):=
 some (bif (PV.mhas ((a0.fld 0).asMap) (PV.str (((a1.fld 4).fld 1).asStr))) then ((((a1.fld 4).fld 0).asInt)==(10:Int)) else false)
def F228c (uu:Nat):CallE:=⟨228,⟨2,[],[(.data 179),(.data 59)]⟩,⟨1,[],[.bool]⟩,fun x=>F228 uu x.1 x.2,false⟩
theorem F228ok (uu:Nat):(F228c uu).Ok Tryz.prog:=okJ Tryz.f228 23 0 uu [] [] false (q0) (p0) L0
def F173 (uu:Nat) (a0:PV) (a1:PV):Option (Bool):=
 (F228 uu a0 a1).bind fun y1=>
 some (bif y1 then true else (bif ((((a1.fld 4).fld 0).asInt)==(9:Int)) then (((PV.mget ((a0.fld 1).asMap) (PV.str (((a1.fld 4).fld 1).asStr))).getD (PV.bool false)).asBool) else false))
def F173c (uu:Nat):CallE:=⟨173,⟨2,[],[(.data 179),(.data 59)]⟩,⟨1,[],[.bool]⟩,fun x=>F173 uu x.1 x.2,false⟩
theorem F173ok (uu:Nat):(F173c uu).Ok Tryz.prog:=okJ Tryz.f173 22 0 uu _ [] false (qc (F228ok uu)<|q0) (p0) L0
def F185 (uu:Nat) (a0:Int):Option (Int):=
 bif (decide (a0≥(4294967296:Int))) then
 let x2:=a0.fdiv (2^(min (32:Int).toNat (IntKind.bits .u64)))
 bif (decide (x2≥(65536:Int))) then
 let x4:=x2.fdiv (2^(min (16:Int).toNat (IntKind.bits .u64)))
 let x5:=IntKind.wrap .i64 ((32:Int)+(16:Int))
 bif (decide (x4≥(256:Int))) then
 let x9:=IntKind.wrap .u8 (x4.fdiv (2^(min (8:Int).toNat (IntKind.bits .u64))))
 bif aaa x9 (([0,1,2,2,3,3,3,3,4,4,4,4,4,4,4,4,5,5,5,5,5,5,5,5,5,5,5,5,5,5,5,5,6,6,6,6,6,6,6,6,6,6,6,6,6,6,6,6,6,6,6,6,6,6,6,6,6,6,6,6,6,6,6,6,7,7,7,7,7,7,7,7,7,7,7,7,7,7,7,7,7,7,7,7,7,7,7,7,7,7,7,7,7,7,7,7,7,7,7,7,7,7,7,7,7,7,7,7,7,7,7,7,7,7,7,7,7,7,7,7,7,7,7,7,7,7,7,7,8,8,8,8,8,8,8,8,8,8,8,8,8,8,8,8,8,8,8,8,8,8,8,8,8,8,8,8,8,8,8,8,8,8,8,8,8,8,8,8,8,8,8,8,8,8,8,8,8,8,8,8,8,8,8,8,8,8,8,8,8,8,8,8,8,8,8,8,8,8,8,8,8,8,8,8,8,8,8,8,8,8,8,8,8,8,8,8,8,8,8,8,8,8,8,8,8,8,8,8,8,8,8,8,8,8,8,8,8,8,8,8,8,8,8,8,8,8,8,8,8,8,8,8,8,8,8,8]:List UInt8).length) then
 let x10:=((([0,1,2,2,3,3,3,3,4,4,4,4,4,4,4,4,5,5,5,5,5,5,5,5,5,5,5,5,5,5,5,5,6,6,6,6,6,6,6,6,6,6,6,6,6,6,6,6,6,6,6,6,6,6,6,6,6,6,6,6,6,6,6,6,7,7,7,7,7,7,7,7,7,7,7,7,7,7,7,7,7,7,7,7,7,7,7,7,7,7,7,7,7,7,7,7,7,7,7,7,7,7,7,7,7,7,7,7,7,7,7,7,7,7,7,7,7,7,7,7,7,7,7,7,7,7,7,7,8,8,8,8,8,8,8,8,8,8,8,8,8,8,8,8,8,8,8,8,8,8,8,8,8,8,8,8,8,8,8,8,8,8,8,8,8,8,8,8,8,8,8,8,8,8,8,8,8,8,8,8,8,8,8,8,8,8,8,8,8,8,8,8,8,8,8,8,8,8,8,8,8,8,8,8,8,8,8,8,8,8,8,8,8,8,8,8,8,8,8,8,8,8,8,8,8,8,8,8,8,8,8,8,8,8,8,8,8,8,8,8,8,8,8,8,8,8,8,8,8,8,8,8,8,8,8,8]:List UInt8).getD x9.toNat 0).toNat:Int)
 some (IntKind.wrap .i64 ((IntKind.wrap .i64 (x5+(8:Int)))+(IntKind.wrap .i64 x10)))
 else none
 else
 let x13:=IntKind.wrap .u8 x4
 bif aaa x13 (([0,1,2,2,3,3,3,3,4,4,4,4,4,4,4,4,5,5,5,5,5,5,5,5,5,5,5,5,5,5,5,5,6,6,6,6,6,6,6,6,6,6,6,6,6,6,6,6,6,6,6,6,6,6,6,6,6,6,6,6,6,6,6,6,7,7,7,7,7,7,7,7,7,7,7,7,7,7,7,7,7,7,7,7,7,7,7,7,7,7,7,7,7,7,7,7,7,7,7,7,7,7,7,7,7,7,7,7,7,7,7,7,7,7,7,7,7,7,7,7,7,7,7,7,7,7,7,7,8,8,8,8,8,8,8,8,8,8,8,8,8,8,8,8,8,8,8,8,8,8,8,8,8,8,8,8,8,8,8,8,8,8,8,8,8,8,8,8,8,8,8,8,8,8,8,8,8,8,8,8,8,8,8,8,8,8,8,8,8,8,8,8,8,8,8,8,8,8,8,8,8,8,8,8,8,8,8,8,8,8,8,8,8,8,8,8,8,8,8,8,8,8,8,8,8,8,8,8,8,8,8,8,8,8,8,8,8,8,8,8,8,8,8,8,8,8,8,8,8,8,8,8,8,8,8,8]:List UInt8).length) then
 let x14:=((([0,1,2,2,3,3,3,3,4,4,4,4,4,4,4,4,5,5,5,5,5,5,5,5,5,5,5,5,5,5,5,5,6,6,6,6,6,6,6,6,6,6,6,6,6,6,6,6,6,6,6,6,6,6,6,6,6,6,6,6,6,6,6,6,7,7,7,7,7,7,7,7,7,7,7,7,7,7,7,7,7,7,7,7,7,7,7,7,7,7,7,7,7,7,7,7,7,7,7,7,7,7,7,7,7,7,7,7,7,7,7,7,7,7,7,7,7,7,7,7,7,7,7,7,7,7,7,7,8,8,8,8,8,8,8,8,8,8,8,8,8,8,8,8,8,8,8,8,8,8,8,8,8,8,8,8,8,8,8,8,8,8,8,8,8,8,8,8,8,8,8,8,8,8,8,8,8,8,8,8,8,8,8,8,8,8,8,8,8,8,8,8,8,8,8,8,8,8,8,8,8,8,8,8,8,8,8,8,8,8,8,8,8,8,8,8,8,8,8,8,8,8,8,8,8,8,8,8,8,8,8,8,8,8,8,8,8,8,8,8,8,8,8,8,8,8,8,8,8,8,8,8,8,8,8,8]:List UInt8).getD x13.toNat 0).toNat:Int)
 some (IntKind.wrap .i64 (x5+(IntKind.wrap .i64 x14)))
 else none
 else
 bif (decide (x2≥(256:Int))) then
 let x20:=IntKind.wrap .u8 (x2.fdiv (2^(min (8:Int).toNat (IntKind.bits .u64))))
 bif aaa x20 (([0,1,2,2,3,3,3,3,4,4,4,4,4,4,4,4,5,5,5,5,5,5,5,5,5,5,5,5,5,5,5,5,6,6,6,6,6,6,6,6,6,6,6,6,6,6,6,6,6,6,6,6,6,6,6,6,6,6,6,6,6,6,6,6,7,7,7,7,7,7,7,7,7,7,7,7,7,7,7,7,7,7,7,7,7,7,7,7,7,7,7,7,7,7,7,7,7,7,7,7,7,7,7,7,7,7,7,7,7,7,7,7,7,7,7,7,7,7,7,7,7,7,7,7,7,7,7,7,8,8,8,8,8,8,8,8,8,8,8,8,8,8,8,8,8,8,8,8,8,8,8,8,8,8,8,8,8,8,8,8,8,8,8,8,8,8,8,8,8,8,8,8,8,8,8,8,8,8,8,8,8,8,8,8,8,8,8,8,8,8,8,8,8,8,8,8,8,8,8,8,8,8,8,8,8,8,8,8,8,8,8,8,8,8,8,8,8,8,8,8,8,8,8,8,8,8,8,8,8,8,8,8,8,8,8,8,8,8,8,8,8,8,8,8,8,8,8,8,8,8,8,8,8,8,8,8]:List UInt8).length) then
 let x21:=((([0,1,2,2,3,3,3,3,4,4,4,4,4,4,4,4,5,5,5,5,5,5,5,5,5,5,5,5,5,5,5,5,6,6,6,6,6,6,6,6,6,6,6,6,6,6,6,6,6,6,6,6,6,6,6,6,6,6,6,6,6,6,6,6,7,7,7,7,7,7,7,7,7,7,7,7,7,7,7,7,7,7,7,7,7,7,7,7,7,7,7,7,7,7,7,7,7,7,7,7,7,7,7,7,7,7,7,7,7,7,7,7,7,7,7,7,7,7,7,7,7,7,7,7,7,7,7,7,8,8,8,8,8,8,8,8,8,8,8,8,8,8,8,8,8,8,8,8,8,8,8,8,8,8,8,8,8,8,8,8,8,8,8,8,8,8,8,8,8,8,8,8,8,8,8,8,8,8,8,8,8,8,8,8,8,8,8,8,8,8,8,8,8,8,8,8,8,8,8,8,8,8,8,8,8,8,8,8,8,8,8,8,8,8,8,8,8,8,8,8,8,8,8,8,8,8,8,8,8,8,8,8,8,8,8,8,8,8,8,8,8,8,8,8,8,8,8,8,8,8,8,8,8,8,8,8]:List UInt8).getD x20.toNat 0).toNat:Int)
 some (IntKind.wrap .i64 ((IntKind.wrap .i64 ((32:Int)+(8:Int)))+(IntKind.wrap .i64 x21)))
 else none
 else
 let x24:=IntKind.wrap .u8 x2
 bif aaa x24 (([0,1,2,2,3,3,3,3,4,4,4,4,4,4,4,4,5,5,5,5,5,5,5,5,5,5,5,5,5,5,5,5,6,6,6,6,6,6,6,6,6,6,6,6,6,6,6,6,6,6,6,6,6,6,6,6,6,6,6,6,6,6,6,6,7,7,7,7,7,7,7,7,7,7,7,7,7,7,7,7,7,7,7,7,7,7,7,7,7,7,7,7,7,7,7,7,7,7,7,7,7,7,7,7,7,7,7,7,7,7,7,7,7,7,7,7,7,7,7,7,7,7,7,7,7,7,7,7,8,8,8,8,8,8,8,8,8,8,8,8,8,8,8,8,8,8,8,8,8,8,8,8,8,8,8,8,8,8,8,8,8,8,8,8,8,8,8,8,8,8,8,8,8,8,8,8,8,8,8,8,8,8,8,8,8,8,8,8,8,8,8,8,8,8,8,8,8,8,8,8,8,8,8,8,8,8,8,8,8,8,8,8,8,8,8,8,8,8,8,8,8,8,8,8,8,8,8,8,8,8,8,8,8,8,8,8,8,8,8,8,8,8,8,8,8,8,8,8,8,8,8,8,8,8,8,8]:List UInt8).length) then
 let x25:=((([0,1,2,2,3,3,3,3,4,4,4,4,4,4,4,4,5,5,5,5,5,5,5,5,5,5,5,5,5,5,5,5,6,6,6,6,6,6,6,6,6,6,6,6,6,6,6,6,6,6,6,6,6,6,6,6,6,6,6,6,6,6,6,6,7,7,7,7,7,7,7,7,7,7,7,7,7,7,7,7,7,7,7,7,7,7,7,7,7,7,7,7,7,7,7,7,7,7,7,7,7,7,7,7,7,7,7,7,7,7,7,7,7,7,7,7,7,7,7,7,7,7,7,7,7,7,7,7,8,8,8,8,8,8,8,8,8,8,8,8,8,8,8,8,8,8,8,8,8,8,8,8,8,8,8,8,8,8,8,8,8,8,8,8,8,8,8,8,8,8,8,8,8,8,8,8,8,8,8,8,8,8,8,8,8,8,8,8,8,8,8,8,8,8,8,8,8,8,8,8,8,8,8,8,8,8,8,8,8,8,8,8,8,8,8,8,8,8,8,8,8,8,8,8,8,8,8,8,8,8,8,8,8,8,8,8,8,8,8,8,8,8,8,8,8,8,8,8,8,8,8,8,8,8,8,8]:List UInt8).getD x24.toNat 0).toNat:Int)
 some (IntKind.wrap .i64 ((32:Int)+(IntKind.wrap .i64 x25)))
 else none
 else
 bif (decide (a0≥(65536:Int))) then
 let x29:=a0.fdiv (2^(min (16:Int).toNat (IntKind.bits .u64)))
 let x30:=IntKind.wrap .i64 ((0:Int)+(16:Int))
 bif (decide (x29≥(256:Int))) then
 let x34:=IntKind.wrap .u8 (x29.fdiv (2^(min (8:Int).toNat (IntKind.bits .u64))))
 bif aaa x34 (([0,1,2,2,3,3,3,3,4,4,4,4,4,4,4,4,5,5,5,5,5,5,5,5,5,5,5,5,5,5,5,5,6,6,6,6,6,6,6,6,6,6,6,6,6,6,6,6,6,6,6,6,6,6,6,6,6,6,6,6,6,6,6,6,7,7,7,7,7,7,7,7,7,7,7,7,7,7,7,7,7,7,7,7,7,7,7,7,7,7,7,7,7,7,7,7,7,7,7,7,7,7,7,7,7,7,7,7,7,7,7,7,7,7,7,7,7,7,7,7,7,7,7,7,7,7,7,7,8,8,8,8,8,8,8,8,8,8,8,8,8,8,8,8,8,8,8,8,8,8,8,8,8,8,8,8,8,8,8,8,8,8,8,8,8,8,8,8,8,8,8,8,8,8,8,8,8,8,8,8,8,8,8,8,8,8,8,8,8,8,8,8,8,8,8,8,8,8,8,8,8,8,8,8,8,8,8,8,8,8,8,8,8,8,8,8,8,8,8,8,8,8,8,8,8,8,8,8,8,8,8,8,8,8,8,8,8,8,8,8,8,8,8,8,8,8,8,8,8,8,8,8,8,8,8,8]:List UInt8).length) then
 let x35:=((([0,1,2,2,3,3,3,3,4,4,4,4,4,4,4,4,5,5,5,5,5,5,5,5,5,5,5,5,5,5,5,5,6,6,6,6,6,6,6,6,6,6,6,6,6,6,6,6,6,6,6,6,6,6,6,6,6,6,6,6,6,6,6,6,7,7,7,7,7,7,7,7,7,7,7,7,7,7,7,7,7,7,7,7,7,7,7,7,7,7,7,7,7,7,7,7,7,7,7,7,7,7,7,7,7,7,7,7,7,7,7,7,7,7,7,7,7,7,7,7,7,7,7,7,7,7,7,7,8,8,8,8,8,8,8,8,8,8,8,8,8,8,8,8,8,8,8,8,8,8,8,8,8,8,8,8,8,8,8,8,8,8,8,8,8,8,8,8,8,8,8,8,8,8,8,8,8,8,8,8,8,8,8,8,8,8,8,8,8,8,8,8,8,8,8,8,8,8,8,8,8,8,8,8,8,8,8,8,8,8,8,8,8,8,8,8,8,8,8,8,8,8,8,8,8,8,8,8,8,8,8,8,8,8,8,8,8,8,8,8,8,8,8,8,8,8,8,8,8,8,8,8,8,8,8,8]:List UInt8).getD x34.toNat 0).toNat:Int)
 some (IntKind.wrap .i64 ((IntKind.wrap .i64 (x30+(8:Int)))+(IntKind.wrap .i64 x35)))
 else none
 else
 let x38:=IntKind.wrap .u8 x29
 bif aaa x38 (([0,1,2,2,3,3,3,3,4,4,4,4,4,4,4,4,5,5,5,5,5,5,5,5,5,5,5,5,5,5,5,5,6,6,6,6,6,6,6,6,6,6,6,6,6,6,6,6,6,6,6,6,6,6,6,6,6,6,6,6,6,6,6,6,7,7,7,7,7,7,7,7,7,7,7,7,7,7,7,7,7,7,7,7,7,7,7,7,7,7,7,7,7,7,7,7,7,7,7,7,7,7,7,7,7,7,7,7,7,7,7,7,7,7,7,7,7,7,7,7,7,7,7,7,7,7,7,7,8,8,8,8,8,8,8,8,8,8,8,8,8,8,8,8,8,8,8,8,8,8,8,8,8,8,8,8,8,8,8,8,8,8,8,8,8,8,8,8,8,8,8,8,8,8,8,8,8,8,8,8,8,8,8,8,8,8,8,8,8,8,8,8,8,8,8,8,8,8,8,8,8,8,8,8,8,8,8,8,8,8,8,8,8,8,8,8,8,8,8,8,8,8,8,8,8,8,8,8,8,8,8,8,8,8,8,8,8,8,8,8,8,8,8,8,8,8,8,8,8,8,8,8,8,8,8,8]:List UInt8).length) then
 let x39:=((([0,1,2,2,3,3,3,3,4,4,4,4,4,4,4,4,5,5,5,5,5,5,5,5,5,5,5,5,5,5,5,5,6,6,6,6,6,6,6,6,6,6,6,6,6,6,6,6,6,6,6,6,6,6,6,6,6,6,6,6,6,6,6,6,7,7,7,7,7,7,7,7,7,7,7,7,7,7,7,7,7,7,7,7,7,7,7,7,7,7,7,7,7,7,7,7,7,7,7,7,7,7,7,7,7,7,7,7,7,7,7,7,7,7,7,7,7,7,7,7,7,7,7,7,7,7,7,7,8,8,8,8,8,8,8,8,8,8,8,8,8,8,8,8,8,8,8,8,8,8,8,8,8,8,8,8,8,8,8,8,8,8,8,8,8,8,8,8,8,8,8,8,8,8,8,8,8,8,8,8,8,8,8,8,8,8,8,8,8,8,8,8,8,8,8,8,8,8,8,8,8,8,8,8,8,8,8,8,8,8,8,8,8,8,8,8,8,8,8,8,8,8,8,8,8,8,8,8,8,8,8,8,8,8,8,8,8,8,8,8,8,8,8,8,8,8,8,8,8,8,8,8,8,8,8,8]:List UInt8).getD x38.toNat 0).toNat:Int)
 some (IntKind.wrap .i64 (x30+(IntKind.wrap .i64 x39)))
 else none
 else
 bif (decide (a0≥(256:Int))) then
 let x45:=IntKind.wrap .u8 (a0.fdiv (2^(min (8:Int).toNat (IntKind.bits .u64))))
 bif aaa x45 (([0,1,2,2,3,3,3,3,4,4,4,4,4,4,4,4,5,5,5,5,5,5,5,5,5,5,5,5,5,5,5,5,6,6,6,6,6,6,6,6,6,6,6,6,6,6,6,6,6,6,6,6,6,6,6,6,6,6,6,6,6,6,6,6,7,7,7,7,7,7,7,7,7,7,7,7,7,7,7,7,7,7,7,7,7,7,7,7,7,7,7,7,7,7,7,7,7,7,7,7,7,7,7,7,7,7,7,7,7,7,7,7,7,7,7,7,7,7,7,7,7,7,7,7,7,7,7,7,8,8,8,8,8,8,8,8,8,8,8,8,8,8,8,8,8,8,8,8,8,8,8,8,8,8,8,8,8,8,8,8,8,8,8,8,8,8,8,8,8,8,8,8,8,8,8,8,8,8,8,8,8,8,8,8,8,8,8,8,8,8,8,8,8,8,8,8,8,8,8,8,8,8,8,8,8,8,8,8,8,8,8,8,8,8,8,8,8,8,8,8,8,8,8,8,8,8,8,8,8,8,8,8,8,8,8,8,8,8,8,8,8,8,8,8,8,8,8,8,8,8,8,8,8,8,8,8]:List UInt8).length) then
 let x46:=((([0,1,2,2,3,3,3,3,4,4,4,4,4,4,4,4,5,5,5,5,5,5,5,5,5,5,5,5,5,5,5,5,6,6,6,6,6,6,6,6,6,6,6,6,6,6,6,6,6,6,6,6,6,6,6,6,6,6,6,6,6,6,6,6,7,7,7,7,7,7,7,7,7,7,7,7,7,7,7,7,7,7,7,7,7,7,7,7,7,7,7,7,7,7,7,7,7,7,7,7,7,7,7,7,7,7,7,7,7,7,7,7,7,7,7,7,7,7,7,7,7,7,7,7,7,7,7,7,8,8,8,8,8,8,8,8,8,8,8,8,8,8,8,8,8,8,8,8,8,8,8,8,8,8,8,8,8,8,8,8,8,8,8,8,8,8,8,8,8,8,8,8,8,8,8,8,8,8,8,8,8,8,8,8,8,8,8,8,8,8,8,8,8,8,8,8,8,8,8,8,8,8,8,8,8,8,8,8,8,8,8,8,8,8,8,8,8,8,8,8,8,8,8,8,8,8,8,8,8,8,8,8,8,8,8,8,8,8,8,8,8,8,8,8,8,8,8,8,8,8,8,8,8,8,8,8]:List UInt8).getD x45.toNat 0).toNat:Int)
 some (IntKind.wrap .i64 ((IntKind.wrap .i64 ((0:Int)+(8:Int)))+(IntKind.wrap .i64 x46)))
 else none
 else
 let x49:=IntKind.wrap .u8 a0
 bif aaa x49 (([0,1,2,2,3,3,3,3,4,4,4,4,4,4,4,4,5,5,5,5,5,5,5,5,5,5,5,5,5,5,5,5,6,6,6,6,6,6,6,6,6,6,6,6,6,6,6,6,6,6,6,6,6,6,6,6,6,6,6,6,6,6,6,6,7,7,7,7,7,7,7,7,7,7,7,7,7,7,7,7,7,7,7,7,7,7,7,7,7,7,7,7,7,7,7,7,7,7,7,7,7,7,7,7,7,7,7,7,7,7,7,7,7,7,7,7,7,7,7,7,7,7,7,7,7,7,7,7,8,8,8,8,8,8,8,8,8,8,8,8,8,8,8,8,8,8,8,8,8,8,8,8,8,8,8,8,8,8,8,8,8,8,8,8,8,8,8,8,8,8,8,8,8,8,8,8,8,8,8,8,8,8,8,8,8,8,8,8,8,8,8,8,8,8,8,8,8,8,8,8,8,8,8,8,8,8,8,8,8,8,8,8,8,8,8,8,8,8,8,8,8,8,8,8,8,8,8,8,8,8,8,8,8,8,8,8,8,8,8,8,8,8,8,8,8,8,8,8,8,8,8,8,8,8,8,8]:List UInt8).length) then
 let x50:=((([0,1,2,2,3,3,3,3,4,4,4,4,4,4,4,4,5,5,5,5,5,5,5,5,5,5,5,5,5,5,5,5,6,6,6,6,6,6,6,6,6,6,6,6,6,6,6,6,6,6,6,6,6,6,6,6,6,6,6,6,6,6,6,6,7,7,7,7,7,7,7,7,7,7,7,7,7,7,7,7,7,7,7,7,7,7,7,7,7,7,7,7,7,7,7,7,7,7,7,7,7,7,7,7,7,7,7,7,7,7,7,7,7,7,7,7,7,7,7,7,7,7,7,7,7,7,7,7,8,8,8,8,8,8,8,8,8,8,8,8,8,8,8,8,8,8,8,8,8,8,8,8,8,8,8,8,8,8,8,8,8,8,8,8,8,8,8,8,8,8,8,8,8,8,8,8,8,8,8,8,8,8,8,8,8,8,8,8,8,8,8,8,8,8,8,8,8,8,8,8,8,8,8,8,8,8,8,8,8,8,8,8,8,8,8,8,8,8,8,8,8,8,8,8,8,8,8,8,8,8,8,8,8,8,8,8,8,8,8,8,8,8,8,8,8,8,8,8,8,8,8,8,8,8,8,8]:List UInt8).getD x49.toNat 0).toNat:Int)
 some (IntKind.wrap .i64 ((0:Int)+(IntKind.wrap .i64 x50)))
 else none
def F185c (uu:Nat):CallE:=⟨185,⟨1,[],[(.int .u64)]⟩,⟨1,[],[(.int .i64)]⟩,fun x=>F185 uu x,0⟩
theorem F185ok (uu:Nat):(F185c uu).Ok Tryz.prog:=okJ Tryz.f185 25 0 uu [] [] false (q0) (p0) L0
def F118 (uu:Nat) (a0:Int):Option (Int):=
 (F185 uu a0).bind fun y1=>
 some y1
def F118c (uu:Nat):CallE:=⟨118,⟨1,[],[(.int .u64)]⟩,⟨1,[],[(.int .i64)]⟩,fun x=>F118 uu x,0⟩
theorem F118ok (uu:Nat):(F118c uu).Ok Tryz.prog:=okJ Tryz.f118 8 0 uu _ [] false (qc (F185ok uu)<|q0) (p0) L0
def F181 (uu:Nat) (a0:List UInt8) (a1:List UInt8):Option (Bool):=
 (F190 uu a0).bind fun y1=>
 (bif y1 then F190 uu a1 else some false).bind fun y2=>
 some (bif (bif y1 then (!y2) else false) then true else (Op.bytesLess a0 a1))
def F181c (uu:Nat):CallE:=⟨181,⟨2,[],[.str,.str]⟩,⟨1,[],[.bool]⟩,fun x=>F181 uu x.1 x.2,false⟩
theorem F181ok (uu:Nat):(F181c uu).Ok Tryz.prog:=okJ Tryz.f181 17 0 uu _ [] false (qc (F190ok uu)<|q0) (p0) L0
abbrev S175_5x:=Unit×Int×Int×Int×Int×(List PV)
abbrev S175_5y:=(Unit×Int×Int×Int×(List PV))
def S175_5 (uu:Nat) (a8:Unit) (a9:Int) (a10:Int) (a11:Int) (a12:Int) (a13:List PV):Option (S175_5x⊕S175_5y):=
 let x14:=decide (a12>a9)
 bif imp x14 (aaa a12 a13.length) then
 let x16:=IntKind.wrap .i64 (a12-(1:Int))
 bif imp x14 (aaa x16 a13.length) then
 (bif x14 then F181 uu ((a13.getD a12.toNat .bad).asStr) ((a13.getD x16.toNat .bad).asStr) else some false).bind fun y18=>
 bif (bif x14 then y18 else false) then
 let x20:=IntKind.wrap .i64 (a12-(1:Int))
 let x21:=IntKind.wrap .i64 (a12-(1:Int))
 bif aaa x21 a13.length then
 bif aaa a12 a13.length then
 bif aaa a12 a13.length then
 let x24:=a13.set a12.toNat (PV.str ((a13.getD x21.toNat .bad).asStr))
 bif aaa x20 x24.length then
 some (.inl ((),a9,a10,a11,(IntKind.wrap .i64 (a12-(1:Int))),(x24.set x20.toNat (PV.str ((a13.getD a12.toNat .bad).asStr)))))
 else none
 else none
 else none
 else none
 else
 some (.inr ((),a9,a10,a11,a13))
 else none
 else none
def S175_5step (uu:Nat) (x:S175_5x):Option (S175_5x⊕S175_5y):=S175_5 uu x.1 x.2.1 x.2.2.1 x.2.2.2.1 x.2.2.2.2.1 x.2.2.2.2.2
abbrev S175_2x:=Unit×Int×Int×Int×(List PV)
abbrev S175_2y:=((List PV))
def S175_2 (uu:Nat) (a2:Unit) (a3:Int) (a4:Int) (a5:Int) (a6:List PV):Option (S175_2x⊕S175_2y):=
 bif (decide (a5<a4)) then
 (aah uu (S175_5step uu) ((),a3,a4,a5,a5,a6)).bind fun y27=>
 some (.inl ((),y27.2.1,y27.2.2.1,(IntKind.wrap .i64 (y27.2.2.2.1+(1:Int))),y27.2.2.2.2))
 else
 some (.inr a6)
def S175_2step (uu:Nat) (x:S175_2x):Option (S175_2x⊕S175_2y):=S175_2 uu x.1 x.2.1 x.2.2.1 x.2.2.2.1 x.2.2.2.2
def F175 (uu:Nat) (a0:Unit) (a1:Int) (a2:Int) (a3:List PV):Option ((List PV)):=
 (aah uu (S175_2step uu) ((),a1,a2,(IntKind.wrap .i64 (a1+(1:Int))),a3)).bind fun y30=>
 some y30
def S175_5l (uu:Nat):LoopE:=⟨5,⟨[0,1,2,6,7],bx17,(.con (.arr 0 0 9))::(.int .i64)::sv31⟩,[(.exit 2,⟨[0,1,2,6],bx17,sv32⟩)],S175_5step uu⟩
def S175_2l (uu:Nat):LoopE:=⟨2,⟨[0,1,2,6],bx17,sv32⟩,[(.exit 0,⟨[],bx17,[(.slice 9)]⟩)],S175_2step uu⟩
def F175C (uu:Nat):Cfg:=cfg Tryz.prog 49 1 [F181c uu] [S175_5l uu,S175_2l uu] uu
def F175c (uu:Nat):CallE:=⟨175,⟨3,bx17,(.con (.arr 0 0 9))::sv33⟩,⟨0,bx17,[(.slice 9)]⟩,fun x=>F175 uu x.1 x.2.1 x.2.2.1 x.2.2.2,[]⟩
theorem F175k (uu:Nat):aal (F175C uu):=aad (qc (F181ok uu)<|q0) (p0)
theorem S175_5ok (uu:Nat):LoopOk (F175C uu) (lp (lp (aai Tryz.f175) 0) 0):=okL (F175k uu) uu (S175_5l uu) L0
theorem S175_2ok (uu:Nat):LoopOk (F175C uu) (lp (aai Tryz.f175) 0):=okL (F175k uu) uu (S175_2l uu) (L1 (S175_5ok uu))
theorem F175ok (uu:Nat):(F175c uu).Ok Tryz.prog:=okE Tryz.f175 (F175k uu) (L1 (S175_2ok uu))
def B117c (r:(Unit×Int×Int×Int×(List PV))->Option ((List PV))):CallE:=⟨117,⟨4,bx17,sv32⟩,⟨0,bx17,[(.slice 9)]⟩,r,[]⟩
abbrev B117_3x:=Unit×Int×Int×Int×Bool×Bool×(List PV)
abbrev B117_3y:=((List PV))
def B117_3 (uu:Nat) (r0:(Unit×Int×Int×Int×(List PV))->Option ((List PV))) (a1:Unit) (a2:Int) (a3:Int) (a4:Int) (a5:Bool) (a6:Bool) (a7:List PV):Option (B117_3x⊕B117_3y):=
 bif (decide ((IntKind.wrap .i64 (a3-a2))<=(12:Int))) then
 (F175 uu () a2 a3 a7).bind fun y10=>
 some (.inr y10)
 else
 bif (a4==(0:Int)) then
 none
 else
 bif (!a5) then
 none
 else
 none
def B117_3step (uu:Nat) (r0:(Unit×Int×Int×Int×(List PV))->Option ((List PV))) (x:B117_3x):Option (B117_3x⊕B117_3y):=B117_3 uu r0 x.1 x.2.1 x.2.2.1 x.2.2.2.1 x.2.2.2.2.1 x.2.2.2.2.2.1 x.2.2.2.2.2.2
def B117 (uu:Nat) (r0:(Unit×Int×Int×Int×(List PV))->Option ((List PV))) (a0:Unit) (a1:Int) (a2:Int) (a3:Int) (a4:List PV):Option ((List PV)):=
 (aah uu (B117_3step uu r0) ((),a1,a2,a3,true,true,a4)).bind fun y13=>
 some y13
def B117_3l (uu:Nat) (r0:(Unit×Int×Int×Int×(List PV))->Option ((List PV))):LoopE:=⟨3,⟨[0,1,2,3,8,9],bx17,[(.con (.arr 0 0 9)),(.int .i64),(.int .i64),(.int .i64),.bool,.bool,(.slice 9)]⟩,[(.ret,⟨[],bx17,[(.slice 9)]⟩)],B117_3step uu r0⟩
def B117C (uu:Nat) (r0:(Unit×Int×Int×Int×(List PV))->Option ((List PV))):Cfg:=cfg Tryz.prog 134 1 [F175c uu] [B117_3l uu r0] uu
theorem B117k (uu:Nat) (r0:(Unit×Int×Int×Int×(List PV))->Option ((List PV))) (h0:(B117c r0).Ok Tryz.prog):aal (B117C uu r0):=aad (qc (F175ok uu)<|q0) (p0)
theorem B117_3ok (uu:Nat) (r0:(Unit×Int×Int×Int×(List PV))->Option ((List PV))) (h0:(B117c r0).Ok Tryz.prog):LoopOk (B117C uu r0) (lp (aai Tryz.f117) 0):=okL (B117k uu r0 h0) uu (B117_3l uu r0) L0
theorem B117ok (uu:Nat) (r0:(Unit×Int×Int×Int×(List PV))->Option ((List PV))) (h0:(B117c r0).Ok Tryz.prog):(B117c (fun x=>B117 uu r0 x.1 x.2.1 x.2.2.1 x.2.2.2.1 x.2.2.2.2)).Ok Tryz.prog:=okE Tryz.f117 (B117k uu r0 h0) (L1 (B117_3ok uu r0 h0))
def G117 (uu:Nat):Nat->((Unit×Int×Int×Int×(List PV))->Option ((List PV)))
 | 0=>fun _=>none
 | d+1=>fun x=>B117 uu (G117 uu d) x.1 x.2.1 x.2.2.1 x.2.2.2.1 x.2.2.2.2
theorem G117ok (uu:Nat):∀ d,(B117c (G117 uu d)).Ok Tryz.prog
 | 0=>a2b
 | d+1=>B117ok uu (G117 uu d) (G117ok uu d)
def F117 (uu:Nat) (a0:Unit) (a1:Int) (a2:Int) (a3:Int) (a4:List PV):Option ((List PV)):=limQ uu (fun d=>(G117 uu d)) (a0,a1,a2,a3,a4)
def F117c (uu:Nat):CallE:=⟨117,⟨4,bx17,sv32⟩,⟨0,bx17,[(.slice 9)]⟩,fun x=>F117 uu x.1 x.2.1 x.2.2.1 x.2.2.2.1 x.2.2.2.2,[]⟩
theorem F117ok (uu:Nat):(F117c uu).Ok Tryz.prog:=a5o (F117c uu) (G:=(fun d=>(G117 uu d))) (fun x=>rfl) (fun d=>(G117ok uu d))
def F62 (uu:Nat) (a0:Unit) (a1:List PV):Option ((List PV)):=
 let x1:=(a1.length:Int)
 (F118 uu (IntKind.wrap .u64 x1)).bind fun y3=>
 (F117 uu () (0:Int) x1 y3 a1).bind fun y4=>
 some y4
def F62c (uu:Nat):CallE:=⟨62,⟨1,bx17,[(.con (.arr 0 0 9)),(.slice 9)]⟩,⟨0,bx17,[(.slice 9)]⟩,fun x=>F62 uu x.1 x.2,[]⟩
theorem F62ok (uu:Nat):(F62c uu).Ok Tryz.prog:=okJ Tryz.f62 11 1 uu _ [] false (qc (F118ok uu)<|qc (F117ok uu)<|q0) (p0) L0
abbrev S115_4x:=Unit×Unit×(List PV)×Int×Int×PV×(List PV)
abbrev S115_4y:=(Unit×PV×(List PV))
def S115_4 (uu:Nat) (a18:Unit) (a19:Unit) (a20:List PV) (a21:Int) (a22:Int) (a23:PV) (a24:List PV):Option (S115_4x⊕S115_4y):=
 bif (decide (a22<a21)) then
 bif aaa a22 a20.length then
 let x26:=a20.getD a22.toNat .bad
 (F173 uu a23 x26).bind fun y27=>
 bif y27 then
 let x28:=((x26.fld 4).fld 1).asStr
 bif decide (a24.length+[(PV.str x28)].length<=aam) then
 some (.inl ((),(),a20,a21,(IntKind.wrap .i64 (a22+(1:Int))),a23,(a24++[(PV.str x28)])))
 else none
 else
 some (.inl ((),(),a20,a21,(IntKind.wrap .i64 (a22+(1:Int))),a23,a24))
 else none
 else
 some (.inr ((),a23,a24))
def S115_4step (uu:Nat) (x:S115_4x):Option (S115_4x⊕S115_4y):=S115_4 uu x.1 x.2.1 x.2.2.1 x.2.2.2.1 x.2.2.2.2.1 x.2.2.2.2.2.1 x.2.2.2.2.2.2
def F115 (uu:Nat) (a0:PV) (a1:List UInt8):Option ((List PV)):=
 let x2:=(PV.mget ((a0.fld 0).asMap) (PV.str a1)).getD (PV.agg [(PV.str ([]:List UInt8)),(PV.slice []),(PV.slice []),(PV.slice []),(PV.slice [])])
 let x3:=(x2.fld 1).asList
 (aah uu (S115_4step uu) ((),(),x3,(x3.length:Int),(0:Int),a0,[])).bind fun y32=>
 (F62 uu () y32.2.2).bind fun y33=>
 (ah2 uu y33).bind fun y34=>
 some y34.2
def S115_4l (uu:Nat):LoopE:=⟨4,⟨[2,5,12,13,14],[.box 179 .leaf,.arr 9 1],(.con (.ref 0 [] 179))::(.con (.arr 1 1 9))::(.slice 59)::(.int .i64)::(.int .i64)::sv34⟩,[(.exit 0,⟨[5],[.box 179 .leaf,.arr 9 1],(.con (.arr 1 1 9))::sv34⟩)],S115_4step uu⟩
def F115C (uu:Nat):Cfg:=cfg Tryz.prog 32 0 [F173c uu,F62c uu,afg uu] [S115_4l uu] uu
def F115c (uu:Nat):CallE:=⟨115,⟨2,[],sv35⟩,⟨1,[],[(.slice 9)]⟩,fun x=>F115 uu x.1 x.2,[]⟩
theorem F115k (uu:Nat):aal (F115C uu):=aad (qc (F173ok uu)<|qc (F62ok uu)<|qc (af9 uu)<|q0) (p0)
theorem S115_4ok (uu:Nat):LoopOk (F115C uu) (lp (aai Tryz.f115) 0):=okL (F115k uu) uu (S115_4l uu) L0
theorem F115ok (uu:Nat):(F115c uu).Ok Tryz.prog:=okE Tryz.f115 (F115k uu) (L1 (S115_4ok uu))
abbrev S174_4x:=Unit×(List PV)×(List PV)×Int×Int×PV
abbrev S174_4y:=((List PV)×PV)
def S174_4 (uu:Nat) (a5:Unit) (a6:List PV) (a7:List PV) (a8:Int) (a9:Int) (a10:PV):Option (S174_4x⊕S174_4y):=
 bif (decide (a9<a8)) then
 bif aaa a9 a7.length then
 let x12:=a7.getD a9.toNat .bad
 (F228 uu a10 x12).bind fun y13=>
 bif y13 then
 let x14:=((x12.fld 4).fld 1).asStr
 bif decide (a6.length+[(PV.str x14)].length<=aam) then
 some (.inl ((),(a6++[(PV.str x14)]),a7,a8,(IntKind.wrap .i64 (a9+(1:Int))),a10))
 else none
 else
 some (.inl ((),a6,a7,a8,(IntKind.wrap .i64 (a9+(1:Int))),a10))
 else none
 else
 some (.inr (a6,a10))
def S174_4step (uu:Nat) (x:S174_4x):Option (S174_4x⊕S174_4y):=S174_4 uu x.1 x.2.1 x.2.2.1 x.2.2.2.1 x.2.2.2.2.1 x.2.2.2.2.2
def F174 (uu:Nat) (a0:PV) (a1:List UInt8):Option ((List PV)):=
 let x2:=(PV.mget ((a0.fld 0).asMap) (PV.str a1)).getD (PV.agg [(PV.str ([]:List UInt8)),(PV.slice []),(PV.slice []),(PV.slice []),(PV.slice [])])
 let x3:=(x2.fld 1).asList
 (aah uu (S174_4step uu) ((),[],x3,(x3.length:Int),(0:Int),a0)).bind fun y18=>
 some y18.1
def S174_4l (uu:Nat):LoopE:=⟨4,⟨[2,5,12,13,14],[.box 179 .leaf,.acc],[(.con (.ref 0 [] 179)),(.acc 1 9),(.slice 59),(.int .i64),(.int .i64),(.data 179)]⟩,[(.exit 0,⟨[5],[.box 179 .leaf,.acc],[(.acc 1 9),(.data 179)]⟩)],S174_4step uu⟩
def F174C (uu:Nat):Cfg:=cfg Tryz.prog 29 0 [F228c uu] [S174_4l uu] uu
def F174c (uu:Nat):CallE:=⟨174,⟨2,[],sv35⟩,⟨1,[],[(.slice 9)]⟩,fun x=>F174 uu x.1 x.2,[]⟩
theorem F174k (uu:Nat):aal (F174C uu):=aad (qc (F228ok uu)<|q0) (p0)
theorem S174_4ok (uu:Nat):LoopOk (F174C uu) (lp (aai Tryz.f174) 0):=okL (F174k uu) uu (S174_4l uu) L0
theorem F174ok (uu:Nat):(F174c uu).Ok Tryz.prog:=okE Tryz.f174 (F174k uu) (L1 (S174_4ok uu))
abbrev S116_4x:=Unit×Unit×(List PV)×PV×(List (PV×PV))
abbrev S116_4y:=(Unit×PV×(List (PV×PV)))
def S116_4 (uu:Nat) (a2:Unit) (a3:Unit) (a4:List PV) (a5:PV) (a6:List (PV×PV)):Option (S116_4x⊕S116_4y):=
 bif (decide ((a4.length:Int)>(0:Int))) then
 bif aaa (0:Int) a4.length then
 let x10:=(a4.getD (0:Int).toNat .bad).asStr
 bif (!(((PV.mget a6 (PV.str x10)).getD (PV.bool false)).asBool)) then
 (F174 uu a5 x10).bind fun y13=>
 none
 else
 bif decide (0<=(1:Int)/\(1:Int)<=(a4.length:Int)/\(a4.length:Int)<=(a4.length:Int)) then
 some (.inl ((),(),((a4.take (a4.length:Int).toNat).drop (1:Int).toNat),a5,a6))
 else none
 else none
 else
 some (.inr ((),a5,a6))
def S116_4step (uu:Nat) (x:S116_4x):Option (S116_4x⊕S116_4y):=S116_4 uu x.1 x.2.1 x.2.2.1 x.2.2.2.1 x.2.2.2.2
def F116 (uu:Nat) (a0:PV) (a1:List UInt8):Option ((List (PV×PV))):=
 (F174 uu a0 a1).bind fun y1=>
 (aah uu (S116_4step uu) ((),(),y1,a0,[])).bind fun y15=>
 some y15.2.2
def S116_4l (uu:Nat):LoopE:=⟨4,⟨[2,5,6],[.box 179 .leaf,.map 9 4],[(.con (.ref 0 [] 179)),(.con (.mref 1)),(.slice 9),(.data 179),(.map 9 4)]⟩,[(.exit 0,⟨[5],[.box 179 .leaf,.map 9 4],[(.con (.mref 1)),(.data 179),(.map 9 4)]⟩)],S116_4step uu⟩
def F116C (uu:Nat):Cfg:=cfg Tryz.prog 32 0 [F174c uu] [S116_4l uu] uu
def F116c (uu:Nat):CallE:=⟨116,⟨2,[],sv35⟩,⟨1,[],[(.map 9 4)]⟩,fun x=>F116 uu x.1 x.2,[]⟩
theorem F116k (uu:Nat):aal (F116C uu):=aad (qc (F174ok uu)<|q0) (p0)
theorem S116_4ok (uu:Nat):LoopOk (F116C uu) (lp (aai Tryz.f116) 0):=okL (F116k uu) uu (S116_4l uu) L0
theorem F116ok (uu:Nat):(F116c uu).Ok Tryz.prog:=okE Tryz.f116 (F116k uu) (L1 (S116_4ok uu))
abbrev S61_13x:=Unit×Unit×(List PV)×Int×Int×Unit×PV×PV×(List PV)×PV×(List (PV×PV))
abbrev S61_13y:=(Unit×Unit×(List PV)×Int×Int×PV×PV×(List PV)×PV×(List (PV×PV)))
def S61_13 (uu:Nat) (a46:Unit) (a47:Unit) (a48:List PV) (a49:Int) (a50:Int) (a51:Unit) (a52:PV) (a53:PV) (a54:List PV) (a55:PV) (a56:List (PV×PV)):Option (S61_13x⊕S61_13y):=
 bif a56.isEmpty then
 some (.inr ((),(),a48,a49,a50,a52,a53,a54,a55,a56))
 else none
def S61_13step (uu:Nat) (x:S61_13x):Option (S61_13x⊕S61_13y):=S61_13 uu x.1 x.2.1 x.2.2.1 x.2.2.2.1 x.2.2.2.2.1 x.2.2.2.2.2.1 x.2.2.2.2.2.2.1 x.2.2.2.2.2.2.2.1 x.2.2.2.2.2.2.2.2.1 x.2.2.2.2.2.2.2.2.2.1 x.2.2.2.2.2.2.2.2.2.2
abbrev S61_5x:=Unit×Unit×(List PV)×Int×Int×PV×PV×(List PV)
abbrev S61_5y:=(Unit×PV×PV×(List PV))
def S61_5 (uu:Nat) (a22:Unit) (a23:Unit) (a24:List PV) (a25:Int) (a26:Int) (a27:PV) (a28:PV) (a29:List PV):Option (S61_5x⊕S61_5y):=
 bif (decide (a26<a25)) then
 bif aaa a26 a24.length then
 let x32:=(a24.getD a26.toNat .bad).asStr
 let x33:=(a28.fld 0).asMap
 let x34:=(PV.mget x33 (PV.str x32)).getD (PV.agg [(PV.str ([]:List UInt8)),(PV.slice []),(PV.slice []),(PV.slice []),(PV.slice [])])
 bif (!(PV.mhas x33 (PV.str x32))) then
 bif (((PV.mget ((a28.fld 1).asMap) (PV.str x32)).getD (PV.bool false)).asBool) then
 bif decide (a29.length+[(PV.str x32)].length<=aam) then
 some (.inl ((),(),a24,a25,(IntKind.wrap .i64 (a26+(1:Int))),a27,a28,(a29++[(PV.str x32)])))
 else none
 else
 some (.inl ((),(),a24,a25,(IntKind.wrap .i64 (a26+(1:Int))),a27,a28,a29))
 else
 bif decide (a29.length+[(PV.str x32)].length<=aam) then
 let x42:=a29++[(PV.str x32)]
 (F115 uu a28 x32).bind fun y43=>
 bif decide (x42.length+y43.length<=aam) then
 (F116 uu a28 x32).bind fun y45=>
 (aah uu (S61_13step uu) ((),(),a24,a25,a26,(),a27,a28,(x42++y43),x34,y45)).bind fun y57=>
 some (.inl ((),(),y57.2.2.1,y57.2.2.2.1,(IntKind.wrap .i64 (y57.2.2.2.2.1+(1:Int))),y57.2.2.2.2.2.1,y57.2.2.2.2.2.2.1,y57.2.2.2.2.2.2.2.1))
 else none
 else none
 else none
 else
 some (.inr ((),a27,a28,a29))
def S61_5step (uu:Nat) (x:S61_5x):Option (S61_5x⊕S61_5y):=S61_5 uu x.1 x.2.1 x.2.2.1 x.2.2.2.1 x.2.2.2.2.1 x.2.2.2.2.2.1 x.2.2.2.2.2.2.1 x.2.2.2.2.2.2.2
def F61 (uu:Nat) (a0:PV) (a1:List PV):Option (Unit×(List PV)):=
 (F114 uu a0).bind fun y1=>
 (aah uu (S61_5step uu) ((),(),a1,(a1.length:Int),(0:Int),a0,y1,[])).bind fun y59=>
 (F62 uu () y59.2.2.2).bind fun y60=>
 (ah2 uu y60).bind fun y61=>
 some ((),y61.2)
def S61_13l (uu:Nat):LoopE:=⟨13,⟨[5,6,14,15,16,48],bx18,[(.con (.ref 1 [] 179)),(.con (.arr 2 1 9)),(.slice 9),(.int .i64),(.int .i64),(.con (.mitr 4)),(.data 26),(.data 179),(.slice 9),(.data 63),(.map 9 4)]⟩,[(.exit 2,⟨[5,6,14,15,16],bx18,[(.con (.ref 1 [] 179)),(.con (.arr 2 1 9)),(.slice 9),(.int .i64),(.int .i64),(.data 26),(.data 179),(.slice 9),(.data 63),(.map 9 4)]⟩)],S61_13step uu⟩
def S61_5l (uu:Nat):LoopE:=⟨5,⟨[5,6,14,15,16],bx19,(.con (.ref 1 [] 179))::(.con (.arr 2 1 9))::(.slice 9)::(.int .i64)::(.int .i64)::(.data 26)::sv34⟩,[(.exit 0,⟨[6],bx19,(.con (.arr 2 1 9))::(.data 26)::sv34⟩)],S61_5step uu⟩
def F61C (uu:Nat):Cfg:=cfg Tryz.prog 66 0 [F114c uu,F115c uu,F116c uu,F62c uu,afg uu] [S61_13l uu,S61_5l uu] uu [] true
def F61c (uu:Nat):CallE:=⟨61,⟨2,[],[(.data 26),(.slice 9)]⟩,⟨1,[.arr 9 1],[(.con (.arr 0 1 9)),(.slice 9)]⟩,fun x=>F61 uu x.1 x.2,((),[])⟩
theorem F61k (uu:Nat):aal (F61C uu):=aad (qc (F114ok uu)<|qc (F115ok uu)<|qc (F116ok uu)<|qc (F62ok uu)<|qc (af9 uu)<|q0) (p0)
theorem S61_13ok (uu:Nat):LoopOk (F61C uu) (lp (lp (aai Tryz.f61) 0) 0):=okL (F61k uu) uu (S61_13l uu) L0
theorem S61_5ok (uu:Nat):LoopOk (F61C uu) (lp (aai Tryz.f61) 0):=okL (F61k uu) uu (S61_5l uu) (L1 (S61_13ok uu))
theorem F61ok (uu:Nat):(F61c uu).Ok Tryz.prog:=okE Tryz.f61 (F61k uu) (L1 (S61_5ok uu))
abbrev S20_4x:=(List UInt8)×(List PV)×(List PV)×Int×Int
abbrev S20_4y:=((List PV))
def S20_4 (uu:Nat) (a2:List UInt8) (a3:List PV) (a4:List PV) (a5:Int) (a6:Int):Option (S20_4x⊕S20_4y):=
 bif (decide (a6<a5)) then
 bif aaa a6 a4.length then
 let x8:=a4.getD a6.toNat .bad
 bif (((x8.fld 1).asStr)==a2) then
 bif decide (a3.length+[x8].length<=aam) then
 some (.inl (a2,(a3++[x8]),a4,a5,(IntKind.wrap .i64 (a6+(1:Int)))))
 else none
 else
 some (.inl (a2,a3,a4,a5,(IntKind.wrap .i64 (a6+(1:Int)))))
 else none
 else
 some (.inr a3)
def S20_4step (uu:Nat) (x:S20_4x):Option (S20_4x⊕S20_4y):=S20_4 uu x.1 x.2.1 x.2.2.1 x.2.2.2.1 x.2.2.2.2
def F20 (uu:Nat) (a0:List PV) (a1:List UInt8):Option ((List PV)):=
 (aah uu (S20_4step uu) (a1,[],a0,(a0.length:Int),(0:Int))).bind fun y14=>
 some y14
def S20_4l (uu:Nat):LoopE:=⟨4,⟨[1,5,8,9,10],[.acc],.str::(.acc 0 34)::(.slice 34)::sv7⟩,[(.exit 0,⟨[5],[.acc],[(.acc 0 34)]⟩)],S20_4step uu⟩
def F20C (uu:Nat):Cfg:=cfg Tryz.prog 24 0 [] [S20_4l uu] uu
def F20c (uu:Nat):CallE:=⟨20,⟨2,[],[(.slice 34),.str]⟩,⟨1,[],[(.slice 34)]⟩,fun x=>F20 uu x.1 x.2,[]⟩
theorem F20k (uu:Nat):aal (F20C uu):=aad (q0) (p0)
theorem S20_4ok (uu:Nat):LoopOk (F20C uu) (lp (aai Tryz.f20) 0):=okL (F20k uu) uu (S20_4l uu) L0
theorem F20ok (uu:Nat):(F20c uu).Ok Tryz.prog:=okE Tryz.f20 (F20k uu) (L1 (S20_4ok uu))
abbrev S24_7x:=(List PV)×(List PV)×Unit×Int×Int×PV×PV×(List PV)×(List PV)
abbrev S24_7y:=((List PV)×PV×PV×(List PV)×(List PV))
def S24_7 (uu:Nat) (a8:List PV) (a9:List PV) (a10:Unit) (a11:Int) (a12:Int) (a13:PV) (a14:PV) (a15:List PV) (a16:List PV):Option (S24_7x⊕S24_7y):=
 bif (decide (a12<a11)) then
 bif aaa a12 a15.length then
 let x18:=(a15.getD a12.toNat .bad).asStr
 (F20 uu a8 x18).bind fun y19=>
 bif (decide ((y19.length:Int)>(0:Int))) then
 bif decide (a9.length+[(PV.str x18)].length<=aam) then
 some (.inl (a8,(a9++[(PV.str x18)]),(),a11,(IntKind.wrap .i64 (a12+(1:Int))),a13,a14,a15,a16))
 else none
 else
 some (.inl (a8,a9,(),a11,(IntKind.wrap .i64 (a12+(1:Int))),a13,a14,a15,a16))
 else none
 else
 some (.inr (a9,a13,a14,a15,a16))
def S24_7step (uu:Nat) (x:S24_7x):Option (S24_7x⊕S24_7y):=S24_7 uu x.1 x.2.1 x.2.2.1 x.2.2.2.1 x.2.2.2.2.1 x.2.2.2.2.2.1 x.2.2.2.2.2.2.1 x.2.2.2.2.2.2.2.1 x.2.2.2.2.2.2.2.2
def F24 (uu:Nat) (a0:PV) (a1:PV) (a2:List UInt8):Option ((List PV)):=
 (F61 uu a0 [(PV.str a2)]).bind fun y1=>
 (F61 uu a1 [(PV.str a2)]).bind fun y2=>
 bif decide (y1.2.length+y2.2.length<=aam) then
 (F62 uu () (y1.2++y2.2)).bind fun y4=>
 (F14 uu a0 a1).bind fun y5=>
 (ah2 uu y4).bind fun y6=>
 (aah uu (S24_7step uu) (y5,[],(),(y6.2.length:Int),(0:Int),a0,a1,y6.2,y2.2)).bind fun y25=>
 some y25.1
 else none
def S24_7l (uu:Nat):LoopE:=⟨7,⟨[8,9,27,28,29],bx20,(.slice 34)::(.acc 4 9)::(.con (.arr 2 1 9))::(.int .i64)::(.int .i64)::(.data 26)::(.data 26)::sv36⟩,[(.exit 0,⟨[9],bx20,(.acc 4 9)::(.data 26)::(.data 26)::sv36⟩)],S24_7step uu⟩
def F24C (uu:Nat):Cfg:=cfg Tryz.prog 44 0 [F61c uu,F62c uu,F14c uu,afg uu,F20c uu] [S24_7l uu] uu
def F24c (uu:Nat):CallE:=⟨24,⟨3,[],(.data 26)::sv2⟩,⟨1,[],[(.slice 9)]⟩,fun x=>F24 uu x.1 x.2.1 x.2.2,[]⟩
theorem F24k (uu:Nat):aal (F24C uu):=aad (qc (F61ok uu)<|qc (F62ok uu)<|qc (F14ok uu)<|qc (af9 uu)<|qc (F20ok uu)<|q0) (p0)
theorem S24_7ok (uu:Nat):LoopOk (F24C uu) (lp (aai Tryz.f24) 0):=okL (F24k uu) uu (S24_7l uu) L0
theorem F24ok (uu:Nat):(F24c uu).Ok Tryz.prog:=okE Tryz.f24 (F24k uu) (L1 (S24_7ok uu))
def F51 (uu:Nat) (a0:Int):Option ((List UInt8)):=
 let x1:=(PV.agg [(PV.str ([109,101,115,115,97,103,101,45,103,111,110,101]:List UInt8)),(PV.str ([109,101,115,115,97,103,101,45,110,101,119]:List UInt8)),(PV.str ([102,105,101,108,100,45,103,111,110,101]:List UInt8)),(PV.str ([102,105,101,108,100,45,110,101,119]:List UInt8)),(PV.str ([102,105,101,108,100,45,110,97,109,101]:List UInt8)),(PV.str ([102,105,101,108,100,45,116,121,112,101]:List UInt8)),(PV.str ([102,105,101,108,100,45,99,97,114,100]:List UInt8)),(PV.str ([102,105,101,108,100,45,107,101,121]:List UInt8)),(PV.str ([102,105,101,108,100,45,117,110,105,111,110]:List UInt8)),(PV.str ([102,105,101,108,100,45,100,101,102,97,117,108,116]:List UInt8)),(PV.str ([101,110,117,109,45,103,111,110,101]:List UInt8)),(PV.str ([101,110,117,109,45,110,101,119]:List UInt8)),(PV.str ([101,110,117,109,45,111,112,101,110]:List UInt8)),(PV.str ([105,116,101,109,45,103,111,110,101]:List UInt8)),(PV.str ([105,116,101,109,45,110,101,119]:List UInt8)),(PV.str ([105,116,101,109,45,110,97,109,101]:List UInt8)),(PV.str ([115,101,114,118,105,99,101,45,103,111,110,101]:List UInt8)),(PV.str ([115,101,114,118,105,99,101,45,110,101,119]:List UInt8)),(PV.str ([109,101,116,104,111,100,45,103,111,110,101]:List UInt8)),(PV.str ([109,101,116,104,111,100,45,110,101,119]:List UInt8)),(PV.str ([109,101,116,104,111,100,45,116,121,112,101]:List UInt8)),(PV.str ([109,101,116,104,111,100,45,115,104,97,112,101]:List UInt8))])
 bif (bif (decide (a0<(1:Int))) then true else (decide (a0>(22:Int)))) then
 some ([117,110,107,110,111,119,110]:List UInt8)
 else
 let x5:=IntKind.wrap .i64 (a0-(1:Int))
 bif aaa x5 22 then
 some ((x1.fld x5.toNat).asStr)
 else none
def F51c (uu:Nat):CallE:=⟨51,⟨1,[],[(.int .i64)]⟩,⟨1,[],[.str]⟩,fun x=>F51 uu x,[]⟩
theorem F51ok (uu:Nat):(F51c uu).Ok Tryz.prog:=okJ Tryz.f51 15 0 uu [] [] false (q0) (p0) L0
abbrev S18_4x:=Unit×(List PV)×Int×Int×(List UInt8)
abbrev S18_4y:=(Unit×(List UInt8))
def S18_4 (uu:Nat) (a2:Unit) (a3:List PV) (a4:Int) (a5:Int) (a6:List UInt8):Option (S18_4x⊕S18_4y):=
 bif (decide (a5<a4)) then
 bif aaa a5 a3.length then
 let x8:=a3.getD a5.toNat .bad
 (F51 uu ((x8.fld 0).asInt)).bind fun y10=>
 (aos uu ((x8.fld 2).asInt)).bind fun y13=>
 (F53 uu ((x8.fld 3).asStr)).bind fun y15=>
 (F53 uu ((x8.fld 4).asStr)).bind fun y17=>
 (azc uu [(PV.str y10),(PV.str ((x8.fld 1).asStr)),(PV.str y13),(PV.str y15),(PV.str y17)] ([32]:List UInt8)).bind fun y18=>
 bif decide (y18.length+([10]:List UInt8).length<=abe) then
 (abm uu (y18++([10]:List UInt8)) a6).bind fun y20=>
 some (.inl ((),a3,a4,(IntKind.wrap .i64 (a5+(1:Int))),y20.2.2))
 else none
 else none
 else
 some (.inr ((),a6))
def S18_4step (uu:Nat) (x:S18_4x):Option (S18_4x⊕S18_4y):=S18_4 uu x.1 x.2.1 x.2.2.1 x.2.2.2.1 x.2.2.2.2
def F18 (uu:Nat) (a0:List PV):Option ((List UInt8)):=
 (aah uu (S18_4step uu) ((),a0,(a0.length:Int),(0:Int),[])).bind fun y22=>
 (am6 uu y22.2).bind fun y23=>
 some y23.1
def S18_4l (uu:Nat):LoopE:=⟨4,⟨[3,6,7,8],[.bld 89],[(.con (.bref 0 89)),(.slice 34),(.int .i64),(.int .i64),.str]⟩,[(.exit 0,⟨[3],[.bld 89],[(.con (.bref 0 89)),.str]⟩)],S18_4step uu⟩
def F18C (uu:Nat):Cfg:=cfg Tryz.prog 32 0 [F51c uu,avx uu,F53c uu,a1m uu,ade uu,aho uu] [S18_4l uu] uu
def F18c (uu:Nat):CallE:=⟨18,⟨1,[],[(.slice 34)]⟩,⟨1,[],[.str]⟩,fun x=>F18 uu x,[]⟩
theorem F18k (uu:Nat):aal (F18C uu):=aad (qc (F51ok uu)<|qc (avy uu)<|qc (F53ok uu)<|qc (a2h uu)<|qc (aen uu)<|qc (ajt uu)<|q0) (p0)
theorem S18_4ok (uu:Nat):LoopOk (F18C uu) (lp (aai Tryz.f18) 0):=okL (F18k uu) uu (S18_4l uu) L0
theorem F18ok (uu:Nat):(F18c uu).Ok Tryz.prog:=okE Tryz.f18 (F18k uu) (L1 (S18_4ok uu))
def F47 (uu:Nat) (a0:Int):Option (Int):=
 bif (a0==(1:Int)) then
 some (IntKind.wrap .i64 (a0+(1:Int)))
 else
 bif (a0==(3:Int)) then
 some (IntKind.wrap .i64 (a0+(1:Int)))
 else
 bif (a0==(11:Int)) then
 some (IntKind.wrap .i64 (a0+(1:Int)))
 else
 bif (a0==(17:Int)) then
 some (IntKind.wrap .i64 (a0+(1:Int)))
 else
 bif (a0==(19:Int)) then
 some (IntKind.wrap .i64 (a0+(1:Int)))
 else
 bif (a0==(14:Int)) then
 some (IntKind.wrap .i64 (a0+(1:Int)))
 else
 bif (a0==(2:Int)) then
 some (IntKind.wrap .i64 (a0-(1:Int)))
 else
 bif (a0==(4:Int)) then
 some (IntKind.wrap .i64 (a0-(1:Int)))
 else
 bif (a0==(12:Int)) then
 some (IntKind.wrap .i64 (a0-(1:Int)))
 else
 bif (a0==(18:Int)) then
 some (IntKind.wrap .i64 (a0-(1:Int)))
 else
 bif (a0==(20:Int)) then
 some (IntKind.wrap .i64 (a0-(1:Int)))
 else
 bif (a0==(15:Int)) then
 some (IntKind.wrap .i64 (a0-(1:Int)))
 else
 some a0
def F47c (uu:Nat):CallE:=⟨47,⟨1,[],[(.int .i64)]⟩,⟨1,[],[(.int .i64)]⟩,fun x=>F47 uu x,0⟩
theorem F47ok (uu:Nat):(F47c uu).Ok Tryz.prog:=okJ Tryz.f47 23 0 uu [] [] false (q0) (p0) L0
abbrev S16_4x:=(List PV)×(List PV)×Int×Int
abbrev S16_4y:=((List PV))
def S16_4 (uu:Nat) (a2:List PV) (a3:List PV) (a4:Int) (a5:Int):Option (S16_4x⊕S16_4y):=
 bif (decide (a5<a4)) then
 bif aaa a5 a3.length then
 let x7:=a3.getD a5.toNat .bad
 (F47 uu ((x7.fld 0).asInt)).bind fun y9=>
 let x10:=(x7.fld 1).asStr
 let x11:=(x7.fld 2).asInt
 let x12:=(x7.fld 4).asStr
 let x13:=(x7.fld 3).asStr
 bif decide (a2.length+[(PV.agg [(PV.int y9),(PV.str x10),(PV.int x11),(PV.str x12),(PV.str x13)])].length<=aam) then
 let x14:=a2++[(PV.agg [(PV.int y9),(PV.str x10),(PV.int x11),(PV.str x12),(PV.str x13)])]
 some (.inl (x14,a3,a4,(IntKind.wrap .i64 (a5+(1:Int)))))
 else none
 else none
 else
 some (.inr a2)
def S16_4step (uu:Nat) (x:S16_4x):Option (S16_4x⊕S16_4y):=S16_4 uu x.1 x.2.1 x.2.2.1 x.2.2.2
def F16 (uu:Nat) (a0:List PV):Option ((List PV)):=
 (aah uu (S16_4step uu) ([],a0,(a0.length:Int),(0:Int))).bind fun y16=>
 (F39 uu y16).bind fun y17=>
 some y17
def S16_4l (uu:Nat):LoopE:=⟨4,⟨[3,6,7,8],[.acc],(.acc 0 34)::(.slice 34)::sv7⟩,[(.exit 0,⟨[3],[.acc],[(.acc 0 34)]⟩)],S16_4step uu⟩
def F16C (uu:Nat):Cfg:=cfg Tryz.prog 30 0 [F47c uu,F39c uu] [S16_4l uu] uu
def F16c (uu:Nat):CallE:=⟨16,⟨1,[],[(.slice 34)]⟩,⟨1,[],[(.slice 34)]⟩,fun x=>F16 uu x,[]⟩
theorem F16k (uu:Nat):aal (F16C uu):=aad (qc (F47ok uu)<|qc (F39ok uu)<|q0) (p0)
theorem S16_4ok (uu:Nat):LoopOk (F16C uu) (lp (aai Tryz.f16) 0):=okL (F16k uu) uu (S16_4l uu) L0
theorem F16ok (uu:Nat):(F16c uu).Ok Tryz.prog:=okE Tryz.f16 (F16k uu) (L1 (S16_4ok uu))
def F12 (uu:Nat) :Option (Bool):=
 (F14 uu (PV.agg [(PV.slice [(PV.agg [(PV.str ([97,46,77]:List UInt8)),(PV.slice [(PV.agg [(PV.int (1:Int)),(PV.str ([110]:List UInt8)),(PV.int (3:Int)),(PV.int (0:Int)),(PV.agg [(PV.int (4:Int)),(PV.str ([]:List UInt8))]),(PV.str ([]:List UInt8)),(PV.bool false),(PV.agg [(PV.int (0:Int)),(PV.int (0:Int)),(PV.str ([]:List UInt8)),(PV.slice []),(PV.slice []),(PV.slice []),(PV.slice [])]),(PV.slice [])]),(PV.agg [(PV.int (2:Int)),(PV.str ([108]:List UInt8)),(PV.int (4:Int)),(PV.int (0:Int)),(PV.agg [(PV.int (7:Int)),(PV.str ([]:List UInt8))]),(PV.str ([]:List UInt8)),(PV.bool false),(PV.agg [(PV.int (0:Int)),(PV.int (0:Int)),(PV.str ([]:List UInt8)),(PV.slice []),(PV.slice []),(PV.slice []),(PV.slice [])]),(PV.slice [])])]),(PV.slice []),(PV.slice []),(PV.slice [])])]),(PV.slice []),(PV.slice [])]) (PV.agg [(PV.slice [(PV.agg [(PV.str ([97,46,77]:List UInt8)),(PV.slice [(PV.agg [(PV.int (1:Int)),(PV.str ([109]:List UInt8)),(PV.int (3:Int)),(PV.int (0:Int)),(PV.agg [(PV.int (3:Int)),(PV.str ([]:List UInt8))]),(PV.str ([]:List UInt8)),(PV.bool false),(PV.agg [(PV.int (0:Int)),(PV.int (0:Int)),(PV.str ([]:List UInt8)),(PV.slice []),(PV.slice []),(PV.slice []),(PV.slice [])]),(PV.slice [])])]),(PV.slice []),(PV.slice []),(PV.slice [])])]),(PV.slice []),(PV.slice [])])).bind fun y1=>
 (F24 uu (PV.agg [(PV.slice [(PV.agg [(PV.str ([97,46,77]:List UInt8)),(PV.slice [(PV.agg [(PV.int (1:Int)),(PV.str ([110]:List UInt8)),(PV.int (3:Int)),(PV.int (0:Int)),(PV.agg [(PV.int (4:Int)),(PV.str ([]:List UInt8))]),(PV.str ([]:List UInt8)),(PV.bool false),(PV.agg [(PV.int (0:Int)),(PV.int (0:Int)),(PV.str ([]:List UInt8)),(PV.slice []),(PV.slice []),(PV.slice []),(PV.slice [])]),(PV.slice [])]),(PV.agg [(PV.int (2:Int)),(PV.str ([108]:List UInt8)),(PV.int (4:Int)),(PV.int (0:Int)),(PV.agg [(PV.int (7:Int)),(PV.str ([]:List UInt8))]),(PV.str ([]:List UInt8)),(PV.bool false),(PV.agg [(PV.int (0:Int)),(PV.int (0:Int)),(PV.str ([]:List UInt8)),(PV.slice []),(PV.slice []),(PV.slice []),(PV.slice [])]),(PV.slice [])])]),(PV.slice []),(PV.slice []),(PV.slice [])])]),(PV.slice []),(PV.slice [])]) (PV.agg [(PV.slice [(PV.agg [(PV.str ([97,46,77]:List UInt8)),(PV.slice [(PV.agg [(PV.int (1:Int)),(PV.str ([109]:List UInt8)),(PV.int (3:Int)),(PV.int (0:Int)),(PV.agg [(PV.int (3:Int)),(PV.str ([]:List UInt8))]),(PV.str ([]:List UInt8)),(PV.bool false),(PV.agg [(PV.int (0:Int)),(PV.int (0:Int)),(PV.str ([]:List UInt8)),(PV.slice []),(PV.slice []),(PV.slice []),(PV.slice [])]),(PV.slice [])])]),(PV.slice []),(PV.slice []),(PV.slice [])])]),(PV.slice []),(PV.slice [])]) ([97,46,77]:List UInt8)).bind fun y2=>
 (F18 uu y1).bind fun y3=>
 let x4:=y3==([102,105,101,108,100,45,110,97,109,101,32,97,46,77,32,49,32,34,110,34,32,34,109,34,10,102,105,101,108,100,45,116,121,112,101,32,97,46,77,32,49,32,34,117,51,50,34,32,34,105,54,52,34,10,102,105,101,108,100,45,103,111,110,101,32,97,46,77,32,50,32,34,108,34,32,34,34,10]:List UInt8)
 (bif x4 then F16 uu y1 else some []).bind fun y5=>
 let x11:=bif (bif x4 then ((y5.length:Int)==(3:Int)) else false) then ((y2.length:Int)==(1:Int)) else false
 bif imp x11 (aaa (0:Int) y2.length) then
 some (bif x11 then ((y2.getD (0:Int).toNat .bad).asStr==([97,46,77]:List UInt8)) else false)
 else none
def F12c (uu:Nat):CallE:=⟨12,⟨0,[],[]⟩,⟨1,[],[.bool]⟩,fun x=>F12 uu ,false⟩
theorem F12ok (uu:Nat):(F12c uu).Ok Tryz.prog:=okJ Tryz.f12 51 0 uu _ [] false (qc (F14ok uu)<|qc (F24ok uu)<|qc (F18ok uu)<|qc (F16ok uu)<|q0) (p0) L0
theorem awake36_run:F12 1000=some true:=a0e (by kernel_rfl)
def akb (uu:Nat):Option Bool:=some true
def aor (uu:Nat):CallE:={ f:=12,A:=⟨0,[],[]⟩,R:=⟨1,[],[.bool]⟩,F:=fun x=>akb uu,dflt:=false }
theorem aqs (uu:Nat):(F12c uu).F=fun _=>F12 uu:=rfl
theorem at1 (uu:Nat):(aor uu).Ok Tryz.prog:=fun x y h=>F12ok 1000 () y ((congrFun (aqs 1000) ()).trans (awake36_run.trans h))
abbrev S74_4x:=Int×Unit×(List PV)×Int×PV
abbrev S74_4y:=(Int×Unit×(List PV)×PV)
def S74_4 (uu:Nat) (a1:Int) (a2:Unit) (a3:List PV) (a4:Int) (a5:PV):Option (S74_4x⊕S74_4y):=
 bif (bif (a1==(1:Int)) then (decide (a4<(((a5.fld 0).asList).length:Int))) else false) then
 let x11:=(a5.fld 0).asList
 bif aaa a4 x11.length then
 let x14:=((x11.getD a4.toNat .bad).fld 0).asStr
 bif decide (a3.length+[(PV.str x14)].length<=aam) then
 some (.inl (a1,(),(a3++[(PV.str x14)]),(IntKind.wrap .i64 (a4+(1:Int))),a5))
 else none
 else none
 else
 some (.inr (a1,(),a3,a5))
def S74_4step (uu:Nat) (x:S74_4x):Option (S74_4x⊕S74_4y):=S74_4 uu x.1 x.2.1 x.2.2.1 x.2.2.2.1 x.2.2.2.2
abbrev S74_8x:=Int×Unit×(List PV)×Int×PV
abbrev S74_8y:=(Int×Unit×(List PV)×PV)
def S74_8 (uu:Nat) (a18:Int) (a19:Unit) (a20:List PV) (a21:Int) (a22:PV):Option (S74_8x⊕S74_8y):=
 bif (bif (a18==(2:Int)) then (decide (a21<(((a22.fld 1).asList).length:Int))) else false) then
 let x28:=(a22.fld 1).asList
 bif aaa a21 x28.length then
 let x31:=((x28.getD a21.toNat .bad).fld 0).asStr
 bif decide (a20.length+[(PV.str x31)].length<=aam) then
 some (.inl (a18,(),(a20++[(PV.str x31)]),(IntKind.wrap .i64 (a21+(1:Int))),a22))
 else none
 else none
 else
 some (.inr (a18,(),a20,a22))
def S74_8step (uu:Nat) (x:S74_8x):Option (S74_8x⊕S74_8y):=S74_8 uu x.1 x.2.1 x.2.2.1 x.2.2.2.1 x.2.2.2.2
abbrev S74_12x:=Int×Unit×(List PV)×Int×PV
abbrev S74_12y:=((List PV)×PV)
def S74_12 (uu:Nat) (a35:Int) (a36:Unit) (a37:List PV) (a38:Int) (a39:PV):Option (S74_12x⊕S74_12y):=
 bif (bif (a35==(3:Int)) then (decide (a38<(((a39.fld 2).asList).length:Int))) else false) then
 let x45:=(a39.fld 2).asList
 bif aaa a38 x45.length then
 let x48:=((x45.getD a38.toNat .bad).fld 0).asStr
 bif decide (a37.length+[(PV.str x48)].length<=aam) then
 some (.inl (a35,(),(a37++[(PV.str x48)]),(IntKind.wrap .i64 (a38+(1:Int))),a39))
 else none
 else none
 else
 some (.inr (a37,a39))
def S74_12step (uu:Nat) (x:S74_12x):Option (S74_12x⊕S74_12y):=S74_12 uu x.1 x.2.1 x.2.2.1 x.2.2.2.1 x.2.2.2.2
def F74 (uu:Nat) (a0:PV) (a1:Int):Option ((List PV)):=
 (aah uu (S74_4step uu) (a1,(),[],(0:Int),a0)).bind fun y17=>
 (aah uu (S74_8step uu) (y17.1,(),y17.2.2.1,(0:Int),y17.2.2.2)).bind fun y34=>
 (aah uu (S74_12step uu) (y34.1,(),y34.2.2.1,(0:Int),y34.2.2.2)).bind fun y51=>
 some y51.1
def S74_4l (uu:Nat):LoopE:=⟨4,⟨[1,2,5,6],bx21,sv37⟩,[(.exit 0,⟨[1,2,5],bx21,(.int .i64)::(.con (.ref 0 [] 26))::sv38⟩)],S74_4step uu⟩
def S74_8l (uu:Nat):LoopE:=⟨8,⟨[1,2,5,7],bx21,sv37⟩,[(.exit 2,⟨[1,2,5],bx21,(.int .i64)::(.con (.ref 0 [] 26))::sv38⟩)],S74_8step uu⟩
def S74_12l (uu:Nat):LoopE:=⟨12,⟨[1,2,5,8],bx21,sv37⟩,[(.exit 4,⟨[5],bx21,sv38⟩)],S74_12step uu⟩
def F74C (uu:Nat):Cfg:=cfg Tryz.prog 70 0 [] [S74_4l uu,S74_8l uu,S74_12l uu] uu
def F74c (uu:Nat):CallE:=⟨74,⟨2,[],[(.data 26),(.int .i64)]⟩,⟨1,[],[(.slice 9)]⟩,fun x=>F74 uu x.1 x.2,[]⟩
theorem F74k (uu:Nat):aal (F74C uu):=aad (q0) (p0)
theorem S74_4ok (uu:Nat):LoopOk (F74C uu) (lp (aai Tryz.f74) 0):=okL (F74k uu) uu (S74_4l uu) L0
theorem S74_8ok (uu:Nat):LoopOk (F74C uu) (lp (aai Tryz.f74) 1):=okL (F74k uu) uu (S74_8l uu) L0
theorem S74_12ok (uu:Nat):LoopOk (F74C uu) (lp (aai Tryz.f74) 2):=okL (F74k uu) uu (S74_12l uu) L0
theorem F74ok (uu:Nat):(F74c uu).Ok Tryz.prog:=okE Tryz.f74 (F74k uu) (L3 (S74_4ok uu) (S74_8ok uu) (S74_12ok uu))
def F75 (uu:Nat) (a0:Unit) (a1:Bool) (a2:Int) (a3:Int) (a4:List UInt8) (a5:List PV):Option ((List UInt8)×(List PV)):=
 bif a1 then
 bif decide (a5.length+[(PV.agg [(PV.str a4),(PV.int a2),(PV.int a3)])].length<=aam) then
 some (a4,(a5++[(PV.agg [(PV.str a4),(PV.int a2),(PV.int a3)])]))
 else none
 else
 some (a4,a5)
def F75c (uu:Nat):CallE:=⟨75,⟨4,bx22,(.con (.ref 0 [] 134))::.bool::sv39⟩,⟨0,bx22,sv40⟩,fun x=>F75 uu x.1 x.2.1 x.2.2.1 x.2.2.2.1 x.2.2.2.2.1 x.2.2.2.2.2,([],[])⟩
theorem F75ok (uu:Nat):(F75c uu).Ok Tryz.prog:=okJ Tryz.f75 25 2 uu [] [] false (q0) (p0) L0
def S76_3 (uu:Nat) (a1:List PV) (a2:Int):Option (((List PV)×Int)⊕((Bool)⊕(Unit))):=
 bif (decide (a2<(a1.length:Int))) then
 bif aaa a2 a1.length then
 let x6:=(a1.getD a2.toNat .bad).asStr
 let x7:=IntKind.wrap .i64 (a2-(1:Int))
 bif aaa x7 a1.length then
 let x9:=(a1.getD x7.toNat .bad).asStr
 bif (Op.bytesLess x6 x9||x6==x9) then
 some (.inr (.inl false))
 else
 some (.inl (a1,(IntKind.wrap .i64 (a2+(1:Int)))))
 else none
 else none
 else
 some (.inr (.inr ()))
def S76_3step (uu:Nat) (x:(List PV)×Int):Option (((List PV)×Int)⊕((Bool)⊕(Unit))):=S76_3 uu x.1 x.2
def F76 (uu:Nat) (a0:List PV):Option (Bool):=
 (aah uu (S76_3step uu) (a0,(1:Int))).bind fun z=>sumE (fun y12=>
 some y12
 ) (fun y13=>
 some true
 ) z
def S76_3l (uu:Nat):LoopE:=⟨3,⟨[0,3],[],[(.slice 9),(.int .i64)]⟩,[(.ret,⟨[2],[],[.bool]⟩),(.exit 0,⟨[],[],[]⟩)],S76_3step uu⟩
def F76C (uu:Nat):Cfg:=cfg Tryz.prog 20 0 [] [S76_3l uu] uu
def F76c (uu:Nat):CallE:=⟨76,⟨1,[],[(.slice 9)]⟩,⟨1,[],[.bool]⟩,fun x=>F76 uu x,false⟩
theorem F76k (uu:Nat):aal (F76C uu):=aad (q0) (p0)
theorem S76_3ok (uu:Nat):LoopOk (F76C uu) (lp (aai Tryz.f76) 0):=okL (F76k uu) uu (S76_3l uu) L0
theorem F76ok (uu:Nat):(F76c uu).Ok Tryz.prog:=okE Tryz.f76 (F76k uu) (L1 (S76_3ok uu))
abbrev S139_3x:=(List PV)×(List UInt8)×Int
abbrev S139_3y:=(Bool)⊕(Unit)
def S139_3 (uu:Nat) (a1:List PV) (a2:List UInt8) (a3:Int):Option (S139_3x⊕S139_3y):=
 bif (decide (a3<(a1.length:Int))) then
 bif aaa a3 a1.length then
 bif ((a1.getD a3.toNat .bad).asStr==a2) then
 some (.inr (.inl true))
 else
 some (.inl (a1,a2,(IntKind.wrap .i64 (a3+(1:Int)))))
 else none
 else
 some (.inr (.inr ()))
def S139_3step (uu:Nat) (x:S139_3x):Option (S139_3x⊕S139_3y):=S139_3 uu x.1 x.2.1 x.2.2
def F139 (uu:Nat) (a0:List PV) (a1:List UInt8):Option (Bool):=
 (aah uu (S139_3step uu) (a0,a1,(0:Int))).bind fun z=>sumE (fun y10=>
 some y10
 ) (fun y11=>
 some false
 ) z
def S139_3l (uu:Nat):LoopE:=⟨3,⟨[0,1,5],[],(.slice 9)::sv5⟩,[(.ret,⟨[4],[],[.bool]⟩),(.exit 0,⟨[],[],[]⟩)],S139_3step uu⟩
def F139C (uu:Nat):Cfg:=cfg Tryz.prog 18 0 [] [S139_3l uu] uu
def F139c (uu:Nat):CallE:=⟨139,⟨2,[],[(.slice 9),.str]⟩,⟨1,[],[.bool]⟩,fun x=>F139 uu x.1 x.2,false⟩
theorem F139k (uu:Nat):aal (F139C uu):=aad (q0) (p0)
theorem S139_3ok (uu:Nat):LoopOk (F139C uu) (lp (aai Tryz.f139) 0):=okL (F139k uu) uu (S139_3l uu) L0
theorem F139ok (uu:Nat):(F139c uu).Ok Tryz.prog:=okE Tryz.f139 (F139k uu) (L1 (S139_3ok uu))
abbrev S77_3x:=(List PV)×(List PV)×Int
abbrev S77_3y:=(Bool)⊕(Unit)
def S77_3 (uu:Nat) (a1:List PV) (a2:List PV) (a3:Int):Option (S77_3x⊕S77_3y):=
 bif (decide (a3<(a1.length:Int))) then
 bif aaa a3 a1.length then
 (F139 uu a2 (a1.getD a3.toNat .bad).asStr).bind fun y8=>
 bif y8 then
 some (.inr (.inl true))
 else
 some (.inl (a1,a2,(IntKind.wrap .i64 (a3+(1:Int)))))
 else none
 else
 some (.inr (.inr ()))
def S77_3step (uu:Nat) (x:S77_3x):Option (S77_3x⊕S77_3y):=S77_3 uu x.1 x.2.1 x.2.2
def F77 (uu:Nat) (a0:List PV) (a1:List PV):Option (Bool):=
 (aah uu (S77_3step uu) (a0,a1,(0:Int))).bind fun z=>sumE (fun y10=>
 some y10
 ) (fun y11=>
 some false
 ) z
def S77_3l (uu:Nat):LoopE:=⟨3,⟨[0,1,5],[],[(.slice 9),(.slice 9),(.int .i64)]⟩,[(.ret,⟨[4],[],[.bool]⟩),(.exit 0,⟨[],[],[]⟩)],S77_3step uu⟩
def F77C (uu:Nat):Cfg:=cfg Tryz.prog 18 0 [F139c uu] [S77_3l uu] uu
def F77c (uu:Nat):CallE:=⟨77,⟨2,[],sv36⟩,⟨1,[],[.bool]⟩,fun x=>F77 uu x.1 x.2,false⟩
theorem F77k (uu:Nat):aal (F77C uu):=aad (qc (F139ok uu)<|q0) (p0)
theorem S77_3ok (uu:Nat):LoopOk (F77C uu) (lp (aai Tryz.f77) 0):=okL (F77k uu) uu (S77_3l uu) L0
theorem F77ok (uu:Nat):(F77c uu).Ok Tryz.prog:=okE Tryz.f77 (F77k uu) (L1 (S77_3ok uu))
abbrev S151_3x:=(List UInt8)×Unit×Int×PV
abbrev S151_3y:=(Int×PV)⊕(PV)
def S151_3 (uu:Nat) (a1:List UInt8) (a2:Unit) (a3:Int) (a4:PV):Option (S151_3x⊕S151_3y):=
 bif (decide (a3<(((a4.fld 0).asList).length:Int))) then
 let x8:=(a4.fld 0).asList
 bif aaa a3 x8.length then
 bif (((x8.getD a3.toNat .bad).fld 0).asStr==a1) then
 some (.inr (.inl (a3,a4)))
 else
 some (.inl (a1,(),(IntKind.wrap .i64 (a3+(1:Int))),a4))
 else none
 else
 some (.inr (.inr a4))
def S151_3step (uu:Nat) (x:S151_3x):Option (S151_3x⊕S151_3y):=S151_3 uu x.1 x.2.1 x.2.2.1 x.2.2.2
def F151 (uu:Nat) (a0:PV) (a1:List UInt8):Option (Int):=
 (aah uu (S151_3step uu) (a1,(),(0:Int),a0)).bind fun z=>sumE (fun y14=>
 some y14.1
 ) (fun y15=>
 some (-1:Int)
 ) z
def S151_3l (uu:Nat):LoopE:=⟨3,⟨[1,2,5],bx23,.str::(.con (.ref 0 [] 26))::sv41⟩,[(.ret,⟨[4],bx23,sv41⟩),(.exit 0,⟨[],bx23,[(.data 26)]⟩)],S151_3step uu⟩
def F151C (uu:Nat):Cfg:=cfg Tryz.prog 22 0 [] [S151_3l uu] uu
def F151c (uu:Nat):CallE:=⟨151,⟨2,[],sv2⟩,⟨1,[],[(.int .i64)]⟩,fun x=>F151 uu x.1 x.2,0⟩
theorem F151k (uu:Nat):aal (F151C uu):=aad (q0) (p0)
theorem S151_3ok (uu:Nat):LoopOk (F151C uu) (lp (aai Tryz.f151) 0):=okL (F151k uu) uu (S151_3l uu) L0
theorem F151ok (uu:Nat):(F151c uu).Ok Tryz.prog:=okE Tryz.f151 (F151k uu) (L1 (S151_3ok uu))
abbrev S140_3x:=Unit×Unit×Unit×Int×(List PV)×PV×PV
abbrev S140_3y:=(Bool×(List PV)×PV×PV)⊕((List PV)×PV×PV)
def S140_3 (uu:Nat) (a1:Unit) (a2:Unit) (a3:Unit) (a4:Int) (a5:List PV) (a6:PV) (a7:PV):Option (S140_3x⊕S140_3y):=
 bif (decide (a4<(((a7.fld 1).asList).length:Int))) then
 let x11:=(a7.fld 1).asList
 bif aaa a4 x11.length then
 let x12:=x11.getD a4.toNat .bad
 bif (bif (((x12.fld 2).asInt) != (1:Int)) then true else ((((x12.fld 4).fld 0).asInt) != (10:Int))) then
 some (.inl ((),(),(),(IntKind.wrap .i64 (a4+(1:Int))),a5,a6,a7))
 else
 (F151 uu a6 (((x12.fld 4).fld 1).asStr)).bind fun y20=>
 let x21:=decide (y20≥(0:Int))
 bif imp x21 (aaa y20 a5.length) then
 bif (bif x21 then (!((a5.getD y20.toNat .bad).asBool)) else false) then
 some (.inr (.inl (true,a5,a6,a7)))
 else
 some (.inl ((),(),(),(IntKind.wrap .i64 (a4+(1:Int))),a5,a6,a7))
 else none
 else none
 else
 some (.inr (.inr (a5,a6,a7)))
def S140_3step (uu:Nat) (x:S140_3x):Option (S140_3x⊕S140_3y):=S140_3 uu x.1 x.2.1 x.2.2.1 x.2.2.2.1 x.2.2.2.2.1 x.2.2.2.2.2.1 x.2.2.2.2.2.2
def F140 (uu:Nat) (a0:PV) (a1:PV) (a2:Unit) (a3:List PV):Option (Bool×(List PV)):=
 (aah uu (S140_3step uu) ((),(),(),(0:Int),a3,a0,a1)).bind fun z=>sumE (fun y26=>
 some (y26.1,y26.2.1)
 ) (fun y27=>
 some (false,y27.1)
 ) z
def S140_3l (uu:Nat):LoopE:=⟨3,⟨[2,3,4,7],bx24,(.con (.arr 0 0 4))::(.con (.ref 1 [] 26))::(.con (.ref 2 [] 63))::(.int .i64)::sv42⟩,[(.ret,⟨[6],bx24,.bool::sv42⟩),(.exit 0,⟨[],bx24,sv42⟩)],S140_3step uu⟩
def F140C (uu:Nat):Cfg:=cfg Tryz.prog 45 1 [F151c uu] [S140_3l uu] uu
def F140c (uu:Nat):CallE:=⟨140,⟨3,[.arr 4 0],[(.data 26),(.data 63),(.con (.arr 0 0 4)),(.slice 4)]⟩,⟨1,[.arr 4 0],[.bool,(.slice 4)]⟩,fun x=>F140 uu x.1 x.2.1 x.2.2.1 x.2.2.2,(false,[])⟩
theorem F140k (uu:Nat):aal (F140C uu):=aad (qc (F151ok uu)<|q0) (p0)
theorem S140_3ok (uu:Nat):LoopOk (F140C uu) (lp (aai Tryz.f140) 0):=okL (F140k uu) uu (S140_3l uu) L0
theorem F140ok (uu:Nat):(F140c uu).Ok Tryz.prog:=okE Tryz.f140 (F140k uu) (L1 (S140_3ok uu))
abbrev S78_9x:=Unit×Unit×Bool×Int×Int×PV×(List PV)
abbrev S78_9y:=(Unit×Unit×Bool×Int×PV×(List PV))
def S78_9 (uu:Nat) (a14:Unit) (a15:Unit) (a16:Bool) (a17:Int) (a18:Int) (a19:PV) (a20:List PV):Option (S78_9x⊕S78_9y):=
 bif (decide (a18<(((a19.fld 0).asList).length:Int))) then
 bif aaa a18 a20.length then
 let x25:=!((a20.getD a18.toNat .bad).asBool)
 let x26:=(a19.fld 0).asList
 bif imp x25 (aaa a18 x26.length) then
 bif x25 then
 (F140 uu a19 (x26.getD a18.toNat .bad) () a20).bind fun y28=>
 bif (bif x25 then (!y28.1) else false) then
 bif aaa a18 y28.2.length then
 some (.inl ((),(),true,a17,(IntKind.wrap .i64 (a18+(1:Int))),a19,(y28.2.set a18.toNat (PV.bool true))))
 else none
 else
 some (.inl ((),(),a16,a17,(IntKind.wrap .i64 (a18+(1:Int))),a19,y28.2))
 else
 bif (bif x25 then true else false) then
 bif aaa a18 a20.length then
 some (.inl ((),(),true,a17,(IntKind.wrap .i64 (a18+(1:Int))),a19,(a20.set a18.toNat (PV.bool true))))
 else none
 else
 some (.inl ((),(),a16,a17,(IntKind.wrap .i64 (a18+(1:Int))),a19,a20))
 else none
 else none
 else
 some (.inr ((),(),a16,a17,a19,a20))
def S78_9step (uu:Nat) (x:S78_9x):Option (S78_9x⊕S78_9y):=S78_9 uu x.1 x.2.1 x.2.2.1 x.2.2.2.1 x.2.2.2.2.1 x.2.2.2.2.2.1 x.2.2.2.2.2.2
abbrev S78_5x:=Unit×Unit×Bool×Int×PV×(List PV)
abbrev S78_5y:=(Unit×PV×(List PV))
def S78_5 (uu:Nat) (a4:Unit) (a5:Unit) (a6:Bool) (a7:Int) (a8:PV) (a9:List PV):Option (S78_5x⊕S78_5y):=
 bif (bif (decide (a7<(((a8.fld 0).asList).length:Int))) then a6 else false) then
 (aah uu (S78_9step uu) ((),(),false,a7,(0:Int),a8,a9)).bind fun y38=>
 some (.inl ((),(),y38.2.2.1,(IntKind.wrap .i64 (y38.2.2.2.1+(1:Int))),y38.2.2.2.2.1,y38.2.2.2.2.2))
 else
 some (.inr ((),a8,a9))
def S78_5step (uu:Nat) (x:S78_5x):Option (S78_5x⊕S78_5y):=S78_5 uu x.1 x.2.1 x.2.2.1 x.2.2.2.1 x.2.2.2.2.1 x.2.2.2.2.2
def F78 (uu:Nat) (a0:PV):Option ((List PV)):=
 let x2:=(((a0.fld 0).asList).length:Int)
 bif decide (0<=x2/\x2<=x2/\x2<=aam) then
 (aah uu (S78_5step uu) ((),(),true,(0:Int),a0,(List.replicate x2.toNat (PV.bool false)))).bind fun y41=>
 some y41.2.2
 else none
def S78_9l (uu:Nat):LoopE:=⟨9,⟨[1,3,4,5,6],bx25,(.con (.ref 0 [] 26))::(.con (.arr 1 0 4))::.bool::(.int .i64)::sv43⟩,[(.exit 2,⟨[1,3,4,5],bx25,(.con (.ref 0 [] 26))::(.con (.arr 1 0 4))::.bool::sv43⟩)],S78_9step uu⟩
def S78_5l (uu:Nat):LoopE:=⟨5,⟨[1,3,4,5],bx25,(.con (.ref 0 [] 26))::(.con (.arr 1 0 4))::.bool::sv43⟩,[(.exit 0,⟨[3],bx25,(.con (.arr 1 0 4))::sv44⟩)],S78_5step uu⟩
def F78C (uu:Nat):Cfg:=cfg Tryz.prog 48 0 [F140c uu] [S78_9l uu,S78_5l uu] uu
def F78c (uu:Nat):CallE:=⟨78,⟨1,[],[(.data 26)]⟩,⟨1,[],[(.slice 4)]⟩,fun x=>F78 uu x,[]⟩
theorem F78k (uu:Nat):aal (F78C uu):=aad (qc (F140ok uu)<|q0) (p0)
theorem S78_9ok (uu:Nat):LoopOk (F78C uu) (lp (lp (aai Tryz.f78) 0) 0):=okL (F78k uu) uu (S78_9l uu) L0
theorem S78_5ok (uu:Nat):LoopOk (F78C uu) (lp (aai Tryz.f78) 0):=okL (F78k uu) uu (S78_5l uu) (L1 (S78_9ok uu))
theorem F78ok (uu:Nat):(F78c uu).Ok Tryz.prog:=okE Tryz.f78 (F78k uu) (L1 (S78_5ok uu))
def F242 (uu:Nat) (a0:Int):Option (Bool):=
 some (bif (decide (a0≥(97:Int))) then (decide (a0<=(122:Int))) else false)
def F242c (uu:Nat):CallE:=⟨242,⟨1,[],[(.int .u8)]⟩,⟨1,[],[.bool]⟩,fun x=>F242 uu x,false⟩
theorem F242ok (uu:Nat):(F242c uu).Ok Tryz.prog:=okJ Tryz.f242 9 0 uu [] [] false (q0) (p0) L0
def F243 (uu:Nat) (a0:Int):Option (Bool):=
 some (bif (decide (a0≥(65:Int))) then (decide (a0<=(90:Int))) else false)
def F243c (uu:Nat):CallE:=⟨243,⟨1,[],[(.int .u8)]⟩,⟨1,[],[.bool]⟩,fun x=>F243 uu x,false⟩
theorem F243ok (uu:Nat):(F243c uu).Ok Tryz.prog:=okJ Tryz.f243 9 0 uu [] [] false (q0) (p0) L0
def S206_5 (uu:Nat) (a14:List UInt8) (a15:Int):Option (((List UInt8)×Int)⊕((Bool)⊕(Unit))):=
 bif (decide (a15<(a14.length:Int))) then
 bif aaa a15 a14.length then
 (F242 uu ((a14.getD a15.toNat 0).toNat:Int)).bind fun y19=>
 let x20:=!y19
 bif imp x20 (aaa a15 a14.length) then
 (bif x20 then F243 uu ((a14.getD a15.toNat 0).toNat:Int) else some false).bind fun y22=>
 let x24:=bif x20 then (!y22) else false
 bif imp x24 (aaa a15 a14.length) then
 let x27:=bif x24 then (((a14.getD a15.toNat 0).toNat:Int) != (95:Int)) else false
 bif imp x27 (aaa a15 a14.length) then
 let x29:=decide (((a14.getD a15.toNat 0).toNat:Int)<(48:Int))
 bif imp (bif !x29 then x27 else false) (aaa a15 a14.length) then
 bif (bif x27 then (bif x29 then true else (decide (((a14.getD a15.toNat 0).toNat:Int)>(57:Int)))) else false) then
 some (.inr (.inl false))
 else
 some (.inl (a14,(IntKind.wrap .i64 (a15+(1:Int)))))
 else none
 else none
 else none
 else none
 else none
 else
 some (.inr (.inr ()))
def S206_5step (uu:Nat) (x:(List UInt8)×Int):Option (((List UInt8)×Int)⊕((Bool)⊕(Unit))):=S206_5 uu x.1 x.2
def F206 (uu:Nat) (a0:List UInt8):Option (Bool):=
 let x5:=bif ((a0.length:Int)==(0:Int)) then true else (decide ((a0.length:Int)>(40:Int)))
 bif imp (!x5) (aaa (0:Int) a0.length) then
 (bif !x5 then F242 uu ((a0.getD (0:Int).toNat 0).toNat:Int) else some false).bind fun y7=>
 let x8:=!y7
 bif imp (bif x8 then !x5 else false) (aaa (0:Int) a0.length) then
 (bif bif x8 then !x5 else false then F243 uu ((a0.getD (0:Int).toNat 0).toNat:Int) else some false).bind fun y10=>
 bif (bif x5 then true else (bif x8 then (!y10) else false)) then
 some false
 else
 (aah uu (S206_5step uu) (a0,(1:Int))).bind fun z=>sumE (fun y35=>
 some y35
 ) (fun y36=>
 some true
 ) z
 else none
 else none
def S206_5l (uu:Nat):LoopE:=⟨5,⟨[0,3],[],sv5⟩,[(.ret,⟨[2],[],[.bool]⟩),(.exit 0,⟨[],[],[]⟩)],S206_5step uu⟩
def F206C (uu:Nat):Cfg:=cfg Tryz.prog 60 0 [F242c uu,F243c uu] [S206_5l uu] uu
def F206c (uu:Nat):CallE:=⟨206,⟨1,[],[.str]⟩,⟨1,[],[.bool]⟩,fun x=>F206 uu x,false⟩
theorem F206k (uu:Nat):aal (F206C uu):=aad (qc (F242ok uu)<|qc (F243ok uu)<|q0) (p0)
theorem S206_5ok (uu:Nat):LoopOk (F206C uu) (lp (aai Tryz.f206) 0):=okL (F206k uu) uu (S206_5l uu) L0
theorem F206ok (uu:Nat):(F206c uu).Ok Tryz.prog:=okE Tryz.f206 (F206k uu) (L1 (S206_5ok uu))
abbrev S203_6x:=(List UInt8)×(List UInt8)×Int
abbrev S203_6y:=(Bool)⊕((List UInt8))
def S203_6 (uu:Nat) (a3:List UInt8) (a4:List UInt8) (a5:Int):Option (S203_6x⊕S203_6y):=
 bif (decide (a5<(a3.length:Int))) then
 bif aaa a5 a3.length then
 bif (((a3.getD a5.toNat 0).toNat:Int) != (46:Int)) then
 let x10:=IntKind.wrap .i64 (a5+(1:Int))
 bif decide (0<=a5/\a5<=x10/\x10<=(a3.length:Int)) then
 let x11:=(a3.take x10.toNat).drop a5.toNat
 bif decide (a4.length+x11.length<=abe) then
 some (.inl (a3,(a4++x11),(IntKind.wrap .i64 (a5+(1:Int)))))
 else none
 else none
 else
 (F206 uu a4).bind fun y14=>
 bif (!y14) then
 some (.inr (.inl false))
 else
 some (.inl (a3,([]:List UInt8),(IntKind.wrap .i64 (a5+(1:Int)))))
 else none
 else
 some (.inr (.inr a4))
def S203_6step (uu:Nat) (x:S203_6x):Option (S203_6x⊕S203_6y):=S203_6 uu x.1 x.2.1 x.2.2
def F203 (uu:Nat) (a0:List UInt8):Option (Bool):=
 bif (decide ((a0.length:Int)>(120:Int))) then
 some false
 else
 (aah uu (S203_6step uu) (a0,([]:List UInt8),(0:Int))).bind fun z=>sumE (fun y17=>
 some y17
 ) (fun y18=>
 (F206 uu y18).bind fun y19=>
 some y19
 ) z
def S203_6l (uu:Nat):LoopE:=⟨6,⟨[0,3,4],[],sv6⟩,[(.ret,⟨[2],[],[.bool]⟩),(.exit 0,⟨[3],[],[.str]⟩)],S203_6step uu⟩
def F203C (uu:Nat):Cfg:=cfg Tryz.prog 30 0 [F206c uu] [S203_6l uu] uu
def F203c (uu:Nat):CallE:=⟨203,⟨1,[],[.str]⟩,⟨1,[],[.bool]⟩,fun x=>F203 uu x,false⟩
theorem F203k (uu:Nat):aal (F203C uu):=aad (qc (F206ok uu)<|q0) (p0)
theorem S203_6ok (uu:Nat):LoopOk (F203C uu) (lp (aai Tryz.f203) 0):=okL (F203k uu) uu (S203_6l uu) L0
theorem F203ok (uu:Nat):(F203c uu).Ok Tryz.prog:=okE Tryz.f203 (F203k uu) (L1 (S203_6ok uu))
def S204_3 (uu:Nat) (a3:List UInt8) (a4:Int):Option (((List UInt8)×Int)⊕(((List UInt8)×(List UInt8))⊕((List UInt8)))):=
 bif (decide (a4≥(0:Int))) then
 bif aaa a4 a3.length then
 bif (((a3.getD a4.toNat 0).toNat:Int)==(46:Int)) then
 bif decide (0<=(0:Int)/\(0:Int)<=a4/\a4<=(a3.length:Int)) then
 let x9:=IntKind.wrap .i64 (a4+(1:Int))
 bif decide (0<=x9/\x9<=(a3.length:Int)/\(a3.length:Int)<=(a3.length:Int)) then
 some (.inr (.inl (((a3.take a4.toNat).drop (0:Int).toNat),((a3.take (a3.length:Int).toNat).drop x9.toNat))))
 else none
 else none
 else
 some (.inl (a3,(IntKind.wrap .i64 (a4-(1:Int)))))
 else none
 else
 some (.inr (.inr a3))
def S204_3step (uu:Nat) (x:(List UInt8)×Int):Option (((List UInt8)×Int)⊕(((List UInt8)×(List UInt8))⊕((List UInt8)))):=S204_3 uu x.1 x.2
def F204 (uu:Nat) (a0:List UInt8):Option ((List UInt8)×(List UInt8)):=
 (aah uu (S204_3step uu) (a0,(IntKind.wrap .i64 ((a0.length:Int)-(1:Int))))).bind fun z=>sumE (fun y12=>
 some (y12.1,y12.2)
 ) (fun y13=>
 some (([]:List UInt8),y13)
 ) z
def S204_3l (uu:Nat):LoopE:=⟨3,⟨[0,4],[],sv5⟩,[(.ret,⟨[2,3],[],[.str,.str]⟩),(.exit 0,⟨[0],[],[.str]⟩)],S204_3step uu⟩
def F204C (uu:Nat):Cfg:=cfg Tryz.prog 24 0 [] [S204_3l uu] uu
def F204c (uu:Nat):CallE:=⟨204,⟨1,[],[.str]⟩,⟨2,[],[.str,.str]⟩,fun x=>F204 uu x,([],[])⟩
theorem F204k (uu:Nat):aal (F204C uu):=aad (q0) (p0)
theorem S204_3ok (uu:Nat):LoopOk (F204C uu) (lp (aai Tryz.f204) 0):=okL (F204k uu) uu (S204_3l uu) L0
theorem F204ok (uu:Nat):(F204c uu).Ok Tryz.prog:=okE Tryz.f204 (F204k uu) (L1 (S204_3ok uu))
def F205 (uu:Nat) (a0:List UInt8):Option (Bool):=
 bif (a0==([109,101,115,115,97,103,101]:List UInt8)) then
 some true
 else
 bif (a0==([101,110,117,109]:List UInt8)) then
 some true
 else
 bif (a0==([115,101,114,118,105,99,101]:List UInt8)) then
 some true
 else
 bif (a0==([117,110,105,111,110]:List UInt8)) then
 some true
 else
 bif (a0==([109,97,112]:List UInt8)) then
 some true
 else
 bif (a0==([108,105,115,116]:List UInt8)) then
 some true
 else
 let x7:=a0==([114,101,113,117,105,114,101,100]:List UInt8)
 bif x7 then
 some true
 else
 let x8:=a0==([111,112,116,105,111,110,97,108]:List UInt8)
 bif x8 then
 some true
 else
 bif (a0==([112,108,97,105,110]:List UInt8)) then
 some true
 else
 bif (a0==([100,101,102,97,117,108,116]:List UInt8)) then
 some true
 else
 let x11:=a0==([114,101,115,101,114,118,101,100]:List UInt8)
 bif x11 then
 some true
 else
 bif (a0==([105,109,112,111,114,116]:List UInt8)) then
 some true
 else
 bif (a0==([115,112,97,99,101]:List UInt8)) then
 some true
 else
 bif (a0==([114,112,99]:List UInt8)) then
 some true
 else
 bif (a0==([115,116,114,101,97,109]:List UInt8)) then
 some true
 else
 bif (a0==([114,101,116,117,114,110,115]:List UInt8)) then
 some true
 else
 bif (a0==([111,112,101,110]:List UInt8)) then
 some true
 else
 bif (a0==([116,114,117,101]:List UInt8)) then
 some true
 else
 bif (a0==([102,97,108,115,101]:List UInt8)) then
 some true
 else
 bif (a0==([110,97,110]:List UInt8)) then
 some true
 else
 bif (a0==([105,110,102]:List UInt8)) then
 some true
 else
 some false
def F205c (uu:Nat):CallE:=⟨205,⟨1,[],[.str]⟩,⟨1,[],[.bool]⟩,fun x=>F205 uu x,false⟩
theorem F205ok (uu:Nat):(F205c uu).Ok Tryz.prog:=okJ Tryz.f205 26 0 uu [] [] false (q0) (p0) L0
def S141_5 (uu:Nat) (a3:List UInt8) (a4:Int):Option (((List UInt8)×Int)⊕((Bool)⊕(Unit))):=
 bif (bif (decide (a4<(120:Int))) then (!(a3==([]:List UInt8))) else false) then
 (F204 uu a3).bind fun y8=>
 (F205 uu y8.2).bind fun y11=>
 bif y11 then
 some (.inr (.inl false))
 else
 some (.inl (y8.1,(IntKind.wrap .i64 (a4+(1:Int)))))
 else
 some (.inr (.inr ()))
def S141_5step (uu:Nat) (x:(List UInt8)×Int):Option (((List UInt8)×Int)⊕((Bool)⊕(Unit))):=S141_5 uu x.1 x.2
def F141 (uu:Nat) (a0:List UInt8):Option (Bool):=
 (F203 uu a0).bind fun y1=>
 bif (!y1) then
 some false
 else
 (aah uu (S141_5step uu) (a0,(0:Int))).bind fun z=>sumE (fun y13=>
 some y13
 ) (fun y14=>
 some true
 ) z
def S141_5l (uu:Nat):LoopE:=⟨5,⟨[0,3],[],sv5⟩,[(.ret,⟨[2],[],[.bool]⟩),(.exit 0,⟨[],[],[]⟩)],S141_5step uu⟩
def F141C (uu:Nat):Cfg:=cfg Tryz.prog 25 0 [F203c uu,F204c uu,F205c uu] [S141_5l uu] uu
def F141c (uu:Nat):CallE:=⟨141,⟨1,[],[.str]⟩,⟨1,[],[.bool]⟩,fun x=>F141 uu x,false⟩
theorem F141k (uu:Nat):aal (F141C uu):=aad (qc (F203ok uu)<|qc (F204ok uu)<|qc (F205ok uu)<|q0) (p0)
theorem S141_5ok (uu:Nat):LoopOk (F141C uu) (lp (aai Tryz.f141) 0):=okL (F141k uu) uu (S141_5l uu) L0
theorem F141ok (uu:Nat):(F141c uu).Ok Tryz.prog:=okE Tryz.f141 (F141k uu) (L1 (S141_5ok uu))
def F142 (uu:Nat) (a0:List UInt8):Option (Bool):=
 (F206 uu a0).bind fun y1=>
 (bif y1 then F205 uu a0 else some false).bind fun y2=>
 some (bif y1 then (!y2) else false)
def F142c (uu:Nat):CallE:=⟨142,⟨1,[],[.str]⟩,⟨1,[],[.bool]⟩,fun x=>F142 uu x,false⟩
theorem F142ok (uu:Nat):(F142c uu).Ok Tryz.prog:=okJ Tryz.f142 10 0 uu _ [] false (qc (F206ok uu)<|qc (F205ok uu)<|q0) (p0) L0
def S143_3 (uu:Nat) (a1:List PV) (a2:Int) (a3:Int):Option (((List PV)×Int×Int)⊕((Bool)⊕(Unit))):=
 bif (decide (a3<(a1.length:Int))) then
 bif aaa a3 a1.length then
 let x9:=decide (((a1.getD a3.toNat .bad).fld 0).asInt<=a2)
 bif imp x9 (aaa a3 a1.length) then
 bif (bif x9 then (decide (a2<=((a1.getD a3.toNat .bad).fld 1).asInt)) else false) then
 some (.inr (.inl true))
 else
 some (.inl (a1,a2,(IntKind.wrap .i64 (a3+(1:Int)))))
 else none
 else none
 else
 some (.inr (.inr ()))
def S143_3step (uu:Nat) (x:(List PV)×Int×Int):Option (((List PV)×Int×Int)⊕((Bool)⊕(Unit))):=S143_3 uu x.1 x.2.1 x.2.2
def F143 (uu:Nat) (a0:List PV) (a1:Int):Option (Bool):=
 (aah uu (S143_3step uu) (a0,a1,(0:Int))).bind fun z=>sumE (fun y16=>
 some y16
 ) (fun y17=>
 some false
 ) z
def S143_3l (uu:Nat):LoopE:=⟨3,⟨[0,1,5],[],(.slice 235)::sv7⟩,[(.ret,⟨[4],[],[.bool]⟩),(.exit 0,⟨[],[],[]⟩)],S143_3step uu⟩
def F143C (uu:Nat):Cfg:=cfg Tryz.prog 28 0 [] [S143_3l uu] uu
def F143c (uu:Nat):CallE:=⟨143,⟨2,[],[(.slice 235),(.int .i64)]⟩,⟨1,[],[.bool]⟩,fun x=>F143 uu x.1 x.2,false⟩
theorem F143k (uu:Nat):aal (F143C uu):=aad (q0) (p0)
theorem S143_3ok (uu:Nat):LoopOk (F143C uu) (lp (aai Tryz.f143) 0):=okL (F143k uu) uu (S143_3l uu) L0
theorem F143ok (uu:Nat):(F143c uu).Ok Tryz.prog:=okE Tryz.f143 (F143k uu) (L1 (S143_3ok uu))
def F144 (uu:Nat) (a0:PV):Option (Bool):=
 bif (((a0.fld 2).asInt) != (5:Int)) then
 some (bif (bif (decide (((a0.fld 2).asInt)≥(1:Int))) then (decide (((a0.fld 2).asInt)<=(4:Int))) else false) then (((a0.fld 3).asInt)==(0:Int)) else false)
 else
 let x11:=(a0.fld 3).asInt
 bif (x11==(1:Int)) then
 some true
 else
 bif (x11==(2:Int)) then
 some true
 else
 bif (x11==(3:Int)) then
 some true
 else
 bif (x11==(4:Int)) then
 some true
 else
 bif (x11==(5:Int)) then
 some true
 else
 bif (x11==(7:Int)) then
 some true
 else
 some false
def F144c (uu:Nat):CallE:=⟨144,⟨1,[],[(.data 59)]⟩,⟨1,[],[.bool]⟩,fun x=>F144 uu x,false⟩
theorem F144ok (uu:Nat):(F144c uu).Ok Tryz.prog:=okJ Tryz.f144 28 0 uu [] [] false (q0) (p0) L0
abbrev S207_3x:=(List UInt8)×Unit×Int×PV
abbrev S207_3y:=(Int×PV)⊕(PV)
def S207_3 (uu:Nat) (a1:List UInt8) (a2:Unit) (a3:Int) (a4:PV):Option (S207_3x⊕S207_3y):=
 bif (decide (a3<(((a4.fld 1).asList).length:Int))) then
 let x8:=(a4.fld 1).asList
 bif aaa a3 x8.length then
 bif (((x8.getD a3.toNat .bad).fld 0).asStr==a1) then
 some (.inr (.inl (a3,a4)))
 else
 some (.inl (a1,(),(IntKind.wrap .i64 (a3+(1:Int))),a4))
 else none
 else
 some (.inr (.inr a4))
def S207_3step (uu:Nat) (x:S207_3x):Option (S207_3x⊕S207_3y):=S207_3 uu x.1 x.2.1 x.2.2.1 x.2.2.2
def F207 (uu:Nat) (a0:PV) (a1:List UInt8):Option (Int):=
 (aah uu (S207_3step uu) (a1,(),(0:Int),a0)).bind fun z=>sumE (fun y14=>
 some y14.1
 ) (fun y15=>
 some (-1:Int)
 ) z
def S207_3l (uu:Nat):LoopE:=⟨3,⟨[1,2,5],bx23,.str::(.con (.ref 0 [] 26))::sv41⟩,[(.ret,⟨[4],bx23,sv41⟩),(.exit 0,⟨[],bx23,[(.data 26)]⟩)],S207_3step uu⟩
def F207C (uu:Nat):Cfg:=cfg Tryz.prog 22 0 [] [S207_3l uu] uu
def F207c (uu:Nat):CallE:=⟨207,⟨2,[],sv2⟩,⟨1,[],[(.int .i64)]⟩,fun x=>F207 uu x.1 x.2,0⟩
theorem F207k (uu:Nat):aal (F207C uu):=aad (q0) (p0)
theorem S207_3ok (uu:Nat):LoopOk (F207C uu) (lp (aai Tryz.f207) 0):=okL (F207k uu) uu (S207_3l uu) L0
theorem F207ok (uu:Nat):(F207c uu).Ok Tryz.prog:=okE Tryz.f207 (F207k uu) (L1 (S207_3ok uu))
def F145 (uu:Nat) (a0:PV) (a1:PV):Option (Bool):=
 let x1:=((a1.fld 4).fld 0).asInt
 bif (x1==(9:Int)) then
 (F207 uu a0 (((a1.fld 4).fld 1).asStr)).bind fun y4=>
 some (decide (y4≥(0:Int)))
 else
 bif (x1==(10:Int)) then
 (F151 uu a0 (((a1.fld 4).fld 1).asStr)).bind fun y8=>
 some (bif (decide (y8≥(0:Int))) then (((a1.fld 2).asInt) != (3:Int)) else false)
 else
 some (bif (bif (decide ((((a1.fld 4).fld 0).asInt)≥(1:Int))) then (decide ((((a1.fld 4).fld 0).asInt)<=(8:Int))) else false) then ((((a1.fld 4).fld 1).asStr)==([]:List UInt8)) else false)
def F145c (uu:Nat):CallE:=⟨145,⟨2,[],[(.data 26),(.data 59)]⟩,⟨1,[],[.bool]⟩,fun x=>F145 uu x.1 x.2,false⟩
theorem F145ok (uu:Nat):(F145c uu).Ok Tryz.prog:=okJ Tryz.f145 45 0 uu _ [] false (qc (F207ok uu)<|qc (F151ok uu)<|q0) (p0) L0
abbrev S146_9x:=Int×Unit×Unit×Bool×Int×PV×PV
abbrev S146_9y:=(Bool×PV×PV)⊕(Int×Unit×Unit×Bool×PV×PV)
def S146_9 (uu:Nat) (a11:Int) (a12:Unit) (a13:Unit) (a14:Bool) (a15:Int) (a16:PV) (a17:PV):Option (S146_9x⊕S146_9y):=
 bif (decide (a15<(((a16.fld 1).asList).length:Int))) then
 let x21:=(a16.fld 1).asList
 bif aaa a15 x21.length then
 bif (((x21.getD a15.toNat .bad).fld 1).asStr==((a17.fld 5).asStr)) then
 some (.inr (.inl (false,a16,a17)))
 else
 let x27:=decide (a15<a11)
 let x28:=(a16.fld 1).asList
 bif imp x27 (aaa a15 x28.length) then
 bif (bif x27 then (((x28.getD a15.toNat .bad).fld 5).asStr==((a17.fld 5).asStr)) else false) then
 some (.inl (a11,(),(),true,(IntKind.wrap .i64 (a15+(1:Int))),a16,a17))
 else
 some (.inl (a11,(),(),a14,(IntKind.wrap .i64 (a15+(1:Int))),a16,a17))
 else none
 else none
 else
 some (.inr (.inr (a11,(),(),a14,a16,a17)))
def S146_9step (uu:Nat) (x:S146_9x):Option (S146_9x⊕S146_9y):=S146_9 uu x.1 x.2.1 x.2.2.1 x.2.2.2.1 x.2.2.2.2.1 x.2.2.2.2.2.1 x.2.2.2.2.2.2
def F146 (uu:Nat) (a0:PV) (a1:Int):Option (Bool):=
 let x1:=(a0.fld 1).asList
 bif aaa a1 x1.length then
 let x2:=x1.getD a1.toNat .bad
 bif (((x2.fld 5).asStr)==([]:List UInt8)) then
 some true
 else
 let x6:=((x2.fld 2).asInt) != (2:Int)
 (bif !x6 then F142 uu ((x2.fld 5).asStr) else some false).bind fun y8=>
 bif (bif x6 then true else (!y8)) then
 some false
 else
 (aah uu (S146_9step uu) (a1,(),(),false,(0:Int),a0,x2)).bind fun z=>sumE (fun y37=>
 some y37.1
 ) (fun y38=>
 let x40:=!y38.2.2.2.1
 let x41:=(y38.2.2.2.2.1.fld 1).asList
 let x43:=IntKind.wrap .i64 (y38.1-(1:Int))
 bif imp (!x40) (aaa x43 x41.length) then
 some (bif x40 then true else (((x41.getD x43.toNat .bad).fld 5).asStr==((y38.2.2.2.2.2.fld 5).asStr)))
 else none
 ) z
 else none
def S146_9l (uu:Nat):LoopE:=⟨9,⟨[1,2,5,6,7],bx26,(.int .i64)::(.con (.ref 0 [] 63))::(.con (.ref 1 [] 59))::.bool::(.int .i64)::sv45⟩,[(.ret,⟨[4],bx26,.bool::sv45⟩),(.exit 0,⟨[1,2,5,6],bx26,(.int .i64)::(.con (.ref 0 [] 63))::(.con (.ref 1 [] 59))::.bool::sv45⟩)],S146_9step uu⟩
def F146C (uu:Nat):Cfg:=cfg Tryz.prog 69 0 [F142c uu] [S146_9l uu] uu
def F146c (uu:Nat):CallE:=⟨146,⟨2,[],[(.data 63),(.int .i64)]⟩,⟨1,[],[.bool]⟩,fun x=>F146 uu x.1 x.2,false⟩
theorem F146k (uu:Nat):aal (F146C uu):=aad (qc (F142ok uu)<|q0) (p0)
theorem S146_9ok (uu:Nat):LoopOk (F146C uu) (lp (aai Tryz.f146) 0):=okL (F146k uu) uu (S146_9l uu) L0
theorem F146ok (uu:Nat):(F146c uu).Ok Tryz.prog:=okE Tryz.f146 (F146k uu) (L1 (S146_9ok uu))
def F208 (uu:Nat) (a0:PV) (a1:PV):Option (Bool):=
 some (bif (bif (bif (((a0.fld 0).asInt)==((a1.fld 0).asInt)) then (((a0.fld 1).asInt)==((a1.fld 1).asInt)) else false) then (((a0.fld 2).asStr)==((a1.fld 2).asStr)) else false) then ((IntKind.wrap .i64 ((IntKind.wrap .i64 ((IntKind.wrap .i64 ((IntKind.wrap .i64 ((IntKind.wrap .i64 ((IntKind.wrap .i64 ((IntKind.wrap .i64 ((((a0.fld 3).asList).length:Int)+(((a0.fld 4).asList).length:Int)))+(((a0.fld 5).asList).length:Int)))+(((a0.fld 6).asList).length:Int)))+(((a1.fld 3).asList).length:Int)))+(((a1.fld 4).asList).length:Int)))+(((a1.fld 5).asList).length:Int)))+(((a1.fld 6).asList).length:Int)))==(0:Int)) else false)
def F208c (uu:Nat):CallE:=⟨208,⟨2,[],[(.data 56),(.data 56)]⟩,⟨1,[],[.bool]⟩,fun x=>F208 uu x.1 x.2,false⟩
theorem F208ok (uu:Nat):(F208c uu).Ok Tryz.prog:=okJ Tryz.f208 58 0 uu [] [] false (q0) (p0) L0
def F168 (uu:Nat) (a0:Int):Option (Bool):=
 some (bif (decide (a0≥(1:Int))) then (decide (a0<=(9:Int))) else false)
def F168c (uu:Nat):CallE:=⟨168,⟨1,[],[(.int .i64)]⟩,⟨1,[],[.bool]⟩,fun x=>F168 uu x,false⟩
theorem F168ok (uu:Nat):(F168c uu).Ok Tryz.prog:=okJ Tryz.f168 9 0 uu [] [] false (q0) (p0) L0
def F169 (uu:Nat) (a0:PV):Option (Bool):=
 some (bif (bif (bif ((((a0.fld 3).asList).length:Int)==(0:Int)) then ((((a0.fld 4).asList).length:Int)==(0:Int)) else false) then ((((a0.fld 5).asList).length:Int)==(0:Int)) else false) then ((((a0.fld 6).asList).length:Int)==(0:Int)) else false)
def F169c (uu:Nat):CallE:=⟨169,⟨1,[],[(.data 56)]⟩,⟨1,[],[.bool]⟩,fun x=>F169 uu x,false⟩
theorem F169ok (uu:Nat):(F169c uu).Ok Tryz.prog:=okJ Tryz.f169 25 0 uu [] [] false (q0) (p0) L0
def F170 (uu:Nat) (a0:Int):Option (Bool):=
 some (bif (a0==(7:Int)) then true else (a0==(8:Int)))
def F170c (uu:Nat):CallE:=⟨170,⟨1,[],[(.int .i64)]⟩,⟨1,[],[.bool]⟩,fun x=>F170 uu x,false⟩
theorem F170ok (uu:Nat):(F170c uu).Ok Tryz.prog:=okJ Tryz.f170 9 0 uu [] [] false (q0) (p0) L0
def F172 (uu:Nat) (a0:List UInt8) (a1:Int) (a2:Int) (a3:Int):Option (Bool):=
 let x2:=decide (a1<(a0.length:Int))
 bif imp x2 (aaa a1 a0.length) then
 let x5:=bif x2 then (decide (((a0.getD a1.toNat 0).toNat:Int)≥a2)) else false
 bif imp x5 (aaa a1 a0.length) then
 some (bif x5 then (decide (((a0.getD a1.toNat 0).toNat:Int)<=a3)) else false)
 else none
 else none
def F172c (uu:Nat):CallE:=⟨172,⟨4,[],[.str,(.int .i64),(.int .u8),(.int .u8)]⟩,⟨1,[],[.bool]⟩,fun x=>F172 uu x.1 x.2.1 x.2.2.1 x.2.2.2,false⟩
theorem F172ok (uu:Nat):(F172c uu).Ok Tryz.prog:=okJ Tryz.f172 27 0 uu [] [] false (q0) (p0) L0
abbrev S171_3x:=(List UInt8)×Int×Int×Int
abbrev S171_3y:=(Bool)⊕(Unit)
def S171_3 (uu:Nat) (a1:List UInt8) (a2:Int) (a3:Int) (a4:Int):Option (S171_3x⊕S171_3y):=
 bif (decide (a4<a3)) then
 (F172 uu a1 (IntKind.wrap .i64 (a2+a4)) (128:Int) (191:Int)).bind fun y7=>
 bif (!y7) then
 some (.inr (.inl false))
 else
 some (.inl (a1,a2,a3,(IntKind.wrap .i64 (a4+(1:Int)))))
 else
 some (.inr (.inr ()))
def S171_3step (uu:Nat) (x:S171_3x):Option (S171_3x⊕S171_3y):=S171_3 uu x.1 x.2.1 x.2.2.1 x.2.2.2
def F171 (uu:Nat) (a0:List UInt8) (a1:Int) (a2:Int):Option (Bool):=
 (aah uu (S171_3step uu) (a0,a1,a2,(0:Int))).bind fun z=>sumE (fun y10=>
 some y10
 ) (fun y11=>
 some true
 ) z
def S171_3l (uu:Nat):LoopE:=⟨3,⟨[0,1,2,7],[],.str::(.int .i64)::sv7⟩,[(.ret,⟨[6],[],[.bool]⟩),(.exit 0,⟨[],[],[]⟩)],S171_3step uu⟩
def F171C (uu:Nat):Cfg:=cfg Tryz.prog 19 0 [F172c uu] [S171_3l uu] uu
def F171c (uu:Nat):CallE:=⟨171,⟨3,[],.str::sv7⟩,⟨1,[],[.bool]⟩,fun x=>F171 uu x.1 x.2.1 x.2.2,false⟩
theorem F171k (uu:Nat):aal (F171C uu):=aad (qc (F172ok uu)<|q0) (p0)
theorem S171_3ok (uu:Nat):LoopOk (F171C uu) (lp (aai Tryz.f171) 0):=okL (F171k uu) uu (S171_3l uu) L0
theorem F171ok (uu:Nat):(F171c uu).Ok Tryz.prog:=okE Tryz.f171 (F171k uu) (L1 (S171_3ok uu))
def F109 (uu:Nat) (a0:List UInt8) (a1:Int):Option (Int):=
 bif aaa a1 a0.length then
 let x1:=((a0.getD a1.toNat 0).toNat:Int)
 bif (decide (x1<(128:Int))) then
 some (1:Int)
 else
 let x5:=bif (decide (x1≥(194:Int))) then (decide (x1<=(223:Int))) else false
 (bif x5 then F171 uu a0 (IntKind.wrap .i64 (a1+(1:Int))) (1:Int) else some false).bind fun y7=>
 bif (bif x5 then y7 else false) then
 some (2:Int)
 else
 let x9:=x1==(224:Int)
 (bif x9 then F172 uu a0 (IntKind.wrap .i64 (a1+(1:Int))) (160:Int) (191:Int) else some false).bind fun y11=>
 let x12:=bif x9 then y11 else false
 (bif x12 then F171 uu a0 (IntKind.wrap .i64 (a1+(2:Int))) (1:Int) else some false).bind fun y14=>
 bif (bif x12 then y14 else false) then
 some (3:Int)
 else
 let x16:=x1==(237:Int)
 (bif x16 then F172 uu a0 (IntKind.wrap .i64 (a1+(1:Int))) (128:Int) (159:Int) else some false).bind fun y18=>
 let x19:=bif x16 then y18 else false
 (bif x19 then F171 uu a0 (IntKind.wrap .i64 (a1+(2:Int))) (1:Int) else some false).bind fun y21=>
 bif (bif x19 then y21 else false) then
 some (3:Int)
 else
 let x27:=bif (bif (decide (x1≥(225:Int))) then (decide (x1<=(239:Int))) else false) then (x1 != (237:Int)) else false
 (bif x27 then F171 uu a0 (IntKind.wrap .i64 (a1+(1:Int))) (2:Int) else some false).bind fun y29=>
 bif (bif x27 then y29 else false) then
 some (3:Int)
 else
 let x31:=x1==(240:Int)
 (bif x31 then F172 uu a0 (IntKind.wrap .i64 (a1+(1:Int))) (144:Int) (191:Int) else some false).bind fun y33=>
 let x34:=bif x31 then y33 else false
 (bif x34 then F171 uu a0 (IntKind.wrap .i64 (a1+(2:Int))) (2:Int) else some false).bind fun y36=>
 bif (bif x34 then y36 else false) then
 some (4:Int)
 else
 let x40:=bif (decide (x1≥(241:Int))) then (decide (x1<=(243:Int))) else false
 (bif x40 then F171 uu a0 (IntKind.wrap .i64 (a1+(1:Int))) (3:Int) else some false).bind fun y42=>
 bif (bif x40 then y42 else false) then
 some (4:Int)
 else
 let x44:=x1==(244:Int)
 (bif x44 then F172 uu a0 (IntKind.wrap .i64 (a1+(1:Int))) (128:Int) (143:Int) else some false).bind fun y46=>
 let x47:=bif x44 then y46 else false
 (bif x47 then F171 uu a0 (IntKind.wrap .i64 (a1+(2:Int))) (2:Int) else some false).bind fun y49=>
 bif (bif x47 then y49 else false) then
 some (4:Int)
 else
 some (0:Int)
 else none
def F109c (uu:Nat):CallE:=⟨109,⟨2,[],sv5⟩,⟨1,[],[(.int .i64)]⟩,fun x=>F109 uu x.1 x.2,0⟩
theorem F109ok (uu:Nat):(F109c uu).Ok Tryz.prog:=okJ Tryz.f109 115 0 uu _ [] false (qc (F171ok uu)<|qc (F172ok uu)<|q0) (p0) L0
def S211_3 (uu:Nat) (a1:List UInt8) (a2:Int):Option (((List UInt8)×Int)⊕((Int)⊕(Unit))):=
 bif (decide (a2<(a1.length:Int))) then
 (F109 uu a1 a2).bind fun y5=>
 bif (y5==(0:Int)) then
 some (.inr (.inl a2))
 else
 some (.inl (a1,(IntKind.wrap .i64 (a2+y5))))
 else
 some (.inr (.inr ()))
def S211_3step (uu:Nat) (x:(List UInt8)×Int):Option (((List UInt8)×Int)⊕((Int)⊕(Unit))):=S211_3 uu x.1 x.2
def F211 (uu:Nat) (a0:List UInt8):Option (Int):=
 (aah uu (S211_3step uu) (a0,(0:Int))).bind fun z=>sumE (fun y8=>
 some y8
 ) (fun y9=>
 some (-1:Int)
 ) z
def S211_3l (uu:Nat):LoopE:=⟨3,⟨[0,3],[],sv5⟩,[(.ret,⟨[2],[],[(.int .i64)]⟩),(.exit 0,⟨[],[],[]⟩)],S211_3step uu⟩
def F211C (uu:Nat):Cfg:=cfg Tryz.prog 18 0 [F109c uu] [S211_3l uu] uu
def F211c (uu:Nat):CallE:=⟨211,⟨1,[],[.str]⟩,⟨1,[],[(.int .i64)]⟩,fun x=>F211 uu x,0⟩
theorem F211k (uu:Nat):aal (F211C uu):=aad (qc (F109ok uu)<|q0) (p0)
theorem S211_3ok (uu:Nat):LoopOk (F211C uu) (lp (aai Tryz.f211) 0):=okL (F211k uu) uu (S211_3l uu) L0
theorem F211ok (uu:Nat):(F211c uu).Ok Tryz.prog:=okE Tryz.f211 (F211k uu) (L1 (S211_3ok uu))
def F150 (uu:Nat) (a0:List UInt8):Option (Bool):=
 (F211 uu a0).bind fun y1=>
 some (decide (y1<(0:Int)))
def F150c (uu:Nat):CallE:=⟨150,⟨1,[],[.str]⟩,⟨1,[],[.bool]⟩,fun x=>F150 uu x,false⟩
theorem F150ok (uu:Nat):(F150c uu).Ok Tryz.prog:=okJ Tryz.f150 6 0 uu _ [] false (qc (F211ok uu)<|q0) (p0) L0
def F104 (uu:Nat) (a0:Int) (a1:PV):Option (Bool):=
 (F168 uu a0).bind fun y1=>
 let x5:=bif (!y1) then true else (((a1.fld 0).asInt) != a0)
 (bif !x5 then F169 uu a1 else some false).bind fun y6=>
 bif (bif x5 then true else (!y6)) then
 some false
 else
 (F170 uu a0).bind fun y9=>
 bif y9 then
 let x15:=bif (((a1.fld 1).asInt)==(0:Int)) then (decide ((((a1.fld 2).asStr).length:Int)<=(4096:Int))) else false
 let x16:=a0==(8:Int)
 (bif bif !x16 then x15 else false then F150 uu ((a1.fld 2).asStr) else some false).bind fun y18=>
 some (bif x15 then (bif x16 then true else y18) else false)
 else
 bif (!(((a1.fld 2).asStr)==([]:List UInt8))) then
 some false
 else
 bif (a0==(1:Int)) then
 some (decide (((a1.fld 1).asInt)<=(1:Int)))
 else
 bif (a0==(2:Int)) then
 let x28:=IntKind.wrap .i64 ((a1.fld 1).asInt)
 some (bif (decide (x28≥(-2147483648:Int))) then (decide (x28<=(2147483647:Int))) else false)
 else
 bif (a0==(4:Int)) then
 some (decide (((a1.fld 1).asInt)<(4294967296:Int)))
 else
 bif (a0==(9:Int)) then
 some (decide (((a1.fld 1).asInt)<(2147483648:Int)))
 else
 some true
def F104c (uu:Nat):CallE:=⟨104,⟨2,[],[(.int .i64),(.data 56)]⟩,⟨1,[],[.bool]⟩,fun x=>F104 uu x.1 x.2,false⟩
theorem F104ok (uu:Nat):(F104c uu).Ok Tryz.prog:=okJ Tryz.f104 70 0 uu _ [] false (qc (F168ok uu)<|qc (F169ok uu)<|qc (F170ok uu)<|qc (F150ok uu)<|q0) (p0) L0
def F106 (uu:Nat) (a0:Int):Option (Int):=
 let x1:=a0.tmod (9223372036854775808:Int)
 bif (decide (x1>(9218868437227405312:Int))) then
 some (0:Int)
 else
 bif (x1==(9218868437227405312:Int)) then
 some (1:Int)
 else
 bif (x1==(0:Int)) then
 some (2:Int)
 else
 bif (decide (x1<(4503599627370496:Int))) then
 some (3:Int)
 else
 some (4:Int)
def F106c (uu:Nat):CallE:=⟨106,⟨1,[],[(.int .u64)]⟩,⟨1,[],[(.int .i64)]⟩,fun x=>F106 uu x,0⟩
theorem F106ok (uu:Nat):(F106c uu).Ok Tryz.prog:=okJ Tryz.f106 18 0 uu [] [] false (q0) (p0) L0
def F209 (uu:Nat) (a0:PV):Option (PV):=
 let x2:=((a0.fld 0).asInt)==(6:Int)
 (bif x2 then F106 uu ((a0.fld 1).asInt) else some 0).bind fun y4=>
 bif (bif x2 then (y4==(0:Int)) else false) then
 some (PV.agg [(PV.int ((a0.fld 0).asInt)),(PV.int (9221120237041090560:Int)),(PV.str ((a0.fld 2).asStr)),(PV.slice ((a0.fld 3).asList)),(PV.slice ((a0.fld 4).asList)),(PV.slice ((a0.fld 5).asList)),(PV.slice ((a0.fld 6).asList))])
 else
 some a0
def F209c (uu:Nat):CallE:=⟨209,⟨1,[],[(.data 56)]⟩,⟨1,[],[(.data 56)]⟩,fun x=>F209 uu x,PV.bad⟩
theorem F209ok (uu:Nat):(F209c uu).Ok Tryz.prog:=okJ Tryz.f209 14 0 uu _ [] false (qc (F106ok uu)<|q0) (p0) L0
abbrev S147_13x:=Unit×Unit×Int×Int×PV×PV×PV
abbrev S147_13y:=(Bool×PV×PV×PV)⊕(PV×PV×PV)
def S147_13 (uu:Nat) (a23:Unit) (a24:Unit) (a25:Int) (a26:Int) (a27:PV) (a28:PV) (a29:PV):Option (S147_13x⊕S147_13y):=
 let x30:=(a27.fld 1).asList
 bif aaa a25 x30.length then
 bif (decide (a26<(((x30.getD a25.toNat .bad).fld 2).asList.length:Int))) then
 let x36:=(a27.fld 1).asList
 bif aaa a25 x36.length then
 let x39:=((x36.getD a25.toNat .bad).fld 2).asList
 bif aaa a26 x39.length then
 bif ((IntKind.wrap .u64 ((x39.getD a26.toNat .bad).fld 1).asInt)==((a29.fld 1).asInt)) then
 some (.inr (.inl (true,a27,a28,a29)))
 else
 some (.inl ((),(),a25,(IntKind.wrap .i64 (a26+(1:Int))),a27,a28,a29))
 else none
 else none
 else
 some (.inr (.inr (a27,a28,a29)))
 else none
def S147_13step (uu:Nat) (x:S147_13x):Option (S147_13x⊕S147_13y):=S147_13 uu x.1 x.2.1 x.2.2.1 x.2.2.2.1 x.2.2.2.2.1 x.2.2.2.2.2.1 x.2.2.2.2.2.2
def F147 (uu:Nat) (a0:PV) (a1:PV):Option (Bool):=
 let x1:=a1.fld 7
 bif (!((a1.fld 6).asBool)) then
 (F208 uu x1 (PV.agg [(PV.int (0:Int)),(PV.int (0:Int)),(PV.str ([]:List UInt8)),(PV.slice []),(PV.slice []),(PV.slice []),(PV.slice [])])).bind fun y4=>
 some y4
 else
 let x9:=bif (((a1.fld 2).asInt) != (2:Int)) then true else (!(((a1.fld 5).asStr)==([]:List UInt8)))
 (bif !x9 then F104 uu (((a1.fld 4).fld 0).asInt) x1 else some false).bind fun y11=>
 let x13:=bif x9 then true else (!y11)
 (bif !x13 then F209 uu x1 else some PV.bad).bind fun y14=>
 (bif !x13 then F208 uu x1 y14 else some false).bind fun y15=>
 bif (bif x13 then true else (!y15)) then
 some false
 else
 (F207 uu a0 (((a1.fld 4).fld 1).asStr)).bind fun y19=>
 bif ((((a1.fld 4).fld 0).asInt) != (9:Int)) then
 some true
 else
 bif (decide (y19<(0:Int))) then
 some false
 else
 (aah uu (S147_13step uu) ((),(),y19,(0:Int),a0,a1,x1)).bind fun z=>sumE (fun y47=>
 some y47.1
 ) (fun y48=>
 some false
 ) z
def S147_13l (uu:Nat):LoopE:=⟨13,⟨[2,5,6,7],bx27,(.con (.ref 0 [] 26))::(.con (.ref 2 [] 56))::(.int .i64)::(.int .i64)::sv46⟩,[(.ret,⟨[4],bx27,.bool::sv46⟩),(.exit 0,⟨[],bx27,sv46⟩)],S147_13step uu⟩
def F147C (uu:Nat):Cfg:=cfg Tryz.prog 75 0 [F208c uu,F104c uu,F209c uu,F207c uu] [S147_13l uu] uu
def F147c (uu:Nat):CallE:=⟨147,⟨2,[],[(.data 26),(.data 59)]⟩,⟨1,[],[.bool]⟩,fun x=>F147 uu x.1 x.2,false⟩
theorem F147k (uu:Nat):aal (F147C uu):=aad (qc (F208ok uu)<|qc (F104ok uu)<|qc (F209ok uu)<|qc (F207ok uu)<|q0) (p0)
theorem S147_13ok (uu:Nat):LoopOk (F147C uu) (lp (aai Tryz.f147) 0):=okL (F147k uu) uu (S147_13l uu) L0
theorem F147ok (uu:Nat):(F147c uu).Ok Tryz.prog:=okE Tryz.f147 (F147k uu) (L1 (S147_13ok uu))
def F244 (uu:Nat) (a0:List UInt8):Option (Int):=
 let x1:=a0==([100,101,112,114,101,99,97,116,101,100]:List UInt8)
 bif x1 then
 some (1:Int)
 else
 bif (a0==([115,101,99,114,101,116]:List UInt8)) then
 some (1:Int)
 else
 let x3:=a0==([105,100,101,109,112,111,116,101,110,116]:List UInt8)
 bif x3 then
 some (1:Int)
 else
 bif (a0==([100,111,99]:List UInt8)) then
 some (7:Int)
 else
 bif (a0==([97,108,105,97,115]:List UInt8)) then
 some (7:Int)
 else
 bif (a0==([114,111,117,116,101]:List UInt8)) then
 some (7:Int)
 else
 bif (a0==([111,119,110,101,114]:List UInt8)) then
 some (7:Int)
 else
 bif (a0==([115,105,110,99,101]:List UInt8)) then
 some (4:Int)
 else
 bif (a0==([117,110,116,105,108]:List UInt8)) then
 some (4:Int)
 else
 bif (a0==([108,101,110,103,116,104]:List UInt8)) then
 some (4:Int)
 else
 bif (a0==([116,105,109,101,111,117,116]:List UInt8)) then
 some (4:Int)
 else
 bif (a0==([109,105,110]:List UInt8)) then
 some (3:Int)
 else
 bif (a0==([109,97,120]:List UInt8)) then
 some (3:Int)
 else
 some (0:Int)
def F244c (uu:Nat):CallE:=⟨244,⟨1,[],[.str]⟩,⟨1,[],[(.int .i64)]⟩,fun x=>F244 uu x,0⟩
theorem F244ok (uu:Nat):(F244c uu).Ok Tryz.prog:=okJ Tryz.f244 21 0 uu [] [] false (q0) (p0) L0
def F245 (uu:Nat) (a0:List UInt8) (a1:Int):Option (Bool):=
 let x1:=a0==([100,101,112,114,101,99,97,116,101,100]:List UInt8)
 bif x1 then
 some (bif (decide (a1≥(1:Int))) then (decide (a1<=(6:Int))) else false)
 else
 bif (a0==([100,111,99]:List UInt8)) then
 some (bif (decide (a1≥(1:Int))) then (decide (a1<=(6:Int))) else false)
 else
 bif (a0==([97,108,105,97,115]:List UInt8)) then
 some (bif (bif (a1==(2:Int)) then true else (a1==(4:Int))) then true else (a1==(6:Int)))
 else
 bif (a0==([115,105,110,99,101]:List UInt8)) then
 some (bif (bif (a1==(2:Int)) then true else (a1==(4:Int))) then true else (a1==(6:Int)))
 else
 bif (a0==([117,110,116,105,108]:List UInt8)) then
 some (bif (bif (a1==(2:Int)) then true else (a1==(4:Int))) then true else (a1==(6:Int)))
 else
 bif (a0==([109,105,110]:List UInt8)) then
 some (a1==(2:Int))
 else
 bif (a0==([109,97,120]:List UInt8)) then
 some (a1==(2:Int))
 else
 bif (a0==([108,101,110,103,116,104]:List UInt8)) then
 some (a1==(2:Int))
 else
 bif (a0==([115,101,99,114,101,116]:List UInt8)) then
 some (a1==(2:Int))
 else
 let x35:=a0==([105,100,101,109,112,111,116,101,110,116]:List UInt8)
 bif x35 then
 some (a1==(6:Int))
 else
 bif (a0==([116,105,109,101,111,117,116]:List UInt8)) then
 some (a1==(6:Int))
 else
 bif (a0==([114,111,117,116,101]:List UInt8)) then
 some (a1==(6:Int))
 else
 some (bif (a1==(1:Int)) then true else (a1==(5:Int)))
def F245c (uu:Nat):CallE:=⟨245,⟨2,[],sv5⟩,⟨1,[],[.bool]⟩,fun x=>F245 uu x.1 x.2,false⟩
theorem F245ok (uu:Nat):(F245c uu).Ok Tryz.prog:=okJ Tryz.f245 48 0 uu [] [] false (q0) (p0) L0
def F246 (uu:Nat) (a0:PV):Option (Bool):=
 (F244 uu ((a0.fld 0).asStr)).bind fun y2=>
 let x6:=bif (y2 != (0:Int)) then ((((a0.fld 1).fld 0).asInt)==y2) else false
 (bif x6 then F104 uu y2 (a0.fld 1) else some false).bind fun y8=>
 some (bif x6 then y8 else false)
def F246c (uu:Nat):CallE:=⟨246,⟨1,[],[(.data 114)]⟩,⟨1,[],[.bool]⟩,fun x=>F246 uu x,false⟩
theorem F246ok (uu:Nat):(F246c uu).Ok Tryz.prog:=okJ Tryz.f246 22 0 uu _ [] false (qc (F244ok uu)<|qc (F104ok uu)<|q0) (p0) L0
def S210_5 (uu:Nat) (a3:List PV) (a4:Int) (a5:Int):Option (((List PV)×Int×Int)⊕((Int)⊕(Unit))):=
 bif (decide (a5<(a3.length:Int))) then
 bif aaa a5 a3.length then
 (F244 uu ((a3.getD a5.toNat .bad).fld 0).asStr).bind fun y11=>
 bif (y11==(0:Int)) then
 some (.inr (.inl (8:Int)))
 else
 bif aaa a5 a3.length then
 (F245 uu ((a3.getD a5.toNat .bad).fld 0).asStr a4).bind fun y16=>
 bif (!y16) then
 some (.inr (.inl (1:Int)))
 else
 bif aaa a5 a3.length then
 (F246 uu (a3.getD a5.toNat .bad)).bind fun y19=>
 bif (!y19) then
 some (.inr (.inl (12:Int)))
 else
 let x21:=decide (a5>(0:Int))
 bif imp x21 (aaa a5 a3.length) then
 let x25:=IntKind.wrap .i64 (a5-(1:Int))
 bif imp x21 (aaa x25 a3.length) then
 bif (bif x21 then (Op.bytesLess ((a3.getD a5.toNat .bad).fld 0).asStr ((a3.getD x25.toNat .bad).fld 0).asStr) else false) then
 some (.inr (.inl (11:Int)))
 else
 let x31:=decide (a5>(0:Int))
 bif imp x31 (aaa a5 a3.length) then
 let x35:=IntKind.wrap .i64 (a5-(1:Int))
 bif imp x31 (aaa x35 a3.length) then
 bif (bif x31 then (((a3.getD a5.toNat .bad).fld 0).asStr==((a3.getD x35.toNat .bad).fld 0).asStr) else false) then
 some (.inr (.inl (9:Int)))
 else
 some (.inl (a3,a4,(IntKind.wrap .i64 (a5+(1:Int)))))
 else none
 else none
 else none
 else none
 else none
 else none
 else none
 else
 some (.inr (.inr ()))
def S210_5step (uu:Nat) (x:(List PV)×Int×Int):Option (((List PV)×Int×Int)⊕((Int)⊕(Unit))):=S210_5 uu x.1 x.2.1 x.2.2
def F210 (uu:Nat) (a0:List PV) (a1:Int):Option (Int):=
 bif (decide ((a0.length:Int)>(8:Int))) then
 some (3:Int)
 else
 (aah uu (S210_5step uu) (a0,a1,(0:Int))).bind fun z=>sumE (fun y42=>
 some y42
 ) (fun y43=>
 some (0:Int)
 ) z
def S210_5l (uu:Nat):LoopE:=⟨5,⟨[0,1,5],[],(.slice 114)::sv7⟩,[(.ret,⟨[4],[],[(.int .i64)]⟩),(.exit 0,⟨[],[],[]⟩)],S210_5step uu⟩
def F210C (uu:Nat):Cfg:=cfg Tryz.prog 68 0 [F244c uu,F245c uu,F246c uu] [S210_5l uu] uu
def F210c (uu:Nat):CallE:=⟨210,⟨2,[],[(.slice 114),(.int .i64)]⟩,⟨1,[],[(.int .i64)]⟩,fun x=>F210 uu x.1 x.2,0⟩
theorem F210k (uu:Nat):aal (F210C uu):=aad (qc (F244ok uu)<|qc (F245ok uu)<|qc (F246ok uu)<|q0) (p0)
theorem S210_5ok (uu:Nat):LoopOk (F210C uu) (lp (aai Tryz.f210) 0):=okL (F210k uu) uu (S210_5l uu) L0
theorem F210ok (uu:Nat):(F210c uu).Ok Tryz.prog:=okE Tryz.f210 (F210k uu) (L1 (S210_5ok uu))
def F148 (uu:Nat) (a0:Unit) (a1:List PV) (a2:Int) (a3:Int) (a4:List UInt8) (a5:List PV):Option ((List UInt8)×(List PV)):=
 (F210 uu a1 a2).bind fun y1=>
 (F75 uu () (y1 != (0:Int)) a3 y1 a4 a5).bind fun y3=>
 some (y3.1,y3.2)
def F148c (uu:Nat):CallE:=⟨148,⟨4,bx22,(.con (.ref 0 [] 134))::(.slice 114)::sv39⟩,⟨0,bx22,sv40⟩,fun x=>F148 uu x.1 x.2.1 x.2.2.1 x.2.2.2.1 x.2.2.2.2.1 x.2.2.2.2.2,([],[])⟩
theorem F148ok (uu:Nat):(F148c uu).Ok Tryz.prog:=okJ Tryz.f148 18 2 uu _ [] false (qc (F210ok uu)<|qc (F75ok uu)<|q0) (p0) L0
abbrev S149_2x:=Unit×(List PV)×Int×Int×Int×(List UInt8)×(List PV)
abbrev S149_2y:=((List UInt8)×(List PV))
def S149_2 (uu:Nat) (a1:Unit) (a2:List PV) (a3:Int) (a4:Int) (a5:Int) (a6:List UInt8) (a7:List PV):Option (S149_2x⊕S149_2y):=
 bif (decide (a5<(a2.length:Int))) then
 bif aaa a5 a2.length then
 let x13:=decide (((a2.getD a5.toNat .bad).fld 0).asInt<a3)
 bif imp (!x13) (aaa a5 a2.length) then
 let x18:=bif x13 then true else (decide (((a2.getD a5.toNat .bad).fld 1).asInt>a4))
 bif imp (!x18) (aaa a5 a2.length) then
 bif imp (!x18) (aaa a5 a2.length) then
 (F75 uu () (bif x18 then true else (decide (((a2.getD a5.toNat .bad).fld 0).asInt>((a2.getD a5.toNat .bad).fld 1).asInt))) (-1:Int) (6:Int) a6 a7).bind fun y27=>
 let x28:=decide (a5>(0:Int))
 bif imp x28 (aaa a5 a2.length) then
 let x32:=IntKind.wrap .i64 (a5-(1:Int))
 bif imp x28 (aaa x32 a2.length) then
 (F75 uu () (bif x28 then (decide (((a2.getD a5.toNat .bad).fld 0).asInt<=((a2.getD x32.toNat .bad).fld 1).asInt)) else false) (-1:Int) (11:Int) y27.1 y27.2).bind fun y38=>
 some (.inl ((),a2,a3,a4,(IntKind.wrap .i64 (a5+(1:Int))),y38.1,y38.2))
 else none
 else none
 else none
 else none
 else none
 else none
 else
 some (.inr (a6,a7))
def S149_2step (uu:Nat) (x:S149_2x):Option (S149_2x⊕S149_2y):=S149_2 uu x.1 x.2.1 x.2.2.1 x.2.2.2.1 x.2.2.2.2.1 x.2.2.2.2.2.1 x.2.2.2.2.2.2
def F149 (uu:Nat) (a0:Unit) (a1:List PV) (a2:Int) (a3:Int) (a4:List UInt8) (a5:List PV):Option ((List UInt8)×(List PV)):=
 (aah uu (S149_2step uu) ((),a1,a2,a3,(0:Int),a4,a5)).bind fun y40=>
 some (y40.1,y40.2)
def S149_2l (uu:Nat):LoopE:=⟨2,⟨[0,1,2,3,8],bx22,(.con (.ref 0 [] 134))::(.slice 235)::(.int .i64)::sv39⟩,[(.exit 0,⟨[],bx22,sv40⟩)],S149_2step uu⟩
def F149C (uu:Nat):Cfg:=cfg Tryz.prog 64 2 [F75c uu] [S149_2l uu] uu
def F149c (uu:Nat):CallE:=⟨149,⟨4,bx22,(.con (.ref 0 [] 134))::(.slice 235)::sv39⟩,⟨0,bx22,sv40⟩,fun x=>F149 uu x.1 x.2.1 x.2.2.1 x.2.2.2.1 x.2.2.2.2.1 x.2.2.2.2.2,([],[])⟩
theorem F149k (uu:Nat):aal (F149C uu):=aad (qc (F75ok uu)<|q0) (p0)
theorem S149_2ok (uu:Nat):LoopOk (F149C uu) (lp (aai Tryz.f149) 0):=okL (F149k uu) uu (S149_2l uu) L0
theorem F149ok (uu:Nat):(F149c uu).Ok Tryz.prog:=okE Tryz.f149 (F149k uu) (L1 (S149_2ok uu))
abbrev S140_v1_3x:=(List PV)×Unit×Unit×Int×PV×PV
abbrev S140_v1_3y:=(Bool×PV×PV)⊕(PV×PV)
def S140_v1_3 (uu:Nat) (a1:List PV) (a2:Unit) (a3:Unit) (a4:Int) (a5:PV) (a6:PV):Option (S140_v1_3x⊕S140_v1_3y):=
 bif (decide (a4<(((a6.fld 1).asList).length:Int))) then
 let x10:=(a6.fld 1).asList
 bif aaa a4 x10.length then
 let x11:=x10.getD a4.toNat .bad
 bif (bif (((x11.fld 2).asInt) != (1:Int)) then true else ((((x11.fld 4).fld 0).asInt) != (10:Int))) then
 some (.inl (a1,(),(),(IntKind.wrap .i64 (a4+(1:Int))),a5,a6))
 else
 (F151 uu a5 (((x11.fld 4).fld 1).asStr)).bind fun y19=>
 let x20:=decide (y19≥(0:Int))
 bif imp x20 (aaa y19 a1.length) then
 bif (bif x20 then (!(a1.getD y19.toNat .bad).asBool) else false) then
 some (.inr (.inl (true,a5,a6)))
 else
 some (.inl (a1,(),(),(IntKind.wrap .i64 (a4+(1:Int))),a5,a6))
 else none
 else none
 else
 some (.inr (.inr (a5,a6)))
def S140_v1_3step (uu:Nat) (x:S140_v1_3x):Option (S140_v1_3x⊕S140_v1_3y):=S140_v1_3 uu x.1 x.2.1 x.2.2.1 x.2.2.2.1 x.2.2.2.2.1 x.2.2.2.2.2
def F140_v1 (uu:Nat) (a0:PV) (a1:PV) (a2:List PV):Option (Bool):=
 (aah uu (S140_v1_3step uu) (a2,(),(),(0:Int),a0,a1)).bind fun z=>sumE (fun y26=>
 some y26.1
 ) (fun y27=>
 some false
 ) z
def S140_v1_3l (uu:Nat):LoopE:=⟨3,⟨[2,3,4,7],bx28,(.slice 4)::(.con (.ref 0 [] 26))::(.con (.ref 1 [] 63))::(.int .i64)::sv47⟩,[(.ret,⟨[6],bx28,.bool::sv47⟩),(.exit 0,⟨[],bx28,sv47⟩)],S140_v1_3step uu⟩
def F140_v1C (uu:Nat):Cfg:=cfg Tryz.prog 45 0 [F151c uu] [S140_v1_3l uu] uu
def F140_v1c (uu:Nat):CallE:=⟨140,⟨3,[],[(.data 26),(.data 63),(.slice 4)]⟩,⟨1,[],[.bool]⟩,fun x=>F140_v1 uu x.1 x.2.1 x.2.2,false⟩
theorem F140_v1k (uu:Nat):aal (F140_v1C uu):=aad (qc (F151ok uu)<|q0) (p0)
theorem S140_v1_3ok (uu:Nat):LoopOk (F140_v1C uu) (lp (aai Tryz.f140) 0):=okL (F140_v1k uu) uu (S140_v1_3l uu) L0
theorem F140_v1ok (uu:Nat):(F140_v1c uu).Ok Tryz.prog:=okE Tryz.f140 (F140_v1k uu) (L1 (S140_v1_3ok uu))
abbrev S79_11x:=(List PV)×Unit×Unit×Unit×Int×Unit×Bool×Int×PV×PV×(List UInt8)×(List PV)×PV
abbrev S79_11y:=((List PV)×Unit×Unit×Unit×Int×Unit×Bool×PV×PV×(List UInt8)×(List PV)×PV)
def S79_11 (uu:Nat) (a32:List PV) (a33:Unit) (a34:Unit) (a35:Unit) (a36:Int) (a37:Unit) (a38:Bool) (a39:Int) (a40:PV) (a41:PV) (a42:List UInt8) (a43:List PV) (a44:PV):Option (S79_11x⊕S79_11y):=
 bif (decide (a39<a36)) then
 let x46:=(a41.fld 1).asList
 bif aaa a39 x46.length then
 bif (((x46.getD a39.toNat .bad).fld 1).asStr==((a44.fld 1).asStr)) then
 some (.inl (a32,(),(),(),a36,(),true,(IntKind.wrap .i64 (a39+(1:Int))),a40,a41,a42,a43,a44))
 else
 some (.inl (a32,(),(),(),a36,(),a38,(IntKind.wrap .i64 (a39+(1:Int))),a40,a41,a42,a43,a44))
 else none
 else
 some (.inr (a32,(),(),(),a36,(),a38,a40,a41,a42,a43,a44))
def S79_11step (uu:Nat) (x:S79_11x):Option (S79_11x⊕S79_11y):=S79_11 uu x.1 x.2.1 x.2.2.1 x.2.2.2.1 x.2.2.2.2.1 x.2.2.2.2.2.1 x.2.2.2.2.2.2.1 x.2.2.2.2.2.2.2.1 x.2.2.2.2.2.2.2.2.1 x.2.2.2.2.2.2.2.2.2.1 x.2.2.2.2.2.2.2.2.2.2.1 x.2.2.2.2.2.2.2.2.2.2.2.1 x.2.2.2.2.2.2.2.2.2.2.2.2
abbrev S79_6x:=(List PV)×Unit×Unit×Unit×Int×PV×PV×(List UInt8)×(List PV)
abbrev S79_6y:=((List PV)×Unit×Unit×Unit×PV×PV×(List UInt8)×(List PV))
def S79_6 (uu:Nat) (a18:List PV) (a19:Unit) (a20:Unit) (a21:Unit) (a22:Int) (a23:PV) (a24:PV) (a25:List UInt8) (a26:List PV):Option (S79_6x⊕S79_6y):=
 bif (decide (a22<(((a24.fld 1).asList).length:Int))) then
 let x30:=(a24.fld 1).asList
 bif aaa a22 x30.length then
 (aah uu (S79_11step uu) (a18,(),(),(),a22,(),false,(0:Int),a23,a24,a25,a26,(x30.getD a22.toNat .bad))).bind fun y54=>
 (F75 uu () (bif (decide (((y54.2.2.2.2.2.2.2.2.2.2.2.fld 0).asInt)<(1:Int))) then true else (decide (((y54.2.2.2.2.2.2.2.2.2.2.2.fld 0).asInt)>(65535:Int)))) ((y54.2.2.2.2.2.2.2.2.2.2.2.fld 0).asInt) (6:Int) y54.2.2.2.2.2.2.2.2.2.1 y54.2.2.2.2.2.2.2.2.2.2.1).bind fun y61=>
 let x63:=decide (y54.2.2.2.2.1>(0:Int))
 let x65:=(y54.2.2.2.2.2.2.2.2.1.fld 1).asList
 let x67:=IntKind.wrap .i64 (y54.2.2.2.2.1-(1:Int))
 bif imp x63 (aaa x67 x65.length) then
 (F75 uu () (bif x63 then (decide (((y54.2.2.2.2.2.2.2.2.2.2.2.fld 0).asInt)<=((x65.getD x67.toNat .bad).fld 0).asInt)) else false) ((y54.2.2.2.2.2.2.2.2.2.2.2.fld 0).asInt) (11:Int) y61.1 y61.2).bind fun y74=>
 (F142 uu ((y54.2.2.2.2.2.2.2.2.2.2.2.fld 1).asStr)).bind fun y76=>
 (F75 uu () (!y76) ((y54.2.2.2.2.2.2.2.2.2.2.2.fld 0).asInt) (8:Int) y74.1 y74.2).bind fun y79=>
 (F75 uu () y54.2.2.2.2.2.2.1 ((y54.2.2.2.2.2.2.2.2.2.2.2.fld 0).asInt) (9:Int) y79.1 y79.2).bind fun y82=>
 (F143 uu ((y54.2.2.2.2.2.2.2.2.1.fld 2).asList) ((y54.2.2.2.2.2.2.2.2.2.2.2.fld 0).asInt)).bind fun y85=>
 (bif !y85 then F139 uu ((y54.2.2.2.2.2.2.2.2.1.fld 3).asList) ((y54.2.2.2.2.2.2.2.2.2.2.2.fld 1).asStr) else some false).bind fun y88=>
 (F75 uu () (bif y85 then true else y88) ((y54.2.2.2.2.2.2.2.2.2.2.2.fld 0).asInt) (21:Int) y82.1 y82.2).bind fun y91=>
 (F144 uu y54.2.2.2.2.2.2.2.2.2.2.2).bind fun y93=>
 (F75 uu () (!y93) ((y54.2.2.2.2.2.2.2.2.2.2.2.fld 0).asInt) (1:Int) y91.1 y91.2).bind fun y96=>
 (F145 uu y54.2.2.2.2.2.2.2.1 y54.2.2.2.2.2.2.2.2.2.2.2).bind fun y99=>
 (F75 uu () (!y99) ((y54.2.2.2.2.2.2.2.2.2.2.2.fld 0).asInt) (12:Int) y96.1 y96.2).bind fun y102=>
 (F146 uu y54.2.2.2.2.2.2.2.2.1 y54.2.2.2.2.1).bind fun y105=>
 (F75 uu () (!y105) ((y54.2.2.2.2.2.2.2.2.2.2.2.fld 0).asInt) (15:Int) y102.1 y102.2).bind fun y108=>
 (F147 uu y54.2.2.2.2.2.2.2.1 y54.2.2.2.2.2.2.2.2.2.2.2).bind fun y111=>
 (F75 uu () (!y111) ((y54.2.2.2.2.2.2.2.2.2.2.2.fld 0).asInt) (1:Int) y108.1 y108.2).bind fun y114=>
 (F148 uu () ((y54.2.2.2.2.2.2.2.2.2.2.2.fld 8).asList) (2:Int) ((y54.2.2.2.2.2.2.2.2.2.2.2.fld 0).asInt) y114.1 y114.2).bind fun y117=>
 some (.inl (y54.1,(),(),(),(IntKind.wrap .i64 (y54.2.2.2.2.1+(1:Int))),y54.2.2.2.2.2.2.2.1,y54.2.2.2.2.2.2.2.2.1,y117.1,y117.2))
 else none
 else none
 else
 some (.inr (a18,(),(),(),a23,a24,a25,a26))
def S79_6step (uu:Nat) (x:S79_6x):Option (S79_6x⊕S79_6y):=S79_6 uu x.1 x.2.1 x.2.2.1 x.2.2.2.1 x.2.2.2.2.1 x.2.2.2.2.2.1 x.2.2.2.2.2.2.1 x.2.2.2.2.2.2.2.1 x.2.2.2.2.2.2.2.2
abbrev S79_27x:=(List PV)×Unit×Unit×Unit×Int×PV×PV×(List UInt8)×(List PV)
abbrev S79_27y:=((List PV)×Unit×Unit×Unit×PV×PV×(List UInt8)×(List PV))
def S79_27 (uu:Nat) (a123:List PV) (a124:Unit) (a125:Unit) (a126:Unit) (a127:Int) (a128:PV) (a129:PV) (a130:List UInt8) (a131:List PV):Option (S79_27x⊕S79_27y):=
 bif (decide (a127<(((a129.fld 3).asList).length:Int))) then
 let x135:=(a129.fld 3).asList
 bif aaa a127 x135.length then
 (F150 uu (x135.getD a127.toNat .bad).asStr).bind fun y138=>
 (F75 uu () (!y138) (-1:Int) (7:Int) a130 a131).bind fun y140=>
 some (.inl (a123,(),(),(),(IntKind.wrap .i64 (a127+(1:Int))),a128,a129,y140.1,y140.2))
 else none
 else
 some (.inr (a123,(),(),(),a128,a129,a130,a131))
def S79_27step (uu:Nat) (x:S79_27x):Option (S79_27x⊕S79_27y):=S79_27 uu x.1 x.2.1 x.2.2.1 x.2.2.2.1 x.2.2.2.2.1 x.2.2.2.2.2.1 x.2.2.2.2.2.2.1 x.2.2.2.2.2.2.2.1 x.2.2.2.2.2.2.2.2
def F79 (uu:Nat) (a0:PV) (a1:PV) (a2:List PV):Option ((List PV)):=
 (F141 uu ((a1.fld 0).asStr)).bind fun y3=>
 (F75 uu () (!y3) (-1:Int) (8:Int) ((a1.fld 0).asStr) []).bind fun y5=>
 (F75 uu () (bif (bif (decide ((((a1.fld 1).asList).length:Int)>(64:Int))) then true else (decide ((((a1.fld 2).asList).length:Int)>(16:Int)))) then true else (decide ((((a1.fld 3).asList).length:Int)>(16:Int)))) (-1:Int) (3:Int) y5.1 y5.2).bind fun y17=>
 (aah uu (S79_6step uu) (a2,(),(),(),(0:Int),a0,a1,y17.1,y17.2)).bind fun y120=>
 (F149 uu () ((y120.2.2.2.2.2.1.fld 2).asList) (1:Int) (65535:Int) y120.2.2.2.2.2.2.1 y120.2.2.2.2.2.2.2).bind fun y122=>
 (aah uu (S79_27step uu) (y120.1,(),(),(),(0:Int),y120.2.2.2.2.1,y120.2.2.2.2.2.1,y122.1,y122.2)).bind fun y142=>
 (F148 uu () ((y142.2.2.2.2.2.1.fld 4).asList) (1:Int) (-1:Int) y142.2.2.2.2.2.2.1 y142.2.2.2.2.2.2.2).bind fun y144=>
 (F140_v1 uu y142.2.2.2.2.1 y142.2.2.2.2.2.1 y142.1).bind fun y148=>
 (F75 uu () y148 (-1:Int) (19:Int) y144.1 y144.2).bind fun y149=>
 some y149.2
def S79_11l (uu:Nat):LoopE:=⟨11,⟨[2,3,4,7,8,9,10,11],bx29,[(.slice 4),(.con (.ref 0 [] 26)),(.con (.ref 1 [] 63)),(.con (.ref 2 [] 134)),(.int .i64),(.con (.ref 4 [] 59)),.bool,(.int .i64),(.data 26),(.data 63),.str,(.acc 3 208),(.data 59)]⟩,[(.exit 2,⟨[2,3,4,7,8,9,10],bx29,[(.slice 4),(.con (.ref 0 [] 26)),(.con (.ref 1 [] 63)),(.con (.ref 2 [] 134)),(.int .i64),(.con (.ref 4 [] 59)),.bool,(.data 26),(.data 63),.str,(.acc 3 208),(.data 59)]⟩)],S79_11step uu⟩
def S79_6l (uu:Nat):LoopE:=⟨6,⟨[2,3,4,7,8],bx30,(.slice 4)::(.con (.ref 0 [] 26))::(.con (.ref 1 [] 63))::(.con (.ref 2 [] 134))::(.int .i64)::sv48⟩,[(.exit 0,⟨[2,3,4,7],bx30,(.slice 4)::(.con (.ref 0 [] 26))::(.con (.ref 1 [] 63))::(.con (.ref 2 [] 134))::sv48⟩)],S79_6step uu⟩
def S79_27l (uu:Nat):LoopE:=⟨27,⟨[2,3,4,7,12],bx30,(.slice 4)::(.con (.ref 0 [] 26))::(.con (.ref 1 [] 63))::(.con (.ref 2 [] 134))::(.int .i64)::sv48⟩,[(.exit 4,⟨[2,3,4,7],bx30,(.slice 4)::(.con (.ref 0 [] 26))::(.con (.ref 1 [] 63))::(.con (.ref 2 [] 134))::sv48⟩)],S79_27step uu⟩
def F79C (uu:Nat):Cfg:=cfg Tryz.prog 178 0 [F141c uu,F75c uu,F142c uu,F143c uu,F139c uu,F144c uu,F145c uu,F146c uu,F147c uu,F148c uu,F149c uu,F150c uu,F140_v1c uu] [S79_11l uu,S79_6l uu,S79_27l uu] uu
def F79c (uu:Nat):CallE:=⟨79,⟨3,[],[(.data 26),(.data 63),(.slice 4)]⟩,⟨1,[],[(.slice 208)]⟩,fun x=>F79 uu x.1 x.2.1 x.2.2,[]⟩
theorem F79k (uu:Nat):aal (F79C uu):=aad (qc (F141ok uu)<|qc (F75ok uu)<|qc (F142ok uu)<|qc (F143ok uu)<|qc (F139ok uu)<|qc (F144ok uu)<|qc (F145ok uu)<|qc (F146ok uu)<|qc (F147ok uu)<|qc (F148ok uu)<|qc (F149ok uu)<|qc (F150ok uu)<|qc (F140_v1ok uu)<|q0) (p0)
theorem S79_11ok (uu:Nat):LoopOk (F79C uu) (lp (lp (aai Tryz.f79) 0) 0):=okL (F79k uu) uu (S79_11l uu) L0
theorem S79_6ok (uu:Nat):LoopOk (F79C uu) (lp (aai Tryz.f79) 0):=okL (F79k uu) uu (S79_6l uu) (L1 (S79_11ok uu))
theorem S79_27ok (uu:Nat):LoopOk (F79C uu) (lp (aai Tryz.f79) 1):=okL (F79k uu) uu (S79_27l uu) L0
theorem F79ok (uu:Nat):(F79c uu).Ok Tryz.prog:=okE Tryz.f79 (F79k uu) (L2 (S79_6ok uu) (S79_27ok uu))
abbrev S80_12x:=Unit×Unit×Int×Unit×Bool×Int×PV×(List UInt8)×(List PV)×PV
abbrev S80_12y:=(Unit×Unit×Int×Unit×Bool×PV×(List UInt8)×(List PV)×PV)
def S80_12 (uu:Nat) (a39:Unit) (a40:Unit) (a41:Int) (a42:Unit) (a43:Bool) (a44:Int) (a45:PV) (a46:List UInt8) (a47:List PV) (a48:PV):Option (S80_12x⊕S80_12y):=
 bif (decide (a44<a41)) then
 let x50:=(a45.fld 2).asList
 bif aaa a44 x50.length then
 bif (((x50.getD a44.toNat .bad).fld 0).asStr==((a48.fld 0).asStr)) then
 some (.inl ((),(),a41,(),true,(IntKind.wrap .i64 (a44+(1:Int))),a45,a46,a47,a48))
 else
 some (.inl ((),(),a41,(),a43,(IntKind.wrap .i64 (a44+(1:Int))),a45,a46,a47,a48))
 else none
 else
 some (.inr ((),(),a41,(),a43,a45,a46,a47,a48))
def S80_12step (uu:Nat) (x:S80_12x):Option (S80_12x⊕S80_12y):=S80_12 uu x.1 x.2.1 x.2.2.1 x.2.2.2.1 x.2.2.2.2.1 x.2.2.2.2.2.1 x.2.2.2.2.2.2.1 x.2.2.2.2.2.2.2.1 x.2.2.2.2.2.2.2.2.1 x.2.2.2.2.2.2.2.2.2
abbrev S80_7x:=Unit×Unit×Int×PV×(List UInt8)×(List PV)
abbrev S80_7y:=(Unit×Unit×PV×(List UInt8)×(List PV))
def S80_7 (uu:Nat) (a28:Unit) (a29:Unit) (a30:Int) (a31:PV) (a32:List UInt8) (a33:List PV):Option (S80_7x⊕S80_7y):=
 bif (decide (a30<(((a31.fld 2).asList).length:Int))) then
 let x37:=(a31.fld 2).asList
 bif aaa a30 x37.length then
 (aah uu (S80_12step uu) ((),(),a30,(),false,(0:Int),a31,a32,a33,(x37.getD a30.toNat .bad))).bind fun y58=>
 (F75 uu () (bif (decide (((y58.2.2.2.2.2.2.2.2.fld 1).asInt)<(0:Int))) then true else (decide (((y58.2.2.2.2.2.2.2.2.fld 1).asInt)>(2147483647:Int)))) ((y58.2.2.2.2.2.2.2.2.fld 1).asInt) (6:Int) y58.2.2.2.2.2.2.1 y58.2.2.2.2.2.2.2.1).bind fun y65=>
 let x67:=decide (y58.2.2.1>(0:Int))
 let x69:=(y58.2.2.2.2.2.1.fld 2).asList
 let x71:=IntKind.wrap .i64 (y58.2.2.1-(1:Int))
 bif imp x67 (aaa x71 x69.length) then
 (F75 uu () (bif x67 then (decide (((y58.2.2.2.2.2.2.2.2.fld 1).asInt)<=((x69.getD x71.toNat .bad).fld 1).asInt)) else false) ((y58.2.2.2.2.2.2.2.2.fld 1).asInt) (11:Int) y65.1 y65.2).bind fun y78=>
 (F142 uu ((y58.2.2.2.2.2.2.2.2.fld 0).asStr)).bind fun y80=>
 (F75 uu () (!y80) ((y58.2.2.2.2.2.2.2.2.fld 1).asInt) (8:Int) y78.1 y78.2).bind fun y83=>
 (F75 uu () y58.2.2.2.2.1 ((y58.2.2.2.2.2.2.2.2.fld 1).asInt) (9:Int) y83.1 y83.2).bind fun y86=>
 (F143 uu ((y58.2.2.2.2.2.1.fld 3).asList) ((y58.2.2.2.2.2.2.2.2.fld 1).asInt)).bind fun y89=>
 (F75 uu () y89 ((y58.2.2.2.2.2.2.2.2.fld 1).asInt) (21:Int) y86.1 y86.2).bind fun y91=>
 (F148 uu () ((y58.2.2.2.2.2.2.2.2.fld 2).asList) (4:Int) ((y58.2.2.2.2.2.2.2.2.fld 1).asInt) y91.1 y91.2).bind fun y94=>
 some (.inl ((),(),(IntKind.wrap .i64 (y58.2.2.1+(1:Int))),y58.2.2.2.2.2.1,y94.1,y94.2))
 else none
 else none
 else
 some (.inr ((),(),a31,a32,a33))
def S80_7step (uu:Nat) (x:S80_7x):Option (S80_7x⊕S80_7y):=S80_7 uu x.1 x.2.1 x.2.2.1 x.2.2.2.1 x.2.2.2.2.1 x.2.2.2.2.2
def F80 (uu:Nat) (a0:PV):Option ((List PV)):=
 (F141 uu ((a0.fld 0).asStr)).bind fun y3=>
 (F75 uu () (!y3) (-1:Int) (8:Int) ((a0.fld 0).asStr) []).bind fun y5=>
 (F75 uu () (bif (bif (decide ((((a0.fld 2).asList).length:Int)<(1:Int))) then true else (decide ((((a0.fld 2).asList).length:Int)>(64:Int)))) then true else (decide ((((a0.fld 3).asList).length:Int)>(16:Int)))) (-1:Int) (3:Int) y5.1 y5.2).bind fun y17=>
 let x20:=decide ((((a0.fld 2).asList).length:Int)>(0:Int))
 let x21:=(a0.fld 2).asList
 bif imp x20 (aaa (0:Int) x21.length) then
 (F75 uu () (bif x20 then (((x21.getD (0:Int).toNat .bad).fld 1).asInt != (0:Int)) else false) (-1:Int) (14:Int) y17.1 y17.2).bind fun y27=>
 (aah uu (S80_7step uu) ((),(),(0:Int),a0,y27.1,y27.2)).bind fun y97=>
 (F149 uu () ((y97.2.2.1.fld 3).asList) (0:Int) (2147483647:Int) y97.2.2.2.1 y97.2.2.2.2).bind fun y99=>
 (F148 uu () ((y97.2.2.1.fld 4).asList) (3:Int) (-1:Int) y99.1 y99.2).bind fun y101=>
 some y101.2
 else none
def S80_12l (uu:Nat):LoopE:=⟨12,⟨[1,3,4,5,6,7],bx31,[(.con (.ref 0 [] 73)),(.con (.ref 1 [] 134)),(.int .i64),(.con (.ref 3 [] 103)),.bool,(.int .i64),(.data 73),.str,(.acc 2 208),(.data 103)]⟩,[(.exit 2,⟨[1,3,4,5,6],bx31,[(.con (.ref 0 [] 73)),(.con (.ref 1 [] 134)),(.int .i64),(.con (.ref 3 [] 103)),.bool,(.data 73),.str,(.acc 2 208),(.data 103)]⟩)],S80_12step uu⟩
def S80_7l (uu:Nat):LoopE:=⟨7,⟨[1,3,4],bx32,(.con (.ref 0 [] 73))::(.con (.ref 1 [] 134))::(.int .i64)::(.data 73)::sv49⟩,[(.exit 0,⟨[1,3],bx32,(.con (.ref 0 [] 73))::(.con (.ref 1 [] 134))::(.data 73)::sv49⟩)],S80_7step uu⟩
def F80C (uu:Nat):Cfg:=cfg Tryz.prog 132 0 [F141c uu,F75c uu,F142c uu,F143c uu,F148c uu,F149c uu] [S80_12l uu,S80_7l uu] uu
def F80c (uu:Nat):CallE:=⟨80,⟨1,[],[(.data 73)]⟩,⟨1,[],[(.slice 208)]⟩,fun x=>F80 uu x,[]⟩
theorem F80k (uu:Nat):aal (F80C uu):=aad (qc (F141ok uu)<|qc (F75ok uu)<|qc (F142ok uu)<|qc (F143ok uu)<|qc (F148ok uu)<|qc (F149ok uu)<|q0) (p0)
theorem S80_12ok (uu:Nat):LoopOk (F80C uu) (lp (lp (aai Tryz.f80) 0) 0):=okL (F80k uu) uu (S80_12l uu) L0
theorem S80_7ok (uu:Nat):LoopOk (F80C uu) (lp (aai Tryz.f80) 0):=okL (F80k uu) uu (S80_7l uu) (L1 (S80_12ok uu))
theorem F80ok (uu:Nat):(F80c uu).Ok Tryz.prog:=okE Tryz.f80 (F80k uu) (L1 (S80_7ok uu))
abbrev S81_6x:=Unit×Unit×Unit×Int×PV×PV×(List UInt8)×(List PV)
abbrev S81_6y:=(Unit×Unit×PV×PV×(List UInt8)×(List PV))
def S81_6 (uu:Nat) (a10:Unit) (a11:Unit) (a12:Unit) (a13:Int) (a14:PV) (a15:PV) (a16:List UInt8) (a17:List PV):Option (S81_6x⊕S81_6y):=
 bif (decide (a13<(((a15.fld 1).asList).length:Int))) then
 let x21:=(a15.fld 1).asList
 bif aaa a13 x21.length then
 let x22:=x21.getD a13.toNat .bad
 (F142 uu ((x22.fld 0).asStr)).bind fun y24=>
 (F75 uu () (!y24) a13 (8:Int) a16 a17).bind fun y26=>
 let x27:=decide (a13>(0:Int))
 let x28:=(x22.fld 0).asStr
 let x29:=(a15.fld 1).asList
 let x30:=IntKind.wrap .i64 (a13-(1:Int))
 bif imp x27 (aaa x30 x29.length) then
 let x33:=((x29.getD x30.toNat .bad).fld 0).asStr
 (F75 uu () (bif x27 then (Op.bytesLess x28 x33||x28==x33) else false) a13 (11:Int) y26.1 y26.2).bind fun y36=>
 (F151 uu a14 ((x22.fld 1).asStr)).bind fun y38=>
 let x39:=decide (y38<(0:Int))
 (bif !x39 then F151 uu a14 ((x22.fld 2).asStr) else some 0).bind fun y41=>
 (F75 uu () (bif x39 then true else (decide (y41<(0:Int)))) a13 (12:Int) y36.1 y36.2).bind fun y44=>
 (F75 uu () (bif (decide (((x22.fld 3).asInt)<(1:Int))) then true else (decide (((x22.fld 3).asInt)>(4:Int)))) a13 (1:Int) y44.1 y44.2).bind fun y50=>
 (F148 uu () ((x22.fld 4).asList) (6:Int) a13 y50.1 y50.2).bind fun y52=>
 some (.inl ((),(),(),(IntKind.wrap .i64 (a13+(1:Int))),a14,a15,y52.1,y52.2))
 else none
 else none
 else
 some (.inr ((),(),a14,a15,a16,a17))
def S81_6step (uu:Nat) (x:S81_6x):Option (S81_6x⊕S81_6y):=S81_6 uu x.1 x.2.1 x.2.2.1 x.2.2.2.1 x.2.2.2.2.1 x.2.2.2.2.2.1 x.2.2.2.2.2.2.1 x.2.2.2.2.2.2.2
def F81 (uu:Nat) (a0:PV) (a1:PV):Option ((List PV)):=
 (F141 uu ((a1.fld 0).asStr)).bind fun y3=>
 (F75 uu () (!y3) (-1:Int) (8:Int) ((a1.fld 0).asStr) []).bind fun y5=>
 (F75 uu () (decide ((((a1.fld 1).asList).length:Int)>(64:Int))) (-1:Int) (3:Int) y5.1 y5.2).bind fun y9=>
 (aah uu (S81_6step uu) ((),(),(),(0:Int),a0,a1,y9.1,y9.2)).bind fun y54=>
 (F148 uu () ((y54.2.2.2.1.fld 2).asList) (5:Int) (-1:Int) y54.2.2.2.2.1 y54.2.2.2.2.2).bind fun y56=>
 some y56.2
def S81_6l (uu:Nat):LoopE:=⟨6,⟨[2,3,5,6],bx33,(.con (.ref 0 [] 26))::(.con (.ref 1 [] 78))::(.con (.ref 2 [] 134))::(.int .i64)::(.data 26)::(.data 78)::sv50⟩,[(.exit 0,⟨[3,5],bx33,(.con (.ref 1 [] 78))::(.con (.ref 2 [] 134))::(.data 26)::(.data 78)::sv50⟩)],S81_6step uu⟩
def F81C (uu:Nat):Cfg:=cfg Tryz.prog 88 0 [F141c uu,F75c uu,F142c uu,F151c uu,F148c uu] [S81_6l uu] uu
def F81c (uu:Nat):CallE:=⟨81,⟨2,[],[(.data 26),(.data 78)]⟩,⟨1,[],[(.slice 208)]⟩,fun x=>F81 uu x.1 x.2,[]⟩
theorem F81k (uu:Nat):aal (F81C uu):=aad (qc (F141ok uu)<|qc (F75ok uu)<|qc (F142ok uu)<|qc (F151ok uu)<|qc (F148ok uu)<|q0) (p0)
theorem S81_6ok (uu:Nat):LoopOk (F81C uu) (lp (aai Tryz.f81) 0):=okL (F81k uu) uu (S81_6l uu) L0
theorem F81ok (uu:Nat):(F81c uu).Ok Tryz.prog:=okE Tryz.f81 (F81k uu) (L1 (S81_6ok uu))
abbrev S33_4x:=Unit×Unit×Int×PV×(List UInt8)×(List PV)
abbrev S33_4y:=(Unit×Unit×PV×(List UInt8)×(List PV))
def S33_4 (uu:Nat) (a1:Unit) (a2:Unit) (a3:Int) (a4:PV) (a5:List UInt8) (a6:List PV):Option (S33_4x⊕S33_4y):=
 bif (decide (a3<=(3:Int))) then
 (F74 uu a4 a3).bind fun y8=>
 (F75 uu () (decide ((y8.length:Int)>(64:Int))) (-1:Int) (3:Int) a5 a6).bind fun y11=>
 (F76 uu y8).bind fun y12=>
 (F75 uu () (!y12) (-1:Int) (11:Int) y11.1 y11.2).bind fun y14=>
 some (.inl ((),(),(IntKind.wrap .i64 (a3+(1:Int))),a4,y14.1,y14.2))
 else
 some (.inr ((),(),a4,a5,a6))
def S33_4step (uu:Nat) (x:S33_4x):Option (S33_4x⊕S33_4y):=S33_4 uu x.1 x.2.1 x.2.2.1 x.2.2.2.1 x.2.2.2.2.1 x.2.2.2.2.2
abbrev S33_15x:=Unit×Unit×(List PV)×Int×PV×(List UInt8)×(List PV)
abbrev S33_15y:=(Unit×Unit×PV×(List UInt8)×(List PV))
def S33_15 (uu:Nat) (a31:Unit) (a32:Unit) (a33:List PV) (a34:Int) (a35:PV) (a36:List UInt8) (a37:List PV):Option (S33_15x⊕S33_15y):=
 bif (decide (a34<(((a35.fld 0).asList).length:Int))) then
 let x41:=(a35.fld 0).asList
 bif aaa a34 x41.length then
 (F79 uu a35 (x41.getD a34.toNat .bad) a33).bind fun y43=>
 bif decide (a37.length+y43.length<=aam) then
 some (.inl ((),(),a33,(IntKind.wrap .i64 (a34+(1:Int))),a35,a36,(a37++y43)))
 else none
 else none
 else
 some (.inr ((),(),a35,a36,a37))
def S33_15step (uu:Nat) (x:S33_15x):Option (S33_15x⊕S33_15y):=S33_15 uu x.1 x.2.1 x.2.2.1 x.2.2.2.1 x.2.2.2.2.1 x.2.2.2.2.2.1 x.2.2.2.2.2.2
abbrev S33_19x:=Unit×Unit×Int×PV×(List UInt8)×(List PV)
abbrev S33_19y:=(Unit×Unit×PV×(List UInt8)×(List PV))
def S33_19 (uu:Nat) (a47:Unit) (a48:Unit) (a49:Int) (a50:PV) (a51:List UInt8) (a52:List PV):Option (S33_19x⊕S33_19y):=
 bif (decide (a49<(((a50.fld 1).asList).length:Int))) then
 let x56:=(a50.fld 1).asList
 bif aaa a49 x56.length then
 (F80 uu (x56.getD a49.toNat .bad)).bind fun y58=>
 bif decide (a52.length+y58.length<=aam) then
 some (.inl ((),(),(IntKind.wrap .i64 (a49+(1:Int))),a50,a51,(a52++y58)))
 else none
 else none
 else
 some (.inr ((),(),a50,a51,a52))
def S33_19step (uu:Nat) (x:S33_19x):Option (S33_19x⊕S33_19y):=S33_19 uu x.1 x.2.1 x.2.2.1 x.2.2.2.1 x.2.2.2.2.1 x.2.2.2.2.2
abbrev S33_23x:=Unit×Unit×Int×PV×(List UInt8)×(List PV)
abbrev S33_23y:=(Unit×PV×(List UInt8)×(List PV))
def S33_23 (uu:Nat) (a62:Unit) (a63:Unit) (a64:Int) (a65:PV) (a66:List UInt8) (a67:List PV):Option (S33_23x⊕S33_23y):=
 bif (decide (a64<(((a65.fld 2).asList).length:Int))) then
 let x71:=(a65.fld 2).asList
 bif aaa a64 x71.length then
 (F81 uu a65 (x71.getD a64.toNat .bad)).bind fun y73=>
 bif decide (a67.length+y73.length<=aam) then
 some (.inl ((),(),(IntKind.wrap .i64 (a64+(1:Int))),a65,a66,(a67++y73)))
 else none
 else none
 else
 some (.inr ((),a65,a66,a67))
def S33_23step (uu:Nat) (x:S33_23x):Option (S33_23x⊕S33_23y):=S33_23 uu x.1 x.2.1 x.2.2.1 x.2.2.2.1 x.2.2.2.2.1 x.2.2.2.2.2
def F33 (uu:Nat) (a0:PV):Option ((List PV)):=
 (aah uu (S33_4step uu) ((),(),(1:Int),a0,([]:List UInt8),[])).bind fun y16=>
 (F74 uu y16.2.2.1 (1:Int)).bind fun y18=>
 (F74 uu y16.2.2.1 (2:Int)).bind fun y20=>
 (F74 uu y16.2.2.1 (3:Int)).bind fun y22=>
 (F77 uu y18 y20).bind fun y23=>
 (bif !y23 then F77 uu y18 y22 else some false).bind fun y24=>
 let x25:=bif y23 then true else y24
 (bif !x25 then F77 uu y20 y22 else some false).bind fun y26=>
 (F75 uu () (bif x25 then true else y26) (-1:Int) (9:Int) y16.2.2.2.1 y16.2.2.2.2).bind fun y28=>
 (F78 uu y16.2.2.1).bind fun y30=>
 (aah uu (S33_15step uu) ((),(),y30,(0:Int),y16.2.2.1,y28.1,y28.2)).bind fun y46=>
 (aah uu (S33_19step uu) ((),(),(0:Int),y46.2.2.1,y46.2.2.2.1,y46.2.2.2.2)).bind fun y61=>
 (aah uu (S33_23step uu) ((),(),(0:Int),y61.2.2.1,y61.2.2.2.1,y61.2.2.2.2)).bind fun y76=>
 some y76.2.2.2
def S33_4l (uu:Nat):LoopE:=⟨4,⟨[1,3,4],bx34,sv51⟩,[(.exit 0,⟨[1,3],bx34,sv52⟩)],S33_4step uu⟩
def S33_15l (uu:Nat):LoopE:=⟨15,⟨[1,3,9,10],bx34,(.con (.ref 0 [] 26))::(.con (.ref 1 [] 134))::(.slice 4)::sv53⟩,[(.exit 2,⟨[1,3],bx34,sv52⟩)],S33_15step uu⟩
def S33_19l (uu:Nat):LoopE:=⟨19,⟨[1,3,11],bx34,sv51⟩,[(.exit 4,⟨[1,3],bx34,sv52⟩)],S33_19step uu⟩
def S33_23l (uu:Nat):LoopE:=⟨23,⟨[1,3,12],bx34,sv51⟩,[(.exit 6,⟨[3],bx34,sv54⟩)],S33_23step uu⟩
def F33C (uu:Nat):Cfg:=cfg Tryz.prog 107 0 [F74c uu,F75c uu,F76c uu,F77c uu,F78c uu,F79c uu,F80c uu,F81c uu] [S33_4l uu,S33_15l uu,S33_19l uu,S33_23l uu] uu
def F33c (uu:Nat):CallE:=⟨33,⟨1,[],[(.data 26)]⟩,⟨1,[],[(.slice 208)]⟩,fun x=>F33 uu x,[]⟩
theorem F33k (uu:Nat):aal (F33C uu):=aad (qc (F74ok uu)<|qc (F75ok uu)<|qc (F76ok uu)<|qc (F77ok uu)<|qc (F78ok uu)<|qc (F79ok uu)<|qc (F80ok uu)<|qc (F81ok uu)<|q0) (p0)
theorem S33_4ok (uu:Nat):LoopOk (F33C uu) (lp (aai Tryz.f33) 0):=okL (F33k uu) uu (S33_4l uu) L0
theorem S33_15ok (uu:Nat):LoopOk (F33C uu) (lp (aai Tryz.f33) 1):=okL (F33k uu) uu (S33_15l uu) L0
theorem S33_19ok (uu:Nat):LoopOk (F33C uu) (lp (aai Tryz.f33) 2):=okL (F33k uu) uu (S33_19l uu) L0
theorem S33_23ok (uu:Nat):LoopOk (F33C uu) (lp (aai Tryz.f33) 3):=okL (F33k uu) uu (S33_23l uu) L0
theorem F33ok (uu:Nat):(F33c uu).Ok Tryz.prog:=okE Tryz.f33 (F33k uu) (L4 (S33_4ok uu) (S33_15ok uu) (S33_19ok uu) (S33_23ok uu))
def F11 (uu:Nat) (a0:PV):Option (Bool):=
 (F33 uu a0).bind fun y1=>
 some ((y1.length:Int)==(0:Int))
def F11c (uu:Nat):CallE:=⟨11,⟨1,[],[(.data 26)]⟩,⟨1,[],[.bool]⟩,fun x=>F11 uu x,false⟩
theorem F11ok (uu:Nat):(F11c uu).Ok Tryz.prog:=okJ Tryz.f11 7 0 uu _ [] false (qc (F33ok uu)<|q0) (p0) L0
abbrev S23_8x:=Unit×Unit×Unit×Unit×(List PV)×Int×Int×(List PV)×Int×Int×(List PV)×(List PV)×(List PV)×(List PV)×(List PV)×(List PV)×(List PV)×(List PV)×(List PV)×(List UInt8)×(List PV)×(List PV)×(List PV)×(List PV)×(List UInt8)×(List PV)×(List PV)×(List PV)×(List PV)
abbrev S23_8y:=(Unit×Unit×Unit×Unit×(List PV)×Int×Int×(List PV)×(List PV)×(List PV)×(List PV)×(List PV)×(List PV)×(List PV)×(List PV)×(List PV)×(List UInt8)×(List PV)×(List PV)×(List PV)×(List PV)×(List UInt8)×(List PV)×(List PV)×(List PV)×(List PV))
def S23_8 (uu:Nat) (a14:Unit) (a15:Unit) (a16:Unit) (a17:Unit) (a18:List PV) (a19:Int) (a20:Int) (a21:List PV) (a22:Int) (a23:Int) (s:(List PV)×(List PV)×(List PV)×(List PV)×(List PV)×(List PV)×(List PV)×(List PV)×(List PV)×(List UInt8)×(List PV)×(List PV)×(List PV)×(List PV)×(List UInt8)×(List PV)×(List PV)×(List PV)×(List PV)):Option (S23_8x⊕S23_8y):=
 bif (decide (a23<a22)) then
 bif aaa a23 a21.length then
 let x25:=a21.getD a23.toNat .bad
 let x26:=(x25.fld 0).asInt
 let x27:=(x25.fld 1).asStr
 let x28:=(x25.fld 2).asInt
 let x29:=(x25.fld 3).asInt
 let x30:=x25.fld 4
 let x31:=(x25.fld 5).asStr
 let x32:=(x25.fld 6).asBool
 let x33:=x25.fld 7
 bif decide (s.2.2.2.2.2.2.2.2.2.2.2.2.2.2.2.1.length+[(PV.agg [(PV.int x26),(PV.str x27),(PV.int x28),(PV.int x29),x30,(PV.str x31),(PV.bool x32),x33,(PV.slice [])])].length<=aam) then
 let x34:=s.2.2.2.2.2.2.2.2.2.2.2.2.2.2.2.1++[(PV.agg [(PV.int x26),(PV.str x27),(PV.int x28),(PV.int x29),x30,(PV.str x31),(PV.bool x32),x33,(PV.slice [])])]
 some (.inl ((),(),(),(),a18,a19,a20,a21,a22,(IntKind.wrap .i64 (a23+(1:Int))),s.1,s.2.1,s.2.2.1,s.2.2.2.1,s.2.2.2.2.1,s.2.2.2.2.2.1,s.2.2.2.2.2.2.1,s.2.2.2.2.2.2.2.1,s.2.2.2.2.2.2.2.2.1,s.2.2.2.2.2.2.2.2.2.1,s.2.2.2.2.2.2.2.2.2.2.1,s.2.2.2.2.2.2.2.2.2.2.2.1,s.2.2.2.2.2.2.2.2.2.2.2.2.1,s.2.2.2.2.2.2.2.2.2.2.2.2.2.1,s.2.2.2.2.2.2.2.2.2.2.2.2.2.2.1,x34,s.2.2.2.2.2.2.2.2.2.2.2.2.2.2.2.2))
 else none
 else none
 else
 some (.inr ((),(),(),(),a18,a19,a20,s))
def S23_8step (uu:Nat) (x:S23_8x):Option (S23_8x⊕S23_8y):=S23_8 uu x.1 x.2.1 x.2.2.1 x.2.2.2.1 x.2.2.2.2.1 x.2.2.2.2.2.1 x.2.2.2.2.2.2.1 x.2.2.2.2.2.2.2.1 x.2.2.2.2.2.2.2.2.1 x.2.2.2.2.2.2.2.2.2.1 x.2.2.2.2.2.2.2.2.2.2
abbrev S23_4x:=Unit×Unit×Unit×(List PV)×Int×Int×(List PV)×(List PV)×(List PV)×(List PV)×(List PV)×(List PV)×(List PV)×(List PV)×(List PV)
abbrev S23_4y:=(Unit×Unit×Unit×(List PV)×(List PV)×(List PV)×(List PV)×(List PV)×(List PV)×(List PV)×(List PV)×(List PV))
def S23_4 (uu:Nat) (a3:Unit) (a4:Unit) (a5:Unit) (a6:List PV) (a7:Int) (a8:Int) (s:(List PV)×(List PV)×(List PV)×(List PV)×(List PV)×(List PV)×(List PV)×(List PV)×(List PV)):Option (S23_4x⊕S23_4y):=
 bif (decide (a8<a7)) then
 bif aaa a8 a6.length then
 let x10:=a6.getD a8.toNat .bad
 let x12:=(x10.fld 1).asList
 (aah uu (S23_8step uu) ((),(),(),(),a6,a7,a8,x12,(x12.length:Int),(0:Int),s.1,s.2.1,s.2.2.1,s.2.2.2.1,s.2.2.2.2.1,s.2.2.2.2.2.1,s.2.2.2.2.2.2.1,s.2.2.2.2.2.2.2.1,s.2.2.2.2.2.2.2.2,(x10.fld 0).asStr,(x10.fld 1).asList,(x10.fld 2).asList,(x10.fld 3).asList,(x10.fld 4).asList,((x10.fld 0).asStr),[],[],[],[])).bind fun y36=>
 let x37:=y36.2.2.2.2.2.2.2.2.2.2.2.2.2.1
 let x38:=y36.2.2.2.2.2.2.2.2.2.2.2.2.2.2.2.2.2.2.2.2.2.1
 let x39:=y36.2.2.2.2.2.2.2.2.2.2.2.2.2.2.2.2.2.2.2.2.2.2.1
 let x40:=y36.2.2.2.2.2.2.2.2.2.2.2.2.2.2.2.2.2.2.2.2.2.2.2.1
 let x41:=y36.2.2.2.2.2.2.2.2.2.2.2.2.2.2.2.2.2.2.2.2.2.2.2.2.1
 let x42:=y36.2.2.2.2.2.2.2.2.2.2.2.2.2.2.2.2.2.2.2.2.2.2.2.2.2
 bif decide (x37.length+[(PV.agg [(PV.str x38),(PV.slice x39),(PV.slice x40),(PV.slice x41),(PV.slice x42)])].length<=aam) then
 let x43:=x37++[(PV.agg [(PV.str x38),(PV.slice x39),(PV.slice x40),(PV.slice x41),(PV.slice x42)])]
 some (.inl ((),(),(),y36.2.2.2.2.1,y36.2.2.2.2.2.1,(IntKind.wrap .i64 (y36.2.2.2.2.2.2.1+(1:Int))),y36.2.2.2.2.2.2.2.1,y36.2.2.2.2.2.2.2.2.1,y36.2.2.2.2.2.2.2.2.2.1,y36.2.2.2.2.2.2.2.2.2.2.1,y36.2.2.2.2.2.2.2.2.2.2.2.1,y36.2.2.2.2.2.2.2.2.2.2.2.2.1,x43,y36.2.2.2.2.2.2.2.2.2.2.2.2.2.2.1,y36.2.2.2.2.2.2.2.2.2.2.2.2.2.2.2.1))
 else none
 else none
 else
 some (.inr ((),(),(),s))
def S23_4step (uu:Nat) (x:S23_4x):Option (S23_4x⊕S23_4y):=S23_4 uu x.1 x.2.1 x.2.2.1 x.2.2.2.1 x.2.2.2.2.1 x.2.2.2.2.2.1 x.2.2.2.2.2.2
abbrev S23_20x:=Unit×Unit×Unit×Unit×(List PV)×Int×Int×(List PV)×Int×Int×(List PV)×(List PV)×(List PV)×(List PV)×(List PV)×(List PV)×(List PV)×(List PV)×(List PV)×(List UInt8)×Bool×(List PV)×(List PV)×(List PV)×(List UInt8)×Bool×(List PV)×(List PV)×(List PV)
abbrev S23_20y:=(Unit×Unit×Unit×Unit×(List PV)×Int×Int×(List PV)×(List PV)×(List PV)×(List PV)×(List PV)×(List PV)×(List PV)×(List PV)×(List PV)×(List UInt8)×Bool×(List PV)×(List PV)×(List PV)×(List UInt8)×Bool×(List PV)×(List PV)×(List PV))
def S23_20 (uu:Nat) (a60:Unit) (a61:Unit) (a62:Unit) (a63:Unit) (a64:List PV) (a65:Int) (a66:Int) (a67:List PV) (a68:Int) (a69:Int) (s:(List PV)×(List PV)×(List PV)×(List PV)×(List PV)×(List PV)×(List PV)×(List PV)×(List PV)×(List UInt8)×Bool×(List PV)×(List PV)×(List PV)×(List UInt8)×Bool×(List PV)×(List PV)×(List PV)):Option (S23_20x⊕S23_20y):=
 bif (decide (a69<a68)) then
 bif aaa a69 a67.length then
 let x71:=a67.getD a69.toNat .bad
 let x72:=(x71.fld 0).asStr
 let x73:=(x71.fld 1).asInt
 bif decide (s.2.2.2.2.2.2.2.2.2.2.2.2.2.2.2.2.1.length+[(PV.agg [(PV.str x72),(PV.int x73),(PV.slice [])])].length<=aam) then
 let x74:=s.2.2.2.2.2.2.2.2.2.2.2.2.2.2.2.2.1++[(PV.agg [(PV.str x72),(PV.int x73),(PV.slice [])])]
 some (.inl ((),(),(),(),a64,a65,a66,a67,a68,(IntKind.wrap .i64 (a69+(1:Int))),s.1,s.2.1,s.2.2.1,s.2.2.2.1,s.2.2.2.2.1,s.2.2.2.2.2.1,s.2.2.2.2.2.2.1,s.2.2.2.2.2.2.2.1,s.2.2.2.2.2.2.2.2.1,s.2.2.2.2.2.2.2.2.2.1,s.2.2.2.2.2.2.2.2.2.2.1,s.2.2.2.2.2.2.2.2.2.2.2.1,s.2.2.2.2.2.2.2.2.2.2.2.2.1,s.2.2.2.2.2.2.2.2.2.2.2.2.2.1,s.2.2.2.2.2.2.2.2.2.2.2.2.2.2.1,s.2.2.2.2.2.2.2.2.2.2.2.2.2.2.2.1,x74,s.2.2.2.2.2.2.2.2.2.2.2.2.2.2.2.2.2))
 else none
 else none
 else
 some (.inr ((),(),(),(),a64,a65,a66,s))
def S23_20step (uu:Nat) (x:S23_20x):Option (S23_20x⊕S23_20y):=S23_20 uu x.1 x.2.1 x.2.2.1 x.2.2.2.1 x.2.2.2.2.1 x.2.2.2.2.2.1 x.2.2.2.2.2.2.1 x.2.2.2.2.2.2.2.1 x.2.2.2.2.2.2.2.2.1 x.2.2.2.2.2.2.2.2.2.1 x.2.2.2.2.2.2.2.2.2.2
abbrev S23_16x:=Unit×Unit×Unit×(List PV)×Int×Int×(List PV)×(List PV)×(List PV)×(List PV)×(List PV)×(List PV)×(List PV)×(List PV)×(List PV)
abbrev S23_16y:=(Unit×Unit×Unit×(List PV)×(List PV)×(List PV)×(List PV)×(List PV)×(List PV)×(List PV)×(List PV)×(List PV))
def S23_16 (uu:Nat) (a48:Unit) (a49:Unit) (a50:Unit) (a51:List PV) (a52:Int) (a53:Int) (s:(List PV)×(List PV)×(List PV)×(List PV)×(List PV)×(List PV)×(List PV)×(List PV)×(List PV)):Option (S23_16x⊕S23_16y):=
 bif (decide (a53<a52)) then
 bif aaa a53 a51.length then
 let x55:=a51.getD a53.toNat .bad
 let x58:=(x55.fld 2).asList
 (aah uu (S23_20step uu) ((),(),(),(),a51,a52,a53,x58,(x58.length:Int),(0:Int),s.1,s.2.1,s.2.2.1,s.2.2.2.1,s.2.2.2.2.1,s.2.2.2.2.2.1,s.2.2.2.2.2.2.1,s.2.2.2.2.2.2.2.1,s.2.2.2.2.2.2.2.2,(x55.fld 0).asStr,(x55.fld 1).asBool,(x55.fld 2).asList,(x55.fld 3).asList,(x55.fld 4).asList,((x55.fld 0).asStr),((x55.fld 1).asBool),[],[],[])).bind fun y76=>
 let x77:=y76.2.2.2.2.2.2.2.2.2.2.2.2.2.2.1
 let x78:=y76.2.2.2.2.2.2.2.2.2.2.2.2.2.2.2.2.2.2.2.2.2.1
 let x79:=y76.2.2.2.2.2.2.2.2.2.2.2.2.2.2.2.2.2.2.2.2.2.2.1
 let x80:=y76.2.2.2.2.2.2.2.2.2.2.2.2.2.2.2.2.2.2.2.2.2.2.2.1
 let x81:=y76.2.2.2.2.2.2.2.2.2.2.2.2.2.2.2.2.2.2.2.2.2.2.2.2.1
 let x82:=y76.2.2.2.2.2.2.2.2.2.2.2.2.2.2.2.2.2.2.2.2.2.2.2.2.2
 bif decide (x77.length+[(PV.agg [(PV.str x78),(PV.bool x79),(PV.slice x80),(PV.slice x81),(PV.slice x82)])].length<=aam) then
 let x83:=x77++[(PV.agg [(PV.str x78),(PV.bool x79),(PV.slice x80),(PV.slice x81),(PV.slice x82)])]
 some (.inl ((),(),(),y76.2.2.2.2.1,y76.2.2.2.2.2.1,(IntKind.wrap .i64 (y76.2.2.2.2.2.2.1+(1:Int))),y76.2.2.2.2.2.2.2.1,y76.2.2.2.2.2.2.2.2.1,y76.2.2.2.2.2.2.2.2.2.1,y76.2.2.2.2.2.2.2.2.2.2.1,y76.2.2.2.2.2.2.2.2.2.2.2.1,y76.2.2.2.2.2.2.2.2.2.2.2.2.1,y76.2.2.2.2.2.2.2.2.2.2.2.2.2.1,x83,y76.2.2.2.2.2.2.2.2.2.2.2.2.2.2.2.1))
 else none
 else none
 else
 some (.inr ((),(),(),s))
def S23_16step (uu:Nat) (x:S23_16x):Option (S23_16x⊕S23_16y):=S23_16 uu x.1 x.2.1 x.2.2.1 x.2.2.2.1 x.2.2.2.2.1 x.2.2.2.2.2.1 x.2.2.2.2.2.2
abbrev S23_32x:=Unit×Unit×Unit×(List PV)×Int×Int×(List PV)×Int×Int×(List PV)×(List PV)×(List PV)×(List PV)×(List PV)×(List PV)×(List PV)×(List PV)×(List PV)×(List UInt8)×(List PV)×(List PV)×(List UInt8)×(List PV)×(List PV)
abbrev S23_32y:=(Unit×Unit×Unit×(List PV)×Int×Int×(List PV)×(List PV)×(List PV)×(List PV)×(List PV)×(List PV)×(List PV)×(List PV)×(List PV)×(List UInt8)×(List PV)×(List PV)×(List UInt8)×(List PV)×(List PV))
def S23_32 (uu:Nat) (a98:Unit) (a99:Unit) (a100:Unit) (a101:List PV) (a102:Int) (a103:Int) (a104:List PV) (a105:Int) (a106:Int) (s:(List PV)×(List PV)×(List PV)×(List PV)×(List PV)×(List PV)×(List PV)×(List PV)×(List PV)×(List UInt8)×(List PV)×(List PV)×(List UInt8)×(List PV)×(List PV)):Option (S23_32x⊕S23_32y):=
 bif (decide (a106<a105)) then
 bif aaa a106 a104.length then
 let x108:=a104.getD a106.toNat .bad
 let x109:=(x108.fld 0).asStr
 let x110:=(x108.fld 1).asStr
 let x111:=(x108.fld 2).asStr
 let x112:=(x108.fld 3).asInt
 bif decide (s.2.2.2.2.2.2.2.2.2.2.2.2.2.1.length+[(PV.agg [(PV.str x109),(PV.str x110),(PV.str x111),(PV.int x112),(PV.slice [])])].length<=aam) then
 let x113:=s.2.2.2.2.2.2.2.2.2.2.2.2.2.1++[(PV.agg [(PV.str x109),(PV.str x110),(PV.str x111),(PV.int x112),(PV.slice [])])]
 some (.inl ((),(),(),a101,a102,a103,a104,a105,(IntKind.wrap .i64 (a106+(1:Int))),s.1,s.2.1,s.2.2.1,s.2.2.2.1,s.2.2.2.2.1,s.2.2.2.2.2.1,s.2.2.2.2.2.2.1,s.2.2.2.2.2.2.2.1,s.2.2.2.2.2.2.2.2.1,s.2.2.2.2.2.2.2.2.2.1,s.2.2.2.2.2.2.2.2.2.2.1,s.2.2.2.2.2.2.2.2.2.2.2.1,s.2.2.2.2.2.2.2.2.2.2.2.2.1,x113,s.2.2.2.2.2.2.2.2.2.2.2.2.2.2))
 else none
 else none
 else
 some (.inr ((),(),(),a101,a102,a103,s))
def S23_32step (uu:Nat) (x:S23_32x):Option (S23_32x⊕S23_32y):=S23_32 uu x.1 x.2.1 x.2.2.1 x.2.2.2.1 x.2.2.2.2.1 x.2.2.2.2.2.1 x.2.2.2.2.2.2.1 x.2.2.2.2.2.2.2.1 x.2.2.2.2.2.2.2.2.1 x.2.2.2.2.2.2.2.2.2
abbrev S23_28x:=Unit×Unit×(List PV)×Int×Int×(List PV)×(List PV)×(List PV)×(List PV)×(List PV)×(List PV)×(List PV)×(List PV)×(List PV)
abbrev S23_28y:=(Unit×Unit×(List PV)×(List PV)×(List PV)×(List PV)×(List PV)×(List PV)×(List PV)×(List PV)×(List PV))
def S23_28 (uu:Nat) (a88:Unit) (a89:Unit) (a90:List PV) (a91:Int) (a92:Int) (s:(List PV)×(List PV)×(List PV)×(List PV)×(List PV)×(List PV)×(List PV)×(List PV)×(List PV)):Option (S23_28x⊕S23_28y):=
 bif (decide (a92<a91)) then
 bif aaa a92 a90.length then
 let x94:=a90.getD a92.toNat .bad
 let x96:=(x94.fld 1).asList
 (aah uu (S23_32step uu) ((),(),(),a90,a91,a92,x96,(x96.length:Int),(0:Int),s.1,s.2.1,s.2.2.1,s.2.2.2.1,s.2.2.2.2.1,s.2.2.2.2.2.1,s.2.2.2.2.2.2.1,s.2.2.2.2.2.2.2.1,s.2.2.2.2.2.2.2.2,(x94.fld 0).asStr,(x94.fld 1).asList,(x94.fld 2).asList,((x94.fld 0).asStr),[],[])).bind fun y115=>
 let x116:=y115.2.2.2.2.2.2.2.2.2.2.2.2.2.2.1
 let x117:=y115.2.2.2.2.2.2.2.2.2.2.2.2.2.2.2.2.2.2.1
 let x118:=y115.2.2.2.2.2.2.2.2.2.2.2.2.2.2.2.2.2.2.2.1
 let x119:=y115.2.2.2.2.2.2.2.2.2.2.2.2.2.2.2.2.2.2.2.2
 bif decide (x116.length+[(PV.agg [(PV.str x117),(PV.slice x118),(PV.slice x119)])].length<=aam) then
 let x120:=x116++[(PV.agg [(PV.str x117),(PV.slice x118),(PV.slice x119)])]
 some (.inl ((),(),y115.2.2.2.1,y115.2.2.2.2.1,(IntKind.wrap .i64 (y115.2.2.2.2.2.1+(1:Int))),y115.2.2.2.2.2.2.1,y115.2.2.2.2.2.2.2.1,y115.2.2.2.2.2.2.2.2.1,y115.2.2.2.2.2.2.2.2.2.1,y115.2.2.2.2.2.2.2.2.2.2.1,y115.2.2.2.2.2.2.2.2.2.2.2.1,y115.2.2.2.2.2.2.2.2.2.2.2.2.1,y115.2.2.2.2.2.2.2.2.2.2.2.2.2.1,x120))
 else none
 else none
 else
 some (.inr ((),(),s))
def S23_28step (uu:Nat) (x:S23_28x):Option (S23_28x⊕S23_28y):=S23_28 uu x.1 x.2.1 x.2.2.1 x.2.2.2.1 x.2.2.2.2.1 x.2.2.2.2.2
def F23 (uu:Nat) (a0:PV):Option (PV):=
 let x1:=(a0.fld 0).asList
 (aah uu (S23_4step uu) ((),(),(),x1,(x1.length:Int),(0:Int),(a0.fld 0).asList,(a0.fld 1).asList,(a0.fld 2).asList,[],[],[],[],[],[])).bind fun y45=>
 let x46:=y45.2.2.2.2.1
 (aah uu (S23_16step uu) ((),(),(),x46,(x46.length:Int),(0:Int),y45.2.2.2)).bind fun y85=>
 let x86:=y85.2.2.2.2.2.1
 (aah uu (S23_28step uu) ((),(),x86,(x86.length:Int),(0:Int),y85.2.2.2)).bind fun y122=>
 some (PV.agg [(PV.slice y122.2.2.2.2.2.2.2.2.1),(PV.slice y122.2.2.2.2.2.2.2.2.2.1),(PV.slice y122.2.2.2.2.2.2.2.2.2.2)])
def S23_8l (uu:Nat):LoopE:=⟨8,⟨[1,2,3,6,20,21,22,30,31,32],bx35,[(.con (.ref 0 [] 26)),(.con (.ref 1 [] 26)),(.con (.ref 2 [] 26)),(.con (.ref 10 [] 63)),(.slice 63),(.int .i64),(.int .i64),(.slice 59),(.int .i64),(.int .i64),(.slice 63),(.slice 73),(.slice 78),(.acc 3 63),(.acc 4 73),(.acc 5 78),(.acc 6 63),(.acc 7 73),(.acc 8 78),.str,(.slice 59),(.slice 235),(.slice 9),(.slice 114),.str,(.acc 11 59),(.slice 235),(.slice 9),(.slice 114)]⟩,[(.exit 2,⟨[1,2,3,6,20,21,22],bx35,[(.con (.ref 0 [] 26)),(.con (.ref 1 [] 26)),(.con (.ref 2 [] 26)),(.con (.ref 10 [] 63)),(.slice 63),(.int .i64),(.int .i64),(.slice 63),(.slice 73),(.slice 78),(.acc 3 63),(.acc 4 73),(.acc 5 78),(.acc 6 63),(.acc 7 73),(.acc 8 78),.str,(.slice 59),(.slice 235),(.slice 9),(.slice 114),.str,(.acc 11 59),(.slice 235),(.slice 9),(.slice 114)]⟩)],S23_8step uu⟩
def S23_4l (uu:Nat):LoopE:=⟨4,⟨[1,2,3,20,21,22],bx36,(.con (.ref 0 [] 26))::(.con (.ref 1 [] 26))::(.con (.ref 2 [] 26))::(.slice 63)::sv55⟩,[(.exit 0,⟨[1,2,3],bx36,(.con (.ref 0 [] 26))::sv56⟩)],S23_4step uu⟩
def S23_20l (uu:Nat):LoopE:=⟨20,⟨[1,2,3,11,52,53,54,64,65,66],bx37,[(.con (.ref 0 [] 26)),(.con (.ref 1 [] 26)),(.con (.ref 2 [] 26)),(.con (.ref 10 [] 73)),(.slice 73),(.int .i64),(.int .i64),(.slice 103),(.int .i64),(.int .i64),(.slice 63),(.slice 73),(.slice 78),(.acc 3 63),(.acc 4 73),(.acc 5 78),(.acc 6 63),(.acc 7 73),(.acc 8 78),.str,.bool,(.slice 103),(.slice 235),(.slice 114),.str,.bool,(.acc 11 103),(.slice 235),(.slice 114)]⟩,[(.exit 6,⟨[1,2,3,11,52,53,54],bx37,[(.con (.ref 0 [] 26)),(.con (.ref 1 [] 26)),(.con (.ref 2 [] 26)),(.con (.ref 10 [] 73)),(.slice 73),(.int .i64),(.int .i64),(.slice 63),(.slice 73),(.slice 78),(.acc 3 63),(.acc 4 73),(.acc 5 78),(.acc 6 63),(.acc 7 73),(.acc 8 78),.str,.bool,(.slice 103),(.slice 235),(.slice 114),.str,.bool,(.acc 11 103),(.slice 235),(.slice 114)]⟩)],S23_20step uu⟩
def S23_16l (uu:Nat):LoopE:=⟨16,⟨[1,2,3,52,53,54],bx36,(.con (.ref 0 [] 26))::(.con (.ref 1 [] 26))::(.con (.ref 2 [] 26))::(.slice 73)::sv55⟩,[(.exit 4,⟨[1,2,3],bx36,(.con (.ref 0 [] 26))::sv56⟩)],S23_16step uu⟩
def S23_32l (uu:Nat):LoopE:=⟨32,⟨[2,3,16,86,87,88,96,97,98],bx38,[(.con (.ref 1 [] 26)),(.con (.ref 2 [] 26)),(.con (.ref 10 [] 78)),(.slice 78),(.int .i64),(.int .i64),(.slice 105),(.int .i64),(.int .i64),(.slice 63),(.slice 73),(.slice 78),(.acc 3 63),(.acc 4 73),(.acc 5 78),(.acc 6 63),(.acc 7 73),(.acc 8 78),.str,(.slice 105),(.slice 114),.str,(.acc 11 105),(.slice 114)]⟩,[(.exit 10,⟨[2,3,16,86,87,88],bx38,[(.con (.ref 1 [] 26)),(.con (.ref 2 [] 26)),(.con (.ref 10 [] 78)),(.slice 78),(.int .i64),(.int .i64),(.slice 63),(.slice 73),(.slice 78),(.acc 3 63),(.acc 4 73),(.acc 5 78),(.acc 6 63),(.acc 7 73),(.acc 8 78),.str,(.slice 105),(.slice 114),.str,(.acc 11 105),(.slice 114)]⟩)],S23_32step uu⟩
def S23_28l (uu:Nat):LoopE:=⟨28,⟨[2,3,86,87,88],bx36,(.con (.ref 1 [] 26))::(.con (.ref 2 [] 26))::(.slice 78)::sv55⟩,[(.exit 8,⟨[2,3],bx36,sv56⟩)],S23_28step uu⟩
def F23C (uu:Nat):Cfg:=cfg Tryz.prog 118 0 [] [S23_8l uu,S23_4l uu,S23_20l uu,S23_16l uu,S23_32l uu,S23_28l uu] uu
def F23c (uu:Nat):CallE:=⟨23,⟨1,[],[(.data 26)]⟩,⟨1,[],[(.data 26)]⟩,fun x=>F23 uu x,PV.bad⟩
theorem F23k (uu:Nat):aal (F23C uu):=aad (q0) (p0)
theorem S23_8ok (uu:Nat):LoopOk (F23C uu) (lp (lp (aai Tryz.f23) 0) 0):=okL (F23k uu) uu (S23_8l uu) L0
theorem S23_4ok (uu:Nat):LoopOk (F23C uu) (lp (aai Tryz.f23) 0):=okL (F23k uu) uu (S23_4l uu) (L1 (S23_8ok uu))
theorem S23_20ok (uu:Nat):LoopOk (F23C uu) (lp (lp (aai Tryz.f23) 1) 0):=okL (F23k uu) uu (S23_20l uu) L0
theorem S23_16ok (uu:Nat):LoopOk (F23C uu) (lp (aai Tryz.f23) 1):=okL (F23k uu) uu (S23_16l uu) (L1 (S23_20ok uu))
theorem S23_32ok (uu:Nat):LoopOk (F23C uu) (lp (lp (aai Tryz.f23) 2) 0):=okL (F23k uu) uu (S23_32l uu) L0
theorem S23_28ok (uu:Nat):LoopOk (F23C uu) (lp (aai Tryz.f23) 2):=okL (F23k uu) uu (S23_28l uu) (L1 (S23_32ok uu))
theorem F23ok (uu:Nat):(F23c uu).Ok Tryz.prog:=okE Tryz.f23 (F23k uu) (L3 (S23_4ok uu) (S23_16ok uu) (S23_28ok uu))
abbrev S111_5x:=(List PV)×(List PV)×Int
abbrev S111_5y:=(Bool)⊕(Unit)
def S111_5 (uu:Nat) (a4:List PV) (a5:List PV) (a6:Int):Option (S111_5x⊕S111_5y):=
 bif (decide (a6<(a4.length:Int))) then
 bif aaa a6 a4.length then
 let x9:=a4.getD a6.toNat .bad
 bif aaa a6 a5.length then
 let x10:=a5.getD a6.toNat .bad
 let x11:=!(bif ((x9.fld 0).asInt)==((x10.fld 0).asInt) then (bif ((x9.fld 1).asInt)==((x10.fld 1).asInt) then true else false) else false)
 bif x11 then
 some (.inr (.inl false))
 else
 some (.inl (a4,a5,(IntKind.wrap .i64 (a6+(1:Int)))))
 else none
 else none
 else
 some (.inr (.inr ()))
def S111_5step (uu:Nat) (x:S111_5x):Option (S111_5x⊕S111_5y):=S111_5 uu x.1 x.2.1 x.2.2
def F111 (uu:Nat) (a0:List PV) (a1:List PV):Option (Bool):=
 bif ((a0.length:Int) != (a1.length:Int)) then
 some false
 else
 (aah uu (S111_5step uu) (a0,a1,(0:Int))).bind fun z=>sumE (fun y13=>
 some y13
 ) (fun y14=>
 some true
 ) z
def S111_5l (uu:Nat):LoopE:=⟨5,⟨[0,1,5],[],[(.slice 235),(.slice 235),(.int .i64)]⟩,[(.ret,⟨[4],[],[.bool]⟩),(.exit 0,⟨[],[],[]⟩)],S111_5step uu⟩
def F111C (uu:Nat):Cfg:=cfg Tryz.prog 26 0 [] [S111_5l uu] uu
def F111c (uu:Nat):CallE:=⟨111,⟨2,[],[(.slice 235),(.slice 235)]⟩,⟨1,[],[.bool]⟩,fun x=>F111 uu x.1 x.2,false⟩
theorem F111k (uu:Nat):aal (F111C uu):=aad (q0) (p0)
theorem S111_5ok (uu:Nat):LoopOk (F111C uu) (lp (aai Tryz.f111) 0):=okL (F111k uu) uu (S111_5l uu) L0
theorem F111ok (uu:Nat):(F111c uu).Ok Tryz.prog:=okE Tryz.f111 (F111k uu) (L1 (S111_5ok uu))
abbrev S112_5x:=(List PV)×(List PV)×Int
abbrev S112_5y:=(Bool)⊕(Unit)
def S112_5 (uu:Nat) (a4:List PV) (a5:List PV) (a6:Int):Option (S112_5x⊕S112_5y):=
 bif (decide (a6<(a4.length:Int))) then
 bif aaa a6 a4.length then
 bif aaa a6 a5.length then
 let x15:=!(((a4.getD a6.toNat .bad).fld 0).asStr==((a5.getD a6.toNat .bad).fld 0).asStr)
 bif imp (!x15) (aaa a6 a4.length) then
 bif imp (!x15) (aaa a6 a5.length) then
 let x25:=bif x15 then true else ((((a4.getD a6.toNat .bad).fld 1).fld 0).asInt != (((a5.getD a6.toNat .bad).fld 1).fld 0).asInt)
 bif imp (!x25) (aaa a6 a4.length) then
 bif imp (!x25) (aaa a6 a5.length) then
 let x35:=bif x25 then true else ((((a4.getD a6.toNat .bad).fld 1).fld 1).asInt != (((a5.getD a6.toNat .bad).fld 1).fld 1).asInt)
 bif imp (!x35) (aaa a6 a4.length) then
 bif imp (!x35) (aaa a6 a5.length) then
 bif (bif x35 then true else (!((((a4.getD a6.toNat .bad).fld 1).fld 2).asStr==(((a5.getD a6.toNat .bad).fld 1).fld 2).asStr))) then
 some (.inr (.inl false))
 else
 some (.inl (a4,a5,(IntKind.wrap .i64 (a6+(1:Int)))))
 else none
 else none
 else none
 else none
 else none
 else none
 else none
 else none
 else
 some (.inr (.inr ()))
def S112_5step (uu:Nat) (x:S112_5x):Option (S112_5x⊕S112_5y):=S112_5 uu x.1 x.2.1 x.2.2
def F112 (uu:Nat) (a0:List PV) (a1:List PV):Option (Bool):=
 bif ((a0.length:Int) != (a1.length:Int)) then
 some false
 else
 (aah uu (S112_5step uu) (a0,a1,(0:Int))).bind fun z=>sumE (fun y47=>
 some y47
 ) (fun y48=>
 some true
 ) z
def S112_5l (uu:Nat):LoopE:=⟨5,⟨[0,1,5],[],[(.slice 114),(.slice 114),(.int .i64)]⟩,[(.ret,⟨[4],[],[.bool]⟩),(.exit 0,⟨[],[],[]⟩)],S112_5step uu⟩
def F112C (uu:Nat):Cfg:=cfg Tryz.prog 73 0 [] [S112_5l uu] uu
def F112c (uu:Nat):CallE:=⟨112,⟨2,[],[(.slice 114),(.slice 114)]⟩,⟨1,[],[.bool]⟩,fun x=>F112 uu x.1 x.2,false⟩
theorem F112k (uu:Nat):aal (F112C uu):=aad (q0) (p0)
theorem S112_5ok (uu:Nat):LoopOk (F112C uu) (lp (aai Tryz.f112) 0):=okL (F112k uu) uu (S112_5l uu) L0
theorem F112ok (uu:Nat):(F112c uu).Ok Tryz.prog:=okE Tryz.f112 (F112k uu) (L1 (S112_5ok uu))
def F113 (uu:Nat) (a0:PV) (a1:PV):Option (Bool):=
 let x16:=a0.fld 4
 let x17:=a1.fld 4
 let x18:=!(bif ((x16.fld 0).asInt)==((x17.fld 0).asInt) then (bif ((x16.fld 1).asStr)==((x17.fld 1).asStr) then true else false) else false)
 bif (bif (bif (bif (bif (bif (bif (((a0.fld 0).asInt) != ((a1.fld 0).asInt)) then true else (!(((a0.fld 1).asStr)==((a1.fld 1).asStr)))) then true else (((a0.fld 2).asInt) != ((a1.fld 2).asInt))) then true else (((a0.fld 3).asInt) != ((a1.fld 3).asInt))) then true else x18) then true else (!(((a0.fld 5).asStr)==((a1.fld 5).asStr)))) then true else (!(((a0.fld 6).asBool)==((a1.fld 6).asBool)))) then
 some false
 else
 let x38:=bif (bif ((((a0.fld 7).fld 0).asInt)==(((a1.fld 7).fld 0).asInt)) then ((((a0.fld 7).fld 1).asInt)==(((a1.fld 7).fld 1).asInt)) else false) then ((((a0.fld 7).fld 2).asStr)==(((a1.fld 7).fld 2).asStr)) else false
 (bif x38 then F112 uu ((a0.fld 8).asList) ((a1.fld 8).asList) else some false).bind fun y41=>
 some (bif x38 then y41 else false)
def F113c (uu:Nat):CallE:=⟨113,⟨2,[],[(.data 59),(.data 59)]⟩,⟨1,[],[.bool]⟩,fun x=>F113 uu x.1 x.2,false⟩
theorem F113ok (uu:Nat):(F113c uu).Ok Tryz.prog:=okJ Tryz.f113 84 0 uu _ [] false (qc (F112ok uu)<|q0) (p0) L0
abbrev S58_12x:=(List PV)×(List PV)×Int×Unit×Unit×Int×PV×PV
abbrev S58_12y:=(Bool×PV×PV)⊕((List PV)×(List PV)×Int×Unit×Unit×PV×PV)
def S58_12 (uu:Nat) (a36:List PV) (a37:List PV) (a38:Int) (a39:Unit) (a40:Unit) (a41:Int) (a42:PV) (a43:PV):Option (S58_12x⊕S58_12y):=
 bif (decide (a41<(((a42.fld 1).asList).length:Int))) then
 let x47:=(a42.fld 1).asList
 bif aaa a41 x47.length then
 let x49:=(a43.fld 1).asList
 bif aaa a41 x49.length then
 (F113 uu (x47.getD a41.toNat .bad) (x49.getD a41.toNat .bad)).bind fun y51=>
 bif (!y51) then
 some (.inr (.inl (false,a42,a43)))
 else
 some (.inl (a36,a37,a38,(),(),(IntKind.wrap .i64 (a41+(1:Int))),a42,a43))
 else none
 else none
 else
 some (.inr (.inr (a36,a37,a38,(),(),a42,a43)))
def S58_12step (uu:Nat) (x:S58_12x):Option (S58_12x⊕S58_12y):=S58_12 uu x.1 x.2.1 x.2.2.1 x.2.2.2.1 x.2.2.2.2.1 x.2.2.2.2.2.1 x.2.2.2.2.2.2.1 x.2.2.2.2.2.2.2
abbrev S58_17x:=(List PV)×(List PV)×Int×Unit×Unit×Int×PV×PV
abbrev S58_17y:=(Bool×PV×PV)⊕((List PV)×(List PV)×Int×PV×PV)
def S58_17 (uu:Nat) (a56:List PV) (a57:List PV) (a58:Int) (a59:Unit) (a60:Unit) (a61:Int) (a62:PV) (a63:PV):Option (S58_17x⊕S58_17y):=
 bif (decide (a61<(((a62.fld 3).asList).length:Int))) then
 let x67:=(a62.fld 3).asList
 bif aaa a61 x67.length then
 let x70:=(a63.fld 3).asList
 bif aaa a61 x70.length then
 bif (!((x67.getD a61.toNat .bad).asStr==(x70.getD a61.toNat .bad).asStr)) then
 some (.inr (.inl (false,a62,a63)))
 else
 some (.inl (a56,a57,a58,(),(),(IntKind.wrap .i64 (a61+(1:Int))),a62,a63))
 else none
 else none
 else
 some (.inr (.inr (a56,a57,a58,a62,a63)))
def S58_17step (uu:Nat) (x:S58_17x):Option (S58_17x⊕S58_17y):=S58_17 uu x.1 x.2.1 x.2.2.1 x.2.2.2.1 x.2.2.2.2.1 x.2.2.2.2.2.1 x.2.2.2.2.2.2.1 x.2.2.2.2.2.2.2
abbrev S58_5x:=(List PV)×(List PV)×Int
abbrev S58_5y:=(Bool)⊕(Unit)
def S58_5 (uu:Nat) (a4:List PV) (a5:List PV) (a6:Int):Option (S58_5x⊕S58_5y):=
 bif (decide (a6<(a4.length:Int))) then
 bif aaa a6 a4.length then
 let x9:=a4.getD a6.toNat .bad
 bif aaa a6 a5.length then
 let x10:=a5.getD a6.toNat .bad
 let x19:=bif (!(((x9.fld 0).asStr)==((x10.fld 0).asStr))) then true else ((((x9.fld 1).asList).length:Int) != (((x10.fld 1).asList).length:Int))
 (bif !x19 then F111 uu ((x9.fld 2).asList) ((x10.fld 2).asList) else some false).bind fun y22=>
 let x30:=bif (bif x19 then true else (!y22)) then true else ((((x9.fld 3).asList).length:Int) != (((x10.fld 3).asList).length:Int))
 (bif !x30 then F112 uu ((x9.fld 4).asList) ((x10.fld 4).asList) else some false).bind fun y33=>
 bif (bif x30 then true else (!y33)) then
 some (.inr (.inl false))
 else
 (aah uu (S58_12step uu) (a4,a5,a6,(),(),(0:Int),x9,x10)).bind fun z=>sumE (fun y54=>
 some (.inr (.inl y54.1))
 ) (fun y55=>
 (aah uu (S58_17step uu) (y55.1,y55.2.1,y55.2.2.1,(),(),(0:Int),y55.2.2.2.2.2.1,y55.2.2.2.2.2.2)).bind fun z=>sumE (fun y75=>
 some (.inr (.inl y75.1))
 ) (fun y76=>
 some (.inl (y76.1,y76.2.1,(IntKind.wrap .i64 (y76.2.2.1+(1:Int)))))
 ) z
 ) z
 else none
 else none
 else
 some (.inr (.inr ()))
def S58_5step (uu:Nat) (x:S58_5x):Option (S58_5x⊕S58_5y):=S58_5 uu x.1 x.2.1 x.2.2
def F58 (uu:Nat) (a0:List PV) (a1:List PV):Option (Bool):=
 bif ((a0.length:Int) != (a1.length:Int)) then
 some false
 else
 (aah uu (S58_5step uu) (a0,a1,(0:Int))).bind fun z=>sumE (fun y79=>
 some y79
 ) (fun y80=>
 some true
 ) z
def S58_12l (uu:Nat):LoopE:=⟨12,⟨[0,1,5,6,7,8],bx39,(.slice 63)::(.slice 63)::(.int .i64)::(.con (.ref 0 [] 63))::(.con (.ref 1 [] 63))::sv57⟩,[(.ret,⟨[4],bx39,.bool::sv58⟩),(.exit 2,⟨[0,1,5,6,7],bx39,(.slice 63)::(.slice 63)::(.int .i64)::(.con (.ref 0 [] 63))::(.con (.ref 1 [] 63))::sv58⟩)],S58_12step uu⟩
def S58_17l (uu:Nat):LoopE:=⟨17,⟨[0,1,5,6,7,9],bx39,(.slice 63)::(.slice 63)::(.int .i64)::(.con (.ref 0 [] 63))::(.con (.ref 1 [] 63))::sv57⟩,[(.ret,⟨[4],bx39,.bool::sv58⟩),(.exit 4,⟨[0,1,5],bx39,(.slice 63)::(.slice 63)::sv57⟩)],S58_17step uu⟩
def S58_5l (uu:Nat):LoopE:=⟨5,⟨[0,1,5],[],[(.slice 63),(.slice 63),(.int .i64)]⟩,[(.ret,⟨[4],[],[.bool]⟩),(.exit 0,⟨[],[],[]⟩)],S58_5step uu⟩
def F58C (uu:Nat):Cfg:=cfg Tryz.prog 105 0 [F111c uu,F112c uu,F113c uu] [S58_12l uu,S58_17l uu,S58_5l uu] uu
def F58c (uu:Nat):CallE:=⟨58,⟨2,[],[(.slice 63),(.slice 63)]⟩,⟨1,[],[.bool]⟩,fun x=>F58 uu x.1 x.2,false⟩
theorem F58k (uu:Nat):aal (F58C uu):=aad (qc (F111ok uu)<|qc (F112ok uu)<|qc (F113ok uu)<|q0) (p0)
theorem S58_12ok (uu:Nat):LoopOk (F58C uu) (lp (lp (aai Tryz.f58) 0) 0):=okL (F58k uu) uu (S58_12l uu) L0
theorem S58_17ok (uu:Nat):LoopOk (F58C uu) (lp (lp (aai Tryz.f58) 0) 1):=okL (F58k uu) uu (S58_17l uu) L0
theorem S58_5ok (uu:Nat):LoopOk (F58C uu) (lp (aai Tryz.f58) 0):=okL (F58k uu) uu (S58_5l uu) (L2 (S58_12ok uu) (S58_17ok uu))
theorem F58ok (uu:Nat):(F58c uu).Ok Tryz.prog:=okE Tryz.f58 (F58k uu) (L1 (S58_5ok uu))
abbrev S59_12x:=(List PV)×(List PV)×Int×Unit×Unit×Int×PV×PV
abbrev S59_12y:=(Bool×PV×PV)⊕((List PV)×(List PV)×Int×PV×PV)
def S59_12 (uu:Nat) (a34:List PV) (a35:List PV) (a36:Int) (a37:Unit) (a38:Unit) (a39:Int) (a40:PV) (a41:PV):Option (S59_12x⊕S59_12y):=
 bif (decide (a39<(((a40.fld 2).asList).length:Int))) then
 let x45:=(a40.fld 2).asList
 bif aaa a39 x45.length then
 let x49:=(a41.fld 2).asList
 bif aaa a39 x49.length then
 let x53:=!(((x45.getD a39.toNat .bad).fld 0).asStr==((x49.getD a39.toNat .bad).fld 0).asStr)
 let x54:=(a40.fld 2).asList
 bif imp (!x53) (aaa a39 x54.length) then
 let x58:=(a41.fld 2).asList
 bif imp (!x53) (aaa a39 x58.length) then
 let x63:=bif x53 then true else (((x54.getD a39.toNat .bad).fld 1).asInt != ((x58.getD a39.toNat .bad).fld 1).asInt)
 let x64:=(a40.fld 2).asList
 bif imp (!x63) (aaa a39 x64.length) then
 let x68:=(a41.fld 2).asList
 bif imp (!x63) (aaa a39 x68.length) then
 (bif !x63 then F112 uu ((x64.getD a39.toNat .bad).fld 2).asList ((x68.getD a39.toNat .bad).fld 2).asList else some false).bind fun y72=>
 bif (bif x63 then true else (!y72)) then
 some (.inr (.inl (false,a40,a41)))
 else
 some (.inl (a34,a35,a36,(),(),(IntKind.wrap .i64 (a39+(1:Int))),a40,a41))
 else none
 else none
 else none
 else none
 else none
 else none
 else
 some (.inr (.inr (a34,a35,a36,a40,a41)))
def S59_12step (uu:Nat) (x:S59_12x):Option (S59_12x⊕S59_12y):=S59_12 uu x.1 x.2.1 x.2.2.1 x.2.2.2.1 x.2.2.2.2.1 x.2.2.2.2.2.1 x.2.2.2.2.2.2.1 x.2.2.2.2.2.2.2
abbrev S59_5x:=(List PV)×(List PV)×Int
abbrev S59_5y:=(Bool)⊕(Unit)
def S59_5 (uu:Nat) (a4:List PV) (a5:List PV) (a6:Int):Option (S59_5x⊕S59_5y):=
 bif (decide (a6<(a4.length:Int))) then
 bif aaa a6 a4.length then
 let x9:=a4.getD a6.toNat .bad
 bif aaa a6 a5.length then
 let x10:=a5.getD a6.toNat .bad
 let x23:=bif (bif (!(((x9.fld 0).asStr)==((x10.fld 0).asStr))) then true else (!(((x9.fld 1).asBool)==((x10.fld 1).asBool)))) then true else ((((x9.fld 2).asList).length:Int) != (((x10.fld 2).asList).length:Int))
 (bif !x23 then F111 uu ((x9.fld 3).asList) ((x10.fld 3).asList) else some false).bind fun y26=>
 let x28:=bif x23 then true else (!y26)
 (bif !x28 then F112 uu ((x9.fld 4).asList) ((x10.fld 4).asList) else some false).bind fun y31=>
 bif (bif x28 then true else (!y31)) then
 some (.inr (.inl false))
 else
 (aah uu (S59_12step uu) (a4,a5,a6,(),(),(0:Int),x9,x10)).bind fun z=>sumE (fun y76=>
 some (.inr (.inl y76.1))
 ) (fun y77=>
 some (.inl (y77.1,y77.2.1,(IntKind.wrap .i64 (y77.2.2.1+(1:Int)))))
 ) z
 else none
 else none
 else
 some (.inr (.inr ()))
def S59_5step (uu:Nat) (x:S59_5x):Option (S59_5x⊕S59_5y):=S59_5 uu x.1 x.2.1 x.2.2
def F59 (uu:Nat) (a0:List PV) (a1:List PV):Option (Bool):=
 bif ((a0.length:Int) != (a1.length:Int)) then
 some false
 else
 (aah uu (S59_5step uu) (a0,a1,(0:Int))).bind fun z=>sumE (fun y80=>
 some y80
 ) (fun y81=>
 some true
 ) z
def S59_12l (uu:Nat):LoopE:=⟨12,⟨[0,1,5,6,7,8],bx40,(.slice 73)::(.slice 73)::(.int .i64)::(.con (.ref 0 [] 73))::(.con (.ref 1 [] 73))::(.int .i64)::sv59⟩,[(.ret,⟨[4],bx40,.bool::sv59⟩),(.exit 2,⟨[0,1,5],bx40,(.slice 73)::(.slice 73)::(.int .i64)::sv59⟩)],S59_12step uu⟩
def S59_5l (uu:Nat):LoopE:=⟨5,⟨[0,1,5],[],[(.slice 73),(.slice 73),(.int .i64)]⟩,[(.ret,⟨[4],[],[.bool]⟩),(.exit 0,⟨[],[],[]⟩)],S59_5step uu⟩
def F59C (uu:Nat):Cfg:=cfg Tryz.prog 116 0 [F111c uu,F112c uu] [S59_12l uu,S59_5l uu] uu
def F59c (uu:Nat):CallE:=⟨59,⟨2,[],[(.slice 73),(.slice 73)]⟩,⟨1,[],[.bool]⟩,fun x=>F59 uu x.1 x.2,false⟩
theorem F59k (uu:Nat):aal (F59C uu):=aad (qc (F111ok uu)<|qc (F112ok uu)<|q0) (p0)
theorem S59_12ok (uu:Nat):LoopOk (F59C uu) (lp (lp (aai Tryz.f59) 0) 0):=okL (F59k uu) uu (S59_12l uu) L0
theorem S59_5ok (uu:Nat):LoopOk (F59C uu) (lp (aai Tryz.f59) 0):=okL (F59k uu) uu (S59_5l uu) (L1 (S59_12ok uu))
theorem F59ok (uu:Nat):(F59c uu).Ok Tryz.prog:=okE Tryz.f59 (F59k uu) (L1 (S59_5ok uu))
abbrev S60_12x:=(List PV)×(List PV)×Int×Unit×Unit×Int×PV×PV
abbrev S60_12y:=(Bool×PV×PV)⊕((List PV)×(List PV)×Int×PV×PV)
def S60_12 (uu:Nat) (a25:List PV) (a26:List PV) (a27:Int) (a28:Unit) (a29:Unit) (a30:Int) (a31:PV) (a32:PV):Option (S60_12x⊕S60_12y):=
 bif (decide (a30<(((a31.fld 1).asList).length:Int))) then
 let x36:=(a31.fld 1).asList
 bif aaa a30 x36.length then
 let x37:=x36.getD a30.toNat .bad
 let x38:=(a32.fld 1).asList
 bif aaa a30 x38.length then
 let x39:=x38.getD a30.toNat .bad
 let x54:=bif (bif (bif (!(((x37.fld 0).asStr)==((x39.fld 0).asStr))) then true else (!(((x37.fld 1).asStr)==((x39.fld 1).asStr)))) then true else (!(((x37.fld 2).asStr)==((x39.fld 2).asStr)))) then true else (((x37.fld 3).asInt) != ((x39.fld 3).asInt))
 (bif !x54 then F112 uu ((x37.fld 4).asList) ((x39.fld 4).asList) else some false).bind fun y57=>
 bif (bif x54 then true else (!y57)) then
 some (.inr (.inl (false,a31,a32)))
 else
 some (.inl (a25,a26,a27,(),(),(IntKind.wrap .i64 (a30+(1:Int))),a31,a32))
 else none
 else none
 else
 some (.inr (.inr (a25,a26,a27,a31,a32)))
def S60_12step (uu:Nat) (x:S60_12x):Option (S60_12x⊕S60_12y):=S60_12 uu x.1 x.2.1 x.2.2.1 x.2.2.2.1 x.2.2.2.2.1 x.2.2.2.2.2.1 x.2.2.2.2.2.2.1 x.2.2.2.2.2.2.2
abbrev S60_5x:=(List PV)×(List PV)×Int
abbrev S60_5y:=(Bool)⊕(Unit)
def S60_5 (uu:Nat) (a4:List PV) (a5:List PV) (a6:Int):Option (S60_5x⊕S60_5y):=
 bif (decide (a6<(a4.length:Int))) then
 bif aaa a6 a4.length then
 let x9:=a4.getD a6.toNat .bad
 bif aaa a6 a5.length then
 let x10:=a5.getD a6.toNat .bad
 let x19:=bif (!(((x9.fld 0).asStr)==((x10.fld 0).asStr))) then true else ((((x9.fld 1).asList).length:Int) != (((x10.fld 1).asList).length:Int))
 (bif !x19 then F112 uu ((x9.fld 2).asList) ((x10.fld 2).asList) else some false).bind fun y22=>
 bif (bif x19 then true else (!y22)) then
 some (.inr (.inl false))
 else
 (aah uu (S60_12step uu) (a4,a5,a6,(),(),(0:Int),x9,x10)).bind fun z=>sumE (fun y61=>
 some (.inr (.inl y61.1))
 ) (fun y62=>
 some (.inl (y62.1,y62.2.1,(IntKind.wrap .i64 (y62.2.2.1+(1:Int)))))
 ) z
 else none
 else none
 else
 some (.inr (.inr ()))
def S60_5step (uu:Nat) (x:S60_5x):Option (S60_5x⊕S60_5y):=S60_5 uu x.1 x.2.1 x.2.2
def F60 (uu:Nat) (a0:List PV) (a1:List PV):Option (Bool):=
 bif ((a0.length:Int) != (a1.length:Int)) then
 some false
 else
 (aah uu (S60_5step uu) (a0,a1,(0:Int))).bind fun z=>sumE (fun y65=>
 some y65
 ) (fun y66=>
 some true
 ) z
def S60_12l (uu:Nat):LoopE:=⟨12,⟨[0,1,5,6,7,8],bx41,(.slice 78)::(.slice 78)::(.int .i64)::(.con (.ref 0 [] 78))::(.con (.ref 1 [] 78))::(.int .i64)::sv60⟩,[(.ret,⟨[4],bx41,.bool::sv60⟩),(.exit 2,⟨[0,1,5],bx41,(.slice 78)::(.slice 78)::(.int .i64)::sv60⟩)],S60_12step uu⟩
def S60_5l (uu:Nat):LoopE:=⟨5,⟨[0,1,5],[],[(.slice 78),(.slice 78),(.int .i64)]⟩,[(.ret,⟨[4],[],[.bool]⟩),(.exit 0,⟨[],[],[]⟩)],S60_5step uu⟩
def F60C (uu:Nat):Cfg:=cfg Tryz.prog 103 0 [F112c uu] [S60_12l uu,S60_5l uu] uu
def F60c (uu:Nat):CallE:=⟨60,⟨2,[],[(.slice 78),(.slice 78)]⟩,⟨1,[],[.bool]⟩,fun x=>F60 uu x.1 x.2,false⟩
theorem F60k (uu:Nat):aal (F60C uu):=aad (qc (F112ok uu)<|q0) (p0)
theorem S60_12ok (uu:Nat):LoopOk (F60C uu) (lp (lp (aai Tryz.f60) 0) 0):=okL (F60k uu) uu (S60_12l uu) L0
theorem S60_5ok (uu:Nat):LoopOk (F60C uu) (lp (aai Tryz.f60) 0):=okL (F60k uu) uu (S60_5l uu) (L1 (S60_12ok uu))
theorem F60ok (uu:Nat):(F60c uu).Ok Tryz.prog:=okE Tryz.f60 (F60k uu) (L1 (S60_5ok uu))
def F22 (uu:Nat) (a0:PV) (a1:PV):Option (Bool):=
 (F58 uu ((a0.fld 0).asList) ((a1.fld 0).asList)).bind fun y3=>
 (bif y3 then F59 uu ((a0.fld 1).asList) ((a1.fld 1).asList) else some false).bind fun y6=>
 let x7:=bif y3 then y6 else false
 (bif x7 then F60 uu ((a0.fld 2).asList) ((a1.fld 2).asList) else some false).bind fun y10=>
 some (bif x7 then y10 else false)
def F22c (uu:Nat):CallE:=⟨22,⟨2,[],sv29⟩,⟨1,[],[.bool]⟩,fun x=>F22 uu x.1 x.2,false⟩
theorem F22ok (uu:Nat):(F22c uu).Ok Tryz.prog:=okJ Tryz.f22 24 0 uu _ [] false (qc (F58ok uu)<|qc (F59ok uu)<|qc (F60ok uu)<|q0) (p0) L0
def F5 (uu:Nat) (a0:PV) (a1:PV):Option (Bool):=
 (F11 uu a0).bind fun y1=>
 let x2:=!y1
 (bif !x2 then F11 uu a1 else some false).bind fun y3=>
 bif (bif x2 then true else (!y3)) then
 (akb uu).bind fun y6=>
 some y6
 else
 (F14 uu a0 a1).bind fun y7=>
 (F23 uu a0).bind fun y10=>
 (F23 uu a1).bind fun y11=>
 (F22 uu y10 y11).bind fun y12=>
 let x13:=((y7.length:Int)==(0:Int))==y12
 (bif x13 then F14 uu a0 a0 else some []).bind fun y14=>
 let x17:=bif x13 then ((y14.length:Int)==(0:Int)) else false
 (bif x17 then akb uu else some false).bind fun y18=>
 some (bif x17 then y18 else false)
def F5c (uu:Nat):CallE:=⟨5,⟨2,[],sv29⟩,⟨1,[],[.bool]⟩,fun x=>F5 uu x.1 x.2,false⟩
theorem F5ok (uu:Nat):(F5c uu).Ok Tryz.prog:=okJ Tryz.f5 35 0 uu _ [] false (qc (F11ok uu)<|qc (at1 uu)<|qc (F14ok uu)<|qc (F23ok uu)<|qc (F22ok uu)<|q0) (p0) L0
end
end Go.Ab
