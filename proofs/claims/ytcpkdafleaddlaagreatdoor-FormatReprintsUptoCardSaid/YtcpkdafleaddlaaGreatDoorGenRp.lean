/- A part of the proof: lemmas on how the program runs over plain data. -/
import Derived.Test.YtcpkdafleaddlaaGreatDoorAbCaughtP
set_option linter.unusedVariables false
set_option linter.unusedSimpArgs false
set_option linter.unnecessarySimpa false
namespace Go.Ab
open Go Go.Proofs
set_option maxRecDepth 100000
noncomputable section
abbrev okP (c:CallE):Prop:=c.Ok Tryz.prog
variable (uu:Nat)
abbrev bx0:List BSh:=[.box 290 .leaf,.acc]
abbrev bx1:List BSh:=[.box 82 (.agg 82 [.leaf,.leaf,(.agg 28 [.leaf,.leaf,.leaf,.leaf,.leaf,.leaf])]),.arr 9 0,.arr 63 0,.arr 127 0,.acc]
abbrev bx2:List BSh:=[.box 82 (.agg 82 [.leaf,.leaf,(.agg 28 [.leaf,.leaf,.leaf,.leaf,.leaf,.leaf])]),.box 9 .leaf,.arr 9 0,.arr 63 0,.arr 127 0,.acc]
abbrev bx3:List BSh:=[.box 82 (.agg 82 [.leaf,.leaf,(.agg 28 [.leaf,.leaf,.leaf,.leaf,.leaf,.leaf])]),.arr 9 0,.arr 63 0,.arr 127 0,.acc,.acc]
abbrev bx4:List BSh:=[.box 82 (.agg 82 [.leaf,.leaf,(.agg 28 [.leaf,.leaf,.leaf,.leaf,.leaf,.leaf])]),.arr 9 0,.arr 63 0,.arr 127 1,.acc,.box 127 (.agg 127 [.leaf,.leaf,.leaf,.leaf,.leaf]),.acc,.acc]
abbrev bx5:List BSh:=[.box 82 (.agg 82 [.leaf,.leaf,(.agg 28 [.leaf,.leaf,.leaf,.leaf,.leaf,.leaf])]),.arr 9 0,.arr 63 0,.arr 127 1,.acc]
abbrev bx6:List BSh:=[.box 82 (.agg 82 [.leaf,.leaf,(.agg 28 [.leaf,.leaf,.leaf,.leaf,.leaf,.leaf])]),.arr 9 0,.arr 63 1,.arr 127 1,.acc]
abbrev bx7:List BSh:=[.box 82 (.agg 82 [.leaf,.leaf,(.agg 28 [.leaf,.leaf,.leaf,.leaf,.leaf,.leaf])]),.arr 9 0,.arr 63 1,.arr 127 1,.acc,.box 63 (.agg 63 [.leaf,.leaf,.leaf,.leaf,.leaf]),.acc,.acc,.acc]
abbrev bx8:List BSh:=[.box 82 (.agg 82 [.leaf,.leaf,(.agg 28 [.leaf,.leaf,.leaf,.leaf,.leaf,.leaf])]),.arr 9 0,.arr 63 0,.arr 127 0,.acc,.box 130 (.agg 130 [.leaf,.leaf,.leaf]),.acc]
abbrev bx9:List BSh:=[.box 82 (.agg 82 [.leaf,.leaf,(.agg 28 [.leaf,.leaf,.leaf,.leaf,.leaf,.leaf])]),.arr 9 1,.arr 63 0,.arr 127 0,.acc]
abbrev bx10:List BSh:=[.box 82 (.agg 82 [.leaf,.leaf,(.agg 28 [.leaf,.leaf,.leaf,.leaf,.leaf,.leaf])]),.arr 9 1,.arr 63 1,.arr 127 1,.acc]
abbrev bx11:List BSh:=[.box 177 .leaf]
abbrev bx12:List BSh:=[.box 178 .leaf]
abbrev bx13:List BSh:=[.box 183 .leaf]
abbrev bx14:List BSh:=[.box 184 .leaf]
abbrev bx15:List BSh:=[.box 189 .leaf]
abbrev bx16:List BSh:=[.box 190 .leaf]
abbrev bx17:List BSh:=[.box 235 .leaf,.box 3 .leaf]
abbrev bx18:List BSh:=[.box 64 .leaf]
abbrev bx19:List BSh:=[.box 28 .leaf,.acc]
abbrev bx20:List BSh:=[.bld 196]
abbrev bx21:List BSh:=[.box 28 .leaf,.box 28 .leaf]
abbrev sv25:List Shape:=[(.con (.fn 164 0 []))]
abbrev sv27:List Shape:=[(.con (.fn 162 0 []))]
abbrev sv29:List Shape:=[(.con (.fn 170 0 []))]
abbrev sv31:List Shape:=[(.con (.fn 168 0 []))]
abbrev sv33:List Shape:=[(.con (.fn 174 0 []))]
abbrev sv35:List Shape:=[(.con (.fn 172 0 []))]
abbrev sv37:List Shape:=[(.con (.fn 177 0 []))]
abbrev sv42:List Shape:=[(.con (.fn 176 0 []))]
abbrev sv44:List Shape:=[(.con (.fn 181 0 []))]
abbrev sv46:List Shape:=[(.con (.fn 180 0 []))]
abbrev sv48:List Shape:=[(.con (.fn 183 0 []))]
abbrev sv50:List Shape:=[(.con (.fn 182 0 []))]
abbrev sv52:List Shape:=[(.con (.fn 185 0 []))]
abbrev sv54:List Shape:=[(.con (.fn 186 0 []))]
abbrev sv58:List Shape:=[(.con (.fn 187 0 []))]
abbrev sv60:List Shape:=[(.con (.fn 188 0 []))]
abbrev sv62:List Shape:=[(.con (.fn 189 0 []))]
abbrev sv0:List Shape:=[.str,.int .i64]
abbrev sv2:List Shape:=[.int .i64,.int .i64]
abbrev sv15:List Shape:=[.int .i64,.str]
abbrev sv16:List Shape:=[.slice 72,.int .i64]
abbrev sv17:List Shape:=[.data 51,.int .i64]
abbrev sv26:List Shape:=(.int .i64)::sv25
abbrev sv28:List Shape:=(.int .i64)::sv27
abbrev sv30:List Shape:=(.int .i64)::sv29
abbrev sv32:List Shape:=(.int .i64)::sv31
abbrev sv34:List Shape:=(.int .i64)::sv33
abbrev sv36:List Shape:=(.int .i64)::sv35
abbrev sv38:List Shape:=(.int .i64)::sv37
abbrev sv39:List Shape:=[.bool,.int .i64]
abbrev sv40:List Shape:=[(.con (.fn 278 0 [(.ref 1 [] 3)])),.int .i64]
abbrev sv43:List Shape:=(.int .i64)::sv42
abbrev sv45:List Shape:=(.int .i64)::sv44
abbrev sv47:List Shape:=(.int .i64)::sv46
abbrev sv49:List Shape:=(.int .i64)::sv48
abbrev sv51:List Shape:=(.int .i64)::sv50
abbrev sv53:List Shape:=(.int .i64)::sv52
abbrev sv55:List Shape:=(.int .i64)::sv54
abbrev sv57:List Shape:=[.acc 1 134,.data 28]
abbrev sv59:List Shape:=(.int .i64)::sv58
abbrev sv61:List Shape:=(.int .i64)::sv60
abbrev sv63:List Shape:=(.int .i64)::sv62
abbrev sv65:List Shape:=[.str,.data 63]
abbrev sv66:List Shape:=[.int .i64,.data 28]
abbrev sv67:List Shape:=[.data 63,.data 63]
abbrev sv68:List Shape:=[.data 127,.data 127]
abbrev sv69:List Shape:=[.data 130,.data 130]
abbrev sv72:List Shape:=[.data 28,.data 28]
abbrev sv1:List Shape:=.str::sv0
abbrev sv3:List Shape:=(.slice 116)::sv2
abbrev sv4:List Shape:=(.data 72)::sv2
abbrev sv5:List Shape:=[.str,.acc 0 5,.int .i64]
abbrev sv6:List Shape:=.str::sv2
abbrev sv41:List Shape:=(.int .i64)::sv40
abbrev sv56:List Shape:=(.int .i64)::sv66
abbrev sv64:List Shape:=(.int .i64)::sv15
abbrev sv71:List Shape:=.bool::sv72
abbrev sv19:List Shape:=[(.con (.arr 3 1 127)),.acc 4 130,.slice 9,.slice 63,.slice 127]
abbrev sv70:List Shape:=(.con (.ref 0 [] 28))::(.con (.ref 1 [] 28))::.bool::(.int .i64)::sv72
abbrev sv12:List Shape:=[.slice 72,.int .i64,.str,.str,(.con (.arr 1 0 9)),(.con (.arr 2 0 63)),(.con (.arr 3 0 127)),.acc 4 130,.slice 9,.slice 63,.slice 127]
abbrev sv20:List Shape:=(.slice 72)::(.int .i64)::.str::.str::(.con (.arr 1 0 9))::(.con (.arr 2 1 63))::sv19
abbrev sv23:List Shape:=[.slice 72,.int .i64,.str,.str,(.con (.arr 1 1 9)),(.con (.arr 2 0 63)),(.con (.arr 3 0 127)),.acc 4 130,.slice 9,.slice 63,.slice 127]
abbrev sv24:List Shape:=(.slice 72)::(.int .i64)::.str::.str::(.con (.arr 1 1 9))::(.con (.arr 2 1 63))::sv19
abbrev sv7:List Shape:=.str::sv12
abbrev sv8:List Shape:=.bool::sv12
abbrev sv9:List Shape:=(.con (.ref 0 [] 82))::sv12
abbrev sv10:List Shape:=(.int .i64)::sv12
abbrev sv13:List Shape:=(.ifc 84)::sv12
abbrev sv14:List Shape:=[.slice 72,.int .i64,.str,.str,(.con (.arr 2 0 9)),(.con (.arr 3 0 63)),(.con (.arr 4 0 127)),.acc 5 130,.str,.slice 9,.slice 63,.slice 127]
abbrev sv11:List Shape:=(.con (.ref 0 [] 82))::sv7
abbrev sv22:List Shape:=[.slice 72,.int .i64,.str,.str,(.con (.arr 1 0 9)),(.con (.arr 2 0 63)),(.con (.arr 3 0 127)),.acc 4 130,.slice 9,.slice 63,.slice 127,.str,.acc 6 188,.slice 116]
abbrev sv18:List Shape:=[.slice 72,.int .i64,.str,.str,(.con (.arr 1 0 9)),(.con (.arr 2 0 63)),(.con (.arr 3 1 127)),.acc 4 130,.slice 9,.slice 63,.slice 127,.str,.bool,.acc 6 182,.acc 7 234,.slice 116]
abbrev sv21:List Shape:=[.slice 72,.int .i64,.str,.str,(.con (.arr 1 0 9)),(.con (.arr 2 1 63)),(.con (.arr 3 1 127)),.acc 4 130,.slice 9,.slice 63,.slice 127,.str,.acc 6 54,.acc 7 234,.acc 8 9,.slice 116]
abbrev Q0:Type:=(List PV)×Int×Bo×Bo×Unit×Unit×Unit×(List PV)×(List PV)×(List PV)×(List PV)
abbrev Q1:Type:=(List PV)×Int×Bo×Bo×Unit×Unit×Unit×(List PV)×Bo×(List PV)×(List PV)×(List PV)
abbrev Q4:Type:=(List PV)×Int×Int×Bo×Bo×Unit×Unit×Unit×(List PV)×(List PV)×(List PV)×(List PV)
def F362 (uu:Nat) (d:Int):Option Bool:=some ((ae2 .and .i64 d (IntKind.wrap .i64 (d-1)))==0)
def F362c:CallE:=⟨362,⟨1,[],[.int .i64]⟩,⟨1,[],[.bool]⟩,λx=>F362 uu x,false⟩
theorem F362ok:okP (F362c uu):=okJ Tryz.f362 8 0 uu [] [] false q0 p0 L0
abbrev S315_12x:=(List PV)×Int×Bool×Bool×(List PV)×Bo×Unit×Int×Int×Int×Int×PV
abbrev S315_12y:=((List PV)×Int×Bool×Bool×(List PV)×Bo×Unit×Int×PV)
def S315_12 (uu:Nat) (z:List PV) (d:Int) (H:Bool) (M:Bool) (O:List PV) (U:Bo) (ab:Unit) (V:Int) (m:Int) (W:Int) (X:Int) (Y:PV):Option (S315_12x⊕S315_12y):=bif (decide (d>=W)) then let o:=IntKind.wrap .i64 (V-1);let Z:=ae2 .and .u64 d X;bif aaa Z (([48,49,50,51,52,53,54,55,56,57,97,98,99,100,101,102,103,104,105,106,107,108,109,110,111,112,113,114,115,116,117,118,119,120,121,122]:Bo).length) then let aa:=((([48,49,50,51,52,53,54,55,56,57,97,98,99,100,101,102,103,104,105,106,107,108,109,110,111,112,113,114,115,116,117,118,119,120,121,122]:Bo).getD Z.toNat 0).toNat:Int);bif aaa o 65 then bif decide (0<=m) then some (.inl (z,(d.fdiv (2^(min m.toNat (IntKind.bits .u64)))),H,M,O,U,(),o,m,W,X,(PV.agg (Y.parts.set o.toNat (PV.int aa))))) else none else none else none else some (.inr (z,d,H,M,O,U,(),V,Y))
def S315_12step (x:S315_12x):Option (S315_12x⊕S315_12y):=S315_12 uu x.1 x.2.1 x.2.2.1 x.2.2.2.1 x.2.2.2.2.1 x.2.2.2.2.2.1 x.2.2.2.2.2.2.1 x.2.2.2.2.2.2.2.1 x.2.2.2.2.2.2.2.2.1 x.2.2.2.2.2.2.2.2.2.1 x.2.2.2.2.2.2.2.2.2.2.1 x.2.2.2.2.2.2.2.2.2.2.2
abbrev S315_19x:=(List PV)×Int×Bool×Bool×(List PV)×Bo×Unit×Int×Int×PV
abbrev S315_19y:=((List PV)×Int×Bool×Bool×(List PV)×Bo×Unit×Int×PV)
def S315_19 (uu:Nat) (z:List PV) (m:Int) (H:Bool) (M:Bool) (O:List PV) (U:Bo) (aa:Unit) (V:Int) (d:Int) (W:PV):Option (S315_19x⊕S315_19y):=bif (decide (m>=d)) then let o:=IntKind.wrap .i64 (V-1);bif !(decide (d=0)) then let X:=IntKind.wrap .u64 (m.tdiv d);let Y:=IntKind.wrap .u64 (m-(IntKind.wrap .u64 (X*d)));bif aaa Y (([48,49,50,51,52,53,54,55,56,57,97,98,99,100,101,102,103,104,105,106,107,108,109,110,111,112,113,114,115,116,117,118,119,120,121,122]:Bo).length) then let Z:=((([48,49,50,51,52,53,54,55,56,57,97,98,99,100,101,102,103,104,105,106,107,108,109,110,111,112,113,114,115,116,117,118,119,120,121,122]:Bo).getD Y.toNat 0).toNat:Int);bif aaa o 65 then some (.inl (z,X,H,M,O,U,(),o,d,(PV.agg (W.parts.set o.toNat (PV.int Z))))) else none else none else none else some (.inr (z,m,H,M,O,U,(),V,W))
def S315_19step (x:S315_19x):Option (S315_19x⊕S315_19y):=S315_19 uu x.1 x.2.1 x.2.2.1 x.2.2.2.1 x.2.2.2.2.1 x.2.2.2.2.2.1 x.2.2.2.2.2.2.1 x.2.2.2.2.2.2.2.1 x.2.2.2.2.2.2.2.2.1 x.2.2.2.2.2.2.2.2.2
def F315 (a0:List PV) (a1:Int) (Z:Int) (a3:Bool) (a4:Bool):Option ((List PV)×Bo):=bif (bif (bif (decide (Z<2)) then true else (Z==10)) then true else (decide (Z>36))) then none else bif a3 then let x6:=IntKind.wrap .u64 (0-a1);(F362 uu Z).bind λy7=>bif y7 then (Ltz uu (IntKind.wrap .u64 Z)).bind λy9=>(aaw uu (S315_12step uu) (a0,x6,a3,a4,[],([]:Bo),(),(65:Int),(IntKind.wrap .u64 y9),(IntKind.wrap .u64 Z),(IntKind.wrap .u64 ((IntKind.wrap .u64 Z)-1)),(PV.agg (List.replicate 65 (PV.int (0:Int)))))).bind λV=>let m:=IntKind.wrap .i64 (V.2.2.2.2.2.2.2.1-1);let ad:=V.2.1;bif aaa ad (([48,49,50,51,52,53,54,55,56,57,97,98,99,100,101,102,103,104,105,106,107,108,109,110,111,112,113,114,115,116,117,118,119,120,121,122]:Bo).length) then let ae:=((([48,49,50,51,52,53,54,55,56,57,97,98,99,100,101,102,103,104,105,106,107,108,109,110,111,112,113,114,115,116,117,118,119,120,121,122]:Bo).getD ad.toNat 0).toNat:Int);bif aaa m 65 then bif V.2.2.1 then let M:=IntKind.wrap .i64 (m-1);bif aaa M 65 then bif V.2.2.2.1 then bif decide (0<=M/\M<65/\M<=65/\(65:Int)<=65) then none else none else bif decide (0<=M/\M<65/\M<=65/\(65:Int)<=65) then let al:=(((PV.agg ((PV.agg (V.2.2.2.2.2.2.2.2.parts.set m.toNat (PV.int ae))).parts.set M.toNat (PV.int (45:Int)))).parts.drop M.toNat).take ((65:Int).toNat-M.toNat)).map aa4;some (V.2.2.2.2.1,al) else none else none else bif V.2.2.2.1 then bif decide (0<=m/\m<65/\m<=65/\(65:Int)<=65) then none else none else bif decide (0<=m/\m<65/\m<=65/\(65:Int)<=65) then let am:=(((PV.agg (V.2.2.2.2.2.2.2.2.parts.set m.toNat (PV.int ae))).parts.drop m.toNat).take ((65:Int).toNat-m.toNat)).map aa4;some (V.2.2.2.2.1,am) else none else none else none else (aaw uu (S315_19step uu) (a0,x6,a3,a4,[],([]:Bo),(),(65:Int),(IntKind.wrap .u64 Z),(PV.agg (List.replicate 65 (PV.int (0:Int)))))).bind λW=>let o:=IntKind.wrap .i64 (W.2.2.2.2.2.2.2.1-1);let af:=W.2.1;bif aaa af (([48,49,50,51,52,53,54,55,56,57,97,98,99,100,101,102,103,104,105,106,107,108,109,110,111,112,113,114,115,116,117,118,119,120,121,122]:Bo).length) then let ag:=((([48,49,50,51,52,53,54,55,56,57,97,98,99,100,101,102,103,104,105,106,107,108,109,110,111,112,113,114,115,116,117,118,119,120,121,122]:Bo).getD af.toNat 0).toNat:Int);bif aaa o 65 then bif W.2.2.1 then let O:=IntKind.wrap .i64 (o-1);bif aaa O 65 then bif W.2.2.2.1 then bif decide (0<=O/\O<65/\O<=65/\(65:Int)<=65) then none else none else bif decide (0<=O/\O<65/\O<=65/\(65:Int)<=65) then let an:=(((PV.agg ((PV.agg (W.2.2.2.2.2.2.2.2.parts.set o.toNat (PV.int ag))).parts.set O.toNat (PV.int (45:Int)))).parts.drop O.toNat).take ((65:Int).toNat-O.toNat)).map aa4;some (W.2.2.2.2.1,an) else none else none else bif W.2.2.2.1 then bif decide (0<=o/\o<65/\o<=65/\(65:Int)<=65) then none else none else bif decide (0<=o/\o<65/\o<=65/\(65:Int)<=65) then let ao:=(((PV.agg (W.2.2.2.2.2.2.2.2.parts.set o.toNat (PV.int ag))).parts.drop o.toNat).take ((65:Int).toNat-o.toNat)).map aa4;some (W.2.2.2.2.1,ao) else none else none else none else (F362 uu Z).bind λar=>bif ar then (Ltz uu (IntKind.wrap .u64 Z)).bind λau=>(aaw uu (S315_12step uu) (a0,a1,a3,a4,[],([]:Bo),(),(65:Int),(IntKind.wrap .u64 au),(IntKind.wrap .u64 Z),(IntKind.wrap .u64 ((IntKind.wrap .u64 Z)-1)),(PV.agg (List.replicate 65 (PV.int (0:Int)))))).bind λX=>let z:=IntKind.wrap .i64 (X.2.2.2.2.2.2.2.1-1);let ah:=X.2.1;bif aaa ah (([48,49,50,51,52,53,54,55,56,57,97,98,99,100,101,102,103,104,105,106,107,108,109,110,111,112,113,114,115,116,117,118,119,120,121,122]:Bo).length) then let ai:=((([48,49,50,51,52,53,54,55,56,57,97,98,99,100,101,102,103,104,105,106,107,108,109,110,111,112,113,114,115,116,117,118,119,120,121,122]:Bo).getD ah.toNat 0).toNat:Int);bif aaa z 65 then bif X.2.2.1 then let U:=IntKind.wrap .i64 (z-1);bif aaa U 65 then bif X.2.2.2.1 then bif decide (0<=U/\U<65/\U<=65/\(65:Int)<=65) then none else none else bif decide (0<=U/\U<65/\U<=65/\(65:Int)<=65) then let ap:=(((PV.agg ((PV.agg (X.2.2.2.2.2.2.2.2.parts.set z.toNat (PV.int ai))).parts.set U.toNat (PV.int (45:Int)))).parts.drop U.toNat).take ((65:Int).toNat-U.toNat)).map aa4;some (X.2.2.2.2.1,ap) else none else none else bif X.2.2.2.1 then bif decide (0<=z/\z<65/\z<=65/\(65:Int)<=65) then none else none else bif decide (0<=z/\z<65/\z<=65/\(65:Int)<=65) then let aq:=(((PV.agg (X.2.2.2.2.2.2.2.2.parts.set z.toNat (PV.int ai))).parts.drop z.toNat).take ((65:Int).toNat-z.toNat)).map aa4;some (X.2.2.2.2.1,aq) else none else none else none else (aaw uu (S315_19step uu) (a0,a1,a3,a4,[],([]:Bo),(),(65:Int),(IntKind.wrap .u64 Z),(PV.agg (List.replicate 65 (PV.int (0:Int)))))).bind λY=>let H:=IntKind.wrap .i64 (Y.2.2.2.2.2.2.2.1-1);let aj:=Y.2.1;bif aaa aj (([48,49,50,51,52,53,54,55,56,57,97,98,99,100,101,102,103,104,105,106,107,108,109,110,111,112,113,114,115,116,117,118,119,120,121,122]:Bo).length) then let ak:=((([48,49,50,51,52,53,54,55,56,57,97,98,99,100,101,102,103,104,105,106,107,108,109,110,111,112,113,114,115,116,117,118,119,120,121,122]:Bo).getD aj.toNat 0).toNat:Int);bif aaa H 65 then bif Y.2.2.1 then let d:=IntKind.wrap .i64 (H-1);bif aaa d 65 then bif Y.2.2.2.1 then bif decide (0<=d/\d<65/\d<=65/\(65:Int)<=65) then none else none else bif decide (0<=d/\d<65/\d<=65/\(65:Int)<=65) then let aa:=(((PV.agg ((PV.agg (Y.2.2.2.2.2.2.2.2.parts.set H.toNat (PV.int ak))).parts.set d.toNat (PV.int (45:Int)))).parts.drop d.toNat).take ((65:Int).toNat-d.toNat)).map aa4;some (Y.2.2.2.2.1,aa) else none else none else bif Y.2.2.2.1 then bif decide (0<=H/\H<65/\H<=65/\(65:Int)<=65) then none else none else bif decide (0<=H/\H<65/\H<=65/\(65:Int)<=65) then let ab:=(((PV.agg (Y.2.2.2.2.2.2.2.2.parts.set H.toNat (PV.int ak))).parts.drop H.toNat).take ((65:Int).toNat-H.toNat)).map aa4;some (Y.2.2.2.2.1,ab) else none else none else none
def S315_12l:LoopE:=⟨12,⟨[0,1,3,4,10,11,12,13,14,15,16],bx0,[.slice 5,.int .u64,.bool,.bool,.acc 1 5,.str,(.con (.ref 0 [] 290)),.int .i64,.int .u64,.int .u64,.int .u64,.data 290]⟩,[(.exit 0,⟨[0,1,3,4,10,11,12,13],bx0,[.slice 5,.int .u64,.bool,.bool,.acc 1 5,.str,(.con (.ref 0 [] 290)),.int .i64,.data 290]⟩)],S315_12step uu⟩
def S315_19l:LoopE:=⟨19,⟨[0,1,3,4,10,11,12,13,17],bx0,[.slice 5,.int .u64,.bool,.bool,.acc 1 5,.str,(.con (.ref 0 [] 290)),.int .i64,.int .u64,.data 290]⟩,[(.exit 2,⟨[0,1,3,4,10,11,12,13],bx0,[.slice 5,.int .u64,.bool,.bool,.acc 1 5,.str,(.con (.ref 0 [] 290)),.int .i64,.data 290]⟩)],S315_19step uu⟩
def F315C:Cfg:=cfg Tryz.prog 102 0 [F362c uu,Ltzc uu] [S315_12l uu,S315_19l uu] uu
def F315c:CallE:=⟨315,⟨5,[],[.slice 5,.int .u64,.int .i64,.bool,.bool]⟩,⟨2,[],[.slice 5,.str]⟩,λx=>F315 uu x.1 x.2.1 x.2.2.1 x.2.2.2.1 x.2.2.2.2,([],[])⟩
theorem F315k:aap (F315C uu):=aad (qc (F362ok uu)<|qc (Ltzok uu)<|q0) p0
theorem S315_12ok:aai (F315C uu) (lp (aao Tryz.f315) 0):=okL (F315k uu) uu (S315_12l uu) L0
theorem S315_19ok:aai (F315C uu) (lp (aao Tryz.f315) 1):=okL (F315k uu) uu (S315_19l uu) L0
theorem F315ok:okP (F315c uu):=okE Tryz.f315 (F315k uu) (L2 (S315_12ok uu) (S315_19ok uu))
def F241 (d:Int) (m:Int):Option Bo:=bif (m==10) then bif (decide (d<100)) then none else none else (F315 uu [] d m false false).bind λo=>some o.2
def F241c:CallE:=⟨241,⟨2,[],[.int .u64,.int .i64]⟩,⟨1,[],[.str]⟩,λx=>F241 uu x.1 x.2,[]⟩
theorem F241ok:okP (F241c uu):=okJ Tryz.f241 32 0 uu _ [] false (qc (F315ok uu)<|q0) p0 L0
def Lfmt (u base:Int):Option Bo:=bif decide (base=10) then awz uu u base else F241 uu u base
def bm8:CallE:={ f:=241,A:=⟨2,[],[.int .u64,.int .i64]⟩,R:=⟨1,[],[.str]⟩,F:=λx=>Lfmt uu x.1 x.2,dflt:=[] }
theorem bm9:(bm8 uu).Ok Tryz.prog:=by
 intro x y h
 have h:Lfmt uu x.1 x.2=some y:=h
 unfold Lfmt at h
 cases d:decide (x.2=10) with
 | true=>rw [d] at h;exact bj5 uu x y h
 | false=>rw [d] at h;exact F241ok uu x y h
def F145 (uu:Nat) :Option ((List (PV×PV))):=some (PV.mput (PV.mput (PV.mput (PV.mput (PV.mput (PV.mput (PV.mput (PV.mput (PV.mput (PV.mput (PV.mput (PV.mput (PV.mput [] (PV.str ([100,101,112,114,101,99,97,116,101,100]:Bo)) (PV.agg [(PV.int (1:Int)),(PV.int (126:Int))])) (PV.str ([100,111,99]:Bo)) (PV.agg [(PV.int (7:Int)),(PV.int (126:Int))])) (PV.str ([97,108,105,97,115]:Bo)) (PV.agg [(PV.int (7:Int)),(PV.int (84:Int))])) (PV.str ([115,105,110,99,101]:Bo)) (PV.agg [(PV.int (4:Int)),(PV.int (84:Int))])) (PV.str ([117,110,116,105,108]:Bo)) (PV.agg [(PV.int (4:Int)),(PV.int (84:Int))])) (PV.str ([109,105,110]:Bo)) (PV.agg [(PV.int (3:Int)),(PV.int (4:Int))])) (PV.str ([109,97,120]:Bo)) (PV.agg [(PV.int (3:Int)),(PV.int (4:Int))])) (PV.str ([108,101,110,103,116,104]:Bo)) (PV.agg [(PV.int (4:Int)),(PV.int (4:Int))])) (PV.str ([115,101,99,114,101,116]:Bo)) (PV.agg [(PV.int (1:Int)),(PV.int (4:Int))])) (PV.str ([105,100,101,109,112,111,116,101,110,116]:Bo)) (PV.agg [(PV.int (1:Int)),(PV.int (64:Int))])) (PV.str ([116,105,109,101,111,117,116]:Bo)) (PV.agg [(PV.int (4:Int)),(PV.int (64:Int))])) (PV.str ([114,111,117,116,101]:Bo)) (PV.agg [(PV.int (7:Int)),(PV.int (64:Int))])) (PV.str ([111,119,110,101,114]:Bo)) (PV.agg [(PV.int (7:Int)),(PV.int (34:Int))]))
def F145c:CallE:=⟨145,⟨0,[],[]⟩,⟨1,[],[.map 9 166]⟩,λx=>F145 uu ,[]⟩
theorem F145ok:okP (F145c uu):=okJ Tryz.f145 16 0 uu [] [] false q0 p0 L0
def F71 (d:Bo):Option Int:=(F145 uu).bind λo=>let m:=(PV.mget o (PV.str d)).getD (PV.agg [(PV.int (0:Int)),(PV.int (0:Int))]);some ((m.fld 0).asInt)
def F71c:CallE:=⟨71,⟨1,[],[.str]⟩,⟨1,[],[.int .i64]⟩,λx=>F71 uu x,0⟩
theorem F71ok:okP (F71c uu):=okJ Tryz.f71 7 0 uu _ [] false (qc (F145ok uu)<|q0) p0 L0
def F248 (uu:Nat) (d:Int):Option Bool:=some (bif (decide (d>=1)) then (decide (d<=9)) else false)
def F248c:CallE:=⟨248,⟨1,[],[.int .i64]⟩,⟨1,[],[.bool]⟩,λx=>F248 uu x,false⟩
theorem F248ok:okP (F248c uu):=okJ Tryz.f248 9 0 uu [] [] false q0 p0 L0
def F307 (uu:Nat) (d:Int):Option Bool:=some (bif (d==7) then true else (d==8))
def F307c:CallE:=⟨307,⟨1,[],[.int .i64]⟩,⟨1,[],[.bool]⟩,λx=>F307 uu x,false⟩
theorem F307ok:okP (F307c uu):=okJ Tryz.f307 9 0 uu [] [] false q0 p0 L0
def F249 (d:PV):Option Bool:=bif (decide ((IntKind.wrap .i64 ((IntKind.wrap .i64 ((IntKind.wrap .i64 (((d.fld 3).asList.length:Int)+((d.fld 4).asList.length:Int)))+((d.fld 5).asList.length:Int)))+((d.fld 6).asList.length:Int)))>0)) then some false else (F307 uu (d.fld 0).asInt).bind λm=>bif m then some ((d.fld 1).asInt==0) else some ((d.fld 2).asStr==([]:Bo))
def F249c:CallE:=⟨249,⟨1,[],[.data 51]⟩,⟨1,[],[.bool]⟩,λx=>F249 uu x,false⟩
theorem F249ok:okP (F249c uu):=okJ Tryz.f249 28 0 uu _ [] false (qc (F307ok uu)<|q0) p0 L0
def F250 (uu:Nat) (m:Int) (d:Int):Option Bool:=bif (m==1) then some (decide (d<=1)) else bif (m==2) then some (bif (decide ((IntKind.wrap .i64 d)>=(-2147483648:Int))) then (decide ((IntKind.wrap .i64 d)<=2147483647)) else false) else bif (m==9) then some (decide (d<=2147483647)) else bif (m==4) then some (decide (d<=4294967295)) else some true
def F250c:CallE:=⟨250,⟨2,[],[.int .i64,.int .u64]⟩,⟨1,[],[.bool]⟩,λx=>F250 uu x.1 x.2,false⟩
theorem F250ok:okP (F250c uu):=okJ Tryz.f250 28 0 uu [] [] false q0 p0 L0
def F297 (uu:Nat) (d:Bo) (m:Bo):Option Bool:=let z:=decide ((d.length:Int)>=(m.length:Int));let o:=(m.length:Int);bif imp z (decide (0<=(0:Int)/\(0:Int)<=o/\o<=(d.length:Int))) then some (bif z then (((d.take o.toNat).drop (0:Int).toNat)==m) else false) else none
def F297c:CallE:=⟨297,⟨2,[],[.str,.str]⟩,⟨1,[],[.bool]⟩,λx=>F297 uu x.1 x.2,false⟩
theorem F297ok:okP (F297c uu):=okJ Tryz.f297 18 0 uu [] [] false q0 p0 L0
def F230 (d:Bo) (m:Bo):Option Bool:=(F297 uu d m).bind λo=>some o
def F230c:CallE:=⟨230,⟨2,[],[.str,.str]⟩,⟨1,[],[.bool]⟩,λx=>F230 uu x.1 x.2,false⟩
theorem F230ok:okP (F230c uu):=okJ Tryz.f230 8 0 uu _ [] false (qc (F297ok uu)<|q0) p0 L0
def F310 (d:Bo) (m:Int) (o:Int):Option Bool:=let x1:=o==65533;bif imp x1 (decide (0<=m/\m<=(d.length:Int)/\(d.length:Int)<=(d.length:Int))) then (bif x1 then F230 uu ((d.take (d.length:Int).toNat).drop m.toNat) ([239,191,189]:Bo) else some false).bind λz=>some (bif x1 then (!z) else false) else none
def F310c:CallE:=⟨310,⟨3,[],[.str,.int .i64,.int .i32]⟩,⟨1,[],[.bool]⟩,λx=>F310 uu x.1 x.2.1 x.2.2,false⟩
theorem F310ok:okP (F310c uu):=okJ Tryz.f310 16 0 uu _ [] false (qc (F230ok uu)<|q0) p0 L0
abbrev S280_3x:=Bo×Unit×Bo×Int
abbrev S280_3y:=(Int×Bo×Int)⊕(Bo×Int)
def S280_3 (o:Bo) (M:Unit) (m:Bo) (d:Int):Option (S280_3x⊕S280_3y):=bif (decide (d.toNat<m.length)) then bif decide (d.toNat<m.length) then let z:=(d.toNat:Int);bif decide (d.toNat<m.length) then (F310 uu o z ((Utf8.decode ⟨m.toArray⟩ d.toNat).1:Int)).bind λH=>bif H then some (.inr (.inl (z,m,((bif decide (d.toNat<m.length) then d.toNat+(Utf8.decode ⟨m.toArray⟩ d.toNat).2 else d.toNat:Nat):Int)))) else some (.inl (o,(),m,((bif decide (d.toNat<m.length) then d.toNat+(Utf8.decode ⟨m.toArray⟩ d.toNat).2 else d.toNat:Nat):Int))) else none else none else some (.inr (.inr (m,((bif decide (d.toNat<m.length) then d.toNat+(Utf8.decode ⟨m.toArray⟩ d.toNat).2 else d.toNat:Nat):Int))))
def S280_3step (x:S280_3x):Option (S280_3x⊕S280_3y):=S280_3 uu x.1 x.2.1 x.2.2.1 x.2.2.2
def F280 (d:Bo):Option Int:=(aaw uu (S280_3step uu) (d,(),d,((0:Nat):Int))).bind λz=>sumE (λo=>some o.1 ) (λm=>some (-1:Int) ) z
def S280_3l:LoopE:=⟨3,⟨[0,6],[.iter],.str::(.con (.iref 0))::sv0⟩,[(.ret,⟨[2],[.iter],(.int .i64)::sv0⟩),(.exit 0,⟨[],[.iter],sv0⟩)],S280_3step uu⟩
def F280C:Cfg:=cfg Tryz.prog 16 0 [F310c uu] [S280_3l uu] uu
def F280c:CallE:=⟨280,⟨1,[],[.str]⟩,⟨1,[],[.int .i64]⟩,λx=>F280 uu x,0⟩
theorem F280k:aap (F280C uu):=aad (qc (F310ok uu)<|q0) p0
theorem S280_3ok:aai (F280C uu) (lp (aao Tryz.f280) 0):=okL (F280k uu) uu (S280_3l uu) L0
theorem F280ok:okP (F280c uu):=okE Tryz.f280 (F280k uu) (L1 (S280_3ok uu))
def F185 (d:Bo):Option Bool:=(F280 uu d).bind λm=>some (decide (m<0))
def F185c:CallE:=⟨185,⟨1,[],[.str]⟩,⟨1,[],[.bool]⟩,λx=>F185 uu x,false⟩
theorem F185ok:okP (F185c uu):=okJ Tryz.f185 6 0 uu _ [] false (qc (F280ok uu)<|q0) p0 L0
def F146 (o:Int) (d:PV):Option Bool:=(F248 uu o).bind λU=>let M:=bif (!U) then true else ((d.fld 0).asInt != o);(bif !M then F249 uu d else some false).bind λV=>let O:=bif M then true else (!V);(bif !O then F250 uu o (d.fld 1).asInt else some false).bind λz=>bif (bif (bif O then true else (!z)) then true else (decide (((d.fld 2).asStr.length:Int)>4096))) then some false else let m:=o != 7;(bif !m then F185 uu (d.fld 2).asStr else some false).bind λH=>some (bif m then true else H)
def F146c:CallE:=⟨146,⟨2,[],[.int .i64,.data 51]⟩,⟨1,[],[.bool]⟩,λx=>F146 uu x.1 x.2,false⟩
theorem F146ok:okP (F146c uu):=okJ Tryz.f146 39 0 uu _ [] false (qc (F248ok uu)<|qc (F249ok uu)<|qc (F250ok uu)<|qc (F185ok uu)<|q0) p0 L0
def F72 (d:PV):Option Bool:=(F71 uu (d.fld 0).asStr).bind λo=>let m:=o != 0;(bif m then F146 uu o (d.fld 1) else some false).bind λz=>some (bif m then z else false)
def F72c:CallE:=⟨72,⟨1,[],[.data 116]⟩,⟨1,[],[.bool]⟩,λx=>F72 uu x,false⟩
theorem F72ok:okP (F72c uu):=okJ Tryz.f72 15 0 uu _ [] false (qc (F71ok uu)<|qc (F146ok uu)<|q0) p0 L0
def F251 (uu:Nat) (d:Bool):Option Bo:=bif d then some ([116,114,117,101]:Bo) else some ([102,97,108,115,101]:Bo)
def F251c:CallE:=⟨251,⟨1,[],[.bool]⟩,⟨1,[],[.str]⟩,λx=>F251 uu x,[]⟩
theorem F251ok:okP (F251c uu):=okJ Tryz.f251 4 0 uu [] [] false q0 p0 L0
def F147 (d:Bool):Option Bo:=(F251 uu d).bind λm=>some m
def F147c:CallE:=⟨147,⟨1,[],[.bool]⟩,⟨1,[],[.str]⟩,λx=>F147 uu x,[]⟩
theorem F147ok:okP (F147c uu):=okJ Tryz.f147 5 0 uu _ [] false (qc (F251ok uu)<|q0) p0 L0
def F253 (uu:Nat) (d:Int):Option Int:=let x1:=ae2 .and .u64 d (9218868437227405312:Int);let m:=ae2 .and .u64 d (4503599627370495:Int);bif (bif (x1==9218868437227405312) then (m != 0) else false) then some (0:Int) else bif (x1==9218868437227405312) then some (1:Int) else bif (bif (x1==0) then (m==0) else false) then some (2:Int) else bif (x1==0) then some (3:Int) else some (4:Int)
def F253c:CallE:=⟨253,⟨1,[],[.int .u64]⟩,⟨1,[],[.int .i64]⟩,λx=>F253 uu x,0⟩
theorem F253ok:okP (F253c uu):=okJ Tryz.f253 29 0 uu [] [] false q0 p0 L0
def F135 (d:Int) (m:Int):Option Bo:=(Lfmt uu d m).bind λo=>some o
def F135c:CallE:=⟨135,⟨2,[],[.int .u64,.int .i64]⟩,⟨1,[],[.str]⟩,λx=>F135 uu x.1 x.2,[]⟩
theorem F135ok:okP (F135c uu):=okJ Tryz.f135 8 0 uu _ [] false (qc (bm9 uu)<|q0) p0 L0
def F149 (m:Int):Option Bo:=(F253 uu m).bind λo=>bif (o==0) then some ([110,97,110]:Bo) else bif (bif (o==1) then ((ae2 .and .u64 m (9223372036854775808:Int)) != 0) else false) then some ([45,105,110,102]:Bo) else bif (o==1) then some ([105,110,102]:Bo) else (F135 uu m (16:Int)).bind λz=>(aim uu ([48]:Bo) (IntKind.wrap .i64 ((16:Int)-(z.length:Int)))).bind λd=>bif decide (([48,120]:Bo).length+d.length<=aaf) then bif decide ((([48,120]:Bo)++d).length+z.length<=aaf) then some ((([48,120]:Bo)++d)++z) else none else none
def F149c:CallE:=⟨149,⟨1,[],[.int .u64]⟩,⟨1,[],[.str]⟩,λx=>F149 uu x,[]⟩
theorem F149ok:okP (F149c uu):=okJ Tryz.f149 30 0 uu _ [] false (qc (F253ok uu)<|qc (F135ok uu)<|qc (aw3 uu)<|q0) p0 L0
def F311 (uu:Nat) (d:Int):Option Bo:=let x1:=d.fdiv (2^(min (4:Int).toNat (IntKind.bits .u8)));let m:=IntKind.wrap .u8 ((d.fdiv (2^(min (4:Int).toNat (IntKind.bits .u8))))+1);bif decide (0<=x1/\x1<=m/\m<=(([48,49,50,51,52,53,54,55,56,57,97,98,99,100,101,102]:Bo).length:Int)) then let o:=(([48,49,50,51,52,53,54,55,56,57,97,98,99,100,101,102]:Bo).take m.toNat).drop x1.toNat;bif decide (([92,120]:Bo).length+o.length<=aaf) then let z:=ae2 .and .u8 d (15:Int);let H:=IntKind.wrap .u8 ((ae2 .and .u8 d (15:Int))+1);bif decide (0<=z/\z<=H/\H<=(([48,49,50,51,52,53,54,55,56,57,97,98,99,100,101,102]:Bo).length:Int)) then let M:=(([48,49,50,51,52,53,54,55,56,57,97,98,99,100,101,102]:Bo).take H.toNat).drop z.toNat;bif decide ((([92,120]:Bo)++o).length+M.length<=aaf) then some ((([92,120]:Bo)++o)++M) else none else none else none else none
def F311c:CallE:=⟨311,⟨1,[],[.int .u8]⟩,⟨1,[],[.str]⟩,λx=>F311 uu x,[]⟩
theorem F311ok:okP (F311c uu):=okJ Tryz.f311 17 0 uu [] [] false q0 p0 L0
def F240 (m:Bo) (o:Int) (d:Int):Option Bo:=bif (d==34) then some ([92,34]:Bo) else bif (d==92) then some ([92,92]:Bo) else bif (d==10) then some ([92,110]:Bo) else bif (d==9) then some ([92,116]:Bo) else bif (d==13) then some ([92,114]:Bo) else let H:=bif (decide (d<32)) then true else (d==127);(bif !H then F310 uu m o d else some false).bind λM=>bif (bif H then true else M) then bif aaa o m.length then (F311 uu ((m.getD o.toNat 0).toNat:Int)).bind λz=>some z else none else some ((Utf8.encode d).data.toList)
def F240c:CallE:=⟨240,⟨3,[],[.str,.int .i64,.int .i32]⟩,⟨1,[],[.str]⟩,λx=>F240 uu x.1 x.2.1 x.2.2,[]⟩
theorem F240ok:okP (F240c uu):=okJ Tryz.f240 41 0 uu _ [] false (qc (F310ok uu)<|qc (F311ok uu)<|q0) p0 L0
abbrev S134_5x:=Bo×Unit×Unit×Bo×Bo×Int
abbrev S134_5y:=(Unit×Bo×Bo×Int)
def S134_5 (H:Bo) (O:Unit) (U:Unit) (M:Bo) (m:Bo) (d:Int):Option (S134_5x⊕S134_5y):=bif (decide (d.toNat<m.length)) then bif decide (d.toNat<m.length) then bif decide (d.toNat<m.length) then (F240 uu H (d.toNat:Int) ((Utf8.decode ⟨m.toArray⟩ d.toNat).1:Int)).bind λo=>(aa2 uu o M).bind λz=>some (.inl (H,(),(),z.2.2,m,((bif decide (d.toNat<m.length) then d.toNat+(Utf8.decode ⟨m.toArray⟩ d.toNat).2 else d.toNat:Nat):Int))) else none else none else some (.inr ((),M,m,((bif decide (d.toNat<m.length) then d.toNat+(Utf8.decode ⟨m.toArray⟩ d.toNat).2 else d.toNat:Nat):Int)))
def S134_5step (x:S134_5x):Option (S134_5x⊕S134_5y):=S134_5 uu x.1 x.2.1 x.2.2.1 x.2.2.2.1 x.2.2.2.2.1 x.2.2.2.2.2
def F134 (z:Bo):Option Bo:=(aa2 uu ([34]:Bo) []).bind λH=>(aaw uu (S134_5step uu) (z,(),(),H.2.2,z,((0:Nat):Int))).bind λd=>(aa2 uu ([34]:Bo) d.2.1).bind λm=>(ain uu m.2.2).bind λo=>some o.1
def S134_5l:LoopE:=⟨5,⟨[0,3,8],[.bld 106,.iter],.str::(.con (.bref 0 106))::(.con (.iref 1))::sv1⟩,[(.exit 0,⟨[3],[.bld 106,.iter],(.con (.bref 0 106))::sv1⟩)],S134_5step uu⟩
def F134C:Cfg:=cfg Tryz.prog 20 0 [agu uu,F240c uu,aom uu] [S134_5l uu] uu
def F134c:CallE:=⟨134,⟨1,[],[.str]⟩,⟨1,[],[.str]⟩,λx=>F134 uu x,[]⟩
theorem F134k:aap (F134C uu):=aad (qc (alu uu)<|qc (F240ok uu)<|qc (aup uu)<|q0) p0
theorem S134_5ok:aai (F134C uu) (lp (aao Tryz.f134) 0):=okL (F134k uu) uu (S134_5l uu) L0
theorem F134ok:okP (F134c uu):=okE Tryz.f134 (F134k uu) (L1 (S134_5ok uu))
abbrev S150_4x:=Bo×(List PV)×Int×Int
abbrev S150_4y:=((List PV))
def S150_4 (uu:Nat) (m:Bo) (O:List PV) (U:Int) (d:Int):Option (S150_4x⊕S150_4y):=bif (decide (d<U)) then bif aaa d m.length then let o:=((m.getD d.toNat 0).toNat:Int).fdiv (2^(min (4:Int).toNat (IntKind.bits .u8)));bif aaa o (([48,49,50,51,52,53,54,55,56,57,97,98,99,100,101,102]:Bo).length) then let z:=((([48,49,50,51,52,53,54,55,56,57,97,98,99,100,101,102]:Bo).getD o.toNat 0).toNat:Int);bif aaa d m.length then let H:=ae2 .and .u8 ((m.getD d.toNat 0).toNat:Int) (15:Int);bif aaa H (([48,49,50,51,52,53,54,55,56,57,97,98,99,100,101,102]:Bo).length) then let M:=((([48,49,50,51,52,53,54,55,56,57,97,98,99,100,101,102]:Bo).getD H.toNat 0).toNat:Int);bif decide (O.length+[(PV.int z),(PV.int M)].length<=aak) then some (.inl (m,(O++[(PV.int z),(PV.int M)]),U,(IntKind.wrap .i64 (d+1)))) else none else none else none else none else none else some (.inr O)
def S150_4step (x:S150_4x):Option (S150_4x⊕S150_4y):=S150_4 uu x.1 x.2.1 x.2.2.1 x.2.2.2
def F150 (d:Bo):Option Bo:=let o:=IntKind.wrap .i64 ((2:Int)*(d.length:Int));bif decide (0<=o/\o<=aak) then (aaw uu (S150_4step uu) (d,[],(d.length:Int),(0:Int))).bind λm=>some (m.map aa4) else none
def S150_4l:LoopE:=⟨4,⟨[0,3,10,11],[.acc],.str::(.acc 0 5)::sv2⟩,[(.exit 0,⟨[3],[.acc],[.acc 0 5]⟩)],S150_4step uu⟩
def F150C:Cfg:=cfg Tryz.prog 30 0 [] [S150_4l uu] uu
def F150c:CallE:=⟨150,⟨1,[],[.str]⟩,⟨1,[],[.str]⟩,λx=>F150 uu x,[]⟩
theorem F150k:aap (F150C uu):=aad q0 p0
theorem S150_4ok:aai (F150C uu) (lp (aao Tryz.f150) 0):=okL (F150k uu) uu (S150_4l uu) L0
theorem F150ok:okP (F150c uu):=okE Tryz.f150 (F150k uu) (L1 (S150_4ok uu))
def F73 (d:PV):Option Bo:=(F146 uu (d.fld 0).asInt d).bind λW=>bif (!W) then some ([]:Bo) else let m:=(d.fld 0).asInt;bif (m==1) then (F147 uu ((d.fld 1).asInt==1)).bind λX=>some X else bif (m==2) then (alt uu (IntKind.wrap .i64 (d.fld 1).asInt)).bind λz=>some z else bif (m==3) then (alt uu (IntKind.wrap .i64 (d.fld 1).asInt)).bind λH=>some H else bif (m==6) then (F149 uu (d.fld 1).asInt).bind λM=>some M else bif (m==7) then (F134 uu (d.fld 2).asStr).bind λO=>some O else bif (m==8) then (F150 uu (d.fld 2).asStr).bind λU=>(F134 uu U).bind λo=>bif decide (([120]:Bo).length+o.length<=aaf) then some (([120]:Bo)++o) else none else (F135 uu (d.fld 1).asInt (10:Int)).bind λV=>some V
def F73c:CallE:=⟨73,⟨1,[],[.data 51]⟩,⟨1,[],[.str]⟩,λx=>F73 uu x,[]⟩
theorem F73ok:okP (F73c uu):=okJ Tryz.f73 43 0 uu _ [] false (qc (F146ok uu)<|qc (F147ok uu)<|qc (auk uu)<|qc (F149ok uu)<|qc (F134ok uu)<|qc (F150ok uu)<|qc (F135ok uu)<|q0) p0 L0
abbrev S34_4x:=(List PV)×(List PV)×Int×Int
abbrev S34_4y:=(Bo)⊕((List PV))
def S34_4 (M:List PV) (O:List PV) (V:Int) (H:Int):Option (S34_4x⊕S34_4y):=bif (decide (H<V)) then bif aaa H O.length then let U:=O.getD H.toNat .bad;(F72 uu U).bind λW=>bif (!W) then some (.inr (.inl ([]:Bo))) else let d:=(U.fld 0).asStr;bif decide (d.length+([32,61,32]:Bo).length<=aaf) then let m:=d++([32,61,32]:Bo);(F73 uu (U.fld 1)).bind λz=>bif decide (m.length+z.length<=aaf) then let o:=m++z;bif decide (M.length+[(PV.str o)].length<=aak) then some (.inl ((M++[(PV.str o)]),O,V,(IntKind.wrap .i64 (H+1)))) else none else none else none else none else some (.inr (.inr M))
def S34_4step (x:S34_4x):Option (S34_4x⊕S34_4y):=S34_4 uu x.1 x.2.1 x.2.2.1 x.2.2.2
def F34 (H:List PV):Option Bo:=(aaw uu (S34_4step uu) ([],H,(H.length:Int),(0:Int))).bind λz=>sumE (λo=>some o ) (λm=>bif ((m.length:Int)==0) then some ([]:Bo) else (aqe uu m ([44,32]:Bo)).bind λd=>bif decide (([91]:Bo).length+d.length<=aaf) then bif decide ((([91]:Bo)++d).length+([93]:Bo).length<=aaf) then some ((([91]:Bo)++d)++([93]:Bo)) else none else none ) z
def S34_4l:LoopE:=⟨4,⟨[3,6,7,8],[.acc],(.acc 0 9)::sv3⟩,[(.ret,⟨[2],[.acc],[.str]⟩),(.exit 0,⟨[3],[.acc],[.acc 0 9]⟩)],S34_4step uu⟩
def F34C:Cfg:=cfg Tryz.prog 33 0 [F72c uu,F73c uu,a3c uu] [S34_4l uu] uu
def F34c:CallE:=⟨34,⟨1,[],[.slice 116]⟩,⟨1,[],[.str]⟩,λx=>F34 uu x,[]⟩
theorem F34k:aap (F34C uu):=aad (qc (F72ok uu)<|qc (F73ok uu)<|qc (azy uu)<|q0) p0
theorem S34_4ok:aai (F34C uu) (lp (aao Tryz.f34) 0):=okL (F34k uu) uu (S34_4l uu) L0
theorem F34ok:okP (F34c uu):=okE Tryz.f34 (F34k uu) (L1 (S34_4ok uu))
def F144 (d:PV) (m:Int) (z:Bo) (H:Bool):Option Int:=(F145 uu).bind λU=>let M:=(d.fld 0).asStr;let V:=(PV.mget U (PV.str M)).getD (PV.agg [(PV.int (0:Int)),(PV.int (0:Int))]);bif (!(PV.mhas U (PV.str M))) then some (8:Int) else let O:=bif (decide (m<1)) then true else (decide (m>6));bif imp (!O) (decide (0<=m)) then bif (bif O then true else ((ae2 .and .i64 ((V.fld 1).asInt.fdiv (2^(min m.toNat (IntKind.bits .i64)))) (1:Int))==0)) then some (1:Int) else (F72 uu d).bind λo=>bif (!o) then some (12:Int) else bif (bif H then (Op.bytesLess (d.fld 0).asStr z) else false) then some (11:Int) else bif (bif H then ((d.fld 0).asStr==z) else false) then some (9:Int) else some (0:Int) else none
def F144c:CallE:=⟨144,⟨4,[],[.data 116,.int .i64,.str,.bool]⟩,⟨1,[],[.int .i64]⟩,λx=>F144 uu x.1 x.2.1 x.2.2.1 x.2.2.2,0⟩
theorem F144ok:okP (F144c uu):=okJ Tryz.f144 56 0 uu _ [] false (qc (F145ok uu)<|qc (F72ok uu)<|q0) p0 L0
abbrev S70_6x:=Int×Bo×(List PV)×Int×Int
abbrev S70_6y:=(Int)⊕(Unit)
def S70_6 (H:Int) (O:Bo) (z:List PV) (M:Int) (d:Int):Option (S70_6x⊕S70_6y):=bif (decide (d<M)) then bif aaa d z.length then let m:=z.getD d.toNat .bad;(F144 uu m H O (decide (d>0))).bind λo=>bif (o != 0) then some (.inr (.inl o)) else some (.inl (H,(m.fld 0).asStr,z,M,(IntKind.wrap .i64 (d+1)))) else none else some (.inr (.inr ()))
def S70_6step (x:S70_6x):Option (S70_6x⊕S70_6y):=S70_6 uu x.1 x.2.1 x.2.2.1 x.2.2.2.1 x.2.2.2.2
def F70 (d:List PV) (o:Int):Option Int:=bif (decide ((d.length:Int)>8)) then some (3:Int) else (aaw uu (S70_6step uu) (o,([]:Bo),d,(d.length:Int),(0:Int))).bind λz=>sumE (λm=>some m ) (λH=>some (0:Int) ) z
def S70_6l:LoopE:=⟨6,⟨[1,5,12,13,14],[],(.int .i64)::.str::sv3⟩,[(.ret,⟨[4],[],[.int .i64]⟩),(.exit 0,⟨[],[],[]⟩)],S70_6step uu⟩
def F70C:Cfg:=cfg Tryz.prog 31 0 [F144c uu] [S70_6l uu] uu
def F70c:CallE:=⟨70,⟨2,[],[.slice 116,.int .i64]⟩,⟨1,[],[.int .i64]⟩,λx=>F70 uu x.1 x.2,0⟩
theorem F70k:aap (F70C uu):=aad (qc (F144ok uu)<|q0) p0
theorem S70_6ok:aai (F70C uu) (lp (aao Tryz.f70) 0):=okL (F70k uu) uu (S70_6l uu) L0
theorem F70ok:okP (F70c uu):=okE Tryz.f70 (F70k uu) (L1 (S70_6ok uu))
def F231 (uu:Nat) (d:Int):Option Bool:=some (bif (bif (decide (d>=97)) then (decide (d<=122)) else false) then true else (bif (decide (d>=65)) then (decide (d<=90)) else false))
def F231c:CallE:=⟨231,⟨1,[],[.int .u8]⟩,⟨1,[],[.bool]⟩,λx=>F231 uu x,false⟩
theorem F231ok:okP (F231c uu):=okJ Tryz.f231 17 0 uu [] [] false q0 p0 L0
def F232 (uu:Nat) (d:Int):Option Bool:=some (bif (decide (d>=48)) then (decide (d<=57)) else false)
def F232c:CallE:=⟨232,⟨1,[],[.int .u8]⟩,⟨1,[],[.bool]⟩,λx=>F232 uu x,false⟩
theorem F232ok:okP (F232c uu):=okJ Tryz.f232 9 0 uu [] [] false q0 p0 L0
def F142 (d:Bo):Option Bool:=let m:=(d.length:Int)==1;(bif m then aqc uu ([123,125,91,93,40,41,60,62,61,59,44,64,45]:Bo) d else some false).bind λo=>some (bif m then o else false)
def F142c:CallE:=⟨142,⟨1,[],[.str]⟩,⟨1,[],[.bool]⟩,λx=>F142 uu x,false⟩
theorem F142ok:okP (F142c uu):=okJ Tryz.f142 10 0 uu _ [] false (qc (azx uu)<|q0) p0 L0
def F123 (d:Bo):Option Int:=bif aaa (0:Int) d.length then let x1:=((d.getD (0:Int).toNat 0).toNat:Int);bif (bif (bif (bif (x1==32) then true else (x1==9)) then true else (x1==13)) then true else (x1==10)) then some (1:Int) else (F230 uu d ([47,47]:Bo)).bind λO=>bif O then some (2:Int) else (F231 uu x1).bind λo=>let m:=bif (x1==46) then (decide ((d.length:Int)>1)) else false;bif imp (bif m then !o else false) (aaa (1:Int) d.length) then (bif bif m then !o else false then F231 uu ((d.getD (1:Int).toNat 0).toNat:Int) else some false).bind λz=>bif (bif o then true else (bif m then z else false)) then some (3:Int) else (F232 uu x1).bind λH=>bif H then some (4:Int) else bif (x1==34) then some (5:Int) else bif decide (0<=(0:Int)/\(0:Int)<=1/\(1:Int)<=(d.length:Int)) then (F142 uu ((d.take (1:Int).toNat).drop (0:Int).toNat)).bind λM=>bif M then some (6:Int) else some (0:Int) else none else none else none
def F123c:CallE:=⟨123,⟨1,[],[.str]⟩,⟨1,[],[.int .i64]⟩,λx=>F123 uu x,0⟩
theorem F123ok:okP (F123c uu):=okJ Tryz.f123 51 0 uu _ [] false (qc (F230ok uu)<|qc (F231ok uu)<|qc (F232ok uu)<|qc (F142ok uu)<|q0) p0 L0
def F125 (uu:Nat) (d:Int):Option Bool:=some (d != 10)
def F125c:CallE:=⟨125,⟨1,[],[.int .u8]⟩,⟨1,[],[.bool]⟩,λx=>F125 uu x,false⟩
theorem F125ok:okP (F125c uu):=okJ Tryz.f125 5 0 uu [] [] false q0 p0 L0
abbrev S124_3x:=Bo×Unit×Int
abbrev S124_3y:=(Int)
def S124_3 (m:Bo) (H:Unit) (d:Int):Option (S124_3x⊕S124_3y):=let o:=decide (d<(m.length:Int));bif imp o (aaa d m.length) then (bif o then F125 uu ((m.getD d.toNat 0).toNat:Int) else some false).bind λz=>bif (bif o then z else false) then some (.inl (m,(),(IntKind.wrap .i64 (d+1)))) else some (.inr d) else none
def S124_3step (x:S124_3x):Option (S124_3x⊕S124_3y):=S124_3 uu x.1 x.2.1 x.2.2
def F124 (m:Bo) (o:Unit):Option Int:=(aaw uu (S124_3step uu) (m,(),(0:Int))).bind λd=>some d
def S124_3l:LoopE:=⟨3,⟨[0,1,5],[],[.str,(.con (.fn 125 0 [])),.int .i64]⟩,[(.exit 0,⟨[5],[],[.int .i64]⟩)],S124_3step uu⟩
def F124C:Cfg:=cfg Tryz.prog 20 0 [F125c uu] [S124_3l uu] uu
def F124c:CallE:=⟨124,⟨2,[],[.str,(.con (.fn 125 0 []))]⟩,⟨1,[],[.int .i64]⟩,λx=>F124 uu x.1 x.2,0⟩
theorem F124k:aap (F124C uu):=aad (qc (F125ok uu)<|q0) p0
theorem S124_3ok:aai (F124C uu) (lp (aao Tryz.f124) 0):=okL (F124k uu) uu (S124_3l uu) L0
theorem F124ok:okP (F124c uu):=okE Tryz.f124 (F124k uu) (L1 (S124_3ok uu))
def S59_3 (d:Bo) (m:Int):Option ((Bo×Int)⊕((Int)⊕(Int))):=bif (decide (m<(d.length:Int))) then bif decide (0<=m/\m<=(d.length:Int)/\(d.length:Int)<=(d.length:Int)) then (F123 uu ((d.take (d.length:Int).toNat).drop m.toNat)).bind λz=>bif (z==1) then some (.inl (d,(IntKind.wrap .i64 (m+1)))) else bif (z==2) then bif decide (0<=m/\m<=(d.length:Int)/\(d.length:Int)<=(d.length:Int)) then (F124 uu ((d.take (d.length:Int).toNat).drop m.toNat) ()).bind λo=>some (.inl (d,(IntKind.wrap .i64 (m+o)))) else none else some (.inr (.inl m)) else none else some (.inr (.inr m))
def S59_3step (x:Bo×Int):Option ((Bo×Int)⊕((Int)⊕(Int))):=S59_3 uu x.1 x.2
def F59 (o:Bo):Option Int:=(aaw uu (S59_3step uu) (o,(0:Int))).bind λz=>sumE (λd=>some d ) (λm=>some m ) z
def S59_3l:LoopE:=⟨3,⟨[0,3],[],sv0⟩,[(.ret,⟨[2],[],[.int .i64]⟩),(.exit 0,⟨[3],[],[.int .i64]⟩)],S59_3step uu⟩
def F59C:Cfg:=cfg Tryz.prog 26 0 [F123c uu,F124c uu] [S59_3l uu] uu
def F59c:CallE:=⟨59,⟨1,[],[.str]⟩,⟨1,[],[.int .i64]⟩,λx=>F59 uu x,0⟩
theorem F59k:aap (F59C uu):=aad (qc (F123ok uu)<|qc (F124ok uu)<|q0) p0
theorem S59_3ok:aai (F59C uu) (lp (aao Tryz.f59) 0):=okL (F59k uu) uu (S59_3l uu) L0
theorem F59ok:okP (F59c uu):=okE Tryz.f59 (F59k uu) (L1 (S59_3ok uu))
def F235 (d:Int):Option Bool:=(F231 uu d).bind λm=>(bif !m then F232 uu d else some false).bind λo=>some (bif (bif m then true else o) then true else (d==95))
def F235c:CallE:=⟨235,⟨1,[],[.int .u8]⟩,⟨1,[],[.bool]⟩,λx=>F235 uu x,false⟩
theorem F235ok:okP (F235c uu):=okJ Tryz.f235 13 0 uu _ [] false (qc (F231ok uu)<|qc (F232ok uu)<|q0) p0 L0
abbrev S124_v1_3x:=Bo×Unit×Int
abbrev S124_v1_3y:=(Int)
def S124_v1_3 (m:Bo) (H:Unit) (d:Int):Option (S124_v1_3x⊕S124_v1_3y):=let o:=decide (d<(m.length:Int));bif imp o (aaa d m.length) then (bif o then F235 uu ((m.getD d.toNat 0).toNat:Int) else some false).bind λz=>bif (bif o then z else false) then some (.inl (m,(),(IntKind.wrap .i64 (d+1)))) else some (.inr d) else none
def S124_v1_3step (x:S124_v1_3x):Option (S124_v1_3x⊕S124_v1_3y):=S124_v1_3 uu x.1 x.2.1 x.2.2
def F124_v1 (m:Bo) (o:Unit):Option Int:=(aaw uu (S124_v1_3step uu) (m,(),(0:Int))).bind λd=>some d
def S124_v1_3l:LoopE:=⟨3,⟨[0,1,5],[],[.str,(.con (.fn 235 0 [])),.int .i64]⟩,[(.exit 0,⟨[5],[],[.int .i64]⟩)],S124_v1_3step uu⟩
def F124_v1C:Cfg:=cfg Tryz.prog 20 0 [F235c uu] [S124_v1_3l uu] uu
def F124_v1c:CallE:=⟨124,⟨2,[],[.str,(.con (.fn 235 0 []))]⟩,⟨1,[],[.int .i64]⟩,λx=>F124_v1 uu x.1 x.2,0⟩
theorem F124_v1k:aap (F124_v1C uu):=aad (qc (F235ok uu)<|q0) p0
theorem S124_v1_3ok:aai (F124_v1C uu) (lp (aao Tryz.f124) 0):=okL (F124_v1k uu) uu (S124_v1_3l uu) L0
theorem F124_v1ok:okP (F124_v1c uu):=okE Tryz.f124 (F124_v1k uu) (L1 (S124_v1_3ok uu))
def S234_5 (d:Bo) (M:Int):Option ((Bo×Int)⊕((Int))):=bif decide (0<=M/\M<=(d.length:Int)/\(d.length:Int)<=(d.length:Int)) then (F124_v1 uu ((d.take (d.length:Int).toNat).drop M.toNat) ()).bind λU=>let o:=IntKind.wrap .i64 (M+U);let z:=decide ((IntKind.wrap .i64 (o+1))>=(d.length:Int));bif imp (!z) (aaa o d.length) then let m:=bif z then true else (((d.getD o.toNat 0).toNat:Int) != 46);let H:=IntKind.wrap .i64 (o+1);bif imp (!m) (aaa H d.length) then (bif !m then F231 uu ((d.getD H.toNat 0).toNat:Int) else some false).bind λO=>bif (bif m then true else (!O)) then some (.inr o) else some (.inl (d,(IntKind.wrap .i64 (o+1)))) else none else none else none
def S234_5step (x:Bo×Int):Option ((Bo×Int)⊕((Int))):=S234_5 uu x.1 x.2
def F234 (d:Bo):Option Int:=bif aaa (0:Int) d.length then bif (((d.getD (0:Int).toNat 0).toNat:Int)==46) then (aaw uu (S234_5step uu) (d,(1:Int))).bind λm=>some m else (aaw uu (S234_5step uu) (d,(0:Int))).bind λo=>some o else none
def S234_5l:LoopE:=⟨5,⟨[0,3],[],sv0⟩,[(.ret,⟨[2],[],[.int .i64]⟩)],S234_5step uu⟩
def F234C:Cfg:=cfg Tryz.prog 35 0 [F124_v1c uu,F231c uu] [S234_5l uu] uu
def F234c:CallE:=⟨234,⟨1,[],[.str]⟩,⟨1,[],[.int .i64]⟩,λx=>F234 uu x,0⟩
theorem F234k:aap (F234C uu):=aad (qc (F124_v1ok uu)<|qc (F231ok uu)<|q0) p0
theorem S234_5ok:aai (F234C uu) (lp (aao Tryz.f234) 0):=okL (F234k uu) uu (S234_5l uu) L0
theorem F234ok:okP (F234c uu):=okE Tryz.f234 (F234k uu) (L1 (S234_5ok uu))
def F245 (d:Bo) (o:Bo):Option Bo:=(F297 uu d o).bind λz=>bif z then let m:=(o.length:Int);bif decide (0<=m/\m<=(d.length:Int)/\(d.length:Int)<=(d.length:Int)) then some ((d.take (d.length:Int).toNat).drop m.toNat) else none else some d
def F245c:CallE:=⟨245,⟨2,[],[.str,.str]⟩,⟨1,[],[.str]⟩,λx=>F245 uu x.1 x.2,[]⟩
theorem F245ok:okP (F245c uu):=okJ Tryz.f245 13 0 uu _ [] false (qc (F297ok uu)<|q0) p0 L0
def F141 (d:Bo) (m:Bo):Option Bo:=(F245 uu d m).bind λo=>some o
def F141c:CallE:=⟨141,⟨2,[],[.str,.str]⟩,⟨1,[],[.str]⟩,λx=>F141 uu x.1 x.2,[]⟩
theorem F141ok:okP (F141c uu):=okJ Tryz.f141 8 0 uu _ [] false (qc (F245ok uu)<|q0) p0 L0
def F285 (uu:Nat) (d:Int):Option Int:=bif (bif (decide (d>=97)) then (decide (d<=122)) else false) then some (1:Int) else bif (bif (decide (d>=65)) then (decide (d<=90)) else false) then some (2:Int) else bif (bif (decide (d>=48)) then (decide (d<=57)) else false) then some (3:Int) else bif (d==95) then some (4:Int) else some (0:Int)
def F285c:CallE:=⟨285,⟨1,[],[.int .i32]⟩,⟨1,[],[.int .i64]⟩,λx=>F285 uu x,0⟩
theorem F285ok:okP (F285c uu):=okJ Tryz.f285 27 0 uu [] [] false q0 p0 L0
abbrev S202_3x:=Bo×Unit×Bo×Int
abbrev S202_3y:=(Bool×Bo×Int)⊕(Bo×Bo×Int)
def S202_3 (z:Bo) (H:Unit) (m:Bo) (d:Int):Option (S202_3x⊕S202_3y):=bif (decide (d.toNat<m.length)) then bif decide (d.toNat<m.length) then bif decide (d.toNat<m.length) then (F285 uu ((Utf8.decode ⟨m.toArray⟩ d.toNat).1:Int)).bind λo=>bif (bif (o==0) then true else (bif (bif ((d.toNat:Int)==0) then (o != 1) else false) then (o != 2) else false)) then some (.inr (.inl (false,m,((bif decide (d.toNat<m.length) then d.toNat+(Utf8.decode ⟨m.toArray⟩ d.toNat).2 else d.toNat:Nat):Int)))) else some (.inl (z,(),m,((bif decide (d.toNat<m.length) then d.toNat+(Utf8.decode ⟨m.toArray⟩ d.toNat).2 else d.toNat:Nat):Int))) else none else none else some (.inr (.inr (z,m,((bif decide (d.toNat<m.length) then d.toNat+(Utf8.decode ⟨m.toArray⟩ d.toNat).2 else d.toNat:Nat):Int))))
def S202_3step (x:S202_3x):Option (S202_3x⊕S202_3y):=S202_3 uu x.1 x.2.1 x.2.2.1 x.2.2.2
def F202 (o:Bo):Option Bool:=(aaw uu (S202_3step uu) (o,(),o,((0:Nat):Int))).bind λz=>sumE (λm=>some m.1 ) (λd=>some (bif (decide ((d.1.length:Int)>=1)) then (decide ((d.1.length:Int)<=40)) else false) ) z
def S202_3l:LoopE:=⟨3,⟨[0,7],[.iter],.str::(.con (.iref 0))::sv0⟩,[(.ret,⟨[2],[.iter],.bool::sv0⟩),(.exit 0,⟨[0],[.iter],sv1⟩)],S202_3step uu⟩
def F202C:Cfg:=cfg Tryz.prog 36 0 [F285c uu] [S202_3l uu] uu
def F202c:CallE:=⟨202,⟨1,[],[.str]⟩,⟨1,[],[.bool]⟩,λx=>F202 uu x,false⟩
theorem F202k:aap (F202C uu):=aad (qc (F285ok uu)<|q0) p0
theorem S202_3ok:aai (F202C uu) (lp (aao Tryz.f202) 0):=okL (F202k uu) uu (S202_3l uu) L0
theorem F202ok:okP (F202c uu):=okE Tryz.f202 (F202k uu) (L1 (S202_3ok uu))
abbrev S140_3x:=Bo×(List PV)×Int×Int
abbrev S140_3y:=(Bool)⊕(Bo)
def S140_3 (z:Bo) (m:List PV) (H:Int) (d:Int):Option (S140_3x⊕S140_3y):=bif (decide (d<H)) then bif aaa d m.length then (F202 uu (m.getD d.toNat .bad).asStr).bind λo=>bif (!o) then some (.inr (.inl false)) else some (.inl (z,m,H,(IntKind.wrap .i64 (d+1)))) else none else some (.inr (.inr z))
def S140_3step (x:S140_3x):Option (S140_3x⊕S140_3y):=S140_3 uu x.1 x.2.1 x.2.2.1 x.2.2.2
def F140 (o:Bo):Option Bool:=(aol uu o ([46]:Bo)).bind λH=>(aaw uu (S140_3step uu) (o,H,(H.length:Int),(0:Int))).bind λz=>sumE (λd=>some d ) (λm=>some (decide ((m.length:Int)<=120)) ) z
def S140_3l:LoopE:=⟨3,⟨[0,6,7,8],[],.str::(.slice 9)::sv2⟩,[(.ret,⟨[2],[],[.bool]⟩),(.exit 0,⟨[0],[],[.str]⟩)],S140_3step uu⟩
def F140C:Cfg:=cfg Tryz.prog 19 0 [aun uu,F202c uu] [S140_3l uu] uu
def F140c:CallE:=⟨140,⟨1,[],[.str]⟩,⟨1,[],[.bool]⟩,λx=>F140 uu x,false⟩
theorem F140k:aap (F140C uu):=aad (qc (auo uu)<|qc (F202ok uu)<|q0) p0
theorem S140_3ok:aai (F140C uu) (lp (aao Tryz.f140) 0):=okL (F140k uu) uu (S140_3l uu) L0
theorem F140ok:okP (F140c uu):=okE Tryz.f140 (F140k uu) (L1 (S140_3ok uu))
def F129 (m:Bo):Option (PV×Int×Int):=(F234 uu m).bind λd=>bif decide (0<=(0:Int)/\(0:Int)<=d/\d<=(m.length:Int)) then (F141 uu ((m.take d.toNat).drop (0:Int).toNat) ([46]:Bo)).bind λo=>(F140 uu o).bind λz=>bif (!z) then some ((PV.agg [(PV.int (0:Int)),(PV.str ([]:Bo)),(PV.int (0:Int)),(PV.int (0:Int))]),(0:Int),(8:Int)) else bif decide (0<=(0:Int)/\(0:Int)<=d/\d<=(m.length:Int)) then some ((PV.agg [(PV.int (1:Int)),(PV.str ((m.take d.toNat).drop (0:Int).toNat)),(PV.int (0:Int)),(PV.int (0:Int))]),d,(0:Int)) else none else none
def F129c:CallE:=⟨129,⟨1,[],[.str]⟩,⟨3,[],sv4⟩,λx=>F129 uu x,(PV.bad,0,0)⟩
theorem F129ok:okP (F129c uu):=okJ Tryz.f129 20 0 uu _ [] false (qc (F234ok uu)<|qc (F141ok uu)<|qc (F140ok uu)<|q0) p0 L0
abbrev S124_v2_3x:=Bo×Unit×Int
abbrev S124_v2_3y:=(Int)
def S124_v2_3 (m:Bo) (H:Unit) (d:Int):Option (S124_v2_3x⊕S124_v2_3y):=let o:=decide (d<(m.length:Int));bif imp o (aaa d m.length) then (bif o then F232 uu ((m.getD d.toNat 0).toNat:Int) else some false).bind λz=>bif (bif o then z else false) then some (.inl (m,(),(IntKind.wrap .i64 (d+1)))) else some (.inr d) else none
def S124_v2_3step (x:S124_v2_3x):Option (S124_v2_3x⊕S124_v2_3y):=S124_v2_3 uu x.1 x.2.1 x.2.2
def F124_v2 (m:Bo) (o:Unit):Option Int:=(aaw uu (S124_v2_3step uu) (m,(),(0:Int))).bind λd=>some d
def S124_v2_3l:LoopE:=⟨3,⟨[0,1,5],[],[.str,(.con (.fn 232 0 [])),.int .i64]⟩,[(.exit 0,⟨[5],[],[.int .i64]⟩)],S124_v2_3step uu⟩
def F124_v2C:Cfg:=cfg Tryz.prog 20 0 [F232c uu] [S124_v2_3l uu] uu
def F124_v2c:CallE:=⟨124,⟨2,[],[.str,(.con (.fn 232 0 []))]⟩,⟨1,[],[.int .i64]⟩,λx=>F124_v2 uu x.1 x.2,0⟩
theorem F124_v2k:aap (F124_v2C uu):=aad (qc (F232ok uu)<|q0) p0
theorem S124_v2_3ok:aai (F124_v2C uu) (lp (aao Tryz.f124) 0):=okL (F124_v2k uu) uu (S124_v2_3l uu) L0
theorem F124_v2ok:okP (F124_v2c uu):=okE Tryz.f124 (F124_v2k uu) (L1 (S124_v2_3ok uu))
def F130 (d:Bo):Option (PV×Int×Int):=(F124_v2 uu d ()).bind λm=>let M:=decide (m>1);bif imp M (aaa (0:Int) d.length) then let z:=bif M then (((d.getD (0:Int).toNat 0).toNat:Int)==48) else false;let H:=decide (m<(d.length:Int));bif imp (bif H then !z else false) (aaa m d.length) then (bif bif H then !z else false then F235 uu ((d.getD m.toNat 0).toNat:Int) else some false).bind λO=>bif (bif z then true else (bif H then O else false)) then some ((PV.agg [(PV.int (0:Int)),(PV.str ([]:Bo)),(PV.int (0:Int)),(PV.int (0:Int))]),(0:Int),(2:Int)) else bif decide (0<=(0:Int)/\(0:Int)<=m/\m<=(d.length:Int)) then (ace uu ((d.take m.toNat).drop (0:Int).toNat) (10:Int) (64:Int)).bind λo=>bif (!o.2) then some ((PV.agg [(PV.int (0:Int)),(PV.str ([]:Bo)),(PV.int (0:Int)),(PV.int (0:Int))]),(0:Int),(6:Int)) else some ((PV.agg [(PV.int (2:Int)),(PV.str ([]:Bo)),(PV.int (IntKind.wrap .i64 o.1)),(PV.int (0:Int))]),m,(0:Int)) else none else none else none
def F130c:CallE:=⟨130,⟨1,[],[.str]⟩,⟨3,[],sv4⟩,λx=>F130 uu x,(PV.bad,0,0)⟩
theorem F130ok:okP (F130c uu):=okJ Tryz.f130 44 0 uu _ [] false (qc (F124_v2ok uu)<|qc (F235ok uu)<|qc (ail uu)<|q0) p0 L0
def F304 (uu:Nat) (d:Int):Option (Int×Bool):=bif (d==34) then some (d,true) else bif (d==92) then some (d,true) else bif (d==110) then some ((10:Int),true) else bif (d==116) then some ((9:Int),true) else bif (d==114) then some ((13:Int),true) else some ((0:Int),false)
def F304c:CallE:=⟨304,⟨1,[],[.int .u8]⟩,⟨2,[],[.int .u8,.bool]⟩,λx=>F304 uu x,(0,false)⟩
theorem F304ok:okP (F304c uu):=okJ Tryz.f304 15 0 uu [] [] false q0 p0 L0
def F305 (d:Int):Option Int:=(as8 uu ([48,49,50,51,52,53,54,55,56,57,97,98,99,100,101,102]:Bo) d).bind λm=>some m
def F305c:CallE:=⟨305,⟨1,[],[.int .u8]⟩,⟨1,[],[.int .i64]⟩,λx=>F305 uu x,0⟩
theorem F305ok:okP (F305c uu):=okJ Tryz.f305 5 0 uu _ [] false (qc (aw0 uu)<|q0) p0 L0
def F237 (d:Bo) (m:Int):Option (Int×Int):=bif (decide ((IntKind.wrap .i64 (m+1))>=(d.length:Int))) then some ((0:Int),(0:Int)) else let x4:=IntKind.wrap .i64 (m+1);bif aaa x4 d.length then (F304 uu ((d.getD x4.toNat 0).toNat:Int)).bind λy6=>bif y6.2 then some (y6.1,(2:Int)) else let x9:=IntKind.wrap .i64 (m+1);bif aaa x9 d.length then let o:=bif (((d.getD x9.toNat 0).toNat:Int) != 120) then true else (decide ((IntKind.wrap .i64 (m+3))>=(d.length:Int)));let H:=IntKind.wrap .i64 (m+2);bif imp (!o) (aaa H d.length) then (bif !o then F305 uu ((d.getD H.toNat 0).toNat:Int) else some 0).bind λW=>let z:=bif o then true else (decide (W<0));let M:=IntKind.wrap .i64 (m+3);bif imp (!z) (aaa M d.length) then (bif !z then F305 uu ((d.getD M.toNat 0).toNat:Int) else some 0).bind λX=>bif (bif z then true else (decide (X<0))) then some ((0:Int),(0:Int)) else let O:=IntKind.wrap .i64 (m+2);bif aaa O d.length then (F305 uu ((d.getD O.toNat 0).toNat:Int)).bind λY=>let V:=IntKind.wrap .i64 (Y*2^(min (4:Int).toNat (IntKind.bits .i64)));let U:=IntKind.wrap .i64 (m+3);bif aaa U d.length then (F305 uu ((d.getD U.toNat 0).toNat:Int)).bind λZ=>some ((IntKind.wrap .u8 (ae2 .or .i64 V Z)),(4:Int)) else none else none else none else none else none else none
def F237c:CallE:=⟨237,⟨2,[],sv0⟩,⟨2,[],[.int .u8,.int .i64]⟩,λx=>F237 uu x.1 x.2,(0,0)⟩
theorem F237ok:okP (F237c uu):=okJ Tryz.f237 64 0 uu _ [] false (qc (F304ok uu)<|qc (F305ok uu)<|q0) p0 L0
abbrev S131_6x:=Bo×(List PV)×Int
abbrev S131_6y:=(Bo×Int×Int)⊕(Bo×(List PV)×Int)
def S131_6 (d:Bo) (z:List PV) (m:Int):Option (S131_6x⊕S131_6y):=let U:=decide (m<(d.length:Int));bif imp U (aaa m d.length) then bif (bif U then (((d.getD m.toNat 0).toNat:Int) != 34) else false) then bif aaa m d.length then let o:=((d.getD m.toNat 0).toNat:Int);bif (o==92) then (F237 uu d m).bind λO=>let H:=O.1;let M:=O.2;bif (M==0) then some (.inr (.inl (([]:Bo),(0:Int),(2:Int)))) else bif decide (z.length+[(PV.int H)].length<=aak) then some (.inl (d,(z++[(PV.int H)]),(IntKind.wrap .i64 (m+M)))) else none else bif ((1:Int)==0) then some (.inr (.inl (([]:Bo),(0:Int),(2:Int)))) else bif decide (z.length+[(PV.int o)].length<=aak) then some (.inl (d,(z++[(PV.int o)]),(IntKind.wrap .i64 (m+1)))) else none else none else some (.inr (.inr (d,z,m))) else none
def S131_6step (x:S131_6x):Option (S131_6x⊕S131_6y):=S131_6 uu x.1 x.2.1 x.2.2
def F131 (U:Bo):Option (Bo×Int×Int):=let x1:=U==([]:Bo);bif imp (!x1) (aaa (0:Int) U.length) then bif (bif x1 then true else (((U.getD (0:Int).toNat 0).toNat:Int) != 34)) then some (([]:Bo),(0:Int),(2:Int)) else (aaw uu (S131_6step uu) (U,[],(1:Int))).bind λz=>sumE (λH=>some (H.1,H.2.1,H.2.2) ) (λd=>let M:=d.2.1.map aa4;let m:=decide (d.2.2>=(d.1.length:Int));(bif !m then F134 uu M else some []).bind λV=>let O:=d.1;let o:=IntKind.wrap .i64 (d.2.2+1);bif imp (!m) (decide (0<=(0:Int)/\(0:Int)<=o/\o<=(O.length:Int))) then bif (bif m then true else (!(V==((O.take o.toNat).drop (0:Int).toNat)))) then some (([]:Bo),(0:Int),(2:Int)) else some (M,(IntKind.wrap .i64 (d.2.2+1)),(0:Int)) else none ) z else none
def S131_6l:LoopE:=⟨6,⟨[0,5,6],[.acc],sv5⟩,[(.ret,⟨[2,3,4],[.acc],sv6⟩),(.exit 0,⟨[0,5,6],[.acc],sv5⟩)],S131_6step uu⟩
def F131C:Cfg:=cfg Tryz.prog 65 0 [F237c uu,F134c uu] [S131_6l uu] uu
def F131c:CallE:=⟨131,⟨1,[],[.str]⟩,⟨3,[],sv6⟩,λx=>F131 uu x,([],0,0)⟩
theorem F131k:aap (F131C uu):=aad (qc (F237ok uu)<|qc (F134ok uu)<|q0) p0
theorem S131_6ok:aai (F131C uu) (lp (aao Tryz.f131) 0):=okL (F131k uu) uu (S131_6l uu) L0
theorem F131ok:okP (F131c uu):=okE Tryz.f131 (F131k uu) (L1 (S131_6ok uu))
def F61 (m:Bo):Option (PV×Int×Int):=(F123 uu m).bind λo=>bif (o==3) then (F129 uu m).bind λz=>some (z.1,z.2.1,z.2.2) else bif (o==4) then (F130 uu m).bind λH=>some (H.1,H.2.1,H.2.2) else bif (o==5) then (F131 uu m).bind λd=>some ((PV.agg [(PV.int (3:Int)),(PV.str d.1),(PV.int (0:Int)),(PV.int (0:Int))]),d.2.1,d.2.2) else bif (o==6) then bif decide (0<=(0:Int)/\(0:Int)<=1/\(1:Int)<=(m.length:Int)) then some ((PV.agg [(PV.int (4:Int)),(PV.str ((m.take (1:Int).toNat).drop (0:Int).toNat)),(PV.int (0:Int)),(PV.int (0:Int))]),(1:Int),(0:Int)) else none else some ((PV.agg [(PV.int (0:Int)),(PV.str ([]:Bo)),(PV.int (0:Int)),(PV.int (0:Int))]),(0:Int),(2:Int))
def F61c:CallE:=⟨61,⟨1,[],[.str]⟩,⟨3,[],sv4⟩,λx=>F61 uu x,(PV.bad,0,0)⟩
theorem F61ok:okP (F61c uu):=okJ Tryz.f61 42 0 uu _ [] false (qc (F123ok uu)<|qc (F129ok uu)<|qc (F130ok uu)<|qc (F131ok uu)<|q0) p0 L0
abbrev S28_7x:=Bo×(List PV)×Int×Int
abbrev S28_7y:=((List PV))⊕((List PV)×Int×Int)
def S28_7 (m:Bo) (a4:List PV) (a5:Int) (o:Int):Option (S28_7x⊕S28_7y):=bif (decide (o<(m.length:Int))) then bif decide (0<=o/\o<=(m.length:Int)/\(m.length:Int)<=(m.length:Int)) then (F59 uu ((m.take (m.length:Int).toNat).drop o.toNat)).bind λaa=>let H:=IntKind.wrap .i64 (o+aa);bif decide (0<=o/\o<=H/\H<=(m.length:Int)) then (as7 uu ((m.take H.toNat).drop o.toNat) ([10]:Bo)).bind λad=>let z:=IntKind.wrap .i64 (a5+ad);let d:=IntKind.wrap .i64 (o+aa);bif (d==(m.length:Int)) then some (.inr (.inl a4)) else bif decide (0<=d/\d<=(m.length:Int)/\(m.length:Int)<=(m.length:Int)) then (F61 uu ((m.take (m.length:Int).toNat).drop d.toNat)).bind λU=>let M:=U.1;let V:=U.2.1;let W:=U.2.2;bif (W != 0) then some (.inr (.inr ([],z,W))) else let X:=(M.fld 0).asInt;let Y:=(M.fld 1).asStr;let Z:=(M.fld 2).asInt;bif decide (a4.length+[(PV.agg [(PV.int X),(PV.str Y),(PV.int Z),(PV.int z)])].length<=aak) then let ab:=a4++[(PV.agg [(PV.int X),(PV.str Y),(PV.int Z),(PV.int z)])];let O:=IntKind.wrap .i64 (d+V);bif decide (0<=d/\d<=O/\O<=(m.length:Int)) then (as7 uu ((m.take O.toNat).drop d.toNat) ([10]:Bo)).bind λae=>some (.inl (m,ab,(IntKind.wrap .i64 (z+ae)),(IntKind.wrap .i64 (d+V)))) else none else none else none else none else none else some (.inr (.inl a4))
def S28_7step (x:S28_7x):Option (S28_7x⊕S28_7y):=S28_7 uu x.1 x.2.1 x.2.2.1 x.2.2.2
def F28 (o:Bo):Option ((List PV)×Int×Int):=bif (decide ((o.length:Int)>16384)) then some ([],(0:Int),(3:Int)) else (aaw uu (S28_7step uu) (o,[],(1:Int),(0:Int))).bind λz=>sumE (λm=>some (m,(0:Int),(0:Int)) ) (λd=>some (d.1,d.2.1,d.2.2) ) z
def S28_7l:LoopE:=⟨7,⟨[0,5,6,7],[.acc],.str::(.acc 0 72)::sv2⟩,[(.exit 0,⟨[5],[.acc],[.acc 0 72]⟩),(.ret,⟨[2,3,4],[.acc],(.slice 72)::sv2⟩)],S28_7step uu⟩
def F28C:Cfg:=cfg Tryz.prog 69 0 [F59c uu,a9r uu,F61c uu] [S28_7l uu] uu
def F28c:CallE:=⟨28,⟨1,[],[.str]⟩,⟨3,[],(.slice 72)::sv2⟩,λx=>F28 uu x,([],0,0)⟩
theorem F28k:aap (F28C uu):=aad (qc (F59ok uu)<|qc (be3 uu)<|qc (F61ok uu)<|q0) p0
theorem S28_7ok:aai (F28C uu) (lp (aao Tryz.f28) 0):=okL (F28k uu) uu (S28_7l uu) L0
theorem F28ok:okP (F28c uu):=okE Tryz.f28 (F28k uu) (L1 (S28_7ok uu))
def F286 (uu:Nat) (d:PV) (m:Bo):Option Bool:=some (bif (bif ((d.fld 0).asInt==4) then true else ((d.fld 0).asInt==1)) then ((d.fld 1).asStr==m) else false)
def F286c:CallE:=⟨286,⟨2,[],[.data 72,.str]⟩,⟨1,[],[.bool]⟩,λx=>F286 uu x.1 x.2,false⟩
theorem F286ok:okP (F286c uu):=okJ Tryz.f286 19 0 uu [] [] false q0 p0 L0
def F203 (M:Unit) (m:Int) (z:Bo) (s:Q0):Option (Bool×Q0):=let d:=decide ((IntKind.wrap .i64 (s.2.1+m))<(s.1.length:Int));let o:=IntKind.wrap .i64 (s.2.1+m);bif imp d (aaa o s.1.length) then (bif d then F286 uu (s.1.getD o.toNat .bad) z else some false).bind λH=>some ((bif d then H else false),s) else none
def F203c:CallE:=⟨203,⟨3,bx1,(.con (.ref 0 [] 82))::(.int .i64)::sv7⟩,⟨1,bx1,sv8⟩,λx=>F203 uu x.1 x.2.1 x.2.2.1 x.2.2.2,(false,[],0,[],[],(),(),(),[],[],[],[])⟩
theorem F203ok:okP (F203c uu):=okJ Tryz.f203 35 5 uu _ [] false (qc (F286ok uu)<|q0) p0 L0
def F117 (uu:Nat) (d:Unit) (s:Q0):Option (Int×Q0):=bif (decide (s.2.1>=(s.1.length:Int))) then some ((0:Int),s) else bif aaa s.2.1 s.1.length then some (((s.1.getD s.2.1.toNat .bad).fld 0).asInt,s) else none
def F117c:CallE:=⟨117,⟨1,bx1,sv9⟩,⟨1,bx1,sv10⟩,λx=>F117 uu x.1 x.2,(0,[],0,[],[],(),(),(),[],[],[],[])⟩
theorem F117ok:okP (F117c uu):=okJ Tryz.f117 24 5 uu [] [] false q0 p0 L0
def F96 (V:Unit) (o:Bo) (s:Q0):Option (Bool×Q0):=(F202 uu o).bind λU=>bif U then (F203 uu () (0:Int) o s).bind λH=>let z:=H.1;bif z then (F117 uu () H.2).bind λO=>some ((bif z then (O.1==1) else false),O.2) else some ((bif z then ((0:Int)==1) else false),H.2) else (F203 uu () (0:Int) o s).bind λM=>let d:=M.1;bif d then (F117 uu () M.2).bind λm=>some ((bif d then (m.1==4) else false),m.2) else some ((bif d then ((0:Int)==4) else false),M.2)
def F96c:CallE:=⟨96,⟨2,bx1,sv11⟩,⟨1,bx1,sv8⟩,λx=>F96 uu x.1 x.2.1 x.2.2,(false,[],0,[],[],(),(),(),[],[],[],[])⟩
theorem F96ok:okP (F96c uu):=okJ Tryz.f96 17 5 uu _ [] false (qc (F202ok uu)<|qc (F203ok uu)<|qc (F117ok uu)<|q0) p0 L0
def F91 (o:Unit) (m:Bo) (s:Q0):Option (Bool×Q0):=(F96 uu () m s).bind λd=>bif (!d.1) then some (false,d.2) else some (true,d.2.1,(IntKind.wrap .i64 (d.2.2.1+1)),d.2.2.2)
def F91c:CallE:=⟨91,⟨2,bx1,sv11⟩,⟨1,bx1,sv8⟩,λx=>F91 uu x.1 x.2.1 x.2.2,(false,[],0,[],[],(),(),(),[],[],[],[])⟩
theorem F91ok:okP (F91c uu):=okJ Tryz.f91 16 5 uu _ [] false (qc (F96ok uu)<|q0) p0 L0
def F118 (uu:Nat) (m:Unit) (d:Int) (s:Q0):Option ((Q0)⊕(PV×Q0)):=some (.inr ((PV.agg [(PV.int s.2.1),(PV.int d)]),s))
def F118p:CallP:=⟨118,⟨2,bx1,(.con (.ref 0 [] 82))::sv10⟩,⟨0,bx1,sv12⟩,⟨1,bx1,sv13⟩,λx=>F118 uu x.1 x.2.1 x.2.2,([],0,[],[],(),(),(),[],[],[],[])⟩
theorem F118ok:(F118p uu).Ok Tryz.prog:=okPJ Tryz.f118 11 5 uu [] [] false q0 p0 L0
def F200 (uu:Nat) (d:Bo):Option Bool:=bif (d==([109,101,115,115,97,103,101]:Bo)) then some true else bif (d==([101,110,117,109]:Bo)) then some true else bif (d==([115,101,114,118,105,99,101]:Bo)) then some true else bif (d==([117,110,105,111,110]:Bo)) then some true else bif (d==([109,97,112]:Bo)) then some true else bif (d==([108,105,115,116]:Bo)) then some true else let o:=d==([114,101,113,117,105,114,101,100]:Bo);bif o then some true else let z:=d==([111,112,116,105,111,110,97,108]:Bo);bif z then some true else bif (d==([112,108,97,105,110]:Bo)) then some true else bif (d==([100,101,102,97,117,108,116]:Bo)) then some true else let m:=d==([114,101,115,101,114,118,101,100]:Bo);bif m then some true else bif (d==([105,109,112,111,114,116]:Bo)) then some true else bif (d==([115,112,97,99,101]:Bo)) then some true else bif (d==([114,112,99]:Bo)) then some true else bif (d==([115,116,114,101,97,109]:Bo)) then some true else bif (d==([114,101,116,117,114,110,115]:Bo)) then some true else bif (d==([111,112,101,110]:Bo)) then some true else bif (d==([116,114,117,101]:Bo)) then some true else bif (d==([102,97,108,115,101]:Bo)) then some true else bif (d==([110,97,110]:Bo)) then some true else bif (d==([105,110,102]:Bo)) then some true else some false
def F200c:CallE:=⟨200,⟨1,[],[.str]⟩,⟨1,[],[.bool]⟩,λx=>F200 uu x,false⟩
theorem F200ok:okP (F200c uu):=okJ Tryz.f200 27 0 uu [] [] false q0 p0 L0
abbrev S93_3x:=Bo×(List PV)×Int×Int
abbrev S93_3y:=(Bool)⊕(Bo)
def S93_3 (z:Bo) (m:List PV) (H:Int) (d:Int):Option (S93_3x⊕S93_3y):=bif (decide (d<H)) then bif aaa d m.length then (F200 uu (m.getD d.toNat .bad).asStr).bind λo=>bif o then some (.inr (.inl false)) else some (.inl (z,m,H,(IntKind.wrap .i64 (d+1)))) else none else some (.inr (.inr z))
def S93_3step (x:S93_3x):Option (S93_3x⊕S93_3y):=S93_3 uu x.1 x.2.1 x.2.2.1 x.2.2.2
def F93 (H:Bo):Option Bool:=(aol uu H ([46]:Bo)).bind λM=>(aaw uu (S93_3step uu) (H,M,(M.length:Int),(0:Int))).bind λz=>sumE (λd=>some d ) (λm=>(F140 uu m).bind λo=>some o ) z
def S93_3l:LoopE:=⟨3,⟨[0,6,7,8],[],.str::(.slice 9)::sv2⟩,[(.ret,⟨[2],[],[.bool]⟩),(.exit 0,⟨[0],[],[.str]⟩)],S93_3step uu⟩
def F93C:Cfg:=cfg Tryz.prog 17 0 [aun uu,F200c uu,F140c uu] [S93_3l uu] uu
def F93c:CallE:=⟨93,⟨1,[],[.str]⟩,⟨1,[],[.bool]⟩,λx=>F93 uu x,false⟩
theorem F93k:aap (F93C uu):=aad (qc (auo uu)<|qc (F200ok uu)<|qc (F140ok uu)<|q0) p0
theorem S93_3ok:aai (F93C uu) (lp (aao Tryz.f93) 0):=okL (F93k uu) uu (S93_3l uu) L0
theorem F93ok:okP (F93c uu):=okE Tryz.f93 (F93k uu) (L1 (S93_3ok uu))
def F92 (O:Unit) (H:Int) (U:Unit) (s:Q0):Option ((Bo×Q0)⊕(PV×Q0)):=(F117 uu () s).bind λd=>bif (d.1 != H) then some (.inr ((PV.agg [(PV.int d.2.2.1),(PV.int (2:Int))]),d.2)) else let m:=d.2.1;let o:=d.2.2.1;bif aaa o m.length then let z:=((m.getD o.toNat .bad).fld 1).asStr;(F93 uu z).bind λM=>bif (!M) then some (.inr ((PV.agg [(PV.int d.2.2.1),(PV.int (8:Int))]),d.2)) else some (.inl (z,d.2.1,(IntKind.wrap .i64 (d.2.2.1+1)),d.2.2.2)) else none
def F92p:CallP:=⟨92,⟨3,bx1,(.con (.ref 0 [] 82))::(.int .i64)::(.con (.fn 93 0 []))::sv12⟩,⟨1,bx1,sv7⟩,⟨1,bx1,sv13⟩,λx=>F92 uu x.1 x.2.1 x.2.2.1 x.2.2.2,([],[],0,[],[],(),(),(),[],[],[],[])⟩
theorem F92ok:(F92p uu).Ok Tryz.prog:=okPJ Tryz.f92 39 5 uu _ _ false (qc (F117ok uu)<|qc (F93ok uu)<|q0) (pc (F118ok uu)<|p0) L0
def F94 (o:Unit) (m:Bo) (s:Q0):Option ((Q0)⊕(PV×Q0)):=(F91 uu () m s).bind λd=>bif (!d.1) then some (.inr ((PV.agg [(PV.int d.2.2.1),(PV.int (2:Int))]),d.2)) else some (.inl d.2)
def F94p:CallP:=⟨94,⟨2,bx1,sv11⟩,⟨0,bx1,sv12⟩,⟨1,bx1,sv13⟩,λx=>F94 uu x.1 x.2.1 x.2.2,([],0,[],[],(),(),(),[],[],[],[])⟩
theorem F94ok:(F94p uu).Ok Tryz.prog:=okPJ Tryz.f94 10 5 uu _ _ false (qc (F91ok uu)<|q0) (pc (F118ok uu)<|p0) L0
def F201 (uu:Nat) (d:Bo):Option Bool:=some true
def F201c:CallE:=⟨201,⟨1,[],[.str]⟩,⟨1,[],[.bool]⟩,λx=>F201 uu x,false⟩
theorem F201ok:okP (F201c uu):=okJ Tryz.f201 3 0 uu [] [] false q0 p0 L0
def F92_v1 (O:Unit) (H:Int) (U:Unit) (s:Q0):Option ((Bo×Q0)⊕(PV×Q0)):=(F117 uu () s).bind λd=>bif (d.1 != H) then some (.inr ((PV.agg [(PV.int d.2.2.1),(PV.int (2:Int))]),d.2)) else let m:=d.2.1;let o:=d.2.2.1;bif aaa o m.length then let z:=((m.getD o.toNat .bad).fld 1).asStr;(F201 uu z).bind λM=>bif (!M) then some (.inr ((PV.agg [(PV.int d.2.2.1),(PV.int (8:Int))]),d.2)) else some (.inl (z,d.2.1,(IntKind.wrap .i64 (d.2.2.1+1)),d.2.2.2)) else none
def F92_v1p:CallP:=⟨92,⟨3,bx1,(.con (.ref 0 [] 82))::(.int .i64)::(.con (.fn 201 0 []))::sv12⟩,⟨1,bx1,sv7⟩,⟨1,bx1,sv13⟩,λx=>F92_v1 uu x.1 x.2.1 x.2.2.1 x.2.2.2,([],[],0,[],[],(),(),(),[],[],[],[])⟩
theorem F92_v1ok:(F92_v1p uu).Ok Tryz.prog:=okPJ Tryz.f92 39 5 uu _ _ false (qc (F117ok uu)<|qc (F201ok uu)<|q0) (pc (F118ok uu)<|p0) L0
def F95 (o:Unit) (s:Q0):Option ((Bo×Q0)⊕(PV×Q0)):=(F92_v1 uu () (3:Int) () s).bind λz=>sumE (λd=>some (.inl (d.1,d.2)) ) (λm=>some (.inr m) ) z
def F95p:CallP:=⟨95,⟨1,bx1,sv9⟩,⟨1,bx1,sv7⟩,⟨1,bx1,sv13⟩,λx=>F95 uu x.1 x.2,([],[],0,[],[],(),(),(),[],[],[],[])⟩
theorem F95ok:(F95p uu).Ok Tryz.prog:=okPJ Tryz.f95 5 5 uu [] _ false q0 (pc (F92_v1ok uu)<|p0) L0
def F288 (uu:Nat) (d:Bo) (m:Bo):Option Bo:=bif (d==([]:Bo)) then some m else bif decide (d.length+([46]:Bo).length<=aaf) then let o:=d++([46]:Bo);bif decide (o.length+m.length<=aaf) then some (o++m) else none else none
def F288c:CallE:=⟨288,⟨2,[],[.str,.str]⟩,⟨1,[],[.str]⟩,λx=>F288 uu x.1 x.2,[]⟩
theorem F288ok:okP (F288c uu):=okJ Tryz.f288 12 0 uu [] [] false q0 p0 L0
def F287 (o:Bo) (U:Unit) (z:Bo):Option (Bool×Bo):=(F93 uu o).bind λm=>let d:=z==([]:Bo);(bif bif !d then m else false then F202 uu o else some false).bind λH=>(bif bif H then bif !d then m else false else false then F288 uu z o else some []).bind λM=>(bif bif H then bif !d then m else false else false then F140 uu M else some false).bind λO=>some ((bif m then (bif d then true else (bif H then O else false)) else false),z)
def F287c:CallE:=⟨287,⟨2,[.box 9 .leaf],[.str,(.con (.ref 0 [] 9)),.str]⟩,⟨1,[.box 9 .leaf],[.bool,.str]⟩,λx=>F287 uu x.1 x.2.1 x.2.2,(false,[])⟩
theorem F287ok:okP (F287c uu):=okJ Tryz.f287 20 1 uu _ [] false (qc (F93ok uu)<|qc (F202ok uu)<|qc (F288ok uu)<|qc (F140ok uu)<|q0) p0 L0
def F92_v2 (O:Unit) (M:Int) (U:Unit) (s:Q1):Option ((Bo×Q1)⊕(PV×Q1)):=(F117 uu () (s.1,s.2.1,s.2.2.1,s.2.2.2.1,(),(),(),s.2.2.2.2.2.2.2.1,s.2.2.2.2.2.2.2.2.2)).bind λd=>bif (d.1 != M) then some (.inr ((PV.agg [(PV.int d.2.2.1),(PV.int (2:Int))]),d.2.1,d.2.2.1,d.2.2.2.1,d.2.2.2.2.1,(),(),(),d.2.2.2.2.2.2.2.2.1,s.2.2.2.2.2.2.2.2.1,d.2.2.2.2.2.2.2.2.2)) else let o:=d.2.1;let z:=d.2.2.1;bif aaa z o.length then let H:=((o.getD z.toNat .bad).fld 1).asStr;(F287 uu H () s.2.2.2.2.2.2.2.2.1).bind λm=>bif (!m.1) then some (.inr ((PV.agg [(PV.int d.2.2.1),(PV.int (8:Int))]),d.2.1,d.2.2.1,d.2.2.2.1,d.2.2.2.2.1,(),(),(),d.2.2.2.2.2.2.2.2.1,m.2,d.2.2.2.2.2.2.2.2.2)) else some (.inl (H,d.2.1,(IntKind.wrap .i64 (d.2.2.1+1)),d.2.2.2.1,d.2.2.2.2.1,(),(),(),d.2.2.2.2.2.2.2.2.1,m.2,d.2.2.2.2.2.2.2.2.2)) else none
def F92_v2p:CallP:=⟨92,⟨3,bx2,(.con (.ref 0 [] 82))::(.int .i64)::(.con (.fn 287 0 [(.ref 1 [] 9)]))::sv14⟩,⟨1,bx2,.str::sv14⟩,⟨1,bx2,(.ifc 84)::sv14⟩,λx=>F92_v2 uu x.1 x.2.1 x.2.2.1 x.2.2.2,([],[],0,[],[],(),(),(),[],[],[],[],[])⟩
theorem F92_v2ok:(F92_v2p uu).Ok Tryz.prog:=okPJ Tryz.f92 39 6 uu _ _ false (qc (F117ok uu)<|qc (F287ok uu)<|q0) (pc (F118ok uu)<|p0) L0
def F204 (M:Unit) (o:Bo) (s:Q0):Option ((Bo×Q0)⊕(PV×Q0)):=(F92_v2 uu () (1:Int) () (s.1,s.2.1,s.2.2.1,s.2.2.2.1,(),(),(),s.2.2.2.2.2.2.2.1,o,s.2.2.2.2.2.2.2.2)).bind λz=>sumE (λd=>(F288 uu d.2.2.2.2.2.2.2.2.2.1 d.1).bind λH=>some (.inl (H,d.2.1,d.2.2.1,d.2.2.2.1,d.2.2.2.2.1,(),(),(),d.2.2.2.2.2.2.2.2.1,d.2.2.2.2.2.2.2.2.2.2)) ) (λm=>some (.inr (m.1,m.2.1,m.2.2.1,m.2.2.2.1,m.2.2.2.2.1,(),(),(),m.2.2.2.2.2.2.2.2.1,m.2.2.2.2.2.2.2.2.2.2)) ) z
def F204p:CallP:=⟨204,⟨2,bx1,sv11⟩,⟨1,bx1,sv7⟩,⟨1,bx1,sv13⟩,λx=>F204 uu x.1 x.2.1 x.2.2,([],[],0,[],[],(),(),(),[],[],[],[])⟩
theorem F204ok:(F204p uu).Ok Tryz.prog:=okPJ Tryz.f204 12 5 uu _ _ false (qc (F288ok uu)<|q0) (pc (F92_v2ok uu)<|p0) L0
def F77 (uu:Nat) (m:List PV) (d:Int) (H:Bo):Option Bool:=let o:=bif (decide (d>=0)) then (decide (d<(m.length:Int))) else false;bif imp o (aaa d m.length) then let z:=bif o then (((m.getD d.toNat .bad).fld 0).asInt==(4:Int)) else false;bif imp z (aaa d m.length) then some (bif z then (((m.getD d.toNat .bad).fld 1).asStr==H) else false) else none else none
def F77c:CallE:=⟨77,⟨3,[],(.slice 72)::sv15⟩,⟨1,[],[.bool]⟩,λx=>F77 uu x.1 x.2.1 x.2.2,false⟩
theorem F77ok:okP (F77c uu):=okJ Tryz.f77 32 0 uu [] [] false q0 p0 L0
def F158 (uu:Nat) (m:List PV) (d:Int):Option Int:=bif (bif (decide (d<0)) then true else (decide (d>=(m.length:Int)))) then some (0:Int) else bif aaa d m.length then some ((m.getD d.toNat .bad).fld 0).asInt else none
def F158c:CallE:=⟨158,⟨2,[],sv16⟩,⟨1,[],[.int .i64]⟩,λx=>F158 uu x.1 x.2,0⟩
theorem F158ok:okP (F158c uu):=okJ Tryz.f158 18 0 uu [] [] false q0 p0 L0
def F306 (d:Bo):Option (PV×Int):=bif (d==([110,97,110]:Bo)) then some ((PV.agg [(PV.int (6:Int)),(PV.int (9221120237041090560:Int)),(PV.str ([]:Bo)),(PV.slice []),(PV.slice []),(PV.slice []),(PV.slice [])]),(0:Int)) else bif (d==([105,110,102]:Bo)) then some ((PV.agg [(PV.int (6:Int)),(PV.int (9218868437227405312:Int)),(PV.str ([]:Bo)),(PV.slice []),(PV.slice []),(PV.slice []),(PV.slice [])]),(0:Int)) else bif (d==([45,105,110,102]:Bo)) then some ((PV.agg [(PV.int (6:Int)),(PV.int (18442240474082181120:Int)),(PV.str ([]:Bo)),(PV.slice []),(PV.slice []),(PV.slice []),(PV.slice [])]),(0:Int)) else (F141 uu d ([48,120]:Bo)).bind λH=>(ace uu H (16:Int) (64:Int)).bind λz=>let m:=z.1;let o:=!z.2;(bif !o then F149 uu m else some []).bind λM=>bif (bif o then true else (!(M==d))) then some ((PV.agg [(PV.int (0:Int)),(PV.int (0:Int)),(PV.str ([]:Bo)),(PV.slice []),(PV.slice []),(PV.slice []),(PV.slice [])]),(2:Int)) else some ((PV.agg [(PV.int (6:Int)),(PV.int m),(PV.str ([]:Bo)),(PV.slice []),(PV.slice []),(PV.slice []),(PV.slice [])]),(0:Int))
def F306c:CallE:=⟨306,⟨1,[],[.str]⟩,⟨2,[],sv17⟩,λx=>F306 uu x,(PV.bad,0)⟩
theorem F306ok:okP (F306c uu):=okJ Tryz.f306 36 0 uu _ [] false (qc (F141ok uu)<|qc (ail uu)<|qc (F149ok uu)<|q0) p0 L0
def F374 (d:Bo) (o:Bo):Option (Bo×Bool):=(F297 uu d o).bind λz=>bif (!z) then some (d,false) else let m:=(o.length:Int);bif decide (0<=m/\m<=(d.length:Int)/\(d.length:Int)<=(d.length:Int)) then some (((d.take (d.length:Int).toNat).drop m.toNat),true) else none
def F374c:CallE:=⟨374,⟨2,[],[.str,.str]⟩,⟨2,[],[.str,.bool]⟩,λx=>F374 uu x.1 x.2,([],false)⟩
theorem F374ok:okP (F374c uu):=okJ Tryz.f374 15 0 uu _ [] false (qc (F297ok uu)<|q0) p0 L0
def F354 (m:Bo) (o:Bo):Option (Bo×Bool):=(F374 uu m o).bind λd=>some (d.1,d.2)
def F354c:CallE:=⟨354,⟨2,[],[.str,.str]⟩,⟨2,[],[.str,.bool]⟩,λx=>F354 uu x.1 x.2,([],false)⟩
theorem F354ok:okP (F354c uu):=okJ Tryz.f354 11 0 uu _ [] false (qc (F374ok uu)<|q0) p0 L0
def F355 (m:Bo):Option (Bo×Bool):=(F131 uu m).bind λd=>some (d.1,(bif (d.2.2==0) then (d.2.1==(m.length:Int)) else false))
def F355c:CallE:=⟨355,⟨1,[],[.str]⟩,⟨2,[],[.str,.bool]⟩,λx=>F355 uu x,([],false)⟩
theorem F355ok:okP (F355c uu):=okJ Tryz.f355 22 0 uu _ [] false (qc (F131ok uu)<|q0) p0 L0
abbrev S356_6x:=Bo×(List PV)×Int
abbrev S356_6y:=(Bo×Int)⊕((List PV))
def S356_6 (d:Bo) (O:List PV) (m:Int):Option (S356_6x⊕S356_6y):=bif (decide (m<(d.length:Int))) then bif aaa m d.length then (F305 uu ((d.getD m.toNat 0).toNat:Int)).bind λH=>let o:=IntKind.wrap .i64 (m+1);bif aaa o d.length then (F305 uu ((d.getD o.toNat 0).toNat:Int)).bind λM=>bif (bif (decide (H<0)) then true else (decide (M<0))) then some (.inr (.inl (([]:Bo),(2:Int)))) else let U:=IntKind.wrap .i64 (H*2^(min (4:Int).toNat (IntKind.bits .i64)));let z:=IntKind.wrap .u8 (ae2 .or .i64 U M);bif decide (O.length+[(PV.int z)].length<=aak) then some (.inl (d,(O++[(PV.int z)]),(IntKind.wrap .i64 (m+2)))) else none else none else none else some (.inr (.inr O))
def S356_6step (x:S356_6x):Option (S356_6x⊕S356_6y):=S356_6 uu x.1 x.2.1 x.2.2
def F356 (m:Bo):Option (Bo×Int):=bif (((m.length:Int).tmod (2:Int)) != 0) then some (([]:Bo),(2:Int)) else let H:=IntKind.wrap .i64 ((m.length:Int).tdiv (2:Int));bif decide (0<=H/\H<=aak) then (aaw uu (S356_6step uu) (m,[],(0:Int))).bind λz=>sumE (λd=>some (d.1,d.2) ) (λo=>some ((o.map aa4),(0:Int)) ) z else none
def S356_6l:LoopE:=⟨6,⟨[0,4,5],[.acc],sv5⟩,[(.ret,⟨[2,3],[.acc],sv0⟩),(.exit 0,⟨[4],[.acc],[.acc 0 5]⟩)],S356_6step uu⟩
def F356C:Cfg:=cfg Tryz.prog 47 0 [F305c uu] [S356_6l uu] uu
def F356c:CallE:=⟨356,⟨1,[],[.str]⟩,⟨2,[],sv0⟩,λx=>F356 uu x,([],0)⟩
theorem F356k:aap (F356C uu):=aad (qc (F305ok uu)<|q0) p0
theorem S356_6ok:aai (F356C uu) (lp (aao Tryz.f356) 0):=okL (F356k uu) uu (S356_6l uu) L0
theorem F356ok:okP (F356c uu):=okE Tryz.f356 (F356k uu) (L1 (S356_6ok uu))
def F308 (d:Int) (a1:Bo):Option (PV×Int):=bif (d==8) then (F354 uu a1 ([120]:Bo)).bind λy2=>(F355 uu y2.1).bind λy5=>let x6:=y5.1;bif (bif (!y2.2) then true else (!y5.2)) then some ((PV.agg [(PV.int (0:Int)),(PV.int (0:Int)),(PV.str ([]:Bo)),(PV.slice []),(PV.slice []),(PV.slice []),(PV.slice [])]),(2:Int)) else bif (d==8) then (F356 uu x6).bind λX=>let o:=X.1;let H:=X.2;bif (H != 0) then some ((PV.agg [(PV.int (0:Int)),(PV.int (0:Int)),(PV.str ([]:Bo)),(PV.slice []),(PV.slice []),(PV.slice []),(PV.slice [])]),H) else let M:=d==7;(bif M then F185 uu o else some false).bind λaa=>bif (bif M then (!aa) else false) then some ((PV.agg [(PV.int (0:Int)),(PV.int (0:Int)),(PV.str ([]:Bo)),(PV.slice []),(PV.slice []),(PV.slice []),(PV.slice [])]),(7:Int)) else bif (decide ((o.length:Int)>4096)) then some ((PV.agg [(PV.int (0:Int)),(PV.int (0:Int)),(PV.str ([]:Bo)),(PV.slice []),(PV.slice []),(PV.slice []),(PV.slice [])]),(3:Int)) else some ((PV.agg [(PV.int d),(PV.int (0:Int)),(PV.str o),(PV.slice []),(PV.slice []),(PV.slice []),(PV.slice [])]),(0:Int)) else let O:=d==7;(bif O then F185 uu x6 else some false).bind λab=>bif (bif O then (!ab) else false) then some ((PV.agg [(PV.int (0:Int)),(PV.int (0:Int)),(PV.str ([]:Bo)),(PV.slice []),(PV.slice []),(PV.slice []),(PV.slice [])]),(7:Int)) else bif (decide ((x6.length:Int)>4096)) then some ((PV.agg [(PV.int (0:Int)),(PV.int (0:Int)),(PV.str ([]:Bo)),(PV.slice []),(PV.slice []),(PV.slice []),(PV.slice [])]),(3:Int)) else some ((PV.agg [(PV.int d),(PV.int (0:Int)),(PV.str x6),(PV.slice []),(PV.slice []),(PV.slice []),(PV.slice [])]),(0:Int)) else (F355 uu a1).bind λY=>let m:=Y.1;bif (!Y.2) then some ((PV.agg [(PV.int (0:Int)),(PV.int (0:Int)),(PV.str ([]:Bo)),(PV.slice []),(PV.slice []),(PV.slice []),(PV.slice [])]),(2:Int)) else bif (d==8) then (F356 uu m).bind λZ=>let z:=Z.1;let U:=Z.2;bif (U != 0) then some ((PV.agg [(PV.int (0:Int)),(PV.int (0:Int)),(PV.str ([]:Bo)),(PV.slice []),(PV.slice []),(PV.slice []),(PV.slice [])]),U) else let V:=d==7;(bif V then F185 uu z else some false).bind λad=>bif (bif V then (!ad) else false) then some ((PV.agg [(PV.int (0:Int)),(PV.int (0:Int)),(PV.str ([]:Bo)),(PV.slice []),(PV.slice []),(PV.slice []),(PV.slice [])]),(7:Int)) else bif (decide ((z.length:Int)>4096)) then some ((PV.agg [(PV.int (0:Int)),(PV.int (0:Int)),(PV.str ([]:Bo)),(PV.slice []),(PV.slice []),(PV.slice []),(PV.slice [])]),(3:Int)) else some ((PV.agg [(PV.int d),(PV.int (0:Int)),(PV.str z),(PV.slice []),(PV.slice []),(PV.slice []),(PV.slice [])]),(0:Int)) else let W:=d==7;(bif W then F185 uu m else some false).bind λae=>bif (bif W then (!ae) else false) then some ((PV.agg [(PV.int (0:Int)),(PV.int (0:Int)),(PV.str ([]:Bo)),(PV.slice []),(PV.slice []),(PV.slice []),(PV.slice [])]),(7:Int)) else bif (decide ((m.length:Int)>4096)) then some ((PV.agg [(PV.int (0:Int)),(PV.int (0:Int)),(PV.str ([]:Bo)),(PV.slice []),(PV.slice []),(PV.slice []),(PV.slice [])]),(3:Int)) else some ((PV.agg [(PV.int d),(PV.int (0:Int)),(PV.str m),(PV.slice []),(PV.slice []),(PV.slice []),(PV.slice [])]),(0:Int))
def F308c:CallE:=⟨308,⟨2,[],sv15⟩,⟨2,[],sv17⟩,λx=>F308 uu x.1 x.2,(PV.bad,0)⟩
theorem F308ok:okP (F308c uu):=okJ Tryz.f308 61 0 uu _ [] false (qc (F354ok uu)<|qc (F355ok uu)<|qc (F356ok uu)<|qc (F185ok uu)<|q0) p0 L0
abbrev S357_6x:=Bo×Int×Int
abbrev S357_6y:=(Bool)⊕(Unit)
def S357_6 (uu:Nat) (o:Bo) (m:Int) (d:Int):Option (S357_6x⊕S357_6y):=bif (decide (d<m)) then bif aaa d o.length then let z:=decide (((o.getD d.toNat 0).toNat:Int)<48);bif imp (!z) (aaa d o.length) then bif (bif z then true else (decide (((o.getD d.toNat 0).toNat:Int)>57))) then some (.inr (.inl false)) else some (.inl (o,m,(IntKind.wrap .i64 (d+1)))) else none else none else some (.inr (.inr ()))
def S357_6step (x:S357_6x):Option (S357_6x⊕S357_6y):=S357_6 uu x.1 x.2.1 x.2.2
def F357 (o:Bo):Option Bool:=(F141 uu o ([45]:Bo)).bind λd=>let H:=d==([]:Bo);bif imp (!H) (aaa (0:Int) d.length) then bif (bif H then true else (bif (((d.getD (0:Int).toNat 0).toNat:Int)==48) then (!(o==([48]:Bo))) else false)) then some false else (aaw uu (S357_6step uu) (d,(d.length:Int),(0:Int))).bind λz=>sumE (λm=>some m ) (λM=>some true ) z else none
def S357_6l:LoopE:=⟨6,⟨[3,19,20],[],sv6⟩,[(.ret,⟨[2],[],[.bool]⟩),(.exit 0,⟨[],[],[]⟩)],S357_6step uu⟩
def F357C:Cfg:=cfg Tryz.prog 34 0 [F141c uu] [S357_6l uu] uu
def F357c:CallE:=⟨357,⟨1,[],[.str]⟩,⟨1,[],[.bool]⟩,λx=>F357 uu x,false⟩
theorem F357k:aap (F357C uu):=aad (qc (F141ok uu)<|q0) p0
theorem S357_6ok:aai (F357C uu) (lp (aao Tryz.f357) 0):=okL (F357k uu) uu (S357_6l uu) L0
theorem F357ok:okP (F357c uu):=okE Tryz.f357 (F357k uu) (L1 (S357_6ok uu))
def F309 (d:Int) (M:Bo):Option (PV×Int):=(F357 uu M).bind λX=>bif (!X) then some ((PV.agg [(PV.int (0:Int)),(PV.int (0:Int)),(PV.str ([]:Bo)),(PV.slice []),(PV.slice []),(PV.slice []),(PV.slice [])]),(2:Int)) else bif (bif (d==2) then true else (d==3)) then (agt uu M (10:Int) (64:Int)).bind λW=>let V:=IntKind.wrap .u64 W.1;let m:=!W.2;(bif !m then F250 uu d V else some false).bind λO=>bif (bif m then true else (!O)) then some ((PV.agg [(PV.int (0:Int)),(PV.int (0:Int)),(PV.str ([]:Bo)),(PV.slice []),(PV.slice []),(PV.slice []),(PV.slice [])]),(6:Int)) else some ((PV.agg [(PV.int d),(PV.int V),(PV.str ([]:Bo)),(PV.slice []),(PV.slice []),(PV.slice []),(PV.slice [])]),(0:Int)) else (ace uu M (10:Int) (64:Int)).bind λH=>let o:=H.1;let z:=!H.2;(bif !z then F250 uu d o else some false).bind λU=>bif (bif z then true else (!U)) then some ((PV.agg [(PV.int (0:Int)),(PV.int (0:Int)),(PV.str ([]:Bo)),(PV.slice []),(PV.slice []),(PV.slice []),(PV.slice [])]),(6:Int)) else some ((PV.agg [(PV.int d),(PV.int o),(PV.str ([]:Bo)),(PV.slice []),(PV.slice []),(PV.slice []),(PV.slice [])]),(0:Int))
def F309c:CallE:=⟨309,⟨2,[],sv15⟩,⟨2,[],sv17⟩,λx=>F309 uu x.1 x.2,(PV.bad,0)⟩
theorem F309ok:okP (F309c uu):=okJ Tryz.f309 46 0 uu _ [] false (qc (F357ok uu)<|qc (az0 uu)<|qc (F250ok uu)<|qc (ail uu)<|q0) p0 L0
def F239 (d:Int) (m:Bo):Option (PV×Int):=(F248 uu d).bind λO=>bif (!O) then some ((PV.agg [(PV.int (0:Int)),(PV.int (0:Int)),(PV.str ([]:Bo)),(PV.slice []),(PV.slice []),(PV.slice []),(PV.slice [])]),(1:Int)) else bif (bif (d==1) then (m==([116,114,117,101]:Bo)) else false) then some ((PV.agg [(PV.int d),(PV.int (1:Int)),(PV.str ([]:Bo)),(PV.slice []),(PV.slice []),(PV.slice []),(PV.slice [])]),(0:Int)) else bif (bif (d==1) then (m==([102,97,108,115,101]:Bo)) else false) then some ((PV.agg [(PV.int d),(PV.int (0:Int)),(PV.str ([]:Bo)),(PV.slice []),(PV.slice []),(PV.slice []),(PV.slice [])]),(0:Int)) else bif (d==1) then some ((PV.agg [(PV.int (0:Int)),(PV.int (0:Int)),(PV.str ([]:Bo)),(PV.slice []),(PV.slice []),(PV.slice []),(PV.slice [])]),(2:Int)) else bif (d==6) then (F306 uu m).bind λo=>some (o.1,o.2) else (F307 uu d).bind λM=>bif M then (F308 uu d m).bind λz=>some (z.1,z.2) else (F309 uu d m).bind λH=>some (H.1,H.2)
def F239c:CallE:=⟨239,⟨2,[],sv15⟩,⟨2,[],sv17⟩,λx=>F239 uu x.1 x.2,(PV.bad,0)⟩
theorem F239ok:okP (F239c uu):=okJ Tryz.f239 53 0 uu _ [] false (qc (F248ok uu)<|qc (F306ok uu)<|qc (F307ok uu)<|qc (F308ok uu)<|qc (F309ok uu)<|q0) p0 L0
def F260 (W:Int) (m:List PV) (d:Int):Option (PV×Int×Int):=(F77 uu m d ([45]:Bo)).bind λY=>bif Y then let o:=IntKind.wrap .i64 (d+1);(F158 uu m o).bind λZ=>bif (Z != 2) then some ((PV.agg [(PV.int (0:Int)),(PV.int (0:Int)),(PV.str ([]:Bo)),(PV.slice []),(PV.slice []),(PV.slice []),(PV.slice [])]),o,(2:Int)) else bif aaa o m.length then (F135 uu (IntKind.wrap .u64 ((m.getD o.toNat .bad).fld 2).asInt) (10:Int)).bind λX=>bif decide (([45]:Bo).length+X.length<=aaf) then (F239 uu W (([45]:Bo)++X)).bind λM=>let z:=M.2;bif (z != 0) then some ((PV.agg [(PV.int (0:Int)),(PV.int (0:Int)),(PV.str ([]:Bo)),(PV.slice []),(PV.slice []),(PV.slice []),(PV.slice [])]),o,z) else some (M.1,(IntKind.wrap .i64 (o+1)),(0:Int)) else none else none else (F158 uu m d).bind λV=>bif (V != 2) then some ((PV.agg [(PV.int (0:Int)),(PV.int (0:Int)),(PV.str ([]:Bo)),(PV.slice []),(PV.slice []),(PV.slice []),(PV.slice [])]),d,(2:Int)) else bif aaa d m.length then (F135 uu (IntKind.wrap .u64 ((m.getD d.toNat .bad).fld 2).asInt) (10:Int)).bind λO=>bif decide (([]:Bo).length+O.length<=aaf) then (F239 uu W (([]:Bo)++O)).bind λU=>let H:=U.2;bif (H != 0) then some ((PV.agg [(PV.int (0:Int)),(PV.int (0:Int)),(PV.str ([]:Bo)),(PV.slice []),(PV.slice []),(PV.slice []),(PV.slice [])]),d,H) else some (U.1,(IntKind.wrap .i64 (d+1)),(0:Int)) else none else none
def F260c:CallE:=⟨260,⟨3,[],(.int .i64)::sv16⟩,⟨3,[],(.data 51)::sv2⟩,λx=>F260 uu x.1 x.2.1 x.2.2,(PV.bad,0,0)⟩
theorem F260ok:okP (F260c uu):=okJ Tryz.f260 45 0 uu _ [] false (qc (F77ok uu)<|qc (F158ok uu)<|qc (F135ok uu)<|qc (F239ok uu)<|q0) p0 L0
def F159 (o:Int) (m:List PV) (d:Int):Option (PV×Int×Int):=let x1:=o==1;(bif x1 then F158 uu m d else some 0).bind λY=>let O:=bif x1 then (Y==1) else false;bif imp O (aaa d m.length) then let X:=((m.getD d.toNat .bad).fld 1).asStr==([116,114,117,101]:Bo);bif imp (bif !X then O else false) (aaa d m.length) then bif (bif O then (bif X then true else (((m.getD d.toNat .bad).fld 1).asStr==([102,97,108,115,101]:Bo))) else false) then bif aaa d m.length then (F239 uu o ((m.getD d.toNat .bad).fld 1).asStr).bind λU=>some (U.1,(IntKind.wrap .i64 (d+1)),(0:Int)) else none else let M:=o==7;(bif M then F158 uu m d else some 0).bind λV=>bif (bif M then (V==3) else false) then bif aaa d m.length then let z:=((m.getD d.toNat .bad).fld 1).asStr;bif (decide ((z.length:Int)>4096)) then some ((PV.agg [(PV.int (0:Int)),(PV.int (0:Int)),(PV.str ([]:Bo)),(PV.slice []),(PV.slice []),(PV.slice []),(PV.slice [])]),d,(3:Int)) else (F146 uu o (PV.agg [(PV.int o),(PV.int (0:Int)),(PV.str z),(PV.slice []),(PV.slice []),(PV.slice []),(PV.slice [])])).bind λW=>bif (!W) then some ((PV.agg [(PV.int (0:Int)),(PV.int (0:Int)),(PV.str ([]:Bo)),(PV.slice []),(PV.slice []),(PV.slice []),(PV.slice [])]),d,(7:Int)) else some ((PV.agg [(PV.int o),(PV.int (0:Int)),(PV.str z),(PV.slice []),(PV.slice []),(PV.slice []),(PV.slice [])]),(IntKind.wrap .i64 (d+1)),(0:Int)) else none else bif (bif (o==4) then true else (o==3)) then (F260 uu o m d).bind λH=>some (H.1,H.2.1,H.2.2) else some ((PV.agg [(PV.int (0:Int)),(PV.int (0:Int)),(PV.str ([]:Bo)),(PV.slice []),(PV.slice []),(PV.slice []),(PV.slice [])]),d,(2:Int)) else none else none
def F159c:CallE:=⟨159,⟨3,[],(.int .i64)::sv16⟩,⟨3,[],(.data 51)::sv2⟩,λx=>F159 uu x.1 x.2.1 x.2.2,(PV.bad,0,0)⟩
theorem F159ok:okP (F159c uu):=okJ Tryz.f159 99 0 uu _ [] false (qc (F158ok uu)<|qc (F239ok uu)<|qc (F146ok uu)<|qc (F260ok uu)<|q0) p0 L0
def F78 (m:List PV) (d:Int):Option (PV×Int×Int):=(F158 uu m d).bind λO=>bif (O != 1) then some ((PV.agg [(PV.str ([]:Bo)),(PV.agg [(PV.int (0:Int)),(PV.int (0:Int)),(PV.str ([]:Bo)),(PV.slice []),(PV.slice []),(PV.slice []),(PV.slice [])])]),d,(2:Int)) else bif aaa d m.length then (F71 uu ((m.getD d.toNat .bad).fld 1).asStr).bind λU=>bif (U==0) then some ((PV.agg [(PV.str ([]:Bo)),(PV.agg [(PV.int (0:Int)),(PV.int (0:Int)),(PV.str ([]:Bo)),(PV.slice []),(PV.slice []),(PV.slice []),(PV.slice [])])]),d,(8:Int)) else (F77 uu m (IntKind.wrap .i64 (d+1)) ([61]:Bo)).bind λV=>bif (!V) then let z:=IntKind.wrap .i64 (d+1);let H:=(m.length:Int);some ((PV.agg [(PV.str ([]:Bo)),(PV.agg [(PV.int (0:Int)),(PV.int (0:Int)),(PV.str ([]:Bo)),(PV.slice []),(PV.slice []),(PV.slice []),(PV.slice [])])]),(if H<z then H else z),(2:Int)) else bif aaa d m.length then (F71 uu ((m.getD d.toNat .bad).fld 1).asStr).bind λM=>(F159 uu M m (IntKind.wrap .i64 (d+2))).bind λo=>bif aaa d m.length then some ((PV.agg [(PV.str ((m.getD d.toNat .bad).fld 1).asStr),o.1]),o.2.1,o.2.2) else none else none else none
def F78c:CallE:=⟨78,⟨2,[],sv16⟩,⟨3,[],(.data 116)::sv2⟩,λx=>F78 uu x.1 x.2,(PV.bad,0,0)⟩
theorem F78ok:okP (F78c uu):=okJ Tryz.f78 62 0 uu _ [] false (qc (F158ok uu)<|qc (F71ok uu)<|qc (F77ok uu)<|qc (F159ok uu)<|q0) p0 L0
abbrev S36_5x:=(List PV)×Int×(List PV)
abbrev S36_5y:=((List PV)×Int×Int)
def S36_5 (z:List PV) (W:Int) (U:List PV):Option (S36_5x⊕S36_5y):=(F78 uu z (IntKind.wrap .i64 (W+1))).bind λO=>let V:=O.1;let d:=O.2.1;let m:=O.2.2;bif (m != 0) then some (.inr ([],d,m)) else bif decide (U.length+[V].length<=aak) then let o:=U++[V];(F77 uu z d ([93]:Bo)).bind λH=>bif H then some (.inr (o,(IntKind.wrap .i64 (d+1)),(0:Int))) else (F77 uu z d ([44]:Bo)).bind λM=>bif (!M) then some (.inr ([],d,(2:Int))) else some (.inl (z,d,o)) else none
def S36_5step (x:S36_5x):Option (S36_5x⊕S36_5y):=S36_5 uu x.1 x.2.1 x.2.2
def F36 (o:List PV) (m:Int):Option ((List PV)×Int×Int):=(F77 uu o m ([91]:Bo)).bind λz=>bif (!z) then some ([],m,(0:Int)) else (aaw uu (S36_5step uu) (o,m,[])).bind λd=>some (d.1,d.2.1,d.2.2)
def S36_5l:LoopE:=⟨5,⟨[0,1,7],[.acc],[.slice 72,.int .i64,.acc 0 116]⟩,[(.ret,⟨[4,5,6],[.acc],sv3⟩)],S36_5step uu⟩
def F36C:Cfg:=cfg Tryz.prog 46 0 [F77c uu,F78c uu] [S36_5l uu] uu
def F36c:CallE:=⟨36,⟨2,[],sv16⟩,⟨3,[],sv3⟩,λx=>F36 uu x.1 x.2,([],0,0)⟩
theorem F36k:aap (F36C uu):=aad (qc (F77ok uu)<|qc (F78ok uu)<|q0) p0
theorem S36_5ok:aai (F36C uu) (lp (aao Tryz.f36) 0):=okL (F36k uu) uu (S36_5l uu) L0
theorem F36ok:okP (F36c uu):=okE Tryz.f36 (F36k uu) (L1 (S36_5ok uu))
def F205 (z:Unit) (s:Q0):Option (((List PV)×Q0)⊕(PV×Q0)):=(F36 uu s.1 s.2.1).bind λm=>let d:=m.2.1;let o:=m.2.2;bif (o != 0) then some (.inr ((PV.agg [(PV.int d),(PV.int o)]),s.1,d,s.2.2)) else some (.inl (m.1,s.1,d,s.2.2))
def F205p:CallP:=⟨205,⟨1,bx1,sv9⟩,⟨1,bx1,(.slice 116)::sv12⟩,⟨1,bx1,sv13⟩,λx=>F205 uu x.1 x.2,([],[],0,[],[],(),(),(),[],[],[],[])⟩
theorem F205ok:(F205p uu).Ok Tryz.prog:=okPJ Tryz.f205 29 5 uu _ _ false (qc (F36ok uu)<|q0) (pc (F118ok uu)<|p0) L0
def F238 (d:Bo):Option Bool:=(F202 uu d).bind λm=>(bif m then F200 uu d else some false).bind λo=>some (bif m then (!o) else false)
def F238c:CallE:=⟨238,⟨1,[],[.str]⟩,⟨1,[],[.bool]⟩,λx=>F238 uu x,false⟩
theorem F238ok:okP (F238c uu):=okJ Tryz.f238 10 0 uu _ [] false (qc (F202ok uu)<|qc (F200ok uu)<|q0) p0 L0
def F92_v3 (O:Unit) (H:Int) (U:Unit) (s:Q0):Option ((Bo×Q0)⊕(PV×Q0)):=(F117 uu () s).bind λd=>bif (d.1 != H) then some (.inr ((PV.agg [(PV.int d.2.2.1),(PV.int (2:Int))]),d.2)) else let m:=d.2.1;let o:=d.2.2.1;bif aaa o m.length then let z:=((m.getD o.toNat .bad).fld 1).asStr;(F238 uu z).bind λM=>bif (!M) then some (.inr ((PV.agg [(PV.int d.2.2.1),(PV.int (8:Int))]),d.2)) else some (.inl (z,d.2.1,(IntKind.wrap .i64 (d.2.2.1+1)),d.2.2.2)) else none
def F92_v3p:CallP:=⟨92,⟨3,bx1,(.con (.ref 0 [] 82))::(.int .i64)::(.con (.fn 238 0 []))::sv12⟩,⟨1,bx1,sv7⟩,⟨1,bx1,sv13⟩,λx=>F92_v3 uu x.1 x.2.1 x.2.2.1 x.2.2.2,([],[],0,[],[],(),(),(),[],[],[],[])⟩
theorem F92_v3ok:(F92_v3p uu).Ok Tryz.prog:=okPJ Tryz.f92 39 5 uu _ _ false (qc (F117ok uu)<|qc (F238ok uu)<|q0) (pc (F118ok uu)<|p0) L0
def F132 (o:Unit) (s:Q0):Option ((Bo×Q0)⊕(PV×Q0)):=(F92_v3 uu () (1:Int) () s).bind λz=>sumE (λd=>some (.inl (d.1,d.2)) ) (λm=>some (.inr m) ) z
def F132p:CallP:=⟨132,⟨1,bx1,sv9⟩,⟨1,bx1,sv7⟩,⟨1,bx1,sv13⟩,λx=>F132 uu x.1 x.2,([],[],0,[],[],(),(),(),[],[],[],[])⟩
theorem F132ok:(F132p uu).Ok Tryz.prog:=okPJ Tryz.f132 5 5 uu [] _ false q0 (pc (F92_v3ok uu)<|p0) L0
def F229 (d:Bo):Option Bool:=(F141 uu d ([46]:Bo)).bind λm=>(F140 uu m).bind λo=>some o
def F229c:CallE:=⟨229,⟨1,[],[.str]⟩,⟨1,[],[.bool]⟩,λx=>F229 uu x,false⟩
theorem F229ok:okP (F229c uu):=okJ Tryz.f229 6 0 uu _ [] false (qc (F141ok uu)<|qc (F140ok uu)<|q0) p0 L0
def F92_v4 (O:Unit) (H:Int) (U:Unit) (s:Q0):Option ((Bo×Q0)⊕(PV×Q0)):=(F117 uu () s).bind λd=>bif (d.1 != H) then some (.inr ((PV.agg [(PV.int d.2.2.1),(PV.int (2:Int))]),d.2)) else let m:=d.2.1;let o:=d.2.2.1;bif aaa o m.length then let z:=((m.getD o.toNat .bad).fld 1).asStr;(F229 uu z).bind λM=>bif (!M) then some (.inr ((PV.agg [(PV.int d.2.2.1),(PV.int (8:Int))]),d.2)) else some (.inl (z,d.2.1,(IntKind.wrap .i64 (d.2.2.1+1)),d.2.2.2)) else none
def F92_v4p:CallP:=⟨92,⟨3,bx1,(.con (.ref 0 [] 82))::(.int .i64)::(.con (.fn 229 0 []))::sv12⟩,⟨1,bx1,sv7⟩,⟨1,bx1,sv13⟩,λx=>F92_v4 uu x.1 x.2.1 x.2.2.1 x.2.2.2,([],[],0,[],[],(),(),(),[],[],[],[])⟩
theorem F92_v4ok:(F92_v4p uu).Ok Tryz.prog:=okPJ Tryz.f92 39 5 uu _ _ false (qc (F117ok uu)<|qc (F229ok uu)<|q0) (pc (F118ok uu)<|p0) L0
def F115 (o:Unit) (s:Q0):Option ((Bo×Q0)⊕(PV×Q0)):=(F92_v4 uu () (1:Int) () s).bind λz=>sumE (λd=>some (.inl (d.1,d.2)) ) (λm=>some (.inr m) ) z
def F115p:CallP:=⟨115,⟨1,bx1,sv9⟩,⟨1,bx1,sv7⟩,⟨1,bx1,sv13⟩,λx=>F115 uu x.1 x.2,([],[],0,[],[],(),(),(),[],[],[],[])⟩
theorem F115ok:(F115p uu).Ok Tryz.prog:=okPJ Tryz.f115 5 5 uu [] _ false q0 (pc (F92_v4ok uu)<|p0) L0
def F49 (uu:Nat) :Option PV:=let x1:=(PV.agg [(PV.str ([98,111,111,108]:Bo)),(PV.str ([105,51,50]:Bo)),(PV.str ([105,54,52]:Bo)),(PV.str ([117,51,50]:Bo)),(PV.str ([117,54,52]:Bo)),(PV.str ([100,111,117,98,108,101]:Bo)),(PV.str ([116,101,120,116]:Bo)),(PV.str ([98,121,116,101,115]:Bo))]);some x1
def F49c:CallE:=⟨49,⟨0,[],[]⟩,⟨1,[],[.data 92]⟩,λx=>F49 uu ,PV.bad⟩
theorem F49ok:okP (F49c uu):=okJ Tryz.f49 2 0 uu [] [] false q0 p0 L0
def S18_3 (uu:Nat) (m:Bo) (o:PV) (d:Int):Option ((Bo×PV×Int)⊕((Int)⊕(Unit))):=bif (decide (d<8)) then bif aaa d 8 then bif ((o.fld d.toNat).asStr==m) then some (.inr (.inl (IntKind.wrap .i64 (d+1)))) else some (.inl (m,o,(IntKind.wrap .i64 (d+1)))) else none else some (.inr (.inr ()))
def S18_3step (x:Bo×PV×Int):Option ((Bo×PV×Int)⊕((Int)⊕(Unit))):=S18_3 uu x.1 x.2.1 x.2.2
def F18 (m:Bo):Option Int:=(F49 uu).bind λo=>(aaw uu (S18_3step uu) (m,o,(0:Int))).bind λz=>sumE (λd=>some d ) (λH=>some (0:Int) ) z
def S18_3l:LoopE:=⟨3,⟨[0,5,6],[],[.str,.data 92,.int .i64]⟩,[(.ret,⟨[2],[],[.int .i64]⟩),(.exit 0,⟨[],[],[]⟩)],S18_3step uu⟩
def F18C:Cfg:=cfg Tryz.prog 16 0 [F49c uu] [S18_3l uu] uu
def F18c:CallE:=⟨18,⟨1,[],[.str]⟩,⟨1,[],[.int .i64]⟩,λx=>F18 uu x,0⟩
theorem F18k:aap (F18C uu):=aad (qc (F49ok uu)<|q0) p0
theorem S18_3ok:aai (F18C uu) (lp (aao Tryz.f18) 0):=okL (F18k uu) uu (S18_3l uu) L0
theorem F18ok:okP (F18c uu):=okE Tryz.f18 (F18k uu) (L1 (S18_3ok uu))
def F52 (M:Unit) (s:Q0):Option ((PV×Q0)⊕(PV×Q0)):=(F115 uu () s).bind λz=>sumE (λd=>let m:=d.1;(F18 uu m).bind λo=>bif (o != 0) then some (.inl ((PV.agg [(PV.int o),(PV.str ([]:Bo))]),d.2)) else some (.inl ((PV.agg [(PV.int (0:Int)),(PV.str m)]),d.2)) ) (λH=>some (.inr H) ) z
def F52p:CallP:=⟨52,⟨1,bx1,sv9⟩,⟨1,bx1,(.data 40)::sv12⟩,⟨1,bx1,sv13⟩,λx=>F52 uu x.1 x.2,(PV.bad,[],0,[],[],(),(),(),[],[],[],[])⟩
theorem F52ok:(F52p uu).Ok Tryz.prog:=okPJ Tryz.f52 15 5 uu _ _ false (qc (F18ok uu)<|q0) (pc (F115ok uu)<|p0) L0
def F209 (M:Unit) (H:Int) (s:Q0):Option ((Int×Q0)⊕(PV×Q0)):=(F117 uu () s).bind λd=>bif (d.1 != 2) then some (.inr ((PV.agg [(PV.int d.2.2.1),(PV.int (2:Int))]),d.2)) else let m:=d.2.1;let o:=d.2.2.1;bif aaa o m.length then let z:=((m.getD o.toNat .bad).fld 2).asInt;bif (decide ((IntKind.wrap .u64 z)>H)) then some (.inr ((PV.agg [(PV.int d.2.2.1),(PV.int (6:Int))]),d.2)) else some (.inl (z,d.2.1,(IntKind.wrap .i64 (d.2.2.1+1)),d.2.2.2)) else none
def F209p:CallP:=⟨209,⟨2,bx1,(.con (.ref 0 [] 82))::(.int .u64)::sv12⟩,⟨1,bx1,sv10⟩,⟨1,bx1,sv13⟩,λx=>F209 uu x.1 x.2.1 x.2.2,(0,[],0,[],[],(),(),(),[],[],[],[])⟩
theorem F209ok:(F209p uu).Ok Tryz.prog:=okPJ Tryz.f209 36 5 uu _ _ false (qc (F117ok uu)<|q0) (pc (F118ok uu)<|p0) L0
def F133 (M:Unit) (z:Int) (H:Bo) (s:Q0):Option ((PV×Q0)⊕(PV×Q0)):=(F239 uu z H).bind λo=>let d:=o.2;bif (d != 0) then let m:=IntKind.wrap .i64 (s.2.1-1);some (.inr ((PV.agg [(PV.int m),(PV.int d)]),s.1,m,s.2.2)) else some (.inl (o.1,s))
def F133p:CallP:=⟨133,⟨3,bx1,(.con (.ref 0 [] 82))::(.int .i64)::sv7⟩,⟨1,bx1,(.data 51)::sv12⟩,⟨1,bx1,sv13⟩,λx=>F133 uu x.1 x.2.1 x.2.2.1 x.2.2.2,(PV.bad,[],0,[],[],(),(),(),[],[],[],[])⟩
theorem F133ok:(F133p uu).Ok Tryz.prog:=okPJ Tryz.f133 28 5 uu _ _ false (qc (F239ok uu)<|q0) (pc (F118ok uu)<|p0) L0
def F63 (a0:Unit) (o:Int) (s:Q0):Option ((PV×Q0)⊕(PV×Q0)):=bif (o==0) then (F132 uu () s).bind λz=>sumE (λy2=>some (.inl ((PV.agg [(PV.int (9:Int)),(PV.int (0:Int)),(PV.str y2.1),(PV.slice []),(PV.slice []),(PV.slice []),(PV.slice [])]),y2.2)) ) (λy3=>some (.inr y3) ) z else bif (o==1) then (F96 uu () ([116,114,117,101]:Bo) s).bind λH=>let x7:=!H.1;bif x7 then (F96 uu () ([102,97,108,115,101]:Bo) H.2).bind λO=>bif (bif x7 then (!O.1) else false) then some (.inr ((PV.agg [(PV.int O.2.2.1),(PV.int (2:Int))]),O.2)) else let U:=IntKind.wrap .i64 (O.2.2.1+1);let V:=O.2.1;let W:=IntKind.wrap .i64 (U-1);bif aaa W V.length then (F133 uu () o ((V.getD W.toNat .bad).fld 1).asStr (O.2.1,U,O.2.2.2)).bind λz=>sumE (λam=>some (.inl am) ) (λan=>some (.inr an) ) z else none else bif (bif x7 then true else false) then some (.inr ((PV.agg [(PV.int H.2.2.1),(PV.int (2:Int))]),H.2)) else let X:=IntKind.wrap .i64 (H.2.2.1+1);let Y:=H.2.1;let Z:=IntKind.wrap .i64 (X-1);bif aaa Z Y.length then (F133 uu () o ((Y.getD Z.toNat .bad).fld 1).asStr (H.2.1,X,H.2.2.2)).bind λz=>sumE (λao=>some (.inl ao) ) (λap=>some (.inr ap) ) z else none else bif (o==6) then (F95 uu () s).bind λz=>sumE (λah=>(F133 uu () o ah.1 ah.2).bind λz=>sumE (λar=>some (.inl ar) ) (λau=>some (.inr au) ) z ) (λaq=>some (.inr aq) ) z else bif (o==8) then (F95 uu () s).bind λz=>sumE (λai=>(F133 uu () o ai.1 ai.2).bind λz=>sumE (λaw=>some (.inl aw) ) (λax=>some (.inr ax) ) z ) (λav=>some (.inr av) ) z else bif (o==7) then (F95 uu () s).bind λz=>sumE (λaj=>(F134 uu aj.1).bind λaz=>(F133 uu () o az aj.2).bind λz=>sumE (λaA=>some (.inl aA) ) (λaB=>some (.inr aB) ) z ) (λay=>some (.inr ay) ) z else (F91 uu () ([45]:Bo) s).bind λM=>bif M.1 then (F117 uu () M.2).bind λd=>bif (d.1 != 2) then some (.inr ((PV.agg [(PV.int d.2.2.1),(PV.int (2:Int))]),d.2)) else let aa:=IntKind.wrap .i64 (d.2.2.1+1);let ab:=d.2.1;let ad:=IntKind.wrap .i64 (aa-1);bif aaa ad ab.length then (F135 uu (IntKind.wrap .u64 ((ab.getD ad.toNat .bad).fld 2).asInt) (10:Int)).bind λak=>bif decide (([45]:Bo).length+ak.length<=aaf) then (F133 uu () o (([45]:Bo)++ak) (d.2.1,aa,d.2.2.2)).bind λz=>sumE (λaC=>some (.inl aC) ) (λaD=>some (.inr aD) ) z else none else none else (F117 uu () M.2).bind λm=>bif (m.1 != 2) then some (.inr ((PV.agg [(PV.int m.2.2.1),(PV.int (2:Int))]),m.2)) else let ae:=IntKind.wrap .i64 (m.2.2.1+1);let af:=m.2.1;let ag:=IntKind.wrap .i64 (ae-1);bif aaa ag af.length then (F135 uu (IntKind.wrap .u64 ((af.getD ag.toNat .bad).fld 2).asInt) (10:Int)).bind λal=>bif decide (([]:Bo).length+al.length<=aaf) then (F133 uu () o (([]:Bo)++al) (m.2.1,ae,m.2.2.2)).bind λz=>sumE (λaE=>some (.inl aE) ) (λaF=>some (.inr aF) ) z else none else none
def F63p:CallP:=⟨63,⟨2,bx1,(.con (.ref 0 [] 82))::sv10⟩,⟨1,bx1,(.data 51)::sv12⟩,⟨1,bx1,sv13⟩,λx=>F63 uu x.1 x.2.1 x.2.2,(PV.bad,[],0,[],[],(),(),(),[],[],[],[])⟩
theorem F63ok:(F63p uu).Ok Tryz.prog:=okPJ Tryz.f63 95 5 uu _ _ false (qc (F96ok uu)<|qc (F134ok uu)<|qc (F91ok uu)<|qc (F117ok uu)<|qc (F135ok uu)<|q0) (pc (F132ok uu)<|pc (F118ok uu)<|pc (F133ok uu)<|pc (F95ok uu)<|p0) L0
def F119 (a0:Unit) (d:PV) (X:Bool) (s:Q0):Option ((PV×Q0)⊕(PV×Q0)):=(F132 uu () s).bind λz=>sumE (λo=>(F94 uu () ([61]:Bo) o.2).bind λz=>sumE (λy3=>(F209 uu () (65535:Int) y3).bind λz=>sumE (λm=>bif X then (F91 uu () ([100,101,102,97,117,108,116]:Bo) m.2).bind λy7=>bif (bif X then y7.1 else false) then (F63 uu () (((d.fld 4).fld 0).asInt) y7.2).bind λz=>sumE (λH=>(F205 uu () H.2).bind λz=>sumE (λM=>(F94 uu () ([59]:Bo) M.2).bind λz=>sumE (λaa=>some (.inl ((PV.agg [(PV.int m.1),(PV.str o.1),(PV.int (d.fld 2).asInt),(PV.int (d.fld 3).asInt),(d.fld 4),(PV.str (d.fld 5).asStr),(PV.bool true),H.1,(PV.slice M.1)]),aa)) ) (λab=>some (.inr ab) ) z ) (λZ=>some (.inr Z) ) z ) (λY=>some (.inr Y) ) z else (F205 uu () y7.2).bind λz=>sumE (λO=>(F94 uu () ([59]:Bo) O.2).bind λz=>sumE (λae=>some (.inl ((PV.agg [(PV.int m.1),(PV.str o.1),(PV.int (d.fld 2).asInt),(PV.int (d.fld 3).asInt),(d.fld 4),(PV.str (d.fld 5).asStr),(PV.bool (d.fld 6).asBool),(d.fld 7),(PV.slice O.1)]),ae)) ) (λaf=>some (.inr af) ) z ) (λad=>some (.inr ad) ) z else bif (bif X then false else false) then (F63 uu () (((d.fld 4).fld 0).asInt) m.2).bind λz=>sumE (λU=>(F205 uu () U.2).bind λz=>sumE (λV=>(F94 uu () ([59]:Bo) V.2).bind λz=>sumE (λai=>some (.inl ((PV.agg [(PV.int m.1),(PV.str o.1),(PV.int (d.fld 2).asInt),(PV.int (d.fld 3).asInt),(d.fld 4),(PV.str (d.fld 5).asStr),(PV.bool true),U.1,(PV.slice V.1)]),ai)) ) (λaj=>some (.inr aj) ) z ) (λah=>some (.inr ah) ) z ) (λag=>some (.inr ag) ) z else (F205 uu () m.2).bind λz=>sumE (λW=>(F94 uu () ([59]:Bo) W.2).bind λz=>sumE (λal=>some (.inl ((PV.agg [(PV.int m.1),(PV.str o.1),(PV.int (d.fld 2).asInt),(PV.int (d.fld 3).asInt),(d.fld 4),(PV.str (d.fld 5).asStr),(PV.bool (d.fld 6).asBool),(d.fld 7),(PV.slice W.1)]),al)) ) (λam=>some (.inr am) ) z ) (λak=>some (.inr ak) ) z ) (λy6=>some (.inr y6) ) z ) (λy4=>some (.inr y4) ) z ) (λy2=>some (.inr y2) ) z
def F119p:CallP:=⟨119,⟨3,bx1,(.con (.ref 0 [] 82))::(.data 54)::sv8⟩,⟨1,bx1,(.data 54)::sv12⟩,⟨1,bx1,sv13⟩,λx=>F119 uu x.1 x.2.1 x.2.2.1 x.2.2.2,(PV.bad,[],0,[],[],(),(),(),[],[],[],[])⟩
theorem F119ok:(F119p uu).Ok Tryz.prog:=okPJ Tryz.f119 33 5 uu _ _ false (qc (F91ok uu)<|q0) (pc (F132ok uu)<|pc (F94ok uu)<|pc (F209ok uu)<|pc (F63ok uu)<|pc (F205ok uu)<|p0) L0
abbrev S206_6x:=Unit×Bo×(List PV)×Q0
abbrev S206_6y:=((List PV)×Q0)⊕(PV×Q0)
def S206_6 (W:Unit) (V:Bo) (o:List PV) (s:Q0):Option (S206_6x⊕S206_6y):=(F52 uu () s).bind λz=>sumE (λM=>(F119 uu () (PV.agg [(PV.int (0:Int)),(PV.str ([]:Bo)),(PV.int (2:Int)),(PV.int (0:Int)),M.1,(PV.str V),(PV.bool false),(PV.agg [(PV.int (0:Int)),(PV.int (0:Int)),(PV.str ([]:Bo)),(PV.slice []),(PV.slice []),(PV.slice []),(PV.slice [])]),(PV.slice [])]) false M.2).bind λz=>sumE (λd=>bif decide (o.length+[d.1].length<=aak) then let H:=o++[d.1];(F91 uu () ([125]:Bo) d.2).bind λm=>bif m.1 then some (.inr (.inl (H,m.2))) else some (.inl ((),V,H,m.2)) else none ) (λU=>some (.inr (.inr U)) ) z ) (λO=>some (.inr (.inr O)) ) z
def S206_6step (x:S206_6x):Option (S206_6x⊕S206_6y):=S206_6 uu x.1 x.2.1 x.2.2.1 x.2.2.2
def F206 (W:Unit) (s:Q0):Option (((List PV)×Q0)⊕(PV×Q0)):=(F94 uu () ([117,110,105,111,110]:Bo) s).bind λz=>sumE (λH=>(F132 uu () H).bind λz=>sumE (λo=>(F94 uu () ([123]:Bo) o.2).bind λz=>sumE (λU=>(aaw uu (S206_6step uu) ((),o.1,[],U)).bind λz=>sumE (λd=>some (.inl d) ) (λm=>some (.inr m) ) z ) (λV=>some (.inr V) ) z ) (λO=>some (.inr O) ) z ) (λM=>some (.inr M) ) z
def S206_6l:LoopE:=⟨6,⟨[0,3,4],bx3,(.con (.ref 0 [] 82))::.str::(.acc 5 54)::sv12⟩,[(.ret,⟨[2],bx3,(.acc 5 54)::sv12⟩),(.pan,⟨[0],bx3,sv13⟩)],S206_6step uu⟩
def F206C:Cfg:=cfg Tryz.prog 23 5 [F91c uu] [S206_6l uu] uu [F94p uu,F132p uu,F52p uu,F119p uu]
def F206p:CallP:=⟨206,⟨1,bx1,sv9⟩,⟨1,bx1,(.slice 54)::sv12⟩,⟨1,bx1,sv13⟩,λx=>F206 uu x.1 x.2,([],[],0,[],[],(),(),(),[],[],[],[])⟩
theorem F206k:aap (F206C uu):=aad (qc (F91ok uu)<|q0) (pc (F94ok uu)<|pc (F132ok uu)<|pc (F52ok uu)<|pc (F119ok uu)<|p0)
theorem S206_6ok:aai (F206C uu) (lp (aao Tryz.f206) 0):=okL (F206k uu) uu (S206_6l uu) L0
theorem F206ok:(F206p uu).Ok Tryz.prog:=okPE Tryz.f206 (F206k uu) (L1 (S206_6ok uu))
abbrev S208_3x:=Unit×Int×(List PV)×Q0
abbrev S208_3y:=((List PV)×Q0)⊕(PV×Q0)
def S208_3 (a1:Unit) (U:Int) (V:List PV) (s:Q0):Option (S208_3x⊕S208_3y):=(F209 uu () U s).bind λz=>sumE (λy4=>let o:=y4.1;(F91 uu () ([45]:Bo) y4.2).bind λy7=>bif y7.1 then (F209 uu () U y7.2).bind λz=>sumE (λy8=>let H:=y8.1;bif decide (V.length+[(PV.agg [(PV.int o),(PV.int H)])].length<=aak) then let M:=V++[(PV.agg [(PV.int o),(PV.int H)])];(F91 uu () ([59]:Bo) y8.2).bind λd=>bif d.1 then some (.inr (.inl (M,d.2))) else (F94 uu () ([44]:Bo) d.2).bind λz=>sumE (λW=>some (.inl ((),U,M,W)) ) (λX=>some (.inr (.inr X)) ) z else none ) (λy9=>some (.inr (.inr y9)) ) z else bif decide (V.length+[(PV.agg [(PV.int o),(PV.int o)])].length<=aak) then let O:=V++[(PV.agg [(PV.int o),(PV.int o)])];(F91 uu () ([59]:Bo) y7.2).bind λm=>bif m.1 then some (.inr (.inl (O,m.2))) else (F94 uu () ([44]:Bo) m.2).bind λz=>sumE (λY=>some (.inl ((),U,O,Y)) ) (λZ=>some (.inr (.inr Z)) ) z else none ) (λy5=>some (.inr (.inr y5)) ) z
def S208_3step (x:S208_3x):Option (S208_3x⊕S208_3y):=S208_3 uu x.1 x.2.1 x.2.2.1 x.2.2.2
def F208 (H:Unit) (o:Int) (s:Q0):Option (((List PV)×Q0)⊕(PV×Q0)):=(aaw uu (S208_3step uu) ((),o,[],s)).bind λz=>sumE (λd=>some (.inl d) ) (λm=>some (.inr m) ) z
def S208_3l:LoopE:=⟨3,⟨[0,1,5],bx3,(.con (.ref 0 [] 82))::(.int .u64)::(.acc 5 234)::sv12⟩,[(.ret,⟨[4],bx3,(.acc 5 234)::sv12⟩),(.pan,⟨[0],bx3,sv13⟩)],S208_3step uu⟩
def F208C:Cfg:=cfg Tryz.prog 29 5 [F91c uu] [S208_3l uu] uu [F209p uu,F94p uu]
def F208p:CallP:=⟨208,⟨2,bx1,(.con (.ref 0 [] 82))::(.int .u64)::sv12⟩,⟨1,bx1,(.slice 234)::sv12⟩,⟨1,bx1,sv13⟩,λx=>F208 uu x.1 x.2.1 x.2.2,([],[],0,[],[],(),(),(),[],[],[],[])⟩
theorem F208k:aap (F208C uu):=aad (qc (F91ok uu)<|q0) (pc (F209ok uu)<|pc (F94ok uu)<|p0)
theorem S208_3ok:aai (F208C uu) (lp (aao Tryz.f208) 0):=okL (F208k uu) uu (S208_3l uu) L0
theorem F208ok:(F208p uu).Ok Tryz.prog:=okPE Tryz.f208 (F208k uu) (L1 (S208_3ok uu))
abbrev S98_8x:=Unit×Unit×Int×(List PV)×Int×Bo×Bo×Unit×Unit×Unit×(List PV)×(List PV)×(List PV)×(List PV)×Bo×Bool×(List PV)×(List PV)×(List PV)
abbrev S98_8y:=(PV×(List PV)×Int×Bo×Bo×Unit×Unit×Unit×(List PV)×(List PV)×(List PV)×(List PV)×Bo×Bool×(List PV)×(List PV)×(List PV))⊕(Unit×Unit×Int×(List PV)×Int×Bo×Bo×Unit×Unit×Unit×(List PV)×(List PV)×(List PV)×(List PV)×Bo×Bool×(List PV)×(List PV)×(List PV))
def S98_8 (ai:Unit) (aj:Unit) (X:Int) (s:(List PV)×Int×Bo×Bo×Unit×Unit×Unit×(List PV)×(List PV)×(List PV)×(List PV)×Bo×Bool×(List PV)×(List PV)×(List PV)):Option (S98_8x⊕S98_8y):=(F91 uu () ([125]:Bo) (s.1,s.2.1,s.2.2.1,s.2.2.2.1,(),(),(),s.2.2.2.2.2.2.2.1,s.2.2.2.2.2.2.2.2.1,s.2.2.2.2.2.2.2.2.2.1,s.2.2.2.2.2.2.2.2.2.2.1)).bind λd=>bif (!d.1) then (F91 uu () ([114,101,115,101,114,118,101,100]:Bo) d.2).bind λY=>bif Y.1 then (F208 uu () (2147483647:Int) Y.2).bind λz=>sumE (λm=>bif decide (s.2.2.2.2.2.2.2.2.2.2.2.2.2.2.1.length+m.1.length<=aak) then some (.inl ((),(),X,m.2.1,m.2.2.1,m.2.2.2.1,m.2.2.2.2.1,(),(),(),m.2.2.2.2.2.2.2.2.1,m.2.2.2.2.2.2.2.2.2.1,m.2.2.2.2.2.2.2.2.2.2.1,m.2.2.2.2.2.2.2.2.2.2.2,s.2.2.2.2.2.2.2.2.2.2.2.1,s.2.2.2.2.2.2.2.2.2.2.2.2.1,s.2.2.2.2.2.2.2.2.2.2.2.2.2.1,(s.2.2.2.2.2.2.2.2.2.2.2.2.2.2.1++m.1),s.2.2.2.2.2.2.2.2.2.2.2.2.2.2.2)) else none ) (λo=>some (.inr (.inl (o.1,o.2.1,o.2.2.1,o.2.2.2.1,o.2.2.2.2.1,(),(),(),o.2.2.2.2.2.2.2.2.1,o.2.2.2.2.2.2.2.2.2.1,o.2.2.2.2.2.2.2.2.2.2.1,o.2.2.2.2.2.2.2.2.2.2.2,s.2.2.2.2.2.2.2.2.2.2.2))) ) z else (F132 uu () Y.2).bind λz=>sumE (λad=>let Z:=ad.1;(F94 uu () ([61]:Bo) ad.2).bind λz=>sumE (λah=>(F209 uu () (2147483647:Int) ah).bind λz=>sumE (λae=>(F205 uu () ae.2).bind λz=>sumE (λaf=>(F94 uu () ([59]:Bo) af.2).bind λz=>sumE (λW=>let aa:=ae.1;let ab:=af.1;bif decide (s.2.2.2.2.2.2.2.2.2.2.2.2.2.1.length+[(PV.agg [(PV.str Z),(PV.int aa),(PV.slice ab)])].length<=aak) then let ag:=s.2.2.2.2.2.2.2.2.2.2.2.2.2.1++[(PV.agg [(PV.str Z),(PV.int aa),(PV.slice ab)])];some (.inl ((),(),X,W.1,W.2.1,W.2.2.1,W.2.2.2.1,(),(),(),W.2.2.2.2.2.2.2.1,W.2.2.2.2.2.2.2.2.1,W.2.2.2.2.2.2.2.2.2.1,W.2.2.2.2.2.2.2.2.2.2,s.2.2.2.2.2.2.2.2.2.2.2.1,s.2.2.2.2.2.2.2.2.2.2.2.2.1,ag,s.2.2.2.2.2.2.2.2.2.2.2.2.2.2)) else none ) (λV=>some (.inr (.inl (V.1,V.2.1,V.2.2.1,V.2.2.2.1,V.2.2.2.2.1,(),(),(),V.2.2.2.2.2.2.2.2.1,V.2.2.2.2.2.2.2.2.2.1,V.2.2.2.2.2.2.2.2.2.2.1,V.2.2.2.2.2.2.2.2.2.2.2,s.2.2.2.2.2.2.2.2.2.2.2))) ) z ) (λU=>some (.inr (.inl (U.1,U.2.1,U.2.2.1,U.2.2.2.1,U.2.2.2.2.1,(),(),(),U.2.2.2.2.2.2.2.2.1,U.2.2.2.2.2.2.2.2.2.1,U.2.2.2.2.2.2.2.2.2.2.1,U.2.2.2.2.2.2.2.2.2.2.2,s.2.2.2.2.2.2.2.2.2.2.2))) ) z ) (λO=>some (.inr (.inl (O.1,O.2.1,O.2.2.1,O.2.2.2.1,O.2.2.2.2.1,(),(),(),O.2.2.2.2.2.2.2.2.1,O.2.2.2.2.2.2.2.2.2.1,O.2.2.2.2.2.2.2.2.2.2.1,O.2.2.2.2.2.2.2.2.2.2.2,s.2.2.2.2.2.2.2.2.2.2.2))) ) z ) (λM=>some (.inr (.inl (M.1,M.2.1,M.2.2.1,M.2.2.2.1,M.2.2.2.2.1,(),(),(),M.2.2.2.2.2.2.2.2.1,M.2.2.2.2.2.2.2.2.2.1,M.2.2.2.2.2.2.2.2.2.2.1,M.2.2.2.2.2.2.2.2.2.2.2,s.2.2.2.2.2.2.2.2.2.2.2))) ) z ) (λH=>some (.inr (.inl (H.1,H.2.1,H.2.2.1,H.2.2.2.1,H.2.2.2.2.1,(),(),(),H.2.2.2.2.2.2.2.2.1,H.2.2.2.2.2.2.2.2.2.1,H.2.2.2.2.2.2.2.2.2.2.1,H.2.2.2.2.2.2.2.2.2.2.2,s.2.2.2.2.2.2.2.2.2.2.2))) ) z else some (.inr (.inr ((),(),X,d.2.1,d.2.2.1,d.2.2.2.1,d.2.2.2.2.1,(),(),(),d.2.2.2.2.2.2.2.2.1,d.2.2.2.2.2.2.2.2.2.1,d.2.2.2.2.2.2.2.2.2.2.1,d.2.2.2.2.2.2.2.2.2.2.2,s.2.2.2.2.2.2.2.2.2.2.2)))
def S98_8step (x:S98_8x):Option (S98_8x⊕S98_8y):=S98_8 uu x.1 x.2.1 x.2.2.1 x.2.2.2
def F98 (a0:Unit) (a1:Bo) (s:Q0):Option ((Q0)⊕(PV×Q0)):=(F91 uu () ([111,112,101,110]:Bo) s).bind λX=>let O:=X.1;(F94 uu () ([101,110,117,109]:Bo) X.2).bind λz=>sumE (λH=>bif decide (H.2.2.2.2.2.2.2.2.2.2.length+[(PV.agg [(PV.str ([]:Bo)),(PV.bool O),(PV.slice []),(PV.slice []),(PV.slice [])])].length<=aak) then let x6:=H.2.2.2.2.2.2.2.2.2.2++[(PV.agg [(PV.str ([]:Bo)),(PV.bool O),(PV.slice []),(PV.slice []),(PV.slice [])])];(F204 uu () a1 (H.1,H.2.1,H.2.2.1,H.2.2.2.1,(),(),(),H.2.2.2.2.2.2.2.1,H.2.2.2.2.2.2.2.2.1,H.2.2.2.2.2.2.2.2.2.1,x6)).bind λz=>sumE (λY=>(F205 uu () Y.2).bind λz=>sumE (λZ=>(F94 uu () ([123]:Bo) Z.2).bind λz=>sumE (λo=>(aaw uu (S98_8step uu) ((),(),(H.2.2.2.2.2.2.2.2.2.2.length:Int),o.1,o.2.1,o.2.2.1,o.2.2.2.1,(),(),(),o.2.2.2.2.2.2.2.1,o.2.2.2.2.2.2.2.2.1,o.2.2.2.2.2.2.2.2.2.1,o.2.2.2.2.2.2.2.2.2.2,Y.1,O,[],[],Z.1)).bind λz=>sumE (λm=>some (.inr (m.1,m.2.1,m.2.2.1,m.2.2.2.1,m.2.2.2.2.1,(),(),(),m.2.2.2.2.2.2.2.2.1,m.2.2.2.2.2.2.2.2.2.1,m.2.2.2.2.2.2.2.2.2.2.1,m.2.2.2.2.2.2.2.2.2.2.2.1)) ) (λd=>let M:=d.2.2.1;bif aaa M d.2.2.2.2.2.2.2.2.2.2.2.2.2.1.length then let U:=d.2.2.2.2.2.2.2.2.2.2.2.2.2.1.set M.toNat (PV.agg [(PV.str d.2.2.2.2.2.2.2.2.2.2.2.2.2.2.1),(PV.bool d.2.2.2.2.2.2.2.2.2.2.2.2.2.2.2.1),(PV.slice d.2.2.2.2.2.2.2.2.2.2.2.2.2.2.2.2.1),(PV.slice d.2.2.2.2.2.2.2.2.2.2.2.2.2.2.2.2.2.1),(PV.slice d.2.2.2.2.2.2.2.2.2.2.2.2.2.2.2.2.2.2)]);some (.inl (d.2.2.2.1,d.2.2.2.2.1,d.2.2.2.2.2.1,d.2.2.2.2.2.2.1,(),(),(),d.2.2.2.2.2.2.2.2.2.2.1,d.2.2.2.2.2.2.2.2.2.2.2.1,d.2.2.2.2.2.2.2.2.2.2.2.2.1,U)) else none ) z ) (λW=>some (.inr W) ) z ) (λV=>some (.inr V) ) z ) (λy8=>some (.inr y8) ) z else none ) (λy4=>some (.inr y4) ) z
def S98_8l:LoopE:=⟨8,⟨[0,4,5],bx4,(.con (.ref 0 [] 82))::(.con (.ref 5 [] 127))::(.int .i64)::sv18⟩,[(.pan,⟨[0],bx4,(.ifc 84)::sv18⟩),(.exit 0,⟨[0,4,5],bx4,(.con (.ref 0 [] 82))::(.con (.ref 5 [] 127))::(.int .i64)::sv18⟩)],S98_8step uu⟩
def F98C:Cfg:=cfg Tryz.prog 77 5 [F91c uu] [S98_8l uu] uu [F94p uu,F204p uu,F205p uu,F208p uu,F132p uu,F209p uu]
def F98p:CallP:=⟨98,⟨2,bx1,sv11⟩,⟨0,bx5,(.slice 72)::(.int .i64)::.str::.str::(.con (.arr 1 0 9))::(.con (.arr 2 0 63))::sv19⟩,⟨1,bx5,(.ifc 84)::(.slice 72)::(.int .i64)::.str::.str::(.con (.arr 1 0 9))::(.con (.arr 2 0 63))::sv19⟩,λx=>F98 uu x.1 x.2.1 x.2.2,([],0,[],[],(),(),(),[],[],[],[])⟩
theorem F98k:aap (F98C uu):=aad (qc (F91ok uu)<|q0) (pc (F94ok uu)<|pc (F204ok uu)<|pc (F205ok uu)<|pc (F208ok uu)<|pc (F132ok uu)<|pc (F209ok uu)<|p0)
theorem S98_8ok:aai (F98C uu) (lp (aao Tryz.f98) 0):=okL (F98k uu) uu (S98_8l uu) L0
theorem F98ok:(F98p uu).Ok Tryz.prog:=okPE Tryz.f98 (F98k uu) (L1 (S98_8ok uu))
def S207_3 (V:Unit) (o:List PV) (s:Q0):Option ((Unit×(List PV)×Q0)⊕(((List PV)×Q0)⊕(PV×Q0))):=(F95 uu () s).bind λz=>sumE (λd=>bif decide (o.length+[(PV.str d.1)].length<=aak) then let H:=o++[(PV.str d.1)];(F91 uu () ([59]:Bo) d.2).bind λm=>bif m.1 then some (.inr (.inl (H,m.2))) else (F94 uu () ([44]:Bo) m.2).bind λz=>sumE (λO=>some (.inl ((),H,O)) ) (λU=>some (.inr (.inr U)) ) z else none ) (λM=>some (.inr (.inr M)) ) z
def S207_3step (x:Unit×(List PV)×Q0):Option ((Unit×(List PV)×Q0)⊕(((List PV)×Q0)⊕(PV×Q0))):=S207_3 uu x.1 x.2.1 x.2.2
def F207 (o:Unit) (s:Q0):Option (((List PV)×Q0)⊕(PV×Q0)):=(aaw uu (S207_3step uu) ((),[],s)).bind λz=>sumE (λm=>some (.inl m) ) (λd=>some (.inr d) ) z
def S207_3l:LoopE:=⟨3,⟨[0,3],bx3,(.con (.ref 0 [] 82))::(.acc 5 9)::sv12⟩,[(.ret,⟨[2],bx3,(.acc 5 9)::sv12⟩),(.pan,⟨[0],bx3,sv13⟩)],S207_3step uu⟩
def F207C:Cfg:=cfg Tryz.prog 14 5 [F91c uu] [S207_3l uu] uu [F95p uu,F94p uu]
def F207p:CallP:=⟨207,⟨1,bx1,sv9⟩,⟨1,bx1,(.slice 9)::sv12⟩,⟨1,bx1,sv13⟩,λx=>F207 uu x.1 x.2,([],[],0,[],[],(),(),(),[],[],[],[])⟩
theorem F207k:aap (F207C uu):=aad (qc (F91ok uu)<|q0) (pc (F95ok uu)<|pc (F94ok uu)<|p0)
theorem S207_3ok:aai (F207C uu) (lp (aao Tryz.f207) 0):=okL (F207k uu) uu (S207_3l uu) L0
theorem F207ok:(F207p uu).Ok Tryz.prog:=okPE Tryz.f207 (F207k uu) (L1 (S207_3ok uu))
def F120 (uu:Nat) (d:Bo):Option Int:=let x1:=d==([114,101,113,117,105,114,101,100]:Bo);bif x1 then some (1:Int) else let m:=d==([111,112,116,105,111,110,97,108]:Bo);bif m then some (2:Int) else bif (d==([112,108,97,105,110]:Bo)) then some (3:Int) else bif (d==([108,105,115,116]:Bo)) then some (4:Int) else some (0:Int)
def F120c:CallE:=⟨120,⟨1,[],[.str]⟩,⟨1,[],[.int .i64]⟩,λx=>F120 uu x,0⟩
theorem F120ok:okP (F120c uu):=okJ Tryz.f120 12 0 uu [] [] false q0 p0 L0
def F55 (a0:Unit) (s:Q0):Option ((PV×Q0)⊕(PV×Q0)):=(F91 uu () ([109,97,112]:Bo) s).bind λy1=>bif y1.1 then (F94 uu () ([60]:Bo) y1.2).bind λz=>sumE (λy2=>(F117 uu () y2).bind λm=>let Z:=m.1 != 1;let x6:=m.2.1;let x7:=m.2.2.1;bif imp (!Z) (aaa x7 x6.length) then (bif !Z then F18 uu ((x6.getD x7.toNat .bad).fld 1).asStr else some 0).bind λaa=>bif (bif Z then true else (aa==0)) then some (.inr ((PV.agg [(PV.int m.2.2.1),(PV.int (2:Int))]),m.2)) else let H:=m.2.1;let M:=m.2.2.1;bif aaa M H.length then (F18 uu ((H.getD M.toNat .bad).fld 1).asStr).bind λab=>(F94 uu () ([44]:Bo) (m.2.1,(IntKind.wrap .i64 (m.2.2.1+1)),m.2.2.2)).bind λz=>sumE (λad=>(F52 uu () ad).bind λz=>sumE (λX=>(F94 uu () ([62]:Bo) X.2).bind λz=>sumE (λag=>(F119 uu () (PV.agg [(PV.int (0:Int)),(PV.str ([]:Bo)),(PV.int (5:Int)),(PV.int ab),X.1,(PV.str ([]:Bo)),(PV.bool false),(PV.agg [(PV.int (0:Int)),(PV.int (0:Int)),(PV.str ([]:Bo)),(PV.slice []),(PV.slice []),(PV.slice []),(PV.slice [])]),(PV.slice [])]) false ag).bind λz=>sumE (λai=>some (.inl ai) ) (λaj=>some (.inr aj) ) z ) (λah=>some (.inr ah) ) z ) (λaf=>some (.inr af) ) z ) (λae=>some (.inr ae) ) z else none else none ) (λy3=>some (.inr y3) ) z else (F117 uu () y1.2).bind λd=>let o:=d.1 != 1;let O:=d.2.1;let U:=d.2.2.1;bif imp (!o) (aaa U O.length) then (bif !o then F120 uu ((O.getD U.toNat .bad).fld 1).asStr else some 0).bind λak=>bif (bif o then true else (ak==0)) then some (.inr ((PV.agg [(PV.int d.2.2.1),(PV.int (2:Int))]),d.2)) else let V:=d.2.1;let W:=d.2.2.1;bif aaa W V.length then (F120 uu ((V.getD W.toNat .bad).fld 1).asStr).bind λal=>(F52 uu () (d.2.1,(IntKind.wrap .i64 (d.2.2.1+1)),d.2.2.2)).bind λz=>sumE (λY=>(F119 uu () (PV.agg [(PV.int (0:Int)),(PV.str ([]:Bo)),(PV.int al),(PV.int (0:Int)),Y.1,(PV.str ([]:Bo)),(PV.bool false),(PV.agg [(PV.int (0:Int)),(PV.int (0:Int)),(PV.str ([]:Bo)),(PV.slice []),(PV.slice []),(PV.slice []),(PV.slice [])]),(PV.slice [])]) true Y.2).bind λz=>sumE (λan=>some (.inl an) ) (λao=>some (.inr ao) ) z ) (λam=>some (.inr am) ) z else none else none
def F55p:CallP:=⟨55,⟨1,bx1,sv9⟩,⟨1,bx1,(.data 54)::sv12⟩,⟨1,bx1,sv13⟩,λx=>F55 uu x.1 x.2,(PV.bad,[],0,[],[],(),(),(),[],[],[],[])⟩
theorem F55ok:(F55p uu).Ok Tryz.prog:=okPJ Tryz.f55 106 5 uu _ _ false (qc (F91ok uu)<|qc (F117ok uu)<|qc (F18ok uu)<|qc (F120ok uu)<|q0) (pc (F94ok uu)<|pc (F118ok uu)<|pc (F52ok uu)<|pc (F119ok uu)<|p0) L0
def B97p (r:(Unit×Bo×Int×Q0)->Option ((Q0)⊕(PV×Q0))):CallP:=⟨97,⟨3,bx1,(.con (.ref 0 [] 82))::.str::sv10⟩,⟨0,bx6,sv20⟩,⟨1,bx6,(.ifc 84)::sv20⟩,r,([],0,[],[],(),(),(),[],[],[],[])⟩
abbrev B97_9x:=Unit×Int×Int×Unit×(List PV)×Int×Bo×Bo×Unit×Unit×Unit×(List PV)×(List PV)×(List PV)×(List PV)×Bo×(List PV)×(List PV)×(List PV)×(List PV)
abbrev B97_9y:=(PV×(List PV)×Int×Bo×Bo×Unit×Unit×Unit×(List PV)×(List PV)×(List PV)×(List PV)×Bo×(List PV)×(List PV)×(List PV)×(List PV))⊕(Unit×Int×Unit×(List PV)×Int×Bo×Bo×Unit×Unit×Unit×(List PV)×(List PV)×(List PV)×(List PV)×Bo×(List PV)×(List PV)×(List PV)×(List PV))
def B97_9 (r0:(Unit×Bo×Int×Q0)->Option ((Q0)⊕(PV×Q0))) (ax:Unit) (d:Int) (m:Int) (ay:Unit) (s:(List PV)×Int×Bo×Bo×Unit×Unit×Unit×(List PV)×(List PV)×(List PV)×(List PV)×Bo×(List PV)×(List PV)×(List PV)×(List PV)):Option (B97_9x⊕B97_9y):=(F91 uu () ([125]:Bo) (s.1,s.2.1,s.2.2.1,s.2.2.2.1,(),(),(),s.2.2.2.2.2.2.2.1,s.2.2.2.2.2.2.2.2.1,s.2.2.2.2.2.2.2.2.2.1,s.2.2.2.2.2.2.2.2.2.2.1)).bind λo=>bif (!o.1) then (F96 uu () ([117,110,105,111,110]:Bo) o.2).bind λao=>bif ao.1 then (F206 uu () ao.2).bind λz=>sumE (λH=>bif decide (s.2.2.2.2.2.2.2.2.2.2.2.2.1.length+H.1.length<=aak) then some (.inl ((),d,m,(),H.2.1,H.2.2.1,H.2.2.2.1,H.2.2.2.2.1,(),(),(),H.2.2.2.2.2.2.2.2.1,H.2.2.2.2.2.2.2.2.2.1,H.2.2.2.2.2.2.2.2.2.2.1,H.2.2.2.2.2.2.2.2.2.2.2,s.2.2.2.2.2.2.2.2.2.2.2.1,(s.2.2.2.2.2.2.2.2.2.2.2.2.1++H.1),s.2.2.2.2.2.2.2.2.2.2.2.2.2)) else none ) (λY=>some (.inr (.inl (Y.1,Y.2.1,Y.2.2.1,Y.2.2.2.1,Y.2.2.2.2.1,(),(),(),Y.2.2.2.2.2.2.2.2.1,Y.2.2.2.2.2.2.2.2.2.1,Y.2.2.2.2.2.2.2.2.2.2.1,Y.2.2.2.2.2.2.2.2.2.2.2,s.2.2.2.2.2.2.2.2.2.2.2))) ) z else (F96 uu () ([109,101,115,115,97,103,101]:Bo) ao.2).bind λap=>bif ap.1 then (r0 ((),s.2.2.2.2.2.2.2.2.2.2.2.1,(IntKind.wrap .i64 (d+1)),ap.2)).bind λz=>sumE (λaj=>some (.inl ((),d,m,(),aj.1,aj.2.1,aj.2.2.1,aj.2.2.2.1,(),(),(),aj.2.2.2.2.2.2.2.1,aj.2.2.2.2.2.2.2.2.1,aj.2.2.2.2.2.2.2.2.2.1,aj.2.2.2.2.2.2.2.2.2.2,s.2.2.2.2.2.2.2.2.2.2.2)) ) (λZ=>some (.inr (.inl (Z.1,Z.2.1,Z.2.2.1,Z.2.2.2.1,Z.2.2.2.2.1,(),(),(),Z.2.2.2.2.2.2.2.2.1,Z.2.2.2.2.2.2.2.2.2.1,Z.2.2.2.2.2.2.2.2.2.2.1,Z.2.2.2.2.2.2.2.2.2.2.2,s.2.2.2.2.2.2.2.2.2.2.2))) ) z else (F96 uu () ([101,110,117,109]:Bo) ap.2).bind λam=>let an:=am.1;bif !an then (F96 uu () ([111,112,101,110]:Bo) am.2).bind λaq=>bif (bif an then true else aq.1) then (F98 uu () s.2.2.2.2.2.2.2.2.2.2.2.1 aq.2).bind λz=>sumE (λak=>some (.inl ((),d,m,(),ak.1,ak.2.1,ak.2.2.1,ak.2.2.2.1,(),(),(),ak.2.2.2.2.2.2.2.1,ak.2.2.2.2.2.2.2.2.1,ak.2.2.2.2.2.2.2.2.2.1,ak.2.2.2.2.2.2.2.2.2.2,s.2.2.2.2.2.2.2.2.2.2.2)) ) (λaa=>some (.inr (.inl (aa.1,aa.2.1,aa.2.2.1,aa.2.2.2.1,aa.2.2.2.2.1,(),(),(),aa.2.2.2.2.2.2.2.2.1,aa.2.2.2.2.2.2.2.2.2.1,aa.2.2.2.2.2.2.2.2.2.2.1,aa.2.2.2.2.2.2.2.2.2.2.2,s.2.2.2.2.2.2.2.2.2.2.2))) ) z else (F91 uu () ([114,101,115,101,114,118,101,100]:Bo) aq.2).bind λar=>bif ar.1 then (F117 uu () ar.2).bind λau=>bif (au.1==3) then (F207 uu () au.2).bind λz=>sumE (λM=>bif decide (s.2.2.2.2.2.2.2.2.2.2.2.2.2.2.1.length+M.1.length<=aak) then some (.inl ((),d,m,(),M.2.1,M.2.2.1,M.2.2.2.1,M.2.2.2.2.1,(),(),(),M.2.2.2.2.2.2.2.2.1,M.2.2.2.2.2.2.2.2.2.1,M.2.2.2.2.2.2.2.2.2.2.1,M.2.2.2.2.2.2.2.2.2.2.2,s.2.2.2.2.2.2.2.2.2.2.2.1,s.2.2.2.2.2.2.2.2.2.2.2.2.1,s.2.2.2.2.2.2.2.2.2.2.2.2.2.1,(s.2.2.2.2.2.2.2.2.2.2.2.2.2.2.1++M.1),s.2.2.2.2.2.2.2.2.2.2.2.2.2.2.2)) else none ) (λab=>some (.inr (.inl (ab.1,ab.2.1,ab.2.2.1,ab.2.2.2.1,ab.2.2.2.2.1,(),(),(),ab.2.2.2.2.2.2.2.2.1,ab.2.2.2.2.2.2.2.2.2.1,ab.2.2.2.2.2.2.2.2.2.2.1,ab.2.2.2.2.2.2.2.2.2.2.2,s.2.2.2.2.2.2.2.2.2.2.2))) ) z else (F208 uu () (65535:Int) au.2).bind λz=>sumE (λO=>bif decide (s.2.2.2.2.2.2.2.2.2.2.2.2.2.1.length+O.1.length<=aak) then some (.inl ((),d,m,(),O.2.1,O.2.2.1,O.2.2.2.1,O.2.2.2.2.1,(),(),(),O.2.2.2.2.2.2.2.2.1,O.2.2.2.2.2.2.2.2.2.1,O.2.2.2.2.2.2.2.2.2.2.1,O.2.2.2.2.2.2.2.2.2.2.2,s.2.2.2.2.2.2.2.2.2.2.2.1,s.2.2.2.2.2.2.2.2.2.2.2.2.1,(s.2.2.2.2.2.2.2.2.2.2.2.2.2.1++O.1),s.2.2.2.2.2.2.2.2.2.2.2.2.2.2)) else none ) (λad=>some (.inr (.inl (ad.1,ad.2.1,ad.2.2.1,ad.2.2.2.1,ad.2.2.2.2.1,(),(),(),ad.2.2.2.2.2.2.2.2.1,ad.2.2.2.2.2.2.2.2.2.1,ad.2.2.2.2.2.2.2.2.2.2.1,ad.2.2.2.2.2.2.2.2.2.2.2,s.2.2.2.2.2.2.2.2.2.2.2))) ) z else (F55 uu () ar.2).bind λz=>sumE (λU=>bif decide (s.2.2.2.2.2.2.2.2.2.2.2.2.1.length+[U.1].length<=aak) then some (.inl ((),d,m,(),U.2.1,U.2.2.1,U.2.2.2.1,U.2.2.2.2.1,(),(),(),U.2.2.2.2.2.2.2.2.1,U.2.2.2.2.2.2.2.2.2.1,U.2.2.2.2.2.2.2.2.2.2.1,U.2.2.2.2.2.2.2.2.2.2.2,s.2.2.2.2.2.2.2.2.2.2.2.1,(s.2.2.2.2.2.2.2.2.2.2.2.2.1++[U.1]),s.2.2.2.2.2.2.2.2.2.2.2.2.2)) else none ) (λae=>some (.inr (.inl (ae.1,ae.2.1,ae.2.2.1,ae.2.2.2.1,ae.2.2.2.2.1,(),(),(),ae.2.2.2.2.2.2.2.2.1,ae.2.2.2.2.2.2.2.2.2.1,ae.2.2.2.2.2.2.2.2.2.2.1,ae.2.2.2.2.2.2.2.2.2.2.2,s.2.2.2.2.2.2.2.2.2.2.2))) ) z else bif (bif an then true else false) then (F98 uu () s.2.2.2.2.2.2.2.2.2.2.2.1 am.2).bind λz=>sumE (λal=>some (.inl ((),d,m,(),al.1,al.2.1,al.2.2.1,al.2.2.2.1,(),(),(),al.2.2.2.2.2.2.2.1,al.2.2.2.2.2.2.2.2.1,al.2.2.2.2.2.2.2.2.2.1,al.2.2.2.2.2.2.2.2.2.2,s.2.2.2.2.2.2.2.2.2.2.2)) ) (λaf=>some (.inr (.inl (af.1,af.2.1,af.2.2.1,af.2.2.2.1,af.2.2.2.2.1,(),(),(),af.2.2.2.2.2.2.2.2.1,af.2.2.2.2.2.2.2.2.2.1,af.2.2.2.2.2.2.2.2.2.2.1,af.2.2.2.2.2.2.2.2.2.2.2,s.2.2.2.2.2.2.2.2.2.2.2))) ) z else (F91 uu () ([114,101,115,101,114,118,101,100]:Bo) am.2).bind λav=>bif av.1 then (F117 uu () av.2).bind λaw=>bif (aw.1==3) then (F207 uu () aw.2).bind λz=>sumE (λV=>bif decide (s.2.2.2.2.2.2.2.2.2.2.2.2.2.2.1.length+V.1.length<=aak) then some (.inl ((),d,m,(),V.2.1,V.2.2.1,V.2.2.2.1,V.2.2.2.2.1,(),(),(),V.2.2.2.2.2.2.2.2.1,V.2.2.2.2.2.2.2.2.2.1,V.2.2.2.2.2.2.2.2.2.2.1,V.2.2.2.2.2.2.2.2.2.2.2,s.2.2.2.2.2.2.2.2.2.2.2.1,s.2.2.2.2.2.2.2.2.2.2.2.2.1,s.2.2.2.2.2.2.2.2.2.2.2.2.2.1,(s.2.2.2.2.2.2.2.2.2.2.2.2.2.2.1++V.1),s.2.2.2.2.2.2.2.2.2.2.2.2.2.2.2)) else none ) (λag=>some (.inr (.inl (ag.1,ag.2.1,ag.2.2.1,ag.2.2.2.1,ag.2.2.2.2.1,(),(),(),ag.2.2.2.2.2.2.2.2.1,ag.2.2.2.2.2.2.2.2.2.1,ag.2.2.2.2.2.2.2.2.2.2.1,ag.2.2.2.2.2.2.2.2.2.2.2,s.2.2.2.2.2.2.2.2.2.2.2))) ) z else (F208 uu () (65535:Int) aw.2).bind λz=>sumE (λW=>bif decide (s.2.2.2.2.2.2.2.2.2.2.2.2.2.1.length+W.1.length<=aak) then some (.inl ((),d,m,(),W.2.1,W.2.2.1,W.2.2.2.1,W.2.2.2.2.1,(),(),(),W.2.2.2.2.2.2.2.2.1,W.2.2.2.2.2.2.2.2.2.1,W.2.2.2.2.2.2.2.2.2.2.1,W.2.2.2.2.2.2.2.2.2.2.2,s.2.2.2.2.2.2.2.2.2.2.2.1,s.2.2.2.2.2.2.2.2.2.2.2.2.1,(s.2.2.2.2.2.2.2.2.2.2.2.2.2.1++W.1),s.2.2.2.2.2.2.2.2.2.2.2.2.2.2)) else none ) (λah=>some (.inr (.inl (ah.1,ah.2.1,ah.2.2.1,ah.2.2.2.1,ah.2.2.2.2.1,(),(),(),ah.2.2.2.2.2.2.2.2.1,ah.2.2.2.2.2.2.2.2.2.1,ah.2.2.2.2.2.2.2.2.2.2.1,ah.2.2.2.2.2.2.2.2.2.2.2,s.2.2.2.2.2.2.2.2.2.2.2))) ) z else (F55 uu () av.2).bind λz=>sumE (λX=>bif decide (s.2.2.2.2.2.2.2.2.2.2.2.2.1.length+[X.1].length<=aak) then some (.inl ((),d,m,(),X.2.1,X.2.2.1,X.2.2.2.1,X.2.2.2.2.1,(),(),(),X.2.2.2.2.2.2.2.2.1,X.2.2.2.2.2.2.2.2.2.1,X.2.2.2.2.2.2.2.2.2.2.1,X.2.2.2.2.2.2.2.2.2.2.2,s.2.2.2.2.2.2.2.2.2.2.2.1,(s.2.2.2.2.2.2.2.2.2.2.2.2.1++[X.1]),s.2.2.2.2.2.2.2.2.2.2.2.2.2)) else none ) (λai=>some (.inr (.inl (ai.1,ai.2.1,ai.2.2.1,ai.2.2.2.1,ai.2.2.2.2.1,(),(),(),ai.2.2.2.2.2.2.2.2.1,ai.2.2.2.2.2.2.2.2.2.1,ai.2.2.2.2.2.2.2.2.2.2.1,ai.2.2.2.2.2.2.2.2.2.2.2,s.2.2.2.2.2.2.2.2.2.2.2))) ) z else some (.inr (.inr ((),m,(),o.2.1,o.2.2.1,o.2.2.2.1,o.2.2.2.2.1,(),(),(),o.2.2.2.2.2.2.2.2.1,o.2.2.2.2.2.2.2.2.2.1,o.2.2.2.2.2.2.2.2.2.2.1,o.2.2.2.2.2.2.2.2.2.2.2,s.2.2.2.2.2.2.2.2.2.2.2)))
def B97_9step (d:(Unit×Bo×Int×Q0)->Option ((Q0)⊕(PV×Q0))) (x:B97_9x):Option (B97_9x⊕B97_9y):=B97_9 uu d x.1 x.2.1 x.2.2.1 x.2.2.2.1 x.2.2.2.2
def B97 (r0:(Unit×Bo×Int×Q0)->Option ((Q0)⊕(PV×Q0))) (a0:Unit) (a1:Bo) (X:Int) (s:Q0):Option ((Q0)⊕(PV×Q0)):=bif (decide (X>=16)) then some (.inr ((PV.agg [(PV.int s.2.1),(PV.int (17:Int))]),s)) else (F94 uu () ([109,101,115,115,97,103,101]:Bo) s).bind λz=>sumE (λY=>(F204 uu () a1 Y).bind λz=>sumE (λH=>let O:=H.1;bif decide (H.2.2.2.2.2.2.2.2.2.2.1.length+[(PV.agg [(PV.str O),(PV.slice []),(PV.slice []),(PV.slice []),(PV.slice [])])].length<=aak) then let x8:=H.2.2.2.2.2.2.2.2.2.2.1++[(PV.agg [(PV.str O),(PV.slice []),(PV.slice []),(PV.slice []),(PV.slice [])])];(F205 uu () (H.2.1,H.2.2.1,H.2.2.2.1,H.2.2.2.2.1,(),(),(),H.2.2.2.2.2.2.2.2.1,H.2.2.2.2.2.2.2.2.2.1,x8,H.2.2.2.2.2.2.2.2.2.2.2)).bind λz=>sumE (λZ=>(F94 uu () ([123]:Bo) Z.2).bind λz=>sumE (λo=>(aaw uu (B97_9step uu r0) ((),X,(Y.2.2.2.2.2.2.2.2.2.1.length:Int),(),o.1,o.2.1,o.2.2.1,o.2.2.2.1,(),(),(),o.2.2.2.2.2.2.2.1,o.2.2.2.2.2.2.2.2.1,o.2.2.2.2.2.2.2.2.2.1,o.2.2.2.2.2.2.2.2.2.2,O,[],[],[],Z.1)).bind λz=>sumE (λm=>some (.inr (m.1,m.2.1,m.2.2.1,m.2.2.2.1,m.2.2.2.2.1,(),(),(),m.2.2.2.2.2.2.2.2.1,m.2.2.2.2.2.2.2.2.2.1,m.2.2.2.2.2.2.2.2.2.2.1,m.2.2.2.2.2.2.2.2.2.2.2.1)) ) (λd=>let M:=d.2.1;bif aaa M d.2.2.2.2.2.2.2.2.2.2.2.2.1.length then let U:=d.2.2.2.2.2.2.2.2.2.2.2.2.1.set M.toNat (PV.agg [(PV.str d.2.2.2.2.2.2.2.2.2.2.2.2.2.2.1),(PV.slice d.2.2.2.2.2.2.2.2.2.2.2.2.2.2.2.1),(PV.slice d.2.2.2.2.2.2.2.2.2.2.2.2.2.2.2.2.1),(PV.slice d.2.2.2.2.2.2.2.2.2.2.2.2.2.2.2.2.2.1),(PV.slice d.2.2.2.2.2.2.2.2.2.2.2.2.2.2.2.2.2.2)]);some (.inl (d.2.2.2.1,d.2.2.2.2.1,d.2.2.2.2.2.1,d.2.2.2.2.2.2.1,(),(),(),d.2.2.2.2.2.2.2.2.2.2.1,d.2.2.2.2.2.2.2.2.2.2.2.1,U,d.2.2.2.2.2.2.2.2.2.2.2.2.2.1)) else none ) z ) (λW=>some (.inr W) ) z ) (λV=>some (.inr V) ) z else none ) (λy6=>some (.inr y6) ) z ) (λy3=>some (.inr y3) ) z
def B97_9l (d:(Unit×Bo×Int×Q0)->Option ((Q0)⊕(PV×Q0))):LoopE:=⟨9,⟨[0,2,6,7],bx7,(.con (.ref 0 [] 82))::(.int .i64)::(.int .i64)::(.con (.ref 5 [] 63))::sv21⟩,[(.pan,⟨[0],bx7,(.ifc 84)::sv21⟩),(.exit 0,⟨[0,6,7],bx7,(.con (.ref 0 [] 82))::(.int .i64)::(.con (.ref 5 [] 63))::sv21⟩)],B97_9step uu d⟩
def B97C (d:(Unit×Bo×Int×Q0)->Option ((Q0)⊕(PV×Q0))):Cfg:=cfg Tryz.prog 106 5 [F91c uu,F96c uu,F117c uu] [B97_9l uu d] uu [F118p uu,F94p uu,F204p uu,F205p uu,F206p uu,B97p d,F98p uu,F207p uu,F208p uu,F55p uu]
theorem B97k (d:(Unit×Bo×Int×Q0)->Option ((Q0)⊕(PV×Q0))) (m:(B97p d).Ok Tryz.prog):aap (B97C uu d):=aad (qc (F91ok uu)<|qc (F96ok uu)<|qc (F117ok uu)<|q0) (pc (F118ok uu)<|pc (F94ok uu)<|pc (F204ok uu)<|pc (F205ok uu)<|pc (F206ok uu)<|pc m<|pc (F98ok uu)<|pc (F207ok uu)<|pc (F208ok uu)<|pc (F55ok uu)<|p0)
theorem B97_9ok (d:(Unit×Bo×Int×Q0)->Option ((Q0)⊕(PV×Q0))) (m:(B97p d).Ok Tryz.prog):aai (B97C uu d) (lp (aao Tryz.f97) 0):=okL (B97k uu d m) uu (B97_9l uu d) L0
theorem B97ok (d:(Unit×Bo×Int×Q0)->Option ((Q0)⊕(PV×Q0))) (m:(B97p d).Ok Tryz.prog):(B97p (λx=>B97 uu d x.1 x.2.1 x.2.2.1 x.2.2.2)).Ok Tryz.prog:=okPE Tryz.f97 (B97k uu d m) (L1 (B97_9ok uu d m))
def G97 (uu:Nat):Nat->((Unit×Bo×Int×Q0)->Option ((Q0)⊕(PV×Q0))) | 0=>λ_=>none | d+1=>λx=>B97 uu (G97 uu d) x.1 x.2.1 x.2.2.1 x.2.2.2
theorem G97ok (uu:Nat):∀ d,(B97p (G97 uu d)).Ok Tryz.prog
 | 0=>bl4
 | d+1=>B97ok uu (G97 uu d) (G97ok uu d)
def F97 (m:Unit) (o:Bo) (z:Int) (s:Q0):Option ((Q0)⊕(PV×Q0)):=limQ uu (λd=>(G97 uu d)) (m,o,z,s)
def F97p:CallP:=⟨97,⟨3,bx1,(.con (.ref 0 [] 82))::.str::sv10⟩,⟨0,bx6,sv20⟩,⟨1,bx6,(.ifc 84)::sv20⟩,λx=>F97 uu x.1 x.2.1 x.2.2.1 x.2.2.2,([],0,[],[],(),(),(),[],[],[],[])⟩
theorem F97ok:(F97p uu).Ok Tryz.prog:=boq (F97p uu) (G:=(λd=>(G97 uu d))) (λx=>rfl) (λd=>(G97ok uu d))
def F289 (V:Unit) (s:Q0):Option ((Bool×Bo×Q0)⊕(PV×Q0)):=(F94 uu () ([40]:Bo) s).bind λz=>sumE (λo=>(F91 uu () ([115,116,114,101,97,109]:Bo) o).bind λd=>(F115 uu () d.2).bind λz=>sumE (λm=>(F94 uu () ([41]:Bo) m.2).bind λz=>sumE (λO=>some (.inl (d.1,m.1,O)) ) (λU=>some (.inr U) ) z ) (λM=>some (.inr M) ) z ) (λH=>some (.inr H) ) z
def F289p:CallP:=⟨289,⟨1,bx1,sv9⟩,⟨2,bx1,.bool::sv7⟩,⟨1,bx1,sv13⟩,λx=>F289 uu x.1 x.2,(false,[],[],0,[],[],(),(),(),[],[],[],[])⟩
theorem F289ok:(F289p uu).Ok Tryz.prog:=okPJ Tryz.f289 16 5 uu _ _ false (qc (F91ok uu)<|q0) (pc (F94ok uu)<|pc (F115ok uu)<|p0) L0
def F210 (a0:Unit) (s:Q0):Option ((PV×Q0)⊕(PV×Q0)):=(F94 uu () ([114,112,99]:Bo) s).bind λz=>sumE (λy1=>(F132 uu () y1).bind λz=>sumE (λy3=>let V:=y3.1;(F289 uu () y3.2).bind λz=>sumE (λy6=>let x8:=y6.1;let W:=y6.2.1;(F94 uu () ([114,101,116,117,114,110,115]:Bo) y6.2.2).bind λz=>sumE (λX=>(F289 uu () X).bind λz=>sumE (λd=>let o:=d.1;let m:=d.2.1;bif (bif x8 then o else false) then (F205 uu () d.2.2).bind λz=>sumE (λH=>(F94 uu () ([59]:Bo) H.2).bind λz=>sumE (λab=>some (.inl ((PV.agg [(PV.str V),(PV.str W),(PV.str m),(PV.int (4:Int)),(PV.slice H.1)]),ab)) ) (λad=>some (.inr ad) ) z ) (λaa=>some (.inr aa) ) z else bif x8 then (F205 uu () d.2.2).bind λz=>sumE (λM=>(F94 uu () ([59]:Bo) M.2).bind λz=>sumE (λaf=>some (.inl ((PV.agg [(PV.str V),(PV.str W),(PV.str m),(PV.int (3:Int)),(PV.slice M.1)]),af)) ) (λag=>some (.inr ag) ) z ) (λae=>some (.inr ae) ) z else bif o then (F205 uu () d.2.2).bind λz=>sumE (λO=>(F94 uu () ([59]:Bo) O.2).bind λz=>sumE (λai=>some (.inl ((PV.agg [(PV.str V),(PV.str W),(PV.str m),(PV.int (2:Int)),(PV.slice O.1)]),ai)) ) (λaj=>some (.inr aj) ) z ) (λah=>some (.inr ah) ) z else (F205 uu () d.2.2).bind λz=>sumE (λU=>(F94 uu () ([59]:Bo) U.2).bind λz=>sumE (λal=>some (.inl ((PV.agg [(PV.str V),(PV.str W),(PV.str m),(PV.int (1:Int)),(PV.slice U.1)]),al)) ) (λam=>some (.inr am) ) z ) (λak=>some (.inr ak) ) z ) (λZ=>some (.inr Z) ) z ) (λY=>some (.inr Y) ) z ) (λy7=>some (.inr y7) ) z ) (λy4=>some (.inr y4) ) z ) (λy2=>some (.inr y2) ) z
def F210p:CallP:=⟨210,⟨1,bx1,sv9⟩,⟨1,bx1,(.data 188)::sv12⟩,⟨1,bx1,sv13⟩,λx=>F210 uu x.1 x.2,(PV.bad,[],0,[],[],(),(),(),[],[],[],[])⟩
theorem F210ok:(F210p uu).Ok Tryz.prog:=okPJ Tryz.f210 43 5 uu [] _ false q0 (pc (F94ok uu)<|pc (F132ok uu)<|pc (F289ok uu)<|pc (F205ok uu)<|p0) L0
abbrev S99_5x:=Unit×Unit×(List PV)×Int×Bo×Bo×Unit×Unit×Unit×(List PV)×(List PV)×(List PV)×(List PV)×Bo×(List PV)×(List PV)
abbrev S99_5y:=(PV×(List PV)×Int×Bo×Bo×Unit×Unit×Unit×(List PV)×(List PV)×(List PV)×(List PV)×Bo×(List PV)×(List PV))⊕(Unit×Unit×(List PV)×Int×Bo×Bo×Unit×Unit×Unit×(List PV)×(List PV)×(List PV)×(List PV)×Bo×(List PV)×(List PV))
def S99_5 (H:Unit) (M:Unit) (s:(List PV)×Int×Bo×Bo×Unit×Unit×Unit×(List PV)×(List PV)×(List PV)×(List PV)×Bo×(List PV)×(List PV)):Option (S99_5x⊕S99_5y):=(F91 uu () ([125]:Bo) (s.1,s.2.1,s.2.2.1,s.2.2.2.1,(),(),(),s.2.2.2.2.2.2.2.1,s.2.2.2.2.2.2.2.2.1,s.2.2.2.2.2.2.2.2.2.1,s.2.2.2.2.2.2.2.2.2.2.1)).bind λd=>bif (!d.1) then (F210 uu () d.2).bind λz=>sumE (λm=>bif decide (s.2.2.2.2.2.2.2.2.2.2.2.2.1.length+[m.1].length<=aak) then some (.inl ((),(),m.2.1,m.2.2.1,m.2.2.2.1,m.2.2.2.2.1,(),(),(),m.2.2.2.2.2.2.2.2.1,m.2.2.2.2.2.2.2.2.2.1,m.2.2.2.2.2.2.2.2.2.2.1,m.2.2.2.2.2.2.2.2.2.2.2,s.2.2.2.2.2.2.2.2.2.2.2.1,(s.2.2.2.2.2.2.2.2.2.2.2.2.1++[m.1]),s.2.2.2.2.2.2.2.2.2.2.2.2.2)) else none ) (λo=>some (.inr (.inl (o.1,o.2.1,o.2.2.1,o.2.2.2.1,o.2.2.2.2.1,(),(),(),o.2.2.2.2.2.2.2.2.1,o.2.2.2.2.2.2.2.2.2.1,o.2.2.2.2.2.2.2.2.2.2.1,o.2.2.2.2.2.2.2.2.2.2.2,s.2.2.2.2.2.2.2.2.2.2.2))) ) z else some (.inr (.inr ((),(),d.2.1,d.2.2.1,d.2.2.2.1,d.2.2.2.2.1,(),(),(),d.2.2.2.2.2.2.2.2.1,d.2.2.2.2.2.2.2.2.2.1,d.2.2.2.2.2.2.2.2.2.2.1,d.2.2.2.2.2.2.2.2.2.2.2,s.2.2.2.2.2.2.2.2.2.2.2)))
def S99_5step (x:S99_5x):Option (S99_5x⊕S99_5y):=S99_5 uu x.1 x.2.1 x.2.2
def F99 (a0:Unit) (s:Q0):Option ((Q0)⊕(PV×Q0)):=(F94 uu () ([115,101,114,118,105,99,101]:Bo) s).bind λz=>sumE (λY=>(F204 uu () ([]:Bo) Y).bind λz=>sumE (λW=>(F205 uu () W.2).bind λz=>sumE (λX=>(F94 uu () ([123]:Bo) X.2).bind λz=>sumE (λo=>(aaw uu (S99_5step uu) ((),(),o.1,o.2.1,o.2.2.1,o.2.2.2.1,(),(),(),o.2.2.2.2.2.2.2.1,o.2.2.2.2.2.2.2.2.1,o.2.2.2.2.2.2.2.2.2.1,o.2.2.2.2.2.2.2.2.2.2,W.1,[],X.1)).bind λz=>sumE (λm=>some (.inr (m.1,m.2.1,m.2.2.1,m.2.2.2.1,m.2.2.2.2.1,(),(),(),m.2.2.2.2.2.2.2.2.1,m.2.2.2.2.2.2.2.2.2.1,m.2.2.2.2.2.2.2.2.2.2.1,m.2.2.2.2.2.2.2.2.2.2.2.1)) ) (λd=>let H:=d.2.2.2.2.2.2.2.2.2.1;let M:=d.2.2.2.2.2.2.2.2.2.2.2.2.2.1;let O:=d.2.2.2.2.2.2.2.2.2.2.2.2.2.2.1;let U:=d.2.2.2.2.2.2.2.2.2.2.2.2.2.2.2;bif decide (H.length+[(PV.agg [(PV.str M),(PV.slice O),(PV.slice U)])].length<=aak) then let V:=H++[(PV.agg [(PV.str M),(PV.slice O),(PV.slice U)])];some (.inl (d.2.2.1,d.2.2.2.1,d.2.2.2.2.1,d.2.2.2.2.2.1,(),(),(),V,d.2.2.2.2.2.2.2.2.2.2.1,d.2.2.2.2.2.2.2.2.2.2.2.1,d.2.2.2.2.2.2.2.2.2.2.2.2.1)) else none ) z ) (λy9=>some (.inr y9) ) z ) (λy7=>some (.inr y7) ) z ) (λy4=>some (.inr y4) ) z ) (λZ=>some (.inr Z) ) z
def S99_5l:LoopE:=⟨5,⟨[0,2],bx8,(.con (.ref 0 [] 82))::(.con (.ref 5 [] 130))::sv22⟩,[(.pan,⟨[0],bx8,(.ifc 84)::sv22⟩),(.exit 0,⟨[0,2],bx8,(.con (.ref 0 [] 82))::(.con (.ref 5 [] 130))::sv22⟩)],S99_5step uu⟩
def F99C:Cfg:=cfg Tryz.prog 35 5 [F91c uu] [S99_5l uu] uu [F94p uu,F204p uu,F205p uu,F210p uu]
def F99p:CallP:=⟨99,⟨1,bx1,sv9⟩,⟨0,bx1,sv12⟩,⟨1,bx1,sv13⟩,λx=>F99 uu x.1 x.2,([],0,[],[],(),(),(),[],[],[],[])⟩
theorem F99k:aap (F99C uu):=aad (qc (F91ok uu)<|q0) (pc (F94ok uu)<|pc (F204ok uu)<|pc (F205ok uu)<|pc (F210ok uu)<|p0)
theorem S99_5ok:aai (F99C uu) (lp (aao Tryz.f99) 0):=okL (F99k uu) uu (S99_5l uu) L0
theorem F99ok:(F99p uu).Ok Tryz.prog:=okPE Tryz.f99 (F99k uu) (L1 (S99_5ok uu))
def S44_4 (O:Unit) (s:Q0):Option ((Unit×Q0)⊕((PV×Q0)⊕(Unit×Q0))):=(F91 uu () ([105,109,112,111,114,116]:Bo) s).bind λm=>bif m.1 then (F95 uu () m.2).bind λz=>sumE (λd=>bif decide (d.2.2.2.2.2.2.2.2.2.1.length+[(PV.str d.1)].length<=aak) then (F94 uu () ([59]:Bo) (d.2.1,d.2.2.1,d.2.2.2.1,d.2.2.2.2.1,(),(),(),d.2.2.2.2.2.2.2.2.1,(d.2.2.2.2.2.2.2.2.2.1++[(PV.str d.1)]),d.2.2.2.2.2.2.2.2.2.2)).bind λz=>sumE (λH=>some (.inl ((),H)) ) (λM=>some (.inr (.inl M)) ) z else none ) (λo=>some (.inr (.inl o)) ) z else some (.inr (.inr ((),m.2)))
def S44_4step (x:Unit×Q0):Option ((Unit×Q0)⊕((PV×Q0)⊕(Unit×Q0))):=S44_4 uu x.1 x.2
def S44_7 (ad:Unit) (s:Q0):Option ((Unit×Q0)⊕((PV×Q0)⊕(Q0))):=bif (decide (s.2.1<(s.1.length:Int))) then (F96 uu () ([109,101,115,115,97,103,101]:Bo) s).bind λo=>bif o.1 then (F97 uu () ([]:Bo) (0:Int) o.2).bind λz=>sumE (λM=>some (.inl ((),M)) ) (λO=>some (.inr (.inl O)) ) z else (F96 uu () ([101,110,117,109]:Bo) o.2).bind λd=>let m:=d.1;bif !m then (F96 uu () ([111,112,101,110]:Bo) d.2).bind λH=>bif (bif m then true else H.1) then (F98 uu () ([]:Bo) H.2).bind λz=>sumE (λU=>some (.inl ((),U)) ) (λV=>some (.inr (.inl V)) ) z else (F99 uu () H.2).bind λz=>sumE (λW=>some (.inl ((),W)) ) (λX=>some (.inr (.inl X)) ) z else bif (bif m then true else false) then (F98 uu () ([]:Bo) d.2).bind λz=>sumE (λY=>some (.inl ((),Y)) ) (λZ=>some (.inr (.inl Z)) ) z else (F99 uu () d.2).bind λz=>sumE (λaa=>some (.inl ((),aa)) ) (λab=>some (.inr (.inl ab)) ) z else some (.inr (.inr s))
def S44_7step (x:Unit×Q0):Option ((Unit×Q0)⊕((PV×Q0)⊕(Q0))):=S44_7 uu x.1 x.2
def F44 (a0:Unit) (s:Q0):Option ((Q0)⊕(PV×Q0)):=(F91 uu () ([115,112,97,99,101]:Bo) s).bind λm=>bif m.1 then (F92 uu () (1:Int) () m.2).bind λz=>sumE (λd=>(F94 uu () ([59]:Bo) (d.2.1,d.2.2.1,d.2.2.2.1,d.1,(),(),(),d.2.2.2.2.2.2.2.2)).bind λz=>sumE (λZ=>(aaw uu (S44_4step uu) ((),Z)).bind λz=>sumE (λo=>some (.inr o) ) (λH=>(aaw uu (S44_7step uu) ((),H.2)).bind λz=>sumE (λM=>some (.inr M) ) (λO=>some (.inl O) ) z ) z ) (λy5=>some (.inr y5) ) z ) (λY=>some (.inr Y) ) z else (aaw uu (S44_4step uu) ((),m.2)).bind λz=>sumE (λU=>some (.inr U) ) (λV=>(aaw uu (S44_7step uu) ((),V.2)).bind λz=>sumE (λW=>some (.inr W) ) (λX=>some (.inl X) ) z ) z
def S44_4l:LoopE:=⟨4,⟨[0],bx9,(.con (.ref 0 [] 82))::sv23⟩,[(.pan,⟨[0],bx9,(.ifc 84)::sv23⟩),(.exit 0,⟨[0],bx9,(.con (.ref 0 [] 82))::sv23⟩)],S44_4step uu⟩
def S44_7l:LoopE:=⟨7,⟨[0],bx10,(.con (.ref 0 [] 82))::sv24⟩,[(.pan,⟨[0],bx10,(.ifc 84)::sv24⟩),(.exit 2,⟨[],bx10,sv24⟩)],S44_7step uu⟩
def F44C:Cfg:=cfg Tryz.prog 55 5 [F91c uu,F96c uu] [S44_4l uu,S44_7l uu] uu [F92p uu,F94p uu,F95p uu,F97p uu,F98p uu,F99p uu]
def F44p:CallP:=⟨44,⟨1,bx1,sv9⟩,⟨0,bx10,sv24⟩,⟨1,bx10,(.ifc 84)::sv24⟩,λx=>F44 uu x.1 x.2,([],0,[],[],(),(),(),[],[],[],[])⟩
theorem F44k:aap (F44C uu):=aad (qc (F91ok uu)<|qc (F96ok uu)<|q0) (pc (F92ok uu)<|pc (F94ok uu)<|pc (F95ok uu)<|pc (F97ok uu)<|pc (F98ok uu)<|pc (F99ok uu)<|p0)
theorem S44_4ok:aai (F44C uu) (lp (aao Tryz.f44) 0):=okL (F44k uu) uu (S44_4l uu) L0
theorem S44_7ok:aai (F44C uu) (lp (aao Tryz.f44) 1):=okL (F44k uu) uu (S44_7l uu) L0
theorem F44ok:(F44p uu).Ok Tryz.prog:=okPE Tryz.f44 (F44k uu) (L2 (S44_4ok uu) (S44_7ok uu))
def F43 (d:Unit) (s:Q0):Option (PV×Q0):=(F44 uu () s).bind λz=>sumE (λy=>some ((PV.agg [(PV.int (0:Int)),(PV.int (0:Int))]),y)) (λy=>some y) z
def F43c:CallE:=⟨43,⟨1,bx1,(.con (.fn 44 1 [(.ref 0 [] 82)]))::sv12⟩,⟨1,bx10,(.data 84)::sv24⟩,λx=>F43 uu x.1 x.2,(PV.bad,[],0,[],[],(),(),(),[],[],[],[])⟩
theorem F43ok:okP (F43c uu):=by
 intro x y h
 have h:F43 uu x.1 x.2=some y:=h
 unfold F43 at h
 obtain ⟨z,m,o⟩:=Bg.1 h
 cases z with
 | inl z=>
  have d:=(F44ok uu ((),x.2.1,x.2.2.1,x.2.2.2.1,x.2.2.2.2.1,x.2.2.2.2.2.1,x.2.2.2.2.2.2.1,x.2.2.2.2.2.2.2.1,x.2.2.2.2.2.2.2.2.1,x.2.2.2.2.2.2.2.2.2.1,x.2.2.2.2.2.2.2.2.2.2.1,x.2.2.2.2.2.2.2.2.2.2.2)).1 z m
  cases o
  exact a6i d
 | inr z=>
  have d:=(F44ok uu ((),x.2.1,x.2.2.1,x.2.2.2.1,x.2.2.2.2.1,x.2.2.2.2.2.1,x.2.2.2.2.2.2.1,x.2.2.2.2.2.2.2.1,x.2.2.2.2.2.2.2.2.1,x.2.2.2.2.2.2.2.2.2.1,x.2.2.2.2.2.2.2.2.2.2.1,x.2.2.2.2.2.2.2.2.2.2.2)).2 z m
  cases o
  exact a6h d
def F15 (U:Bo) (V:Bo):Option (PV×Int×Int):=(F28 uu V).bind λH=>let z:=H.1;let M:=H.2.2;bif (M != 0) then some ((PV.agg [(PV.str ([]:Bo)),(PV.str ([]:Bo)),(PV.slice []),(PV.slice []),(PV.slice []),(PV.slice [])]),H.2.1,M) else (F43 uu () (z,(0:Int),U,([]:Bo),(),(),(),[],[],[],[])).bind λd=>bif ((d.1.fld 1).asInt != 0) then let O:=(d.1.fld 0).asInt;let m:=IntKind.wrap .i64 ((z.length:Int)-1);let o:=if m<O then m else O;bif aaa o z.length then some ((PV.agg [(PV.str ([]:Bo)),(PV.str ([]:Bo)),(PV.slice []),(PV.slice []),(PV.slice []),(PV.slice [])]),((z.getD o.toNat .bad).fld 3).asInt,(d.1.fld 1).asInt) else none else some ((PV.agg [(PV.str d.2.2.2.1),(PV.str d.2.2.2.2.1),(PV.slice d.2.2.2.2.2.2.2.2.2.1),(PV.slice d.2.2.2.2.2.2.2.2.2.2.1),(PV.slice d.2.2.2.2.2.2.2.2.2.2.2),(PV.slice d.2.2.2.2.2.2.2.2.1)]),(0:Int),(0:Int))
def F15c:CallE:=⟨15,⟨2,[],[.str,.str]⟩,⟨3,[],(.data 28)::sv2⟩,λx=>F15 uu x.1 x.2,(PV.bad,0,0)⟩
theorem F15ok:okP (F15c uu):=okJ Tryz.f15 51 0 uu _ [] false (qc (F28ok uu)<|qc (F43ok uu)<|q0) p0 L0
def F20 (d:Int):Option Bo:=bif (bif (decide (d<1)) then true else (decide (d>8))) then some ([]:Bo) else (F49 uu).bind λo=>let m:=IntKind.wrap .i64 (d-1);bif aaa m 8 then some (o.fld m.toNat).asStr else none
def F20c:CallE:=⟨20,⟨1,[],[.int .i64]⟩,⟨1,[],[.str]⟩,λx=>F20 uu x,[]⟩
theorem F20ok:okP (F20c uu):=okJ Tryz.f20 13 0 uu _ [] false (qc (F49ok uu)<|q0) p0 L0
abbrev S325_3x:=(List PV)×Unit×Int×Int
abbrev S325_3y:=(Int)⊕(Unit)
def S325_3 (m:List PV) (H:Unit) (o:Int) (d:Int):Option (S325_3x⊕S325_3y):=bif (decide (d<o)) then bif aaa d m.length then (F200 uu (m.getD d.toNat .bad).asStr).bind λz=>bif z then some (.inr (.inl d)) else some (.inl (m,(),o,(IntKind.wrap .i64 (d+1)))) else none else some (.inr (.inr ()))
def S325_3step (x:S325_3x):Option (S325_3x⊕S325_3y):=S325_3 uu x.1 x.2.1 x.2.2.1 x.2.2.2
def F325 (m:List PV) (H:Unit):Option Int:=(aaw uu (S325_3step uu) (m,(),(m.length:Int),(0:Int))).bind λz=>sumE (λd=>some d ) (λo=>some (-1:Int) ) z
def S325_3l:LoopE:=⟨3,⟨[0,1,7,8],[],(.slice 9)::(.con (.fn 200 0 []))::sv2⟩,[(.ret,⟨[4],[],[.int .i64]⟩),(.exit 0,⟨[],[],[]⟩)],S325_3step uu⟩
def F325C:Cfg:=cfg Tryz.prog 19 0 [F200c uu] [S325_3l uu] uu
def F325c:CallE:=⟨325,⟨2,[],[.slice 9,(.con (.fn 200 0 []))]⟩,⟨1,[],[.int .i64]⟩,λx=>F325 uu x.1 x.2,0⟩
theorem F325k:aap (F325C uu):=aad (qc (F200ok uu)<|q0) p0
theorem S325_3ok:aai (F325C uu) (lp (aao Tryz.f325) 0):=okL (F325k uu) uu (S325_3l uu) L0
theorem F325ok:okP (F325c uu):=okE Tryz.f325 (F325k uu) (L1 (S325_3ok uu))
def F261 (d:List PV) (o:Unit):Option Bool:=(F325 uu d ()).bind λm=>some (decide (m>=0))
def F261c:CallE:=⟨261,⟨2,[],[.slice 9,(.con (.fn 200 0 []))]⟩,⟨1,[],[.bool]⟩,λx=>F261 uu x.1 x.2,false⟩
theorem F261ok:okP (F261c uu):=okJ Tryz.f261 9 0 uu _ [] false (qc (F325ok uu)<|q0) p0 L0
def F160 (m:Bo):Option Bool:=(F140 uu m).bind λd=>(bif d then aol uu m ([46]:Bo) else some []).bind λo=>(bif d then F261 uu o () else some false).bind λz=>some (bif d then (!z) else false)
def F160c:CallE:=⟨160,⟨1,[],[.str]⟩,⟨1,[],[.bool]⟩,λx=>F160 uu x,false⟩
theorem F160ok:okP (F160c uu):=okJ Tryz.f160 11 0 uu _ [] false (qc (F140ok uu)<|qc (auo uu)<|qc (F261ok uu)<|q0) p0 L0
def F165 (d:Bo):Option Bool:=(F202 uu d).bind λm=>(bif m then F200 uu d else some false).bind λo=>some (bif m then (!o) else false)
def F165c:CallE:=⟨165,⟨1,[],[.str]⟩,⟨1,[],[.bool]⟩,λx=>F165 uu x,false⟩
theorem F165ok:okP (F165c uu):=okJ Tryz.f165 10 0 uu _ [] false (qc (F202ok uu)<|qc (F200ok uu)<|q0) p0 L0
def F266 (uu:Nat) (d:Int):Option Bool:=some (bif (decide (d>=1)) then (decide (d<=8)) else false)
def F266c:CallE:=⟨266,⟨1,[],[.int .i64]⟩,⟨1,[],[.bool]⟩,λx=>F266 uu x,false⟩
theorem F266ok:okP (F266c uu):=okJ Tryz.f266 9 0 uu [] [] false q0 p0 L0
def F175 (d:Bo):Option Bool:=(F141 uu d ([46]:Bo)).bind λm=>(F140 uu m).bind λo=>some o
def F175c:CallE:=⟨175,⟨1,[],[.str]⟩,⟨1,[],[.bool]⟩,λx=>F175 uu x,false⟩
theorem F175ok:okP (F175c uu):=okJ Tryz.f175 6 0 uu _ [] false (qc (F141ok uu)<|qc (F140ok uu)<|q0) p0 L0
def F166 (d:PV):Option Bool:=(F266 uu (d.fld 0).asInt).bind λo=>bif o then some ((d.fld 1).asStr==([]:Bo)) else (F175 uu (d.fld 1).asStr).bind λm=>(bif m then F18 uu (d.fld 1).asStr else some 0).bind λz=>some (bif m then (z==0) else false)
def F166c:CallE:=⟨166,⟨1,[],[.data 40]⟩,⟨1,[],[.bool]⟩,λx=>F166 uu x,false⟩
theorem F166ok:okP (F166c uu):=okJ Tryz.f166 18 0 uu _ [] false (qc (F266ok uu)<|qc (F175ok uu)<|qc (F18ok uu)<|q0) p0 L0
def F164 (d:PV):Option Bool:=(F165 uu (d.fld 1).asStr).bind λH=>let o:=(d.fld 5).asStr==([]:Bo);(bif bif !o then H else false then F165 uu (d.fld 5).asStr else some false).bind λM=>let z:=bif H then (bif o then true else M) else false;(bif z then F166 uu (d.fld 4) else some false).bind λm=>some (bif z then m else false)
def F164c:CallE:=⟨164,⟨1,[],[.data 54]⟩,⟨1,[],[.bool]⟩,λx=>F164 uu x,false⟩
theorem F164ok:okP (F164c uu):=okJ Tryz.f164 21 0 uu _ [] false (qc (F165ok uu)<|qc (F166ok uu)<|q0) p0 L0
def F265 (d:PV) (o:Unit) (z:Unit):Option (Bool×Unit):=(F164 uu d).bind λm=>some ((!m),())
def F265c:CallE:=⟨265,⟨2,bx11,(.data 54)::(.con (.ref 0 [] 177))::sv25⟩,⟨1,bx11,.bool::sv25⟩,λx=>F265 uu x.1 x.2.1 x.2.2,(false,())⟩
theorem F265ok:okP (F265c uu):=okJ Tryz.f265 8 1 uu _ [] false (qc (F164ok uu)<|q0) p0 L0
abbrev S327_3x:=(List PV)×Unit×Int×Int×Unit
abbrev S327_3y:=(Int×Unit)⊕(Unit)
def S327_3 (m:List PV) (H:Unit) (o:Int) (d:Int) (M:Unit):Option (S327_3x⊕S327_3y):=bif (decide (d<o)) then bif aaa d m.length then (F265 uu (m.getD d.toNat .bad) () ()).bind λz=>bif z.1 then some (.inr (.inl (d,()))) else some (.inl (m,(),o,(IntKind.wrap .i64 (d+1)),())) else none else some (.inr (.inr ()))
def S327_3step (x:S327_3x):Option (S327_3x⊕S327_3y):=S327_3 uu x.1 x.2.1 x.2.2.1 x.2.2.2.1 x.2.2.2.2
def F327 (m:List PV) (H:Unit) (M:Unit):Option (Int×Unit):=(aaw uu (S327_3step uu) (m,(),(m.length:Int),(0:Int),())).bind λz=>sumE (λd=>some (d.1,()) ) (λo=>some ((-1:Int),()) ) z
def S327_3l:LoopE:=⟨3,⟨[0,1,7,8],bx11,(.slice 54)::(.con (.fn 265 0 [(.ref 0 [] 177)]))::(.int .i64)::sv26⟩,[(.ret,⟨[4],bx11,sv26⟩),(.exit 0,⟨[],bx11,sv25⟩)],S327_3step uu⟩
def F327C:Cfg:=cfg Tryz.prog 19 1 [F265c uu] [S327_3l uu] uu
def F327c:CallE:=⟨327,⟨2,bx11,(.slice 54)::(.con (.fn 265 0 [(.ref 0 [] 177)]))::sv25⟩,⟨1,bx11,sv26⟩,λx=>F327 uu x.1 x.2.1 x.2.2,(0,())⟩
theorem F327k:aap (F327C uu):=aad (qc (F265ok uu)<|q0) p0
theorem S327_3ok:aai (F327C uu) (lp (aao Tryz.f327) 0):=okL (F327k uu) uu (S327_3l uu) L0
theorem F327ok:okP (F327c uu):=okE Tryz.f327 (F327k uu) (L1 (S327_3ok uu))
def F264 (d:List PV) (o:Unit) (z:Unit):Option (Bool×Unit):=(F327 uu d () ()).bind λm=>some ((decide (m.1>=0)),())
def F264c:CallE:=⟨264,⟨2,bx11,(.slice 54)::(.con (.fn 265 0 [(.ref 0 [] 177)]))::sv25⟩,⟨1,bx11,.bool::sv25⟩,λx=>F264 uu x.1 x.2.1 x.2.2,(false,())⟩
theorem F264ok:okP (F264c uu):=okJ Tryz.f264 9 1 uu _ [] false (qc (F327ok uu)<|q0) p0 L0
def F163 (d:List PV) (o:Unit):Option Bool:=(F264 uu d () ()).bind λm=>some (!m.1)
def F163c:CallE:=⟨163,⟨2,[],(.slice 54)::sv25⟩,⟨1,[],[.bool]⟩,λx=>F163 uu x.1 x.2,false⟩
theorem F163ok:okP (F163c uu):=okJ Tryz.f163 9 0 uu _ [] false (qc (F264ok uu)<|q0) p0 L0
def F162 (d:PV):Option Bool:=(F160 uu (d.fld 0).asStr).bind λm=>(bif m then F163 uu (d.fld 1).asList () else some false).bind λo=>some (bif m then o else false)
def F162c:CallE:=⟨162,⟨1,[],[.data 63]⟩,⟨1,[],[.bool]⟩,λx=>F162 uu x,false⟩
theorem F162ok:okP (F162c uu):=okJ Tryz.f162 11 0 uu _ [] false (qc (F160ok uu)<|qc (F163ok uu)<|q0) p0 L0
def F263 (d:PV) (o:Unit) (z:Unit):Option (Bool×Unit):=(F162 uu d).bind λm=>some ((!m),())
def F263c:CallE:=⟨263,⟨2,bx12,(.data 63)::(.con (.ref 0 [] 178))::sv27⟩,⟨1,bx12,.bool::sv27⟩,λx=>F263 uu x.1 x.2.1 x.2.2,(false,())⟩
theorem F263ok:okP (F263c uu):=okJ Tryz.f263 8 1 uu _ [] false (qc (F162ok uu)<|q0) p0 L0
abbrev S326_3x:=(List PV)×Unit×Int×Int×Unit
abbrev S326_3y:=(Int×Unit)⊕(Unit)
def S326_3 (m:List PV) (H:Unit) (o:Int) (d:Int) (M:Unit):Option (S326_3x⊕S326_3y):=bif (decide (d<o)) then bif aaa d m.length then (F263 uu (m.getD d.toNat .bad) () ()).bind λz=>bif z.1 then some (.inr (.inl (d,()))) else some (.inl (m,(),o,(IntKind.wrap .i64 (d+1)),())) else none else some (.inr (.inr ()))
def S326_3step (x:S326_3x):Option (S326_3x⊕S326_3y):=S326_3 uu x.1 x.2.1 x.2.2.1 x.2.2.2.1 x.2.2.2.2
def F326 (m:List PV) (H:Unit) (M:Unit):Option (Int×Unit):=(aaw uu (S326_3step uu) (m,(),(m.length:Int),(0:Int),())).bind λz=>sumE (λd=>some (d.1,()) ) (λo=>some ((-1:Int),()) ) z
def S326_3l:LoopE:=⟨3,⟨[0,1,7,8],bx12,(.slice 63)::(.con (.fn 263 0 [(.ref 0 [] 178)]))::(.int .i64)::sv28⟩,[(.ret,⟨[4],bx12,sv28⟩),(.exit 0,⟨[],bx12,sv27⟩)],S326_3step uu⟩
def F326C:Cfg:=cfg Tryz.prog 19 1 [F263c uu] [S326_3l uu] uu
def F326c:CallE:=⟨326,⟨2,bx12,(.slice 63)::(.con (.fn 263 0 [(.ref 0 [] 178)]))::sv27⟩,⟨1,bx12,sv28⟩,λx=>F326 uu x.1 x.2.1 x.2.2,(0,())⟩
theorem F326k:aap (F326C uu):=aad (qc (F263ok uu)<|q0) p0
theorem S326_3ok:aai (F326C uu) (lp (aao Tryz.f326) 0):=okL (F326k uu) uu (S326_3l uu) L0
theorem F326ok:okP (F326c uu):=okE Tryz.f326 (F326k uu) (L1 (S326_3ok uu))
def F262 (d:List PV) (o:Unit) (z:Unit):Option (Bool×Unit):=(F326 uu d () ()).bind λm=>some ((decide (m.1>=0)),())
def F262c:CallE:=⟨262,⟨2,bx12,(.slice 63)::(.con (.fn 263 0 [(.ref 0 [] 178)]))::sv27⟩,⟨1,bx12,.bool::sv27⟩,λx=>F262 uu x.1 x.2.1 x.2.2,(false,())⟩
theorem F262ok:okP (F262c uu):=okJ Tryz.f262 9 1 uu _ [] false (qc (F326ok uu)<|q0) p0 L0
def F161 (d:List PV) (o:Unit):Option Bool:=(F262 uu d () ()).bind λm=>some (!m.1)
def F161c:CallE:=⟨161,⟨2,[],(.slice 63)::sv27⟩,⟨1,[],[.bool]⟩,λx=>F161 uu x.1 x.2,false⟩
theorem F161ok:okP (F161c uu):=okJ Tryz.f161 9 0 uu _ [] false (qc (F262ok uu)<|q0) p0 L0
def F170 (d:PV):Option Bool:=(F165 uu (d.fld 0).asStr).bind λm=>some m
def F170c:CallE:=⟨170,⟨1,[],[.data 182]⟩,⟨1,[],[.bool]⟩,λx=>F170 uu x,false⟩
theorem F170ok:okP (F170c uu):=okJ Tryz.f170 6 0 uu _ [] false (qc (F165ok uu)<|q0) p0 L0
def F270 (d:PV) (o:Unit) (z:Unit):Option (Bool×Unit):=(F170 uu d).bind λm=>some ((!m),())
def F270c:CallE:=⟨270,⟨2,bx13,(.data 182)::(.con (.ref 0 [] 183))::sv29⟩,⟨1,bx13,.bool::sv29⟩,λx=>F270 uu x.1 x.2.1 x.2.2,(false,())⟩
theorem F270ok:okP (F270c uu):=okJ Tryz.f270 8 1 uu _ [] false (qc (F170ok uu)<|q0) p0 L0
abbrev S329_3x:=(List PV)×Unit×Int×Int×Unit
abbrev S329_3y:=(Int×Unit)⊕(Unit)
def S329_3 (m:List PV) (H:Unit) (o:Int) (d:Int) (M:Unit):Option (S329_3x⊕S329_3y):=bif (decide (d<o)) then bif aaa d m.length then (F270 uu (m.getD d.toNat .bad) () ()).bind λz=>bif z.1 then some (.inr (.inl (d,()))) else some (.inl (m,(),o,(IntKind.wrap .i64 (d+1)),())) else none else some (.inr (.inr ()))
def S329_3step (x:S329_3x):Option (S329_3x⊕S329_3y):=S329_3 uu x.1 x.2.1 x.2.2.1 x.2.2.2.1 x.2.2.2.2
def F329 (m:List PV) (H:Unit) (M:Unit):Option (Int×Unit):=(aaw uu (S329_3step uu) (m,(),(m.length:Int),(0:Int),())).bind λz=>sumE (λd=>some (d.1,()) ) (λo=>some ((-1:Int),()) ) z
def S329_3l:LoopE:=⟨3,⟨[0,1,7,8],bx13,(.slice 182)::(.con (.fn 270 0 [(.ref 0 [] 183)]))::(.int .i64)::sv30⟩,[(.ret,⟨[4],bx13,sv30⟩),(.exit 0,⟨[],bx13,sv29⟩)],S329_3step uu⟩
def F329C:Cfg:=cfg Tryz.prog 19 1 [F270c uu] [S329_3l uu] uu
def F329c:CallE:=⟨329,⟨2,bx13,(.slice 182)::(.con (.fn 270 0 [(.ref 0 [] 183)]))::sv29⟩,⟨1,bx13,sv30⟩,λx=>F329 uu x.1 x.2.1 x.2.2,(0,())⟩
theorem F329k:aap (F329C uu):=aad (qc (F270ok uu)<|q0) p0
theorem S329_3ok:aai (F329C uu) (lp (aao Tryz.f329) 0):=okL (F329k uu) uu (S329_3l uu) L0
theorem F329ok:okP (F329c uu):=okE Tryz.f329 (F329k uu) (L1 (S329_3ok uu))
def F269 (d:List PV) (o:Unit) (z:Unit):Option (Bool×Unit):=(F329 uu d () ()).bind λm=>some ((decide (m.1>=0)),())
def F269c:CallE:=⟨269,⟨2,bx13,(.slice 182)::(.con (.fn 270 0 [(.ref 0 [] 183)]))::sv29⟩,⟨1,bx13,.bool::sv29⟩,λx=>F269 uu x.1 x.2.1 x.2.2,(false,())⟩
theorem F269ok:okP (F269c uu):=okJ Tryz.f269 9 1 uu _ [] false (qc (F329ok uu)<|q0) p0 L0
def F169 (d:List PV) (o:Unit):Option Bool:=(F269 uu d () ()).bind λm=>some (!m.1)
def F169c:CallE:=⟨169,⟨2,[],(.slice 182)::sv29⟩,⟨1,[],[.bool]⟩,λx=>F169 uu x.1 x.2,false⟩
theorem F169ok:okP (F169c uu):=okJ Tryz.f169 9 0 uu _ [] false (qc (F269ok uu)<|q0) p0 L0
def F168 (d:PV):Option Bool:=(F160 uu (d.fld 0).asStr).bind λm=>(bif m then F169 uu (d.fld 2).asList () else some false).bind λo=>some (bif m then o else false)
def F168c:CallE:=⟨168,⟨1,[],[.data 127]⟩,⟨1,[],[.bool]⟩,λx=>F168 uu x,false⟩
theorem F168ok:okP (F168c uu):=okJ Tryz.f168 11 0 uu _ [] false (qc (F160ok uu)<|qc (F169ok uu)<|q0) p0 L0
def F268 (d:PV) (o:Unit) (z:Unit):Option (Bool×Unit):=(F168 uu d).bind λm=>some ((!m),())
def F268c:CallE:=⟨268,⟨2,bx14,(.data 127)::(.con (.ref 0 [] 184))::sv31⟩,⟨1,bx14,.bool::sv31⟩,λx=>F268 uu x.1 x.2.1 x.2.2,(false,())⟩
theorem F268ok:okP (F268c uu):=okJ Tryz.f268 8 1 uu _ [] false (qc (F168ok uu)<|q0) p0 L0
abbrev S328_3x:=(List PV)×Unit×Int×Int×Unit
abbrev S328_3y:=(Int×Unit)⊕(Unit)
def S328_3 (m:List PV) (H:Unit) (o:Int) (d:Int) (M:Unit):Option (S328_3x⊕S328_3y):=bif (decide (d<o)) then bif aaa d m.length then (F268 uu (m.getD d.toNat .bad) () ()).bind λz=>bif z.1 then some (.inr (.inl (d,()))) else some (.inl (m,(),o,(IntKind.wrap .i64 (d+1)),())) else none else some (.inr (.inr ()))
def S328_3step (x:S328_3x):Option (S328_3x⊕S328_3y):=S328_3 uu x.1 x.2.1 x.2.2.1 x.2.2.2.1 x.2.2.2.2
def F328 (m:List PV) (H:Unit) (M:Unit):Option (Int×Unit):=(aaw uu (S328_3step uu) (m,(),(m.length:Int),(0:Int),())).bind λz=>sumE (λd=>some (d.1,()) ) (λo=>some ((-1:Int),()) ) z
def S328_3l:LoopE:=⟨3,⟨[0,1,7,8],bx14,(.slice 127)::(.con (.fn 268 0 [(.ref 0 [] 184)]))::(.int .i64)::sv32⟩,[(.ret,⟨[4],bx14,sv32⟩),(.exit 0,⟨[],bx14,sv31⟩)],S328_3step uu⟩
def F328C:Cfg:=cfg Tryz.prog 19 1 [F268c uu] [S328_3l uu] uu
def F328c:CallE:=⟨328,⟨2,bx14,(.slice 127)::(.con (.fn 268 0 [(.ref 0 [] 184)]))::sv31⟩,⟨1,bx14,sv32⟩,λx=>F328 uu x.1 x.2.1 x.2.2,(0,())⟩
theorem F328k:aap (F328C uu):=aad (qc (F268ok uu)<|q0) p0
theorem S328_3ok:aai (F328C uu) (lp (aao Tryz.f328) 0):=okL (F328k uu) uu (S328_3l uu) L0
theorem F328ok:okP (F328c uu):=okE Tryz.f328 (F328k uu) (L1 (S328_3ok uu))
def F267 (d:List PV) (o:Unit) (z:Unit):Option (Bool×Unit):=(F328 uu d () ()).bind λm=>some ((decide (m.1>=0)),())
def F267c:CallE:=⟨267,⟨2,bx14,(.slice 127)::(.con (.fn 268 0 [(.ref 0 [] 184)]))::sv31⟩,⟨1,bx14,.bool::sv31⟩,λx=>F267 uu x.1 x.2.1 x.2.2,(false,())⟩
theorem F267ok:okP (F267c uu):=okJ Tryz.f267 9 1 uu _ [] false (qc (F328ok uu)<|q0) p0 L0
def F167 (d:List PV) (o:Unit):Option Bool:=(F267 uu d () ()).bind λm=>some (!m.1)
def F167c:CallE:=⟨167,⟨2,[],(.slice 127)::sv31⟩,⟨1,[],[.bool]⟩,λx=>F167 uu x.1 x.2,false⟩
theorem F167ok:okP (F167c uu):=okJ Tryz.f167 9 0 uu _ [] false (qc (F267ok uu)<|q0) p0 L0
def F174 (d:PV):Option Bool:=(F165 uu (d.fld 0).asStr).bind λo=>(bif o then F175 uu (d.fld 1).asStr else some false).bind λz=>let m:=bif o then z else false;(bif m then F175 uu (d.fld 2).asStr else some false).bind λH=>some (bif (bif (bif m then H else false) then (!((d.fld 1).asStr==([115,116,114,101,97,109]:Bo))) else false) then (!((d.fld 2).asStr==([115,116,114,101,97,109]:Bo))) else false)
def F174c:CallE:=⟨174,⟨1,[],[.data 188]⟩,⟨1,[],[.bool]⟩,λx=>F174 uu x,false⟩
theorem F174ok:okP (F174c uu):=okJ Tryz.f174 26 0 uu _ [] false (qc (F165ok uu)<|qc (F175ok uu)<|q0) p0 L0
def F274 (d:PV) (o:Unit) (z:Unit):Option (Bool×Unit):=(F174 uu d).bind λm=>some ((!m),())
def F274c:CallE:=⟨274,⟨2,bx15,(.data 188)::(.con (.ref 0 [] 189))::sv33⟩,⟨1,bx15,.bool::sv33⟩,λx=>F274 uu x.1 x.2.1 x.2.2,(false,())⟩
theorem F274ok:okP (F274c uu):=okJ Tryz.f274 8 1 uu _ [] false (qc (F174ok uu)<|q0) p0 L0
abbrev S331_3x:=(List PV)×Unit×Int×Int×Unit
abbrev S331_3y:=(Int×Unit)⊕(Unit)
def S331_3 (m:List PV) (H:Unit) (o:Int) (d:Int) (M:Unit):Option (S331_3x⊕S331_3y):=bif (decide (d<o)) then bif aaa d m.length then (F274 uu (m.getD d.toNat .bad) () ()).bind λz=>bif z.1 then some (.inr (.inl (d,()))) else some (.inl (m,(),o,(IntKind.wrap .i64 (d+1)),())) else none else some (.inr (.inr ()))
def S331_3step (x:S331_3x):Option (S331_3x⊕S331_3y):=S331_3 uu x.1 x.2.1 x.2.2.1 x.2.2.2.1 x.2.2.2.2
def F331 (m:List PV) (H:Unit) (M:Unit):Option (Int×Unit):=(aaw uu (S331_3step uu) (m,(),(m.length:Int),(0:Int),())).bind λz=>sumE (λd=>some (d.1,()) ) (λo=>some ((-1:Int),()) ) z
def S331_3l:LoopE:=⟨3,⟨[0,1,7,8],bx15,(.slice 188)::(.con (.fn 274 0 [(.ref 0 [] 189)]))::(.int .i64)::sv34⟩,[(.ret,⟨[4],bx15,sv34⟩),(.exit 0,⟨[],bx15,sv33⟩)],S331_3step uu⟩
def F331C:Cfg:=cfg Tryz.prog 19 1 [F274c uu] [S331_3l uu] uu
def F331c:CallE:=⟨331,⟨2,bx15,(.slice 188)::(.con (.fn 274 0 [(.ref 0 [] 189)]))::sv33⟩,⟨1,bx15,sv34⟩,λx=>F331 uu x.1 x.2.1 x.2.2,(0,())⟩
theorem F331k:aap (F331C uu):=aad (qc (F274ok uu)<|q0) p0
theorem S331_3ok:aai (F331C uu) (lp (aao Tryz.f331) 0):=okL (F331k uu) uu (S331_3l uu) L0
theorem F331ok:okP (F331c uu):=okE Tryz.f331 (F331k uu) (L1 (S331_3ok uu))
def F273 (d:List PV) (o:Unit) (z:Unit):Option (Bool×Unit):=(F331 uu d () ()).bind λm=>some ((decide (m.1>=0)),())
def F273c:CallE:=⟨273,⟨2,bx15,(.slice 188)::(.con (.fn 274 0 [(.ref 0 [] 189)]))::sv33⟩,⟨1,bx15,.bool::sv33⟩,λx=>F273 uu x.1 x.2.1 x.2.2,(false,())⟩
theorem F273ok:okP (F273c uu):=okJ Tryz.f273 9 1 uu _ [] false (qc (F331ok uu)<|q0) p0 L0
def F173 (d:List PV) (o:Unit):Option Bool:=(F273 uu d () ()).bind λm=>some (!m.1)
def F173c:CallE:=⟨173,⟨2,[],(.slice 188)::sv33⟩,⟨1,[],[.bool]⟩,λx=>F173 uu x.1 x.2,false⟩
theorem F173ok:okP (F173c uu):=okJ Tryz.f173 9 0 uu _ [] false (qc (F273ok uu)<|q0) p0 L0
def F172 (d:PV):Option Bool:=(F160 uu (d.fld 0).asStr).bind λm=>(bif m then F173 uu (d.fld 1).asList () else some false).bind λo=>some (bif m then o else false)
def F172c:CallE:=⟨172,⟨1,[],[.data 130]⟩,⟨1,[],[.bool]⟩,λx=>F172 uu x,false⟩
theorem F172ok:okP (F172c uu):=okJ Tryz.f172 11 0 uu _ [] false (qc (F160ok uu)<|qc (F173ok uu)<|q0) p0 L0
def F272 (d:PV) (o:Unit) (z:Unit):Option (Bool×Unit):=(F172 uu d).bind λm=>some ((!m),())
def F272c:CallE:=⟨272,⟨2,bx16,(.data 130)::(.con (.ref 0 [] 190))::sv35⟩,⟨1,bx16,.bool::sv35⟩,λx=>F272 uu x.1 x.2.1 x.2.2,(false,())⟩
theorem F272ok:okP (F272c uu):=okJ Tryz.f272 8 1 uu _ [] false (qc (F172ok uu)<|q0) p0 L0
abbrev S330_3x:=(List PV)×Unit×Int×Int×Unit
abbrev S330_3y:=(Int×Unit)⊕(Unit)
def S330_3 (m:List PV) (H:Unit) (o:Int) (d:Int) (M:Unit):Option (S330_3x⊕S330_3y):=bif (decide (d<o)) then bif aaa d m.length then (F272 uu (m.getD d.toNat .bad) () ()).bind λz=>bif z.1 then some (.inr (.inl (d,()))) else some (.inl (m,(),o,(IntKind.wrap .i64 (d+1)),())) else none else some (.inr (.inr ()))
def S330_3step (x:S330_3x):Option (S330_3x⊕S330_3y):=S330_3 uu x.1 x.2.1 x.2.2.1 x.2.2.2.1 x.2.2.2.2
def F330 (m:List PV) (H:Unit) (M:Unit):Option (Int×Unit):=(aaw uu (S330_3step uu) (m,(),(m.length:Int),(0:Int),())).bind λz=>sumE (λd=>some (d.1,()) ) (λo=>some ((-1:Int),()) ) z
def S330_3l:LoopE:=⟨3,⟨[0,1,7,8],bx16,(.slice 130)::(.con (.fn 272 0 [(.ref 0 [] 190)]))::(.int .i64)::sv36⟩,[(.ret,⟨[4],bx16,sv36⟩),(.exit 0,⟨[],bx16,sv35⟩)],S330_3step uu⟩
def F330C:Cfg:=cfg Tryz.prog 19 1 [F272c uu] [S330_3l uu] uu
def F330c:CallE:=⟨330,⟨2,bx16,(.slice 130)::(.con (.fn 272 0 [(.ref 0 [] 190)]))::sv35⟩,⟨1,bx16,sv36⟩,λx=>F330 uu x.1 x.2.1 x.2.2,(0,())⟩
theorem F330k:aap (F330C uu):=aad (qc (F272ok uu)<|q0) p0
theorem S330_3ok:aai (F330C uu) (lp (aao Tryz.f330) 0):=okL (F330k uu) uu (S330_3l uu) L0
theorem F330ok:okP (F330c uu):=okE Tryz.f330 (F330k uu) (L1 (S330_3ok uu))
def F271 (d:List PV) (o:Unit) (z:Unit):Option (Bool×Unit):=(F330 uu d () ()).bind λm=>some ((decide (m.1>=0)),())
def F271c:CallE:=⟨271,⟨2,bx16,(.slice 130)::(.con (.fn 272 0 [(.ref 0 [] 190)]))::sv35⟩,⟨1,bx16,.bool::sv35⟩,λx=>F271 uu x.1 x.2.1 x.2.2,(false,())⟩
theorem F271ok:okP (F271c uu):=okJ Tryz.f271 9 1 uu _ [] false (qc (F330ok uu)<|q0) p0 L0
def F171 (d:List PV) (o:Unit):Option Bool:=(F271 uu d () ()).bind λm=>some (!m.1)
def F171c:CallE:=⟨171,⟨2,[],(.slice 130)::sv35⟩,⟨1,[],[.bool]⟩,λx=>F171 uu x.1 x.2,false⟩
theorem F171ok:okP (F171c uu):=okJ Tryz.f171 9 0 uu _ [] false (qc (F271ok uu)<|q0) p0 L0
def F80 (d:PV):Option Bool:=let H:=!((d.fld 1).asStr==([]:Bo));(bif H then F160 uu (d.fld 1).asStr else some false).bind λO=>bif (bif H then (!O) else false) then some false else (F161 uu (d.fld 3).asList ()).bind λM=>(bif M then F167 uu (d.fld 4).asList () else some false).bind λo=>let m:=bif M then o else false;(bif m then F171 uu (d.fld 5).asList () else some false).bind λz=>some (bif m then z else false)
def F80c:CallE:=⟨80,⟨1,[],[.data 28]⟩,⟨1,[],[.bool]⟩,λx=>F80 uu x,false⟩
theorem F80ok:okP (F80c uu):=okJ Tryz.f80 25 0 uu _ [] false (qc (F160ok uu)<|qc (F161ok uu)<|qc (F167ok uu)<|qc (F171ok uu)<|q0) p0 L0
def F275 (uu:Nat) (m:Int) (d:Int):Option Bool:=bif (m != 5) then some (d==0) else some (bif (bif (decide (d>=1)) then (decide (d<=7)) else false) then (d != 6) else false)
def F275c:CallE:=⟨275,⟨2,[],sv2⟩,⟨1,[],[.bool]⟩,λx=>F275 uu x.1 x.2,false⟩
theorem F275ok:okP (F275c uu):=okJ Tryz.f275 19 0 uu [] [] false q0 p0 L0
def F332 (uu:Nat) (d:PV):Option Bool:=some (bif (bif (bif ((d.fld 0).asInt==0) then ((d.fld 1).asInt==0) else false) then ((d.fld 2).asStr==([]:Bo)) else false) then ((IntKind.wrap .i64 ((IntKind.wrap .i64 ((IntKind.wrap .i64 (((d.fld 3).asList.length:Int)+((d.fld 4).asList.length:Int)))+((d.fld 5).asList.length:Int)))+((d.fld 6).asList.length:Int)))==0) else false)
def F332c:CallE:=⟨332,⟨1,[],[.data 51]⟩,⟨1,[],[.bool]⟩,λx=>F332 uu x,false⟩
theorem F332ok:okP (F332c uu):=okJ Tryz.f332 34 0 uu [] [] false q0 p0 L0
def F333 (d:PV):Option Bool:=let m:=(d.fld 0).asInt==9;(bif m then F165 uu (d.fld 2).asStr else some false).bind λo=>some (bif (bif (bif m then o else false) then ((d.fld 1).asInt==0) else false) then ((IntKind.wrap .i64 ((IntKind.wrap .i64 ((IntKind.wrap .i64 (((d.fld 3).asList.length:Int)+((d.fld 4).asList.length:Int)))+((d.fld 5).asList.length:Int)))+((d.fld 6).asList.length:Int)))==0) else false)
def F333c:CallE:=⟨333,⟨1,[],[.data 51]⟩,⟨1,[],[.bool]⟩,λx=>F333 uu x,false⟩
theorem F333ok:okP (F333c uu):=okJ Tryz.f333 34 0 uu _ [] false (qc (F165ok uu)<|q0) p0 L0
def F334 (d:PV):Option PV:=let m:=(d.fld 0).asInt==6;(bif m then F253 uu (d.fld 1).asInt else some 0).bind λo=>bif (bif m then (o==0) else false) then some (PV.agg [(PV.int (d.fld 0).asInt),(PV.int (9221120237041090560:Int)),(PV.str (d.fld 2).asStr),(PV.slice (d.fld 3).asList),(PV.slice (d.fld 4).asList),(PV.slice (d.fld 5).asList),(PV.slice (d.fld 6).asList)]) else some d
def F334c:CallE:=⟨334,⟨1,[],[.data 51]⟩,⟨1,[],[.data 51]⟩,λx=>F334 uu x,PV.bad⟩
theorem F334ok:okP (F334c uu):=okJ Tryz.f334 14 0 uu _ [] false (qc (F253ok uu)<|q0) p0 L0
def F276 (d:PV):Option Bool:=bif (!(d.fld 6).asBool) then (F332 uu (d.fld 7)).bind λH=>some H else bif ((d.fld 2).asInt==5) then some false else bif ((((d.fld 4).fld 0).asInt)==0) then (F333 uu (d.fld 7)).bind λm=>some m else (F334 uu (d.fld 7)).bind λo=>(F146 uu (((d.fld 4).fld 0).asInt) (d.fld 7)).bind λz=>some (bif z then ((o.fld 1).asInt==(((d.fld 7).fld 1).asInt)) else false)
def F276c:CallE:=⟨276,⟨1,[],[.data 54]⟩,⟨1,[],[.bool]⟩,λx=>F276 uu x,false⟩
theorem F276ok:okP (F276c uu):=okJ Tryz.f276 40 0 uu _ [] false (qc (F332ok uu)<|qc (F333ok uu)<|qc (F334ok uu)<|qc (F146ok uu)<|q0) p0 L0
def F177 (d:PV):Option Bool:=let m:=bif (bif (bif (decide (((d.fld 0).asInt)>=0)) then (decide ((d.fld 0).asInt<=65535)) else false) then (decide (((d.fld 2).asInt)>=1)) else false) then (decide ((d.fld 2).asInt<=5)) else false;(bif m then F275 uu (d.fld 2).asInt (d.fld 3).asInt else some false).bind λM=>let o:=bif m then M else false;let z:=(((d.fld 4).fld 0).asInt)==0;(bif bif !z then o else false then F266 uu (((d.fld 4).fld 0).asInt) else some false).bind λO=>let H:=bif (bif o then (bif z then true else O) else false) then (bif ((d.fld 5).asStr==([]:Bo)) then true else (bif ((d.fld 2).asInt==2) then (!(d.fld 6).asBool) else false)) else false;(bif H then F276 uu d else some false).bind λU=>some (bif H then U else false)
def F177c:CallE:=⟨177,⟨1,[],[.data 54]⟩,⟨1,[],[.bool]⟩,λx=>F177 uu x,false⟩
theorem F177ok:okP (F177c uu):=okJ Tryz.f177 59 0 uu _ [] false (qc (F275ok uu)<|qc (F266ok uu)<|qc (F276ok uu)<|q0) p0 L0
def F265_v1 (d:PV) (o:Unit) (z:Unit):Option (Bool×Unit):=(F177 uu d).bind λm=>some ((!m),())
def F265_v1c:CallE:=⟨265,⟨2,bx11,(.data 54)::(.con (.ref 0 [] 177))::sv37⟩,⟨1,bx11,.bool::sv37⟩,λx=>F265_v1 uu x.1 x.2.1 x.2.2,(false,())⟩
theorem F265_v1ok:okP (F265_v1c uu):=okJ Tryz.f265 8 1 uu _ [] false (qc (F177ok uu)<|q0) p0 L0
abbrev S327_v1_3x:=(List PV)×Unit×Int×Int×Unit
abbrev S327_v1_3y:=(Int×Unit)⊕(Unit)
def S327_v1_3 (m:List PV) (H:Unit) (o:Int) (d:Int) (M:Unit):Option (S327_v1_3x⊕S327_v1_3y):=bif (decide (d<o)) then bif aaa d m.length then (F265_v1 uu (m.getD d.toNat .bad) () ()).bind λz=>bif z.1 then some (.inr (.inl (d,()))) else some (.inl (m,(),o,(IntKind.wrap .i64 (d+1)),())) else none else some (.inr (.inr ()))
def S327_v1_3step (x:S327_v1_3x):Option (S327_v1_3x⊕S327_v1_3y):=S327_v1_3 uu x.1 x.2.1 x.2.2.1 x.2.2.2.1 x.2.2.2.2
def F327_v1 (m:List PV) (H:Unit) (M:Unit):Option (Int×Unit):=(aaw uu (S327_v1_3step uu) (m,(),(m.length:Int),(0:Int),())).bind λz=>sumE (λd=>some (d.1,()) ) (λo=>some ((-1:Int),()) ) z
def S327_v1_3l:LoopE:=⟨3,⟨[0,1,7,8],bx11,(.slice 54)::(.con (.fn 265 0 [(.ref 0 [] 177)]))::(.int .i64)::sv38⟩,[(.ret,⟨[4],bx11,sv38⟩),(.exit 0,⟨[],bx11,sv37⟩)],S327_v1_3step uu⟩
def F327_v1C:Cfg:=cfg Tryz.prog 19 1 [F265_v1c uu] [S327_v1_3l uu] uu
def F327_v1c:CallE:=⟨327,⟨2,bx11,(.slice 54)::(.con (.fn 265 0 [(.ref 0 [] 177)]))::sv37⟩,⟨1,bx11,sv38⟩,λx=>F327_v1 uu x.1 x.2.1 x.2.2,(0,())⟩
theorem F327_v1k:aap (F327_v1C uu):=aad (qc (F265_v1ok uu)<|q0) p0
theorem S327_v1_3ok:aai (F327_v1C uu) (lp (aao Tryz.f327) 0):=okL (F327_v1k uu) uu (S327_v1_3l uu) L0
theorem F327_v1ok:okP (F327_v1c uu):=okE Tryz.f327 (F327_v1k uu) (L1 (S327_v1_3ok uu))
def F264_v1 (d:List PV) (o:Unit) (z:Unit):Option (Bool×Unit):=(F327_v1 uu d () ()).bind λm=>some ((decide (m.1>=0)),())
def F264_v1c:CallE:=⟨264,⟨2,bx11,(.slice 54)::(.con (.fn 265 0 [(.ref 0 [] 177)]))::sv37⟩,⟨1,bx11,.bool::sv37⟩,λx=>F264_v1 uu x.1 x.2.1 x.2.2,(false,())⟩
theorem F264_v1ok:okP (F264_v1c uu):=okJ Tryz.f264 9 1 uu _ [] false (qc (F327_v1ok uu)<|q0) p0 L0
def F163_v1 (d:List PV) (o:Unit):Option Bool:=(F264_v1 uu d () ()).bind λm=>some (!m.1)
def F163_v1c:CallE:=⟨163,⟨2,[],(.slice 54)::sv37⟩,⟨1,[],[.bool]⟩,λx=>F163_v1 uu x.1 x.2,false⟩
theorem F163_v1ok:okP (F163_v1c uu):=okJ Tryz.f163 9 0 uu _ [] false (qc (F264_v1ok uu)<|q0) p0 L0
abbrev S178_6x:=(List PV)×Int×Int×Int×Int×Int
abbrev S178_6y:=(Bool)⊕((List PV)×Int×Int)
def S178_6 (uu:Nat) (d:List PV) (o:Int) (U:Int) (V:Int) (H:Int) (m:Int):Option (S178_6x⊕S178_6y):=bif (decide (m<H)) then bif aaa m d.length then bif aaa o d.length then let M:=((d.getD m.toNat .bad).fld 5).asStr==((d.getD o.toNat .bad).fld 5).asStr;bif imp M (aaa o d.length) then let z:=bif M then (!(((d.getD o.toNat .bad).fld 5).asStr==([]:Bo))) else false;let O:=IntKind.wrap .i64 (o-1);bif imp z (aaa O d.length) then bif imp z (aaa o d.length) then bif (bif z then (!(((d.getD O.toNat .bad).fld 5).asStr==((d.getD o.toNat .bad).fld 5).asStr)) else false) then some (.inr (.inl false)) else some (.inl (d,o,U,V,H,(IntKind.wrap .i64 (m+1)))) else none else none else none else none else none else some (.inr (.inr (d,U,V)))
def S178_6step (x:S178_6x):Option (S178_6x⊕S178_6y):=S178_6 uu x.1 x.2.1 x.2.2.1 x.2.2.2.1 x.2.2.2.2.1 x.2.2.2.2.2
def S178_3 (M:List PV) (H:Int) (m:Int):Option (((List PV)×Int×Int)⊕((Bool)⊕(Unit))):=bif (decide (m<H)) then (aaw uu (S178_6step uu) (M,m,H,m,m,(0:Int))).bind λz=>sumE (λo=>some (.inr (.inl o)) ) (λd=>some (.inl (d.1,d.2.1,(IntKind.wrap .i64 (d.2.2+1)))) ) z else some (.inr (.inr ()))
def S178_3step (x:(List PV)×Int×Int):Option (((List PV)×Int×Int)⊕((Bool)⊕(Unit))):=S178_3 uu x.1 x.2.1 x.2.2
def F178 (m:List PV):Option Bool:=(aaw uu (S178_3step uu) (m,(m.length:Int),(0:Int))).bind λz=>sumE (λd=>some d ) (λo=>some true ) z
def S178_6l:LoopE:=⟨6,⟨[0,3,6,7,10,11],[],(.slice 54)::(.int .i64)::(.int .i64)::(.int .i64)::sv2⟩,[(.ret,⟨[2],[],[.bool]⟩),(.exit 2,⟨[0,6,7],[],(.slice 54)::sv2⟩)],S178_6step uu⟩
def S178_3l:LoopE:=⟨3,⟨[0,6,7],[],(.slice 54)::sv2⟩,[(.ret,⟨[2],[],[.bool]⟩),(.exit 0,⟨[],[],[]⟩)],S178_3step uu⟩
def F178C:Cfg:=cfg Tryz.prog 49 0 [] [S178_6l uu,S178_3l uu] uu
def F178c:CallE:=⟨178,⟨1,[],[.slice 54]⟩,⟨1,[],[.bool]⟩,λx=>F178 uu x,false⟩
theorem F178k:aap (F178C uu):=aad q0 p0
theorem S178_6ok:aai (F178C uu) (lp (lp (aao Tryz.f178) 0) 0):=okL (F178k uu) uu (S178_6l uu) L0
theorem S178_3ok:aai (F178C uu) (lp (aao Tryz.f178) 0):=okL (F178k uu) uu (S178_3l uu) (L1 (S178_6ok uu))
theorem F178ok:okP (F178c uu):=okE Tryz.f178 (F178k uu) (L1 (S178_3ok uu))
def F278 (uu:Nat) (d:PV) (M:Unit) (m:Int):Option (Bool×Int):=let x1:=(d.fld 0).asInt;let o:=(d.fld 1).asInt;let z:=(d.fld 0).asInt;let H:=(d.fld 1).asInt;some ((bif (decide ((if o<x1 then o else x1)>=0)) then (decide ((if H>z then H else z)<=m)) else false),m)
def F278c:CallE:=⟨278,⟨2,[.box 3 .leaf],[.data 234,(.con (.ref 0 [] 3)),.int .i64]⟩,⟨1,[.box 3 .leaf],sv39⟩,λx=>F278 uu x.1 x.2.1 x.2.2,(false,0)⟩
theorem F278ok:okP (F278c uu):=okJ Tryz.f278 19 1 uu [] [] false q0 p0 L0
def F336 (m:PV) (z:Unit) (H:Unit) (o:Int):Option (Bool×Unit×Int):=(F278 uu m () o).bind λd=>some ((!d.1),(),d.2)
def F336c:CallE:=⟨336,⟨2,bx17,(.data 234)::(.con (.ref 0 [] 235))::sv40⟩,⟨1,bx17,.bool::sv40⟩,λx=>F336 uu x.1 x.2.1 x.2.2.1 x.2.2.2,(false,(),0)⟩
theorem F336ok:okP (F336c uu):=okJ Tryz.f336 8 2 uu _ [] false (qc (F278ok uu)<|q0) p0 L0
abbrev S369_3x:=(List PV)×Unit×Int×Int×Unit×Int
abbrev S369_3y:=(Int×Unit×Int)⊕(Unit×Int)
def S369_3 (o:List PV) (M:Unit) (z:Int) (m:Int) (O:Unit) (H:Int):Option (S369_3x⊕S369_3y):=bif (decide (m<z)) then bif aaa m o.length then (F336 uu (o.getD m.toNat .bad) () () H).bind λd=>bif d.1 then some (.inr (.inl (m,(),d.2.2))) else some (.inl (o,(),z,(IntKind.wrap .i64 (m+1)),(),d.2.2)) else none else some (.inr (.inr ((),H)))
def S369_3step (x:S369_3x):Option (S369_3x⊕S369_3y):=S369_3 uu x.1 x.2.1 x.2.2.1 x.2.2.2.1 x.2.2.2.2.1 x.2.2.2.2.2
def F369 (o:List PV) (M:Unit) (O:Unit) (H:Int):Option (Int×Unit×Int):=(aaw uu (S369_3step uu) (o,(),(o.length:Int),(0:Int),(),H)).bind λz=>sumE (λd=>some (d.1,(),d.2.2) ) (λm=>some ((-1:Int),(),m.2) ) z
def S369_3l:LoopE:=⟨3,⟨[0,1,7,8],bx17,(.slice 234)::(.con (.fn 336 0 [(.ref 0 [] 235)]))::(.int .i64)::sv41⟩,[(.ret,⟨[4],bx17,sv41⟩),(.exit 0,⟨[],bx17,sv40⟩)],S369_3step uu⟩
def F369C:Cfg:=cfg Tryz.prog 19 2 [F336c uu] [S369_3l uu] uu
def F369c:CallE:=⟨369,⟨2,bx17,(.slice 234)::(.con (.fn 336 0 [(.ref 0 [] 235)]))::sv40⟩,⟨1,bx17,sv41⟩,λx=>F369 uu x.1 x.2.1 x.2.2.1 x.2.2.2,(0,(),0)⟩
theorem F369k:aap (F369C uu):=aad (qc (F336ok uu)<|q0) p0
theorem S369_3ok:aai (F369C uu) (lp (aao Tryz.f369) 0):=okL (F369k uu) uu (S369_3l uu) L0
theorem F369ok:okP (F369c uu):=okE Tryz.f369 (F369k uu) (L1 (S369_3ok uu))
def F335 (m:List PV) (z:Unit) (H:Unit) (o:Int):Option (Bool×Unit×Int):=(F369 uu m () () o).bind λd=>some ((decide (d.1>=0)),(),d.2.2)
def F335c:CallE:=⟨335,⟨2,bx17,(.slice 234)::(.con (.fn 336 0 [(.ref 0 [] 235)]))::sv40⟩,⟨1,bx17,.bool::sv40⟩,λx=>F335 uu x.1 x.2.1 x.2.2.1 x.2.2.2,(false,(),0)⟩
theorem F335ok:okP (F335c uu):=okJ Tryz.f335 9 2 uu _ [] false (qc (F369ok uu)<|q0) p0 L0
def F277 (m:List PV) (z:Unit) (o:Int):Option (Bool×Int):=(F335 uu m () () o).bind λd=>some ((!d.1),d.2.2)
def F277c:CallE:=⟨277,⟨2,[.box 3 .leaf],[.slice 234,(.con (.fn 278 0 [(.ref 0 [] 3)])),.int .i64]⟩,⟨1,[.box 3 .leaf],sv39⟩,λx=>F277 uu x.1 x.2.1 x.2.2,(false,0)⟩
theorem F277ok:okP (F277c uu):=okJ Tryz.f277 9 1 uu _ [] false (qc (F335ok uu)<|q0) p0 L0
def F179 (d:List PV) (m:Int):Option Bool:=(F277 uu d () m).bind λo=>some o.1
def F179c:CallE:=⟨179,⟨2,[],[.slice 234,.int .i64]⟩,⟨1,[],[.bool]⟩,λx=>F179 uu x.1 x.2,false⟩
theorem F179ok:okP (F179c uu):=okJ Tryz.f179 8 0 uu _ [] false (qc (F277ok uu)<|q0) p0 L0
def F176 (d:PV):Option Bool:=(F163_v1 uu (d.fld 1).asList ()).bind λo=>(bif o then F178 uu (d.fld 1).asList else some false).bind λz=>let m:=bif o then z else false;(bif m then F179 uu (d.fld 2).asList (65535:Int) else some false).bind λH=>some (bif m then H else false)
def F176c:CallE:=⟨176,⟨1,[],[.data 63]⟩,⟨1,[],[.bool]⟩,λx=>F176 uu x,false⟩
theorem F176ok:okP (F176c uu):=okJ Tryz.f176 16 0 uu _ [] false (qc (F163_v1ok uu)<|qc (F178ok uu)<|qc (F179ok uu)<|q0) p0 L0
def F263_v1 (d:PV) (o:Unit) (z:Unit):Option (Bool×Unit):=(F176 uu d).bind λm=>some ((!m),())
def F263_v1c:CallE:=⟨263,⟨2,bx12,(.data 63)::(.con (.ref 0 [] 178))::sv42⟩,⟨1,bx12,.bool::sv42⟩,λx=>F263_v1 uu x.1 x.2.1 x.2.2,(false,())⟩
theorem F263_v1ok:okP (F263_v1c uu):=okJ Tryz.f263 8 1 uu _ [] false (qc (F176ok uu)<|q0) p0 L0
abbrev S326_v1_3x:=(List PV)×Unit×Int×Int×Unit
abbrev S326_v1_3y:=(Int×Unit)⊕(Unit)
def S326_v1_3 (m:List PV) (H:Unit) (o:Int) (d:Int) (M:Unit):Option (S326_v1_3x⊕S326_v1_3y):=bif (decide (d<o)) then bif aaa d m.length then (F263_v1 uu (m.getD d.toNat .bad) () ()).bind λz=>bif z.1 then some (.inr (.inl (d,()))) else some (.inl (m,(),o,(IntKind.wrap .i64 (d+1)),())) else none else some (.inr (.inr ()))
def S326_v1_3step (x:S326_v1_3x):Option (S326_v1_3x⊕S326_v1_3y):=S326_v1_3 uu x.1 x.2.1 x.2.2.1 x.2.2.2.1 x.2.2.2.2
def F326_v1 (m:List PV) (H:Unit) (M:Unit):Option (Int×Unit):=(aaw uu (S326_v1_3step uu) (m,(),(m.length:Int),(0:Int),())).bind λz=>sumE (λd=>some (d.1,()) ) (λo=>some ((-1:Int),()) ) z
def S326_v1_3l:LoopE:=⟨3,⟨[0,1,7,8],bx12,(.slice 63)::(.con (.fn 263 0 [(.ref 0 [] 178)]))::(.int .i64)::sv43⟩,[(.ret,⟨[4],bx12,sv43⟩),(.exit 0,⟨[],bx12,sv42⟩)],S326_v1_3step uu⟩
def F326_v1C:Cfg:=cfg Tryz.prog 19 1 [F263_v1c uu] [S326_v1_3l uu] uu
def F326_v1c:CallE:=⟨326,⟨2,bx12,(.slice 63)::(.con (.fn 263 0 [(.ref 0 [] 178)]))::sv42⟩,⟨1,bx12,sv43⟩,λx=>F326_v1 uu x.1 x.2.1 x.2.2,(0,())⟩
theorem F326_v1k:aap (F326_v1C uu):=aad (qc (F263_v1ok uu)<|q0) p0
theorem S326_v1_3ok:aai (F326_v1C uu) (lp (aao Tryz.f326) 0):=okL (F326_v1k uu) uu (S326_v1_3l uu) L0
theorem F326_v1ok:okP (F326_v1c uu):=okE Tryz.f326 (F326_v1k uu) (L1 (S326_v1_3ok uu))
def F262_v1 (d:List PV) (o:Unit) (z:Unit):Option (Bool×Unit):=(F326_v1 uu d () ()).bind λm=>some ((decide (m.1>=0)),())
def F262_v1c:CallE:=⟨262,⟨2,bx12,(.slice 63)::(.con (.fn 263 0 [(.ref 0 [] 178)]))::sv42⟩,⟨1,bx12,.bool::sv42⟩,λx=>F262_v1 uu x.1 x.2.1 x.2.2,(false,())⟩
theorem F262_v1ok:okP (F262_v1c uu):=okJ Tryz.f262 9 1 uu _ [] false (qc (F326_v1ok uu)<|q0) p0 L0
def F161_v1 (d:List PV) (o:Unit):Option Bool:=(F262_v1 uu d () ()).bind λm=>some (!m.1)
def F161_v1c:CallE:=⟨161,⟨2,[],(.slice 63)::sv42⟩,⟨1,[],[.bool]⟩,λx=>F161_v1 uu x.1 x.2,false⟩
theorem F161_v1ok:okP (F161_v1c uu):=okJ Tryz.f161 9 0 uu _ [] false (qc (F262_v1ok uu)<|q0) p0 L0
def F181 (uu:Nat) (d:PV):Option Bool:=some (bif (decide (((d.fld 1).asInt)>=0)) then (decide ((d.fld 1).asInt<=2147483647)) else false)
def F181c:CallE:=⟨181,⟨1,[],[.data 182]⟩,⟨1,[],[.bool]⟩,λx=>F181 uu x,false⟩
theorem F181ok:okP (F181c uu):=okJ Tryz.f181 11 0 uu [] [] false q0 p0 L0
def F270_v1 (d:PV) (o:Unit) (z:Unit):Option (Bool×Unit):=(F181 uu d).bind λm=>some ((!m),())
def F270_v1c:CallE:=⟨270,⟨2,bx13,(.data 182)::(.con (.ref 0 [] 183))::sv44⟩,⟨1,bx13,.bool::sv44⟩,λx=>F270_v1 uu x.1 x.2.1 x.2.2,(false,())⟩
theorem F270_v1ok:okP (F270_v1c uu):=okJ Tryz.f270 8 1 uu _ [] false (qc (F181ok uu)<|q0) p0 L0
abbrev S329_v1_3x:=(List PV)×Unit×Int×Int×Unit
abbrev S329_v1_3y:=(Int×Unit)⊕(Unit)
def S329_v1_3 (m:List PV) (H:Unit) (o:Int) (d:Int) (M:Unit):Option (S329_v1_3x⊕S329_v1_3y):=bif (decide (d<o)) then bif aaa d m.length then (F270_v1 uu (m.getD d.toNat .bad) () ()).bind λz=>bif z.1 then some (.inr (.inl (d,()))) else some (.inl (m,(),o,(IntKind.wrap .i64 (d+1)),())) else none else some (.inr (.inr ()))
def S329_v1_3step (x:S329_v1_3x):Option (S329_v1_3x⊕S329_v1_3y):=S329_v1_3 uu x.1 x.2.1 x.2.2.1 x.2.2.2.1 x.2.2.2.2
def F329_v1 (m:List PV) (H:Unit) (M:Unit):Option (Int×Unit):=(aaw uu (S329_v1_3step uu) (m,(),(m.length:Int),(0:Int),())).bind λz=>sumE (λd=>some (d.1,()) ) (λo=>some ((-1:Int),()) ) z
def S329_v1_3l:LoopE:=⟨3,⟨[0,1,7,8],bx13,(.slice 182)::(.con (.fn 270 0 [(.ref 0 [] 183)]))::(.int .i64)::sv45⟩,[(.ret,⟨[4],bx13,sv45⟩),(.exit 0,⟨[],bx13,sv44⟩)],S329_v1_3step uu⟩
def F329_v1C:Cfg:=cfg Tryz.prog 19 1 [F270_v1c uu] [S329_v1_3l uu] uu
def F329_v1c:CallE:=⟨329,⟨2,bx13,(.slice 182)::(.con (.fn 270 0 [(.ref 0 [] 183)]))::sv44⟩,⟨1,bx13,sv45⟩,λx=>F329_v1 uu x.1 x.2.1 x.2.2,(0,())⟩
theorem F329_v1k:aap (F329_v1C uu):=aad (qc (F270_v1ok uu)<|q0) p0
theorem S329_v1_3ok:aai (F329_v1C uu) (lp (aao Tryz.f329) 0):=okL (F329_v1k uu) uu (S329_v1_3l uu) L0
theorem F329_v1ok:okP (F329_v1c uu):=okE Tryz.f329 (F329_v1k uu) (L1 (S329_v1_3ok uu))
def F269_v1 (d:List PV) (o:Unit) (z:Unit):Option (Bool×Unit):=(F329_v1 uu d () ()).bind λm=>some ((decide (m.1>=0)),())
def F269_v1c:CallE:=⟨269,⟨2,bx13,(.slice 182)::(.con (.fn 270 0 [(.ref 0 [] 183)]))::sv44⟩,⟨1,bx13,.bool::sv44⟩,λx=>F269_v1 uu x.1 x.2.1 x.2.2,(false,())⟩
theorem F269_v1ok:okP (F269_v1c uu):=okJ Tryz.f269 9 1 uu _ [] false (qc (F329_v1ok uu)<|q0) p0 L0
def F169_v1 (d:List PV) (o:Unit):Option Bool:=(F269_v1 uu d () ()).bind λm=>some (!m.1)
def F169_v1c:CallE:=⟨169,⟨2,[],(.slice 182)::sv44⟩,⟨1,[],[.bool]⟩,λx=>F169_v1 uu x.1 x.2,false⟩
theorem F169_v1ok:okP (F169_v1c uu):=okJ Tryz.f169 9 0 uu _ [] false (qc (F269_v1ok uu)<|q0) p0 L0
def F180 (d:PV):Option Bool:=(F179 uu (d.fld 3).asList (2147483647:Int)).bind λm=>(bif m then F169_v1 uu (d.fld 2).asList () else some false).bind λo=>some (bif m then o else false)
def F180c:CallE:=⟨180,⟨1,[],[.data 127]⟩,⟨1,[],[.bool]⟩,λx=>F180 uu x,false⟩
theorem F180ok:okP (F180c uu):=okJ Tryz.f180 11 0 uu _ [] false (qc (F179ok uu)<|qc (F169_v1ok uu)<|q0) p0 L0
def F268_v1 (d:PV) (o:Unit) (z:Unit):Option (Bool×Unit):=(F180 uu d).bind λm=>some ((!m),())
def F268_v1c:CallE:=⟨268,⟨2,bx14,(.data 127)::(.con (.ref 0 [] 184))::sv46⟩,⟨1,bx14,.bool::sv46⟩,λx=>F268_v1 uu x.1 x.2.1 x.2.2,(false,())⟩
theorem F268_v1ok:okP (F268_v1c uu):=okJ Tryz.f268 8 1 uu _ [] false (qc (F180ok uu)<|q0) p0 L0
abbrev S328_v1_3x:=(List PV)×Unit×Int×Int×Unit
abbrev S328_v1_3y:=(Int×Unit)⊕(Unit)
def S328_v1_3 (m:List PV) (H:Unit) (o:Int) (d:Int) (M:Unit):Option (S328_v1_3x⊕S328_v1_3y):=bif (decide (d<o)) then bif aaa d m.length then (F268_v1 uu (m.getD d.toNat .bad) () ()).bind λz=>bif z.1 then some (.inr (.inl (d,()))) else some (.inl (m,(),o,(IntKind.wrap .i64 (d+1)),())) else none else some (.inr (.inr ()))
def S328_v1_3step (x:S328_v1_3x):Option (S328_v1_3x⊕S328_v1_3y):=S328_v1_3 uu x.1 x.2.1 x.2.2.1 x.2.2.2.1 x.2.2.2.2
def F328_v1 (m:List PV) (H:Unit) (M:Unit):Option (Int×Unit):=(aaw uu (S328_v1_3step uu) (m,(),(m.length:Int),(0:Int),())).bind λz=>sumE (λd=>some (d.1,()) ) (λo=>some ((-1:Int),()) ) z
def S328_v1_3l:LoopE:=⟨3,⟨[0,1,7,8],bx14,(.slice 127)::(.con (.fn 268 0 [(.ref 0 [] 184)]))::(.int .i64)::sv47⟩,[(.ret,⟨[4],bx14,sv47⟩),(.exit 0,⟨[],bx14,sv46⟩)],S328_v1_3step uu⟩
def F328_v1C:Cfg:=cfg Tryz.prog 19 1 [F268_v1c uu] [S328_v1_3l uu] uu
def F328_v1c:CallE:=⟨328,⟨2,bx14,(.slice 127)::(.con (.fn 268 0 [(.ref 0 [] 184)]))::sv46⟩,⟨1,bx14,sv47⟩,λx=>F328_v1 uu x.1 x.2.1 x.2.2,(0,())⟩
theorem F328_v1k:aap (F328_v1C uu):=aad (qc (F268_v1ok uu)<|q0) p0
theorem S328_v1_3ok:aai (F328_v1C uu) (lp (aao Tryz.f328) 0):=okL (F328_v1k uu) uu (S328_v1_3l uu) L0
theorem F328_v1ok:okP (F328_v1c uu):=okE Tryz.f328 (F328_v1k uu) (L1 (S328_v1_3ok uu))
def F267_v1 (d:List PV) (o:Unit) (z:Unit):Option (Bool×Unit):=(F328_v1 uu d () ()).bind λm=>some ((decide (m.1>=0)),())
def F267_v1c:CallE:=⟨267,⟨2,bx14,(.slice 127)::(.con (.fn 268 0 [(.ref 0 [] 184)]))::sv46⟩,⟨1,bx14,.bool::sv46⟩,λx=>F267_v1 uu x.1 x.2.1 x.2.2,(false,())⟩
theorem F267_v1ok:okP (F267_v1c uu):=okJ Tryz.f267 9 1 uu _ [] false (qc (F328_v1ok uu)<|q0) p0 L0
def F167_v1 (d:List PV) (o:Unit):Option Bool:=(F267_v1 uu d () ()).bind λm=>some (!m.1)
def F167_v1c:CallE:=⟨167,⟨2,[],(.slice 127)::sv46⟩,⟨1,[],[.bool]⟩,λx=>F167_v1 uu x.1 x.2,false⟩
theorem F167_v1ok:okP (F167_v1c uu):=okJ Tryz.f167 9 0 uu _ [] false (qc (F267_v1ok uu)<|q0) p0 L0
def F183 (uu:Nat) (d:PV):Option Bool:=some (bif (decide (((d.fld 3).asInt)>=1)) then (decide ((d.fld 3).asInt<=4)) else false)
def F183c:CallE:=⟨183,⟨1,[],[.data 188]⟩,⟨1,[],[.bool]⟩,λx=>F183 uu x,false⟩
theorem F183ok:okP (F183c uu):=okJ Tryz.f183 11 0 uu [] [] false q0 p0 L0
def F274_v1 (d:PV) (o:Unit) (z:Unit):Option (Bool×Unit):=(F183 uu d).bind λm=>some ((!m),())
def F274_v1c:CallE:=⟨274,⟨2,bx15,(.data 188)::(.con (.ref 0 [] 189))::sv48⟩,⟨1,bx15,.bool::sv48⟩,λx=>F274_v1 uu x.1 x.2.1 x.2.2,(false,())⟩
theorem F274_v1ok:okP (F274_v1c uu):=okJ Tryz.f274 8 1 uu _ [] false (qc (F183ok uu)<|q0) p0 L0
abbrev S331_v1_3x:=(List PV)×Unit×Int×Int×Unit
abbrev S331_v1_3y:=(Int×Unit)⊕(Unit)
def S331_v1_3 (m:List PV) (H:Unit) (o:Int) (d:Int) (M:Unit):Option (S331_v1_3x⊕S331_v1_3y):=bif (decide (d<o)) then bif aaa d m.length then (F274_v1 uu (m.getD d.toNat .bad) () ()).bind λz=>bif z.1 then some (.inr (.inl (d,()))) else some (.inl (m,(),o,(IntKind.wrap .i64 (d+1)),())) else none else some (.inr (.inr ()))
def S331_v1_3step (x:S331_v1_3x):Option (S331_v1_3x⊕S331_v1_3y):=S331_v1_3 uu x.1 x.2.1 x.2.2.1 x.2.2.2.1 x.2.2.2.2
def F331_v1 (m:List PV) (H:Unit) (M:Unit):Option (Int×Unit):=(aaw uu (S331_v1_3step uu) (m,(),(m.length:Int),(0:Int),())).bind λz=>sumE (λd=>some (d.1,()) ) (λo=>some ((-1:Int),()) ) z
def S331_v1_3l:LoopE:=⟨3,⟨[0,1,7,8],bx15,(.slice 188)::(.con (.fn 274 0 [(.ref 0 [] 189)]))::(.int .i64)::sv49⟩,[(.ret,⟨[4],bx15,sv49⟩),(.exit 0,⟨[],bx15,sv48⟩)],S331_v1_3step uu⟩
def F331_v1C:Cfg:=cfg Tryz.prog 19 1 [F274_v1c uu] [S331_v1_3l uu] uu
def F331_v1c:CallE:=⟨331,⟨2,bx15,(.slice 188)::(.con (.fn 274 0 [(.ref 0 [] 189)]))::sv48⟩,⟨1,bx15,sv49⟩,λx=>F331_v1 uu x.1 x.2.1 x.2.2,(0,())⟩
theorem F331_v1k:aap (F331_v1C uu):=aad (qc (F274_v1ok uu)<|q0) p0
theorem S331_v1_3ok:aai (F331_v1C uu) (lp (aao Tryz.f331) 0):=okL (F331_v1k uu) uu (S331_v1_3l uu) L0
theorem F331_v1ok:okP (F331_v1c uu):=okE Tryz.f331 (F331_v1k uu) (L1 (S331_v1_3ok uu))
def F273_v1 (d:List PV) (o:Unit) (z:Unit):Option (Bool×Unit):=(F331_v1 uu d () ()).bind λm=>some ((decide (m.1>=0)),())
def F273_v1c:CallE:=⟨273,⟨2,bx15,(.slice 188)::(.con (.fn 274 0 [(.ref 0 [] 189)]))::sv48⟩,⟨1,bx15,.bool::sv48⟩,λx=>F273_v1 uu x.1 x.2.1 x.2.2,(false,())⟩
theorem F273_v1ok:okP (F273_v1c uu):=okJ Tryz.f273 9 1 uu _ [] false (qc (F331_v1ok uu)<|q0) p0 L0
def F173_v1 (d:List PV) (o:Unit):Option Bool:=(F273_v1 uu d () ()).bind λm=>some (!m.1)
def F173_v1c:CallE:=⟨173,⟨2,[],(.slice 188)::sv48⟩,⟨1,[],[.bool]⟩,λx=>F173_v1 uu x.1 x.2,false⟩
theorem F173_v1ok:okP (F173_v1c uu):=okJ Tryz.f173 9 0 uu _ [] false (qc (F273_v1ok uu)<|q0) p0 L0
def F182 (d:PV):Option Bool:=(F173_v1 uu (d.fld 1).asList ()).bind λm=>some m
def F182c:CallE:=⟨182,⟨1,[],[.data 130]⟩,⟨1,[],[.bool]⟩,λx=>F182 uu x,false⟩
theorem F182ok:okP (F182c uu):=okJ Tryz.f182 6 0 uu _ [] false (qc (F173_v1ok uu)<|q0) p0 L0
def F272_v1 (d:PV) (o:Unit) (z:Unit):Option (Bool×Unit):=(F182 uu d).bind λm=>some ((!m),())
def F272_v1c:CallE:=⟨272,⟨2,bx16,(.data 130)::(.con (.ref 0 [] 190))::sv50⟩,⟨1,bx16,.bool::sv50⟩,λx=>F272_v1 uu x.1 x.2.1 x.2.2,(false,())⟩
theorem F272_v1ok:okP (F272_v1c uu):=okJ Tryz.f272 8 1 uu _ [] false (qc (F182ok uu)<|q0) p0 L0
abbrev S330_v1_3x:=(List PV)×Unit×Int×Int×Unit
abbrev S330_v1_3y:=(Int×Unit)⊕(Unit)
def S330_v1_3 (m:List PV) (H:Unit) (o:Int) (d:Int) (M:Unit):Option (S330_v1_3x⊕S330_v1_3y):=bif (decide (d<o)) then bif aaa d m.length then (F272_v1 uu (m.getD d.toNat .bad) () ()).bind λz=>bif z.1 then some (.inr (.inl (d,()))) else some (.inl (m,(),o,(IntKind.wrap .i64 (d+1)),())) else none else some (.inr (.inr ()))
def S330_v1_3step (x:S330_v1_3x):Option (S330_v1_3x⊕S330_v1_3y):=S330_v1_3 uu x.1 x.2.1 x.2.2.1 x.2.2.2.1 x.2.2.2.2
def F330_v1 (m:List PV) (H:Unit) (M:Unit):Option (Int×Unit):=(aaw uu (S330_v1_3step uu) (m,(),(m.length:Int),(0:Int),())).bind λz=>sumE (λd=>some (d.1,()) ) (λo=>some ((-1:Int),()) ) z
def S330_v1_3l:LoopE:=⟨3,⟨[0,1,7,8],bx16,(.slice 130)::(.con (.fn 272 0 [(.ref 0 [] 190)]))::(.int .i64)::sv51⟩,[(.ret,⟨[4],bx16,sv51⟩),(.exit 0,⟨[],bx16,sv50⟩)],S330_v1_3step uu⟩
def F330_v1C:Cfg:=cfg Tryz.prog 19 1 [F272_v1c uu] [S330_v1_3l uu] uu
def F330_v1c:CallE:=⟨330,⟨2,bx16,(.slice 130)::(.con (.fn 272 0 [(.ref 0 [] 190)]))::sv50⟩,⟨1,bx16,sv51⟩,λx=>F330_v1 uu x.1 x.2.1 x.2.2,(0,())⟩
theorem F330_v1k:aap (F330_v1C uu):=aad (qc (F272_v1ok uu)<|q0) p0
theorem S330_v1_3ok:aai (F330_v1C uu) (lp (aao Tryz.f330) 0):=okL (F330_v1k uu) uu (S330_v1_3l uu) L0
theorem F330_v1ok:okP (F330_v1c uu):=okE Tryz.f330 (F330_v1k uu) (L1 (S330_v1_3ok uu))
def F271_v1 (d:List PV) (o:Unit) (z:Unit):Option (Bool×Unit):=(F330_v1 uu d () ()).bind λm=>some ((decide (m.1>=0)),())
def F271_v1c:CallE:=⟨271,⟨2,bx16,(.slice 130)::(.con (.fn 272 0 [(.ref 0 [] 190)]))::sv50⟩,⟨1,bx16,.bool::sv50⟩,λx=>F271_v1 uu x.1 x.2.1 x.2.2,(false,())⟩
theorem F271_v1ok:okP (F271_v1c uu):=okJ Tryz.f271 9 1 uu _ [] false (qc (F330_v1ok uu)<|q0) p0 L0
def F171_v1 (d:List PV) (o:Unit):Option Bool:=(F271_v1 uu d () ()).bind λm=>some (!m.1)
def F171_v1c:CallE:=⟨171,⟨2,[],(.slice 130)::sv50⟩,⟨1,[],[.bool]⟩,λx=>F171_v1 uu x.1 x.2,false⟩
theorem F171_v1ok:okP (F171_v1c uu):=okJ Tryz.f171 9 0 uu _ [] false (qc (F271_v1ok uu)<|q0) p0 L0
def F81 (d:PV):Option Bool:=(F161_v1 uu (d.fld 3).asList ()).bind λo=>(bif o then F167_v1 uu (d.fld 4).asList () else some false).bind λz=>let m:=bif o then z else false;(bif m then F171_v1 uu (d.fld 5).asList () else some false).bind λH=>some (bif m then H else false)
def F81c:CallE:=⟨81,⟨1,[],[.data 28]⟩,⟨1,[],[.bool]⟩,λx=>F81 uu x,false⟩
theorem F81ok:okP (F81c uu):=okJ Tryz.f81 16 0 uu _ [] false (qc (F161_v1ok uu)<|qc (F167_v1ok uu)<|qc (F171_v1ok uu)<|q0) p0 L0
def F279 (d:Bo) (o:Unit) (z:Unit):Option (Bool×Unit):=(F185 uu d).bind λm=>some ((!m),())
def F279c:CallE:=⟨279,⟨2,bx18,.str::(.con (.ref 0 [] 64))::sv52⟩,⟨1,bx18,.bool::sv52⟩,λx=>F279 uu x.1 x.2.1 x.2.2,(false,())⟩
theorem F279ok:okP (F279c uu):=okJ Tryz.f279 8 1 uu _ [] false (qc (F185ok uu)<|q0) p0 L0
abbrev S325_v1_3x:=(List PV)×Unit×Int×Int×Unit
abbrev S325_v1_3y:=(Int×Unit)⊕(Unit)
def S325_v1_3 (m:List PV) (H:Unit) (z:Int) (d:Int) (M:Unit):Option (S325_v1_3x⊕S325_v1_3y):=bif (decide (d<z)) then bif aaa d m.length then (F279 uu (m.getD d.toNat .bad).asStr () ()).bind λo=>bif o.1 then some (.inr (.inl (d,()))) else some (.inl (m,(),z,(IntKind.wrap .i64 (d+1)),())) else none else some (.inr (.inr ()))
def S325_v1_3step (x:S325_v1_3x):Option (S325_v1_3x⊕S325_v1_3y):=S325_v1_3 uu x.1 x.2.1 x.2.2.1 x.2.2.2.1 x.2.2.2.2
def F325_v1 (m:List PV) (H:Unit) (M:Unit):Option (Int×Unit):=(aaw uu (S325_v1_3step uu) (m,(),(m.length:Int),(0:Int),())).bind λz=>sumE (λd=>some (d.1,()) ) (λo=>some ((-1:Int),()) ) z
def S325_v1_3l:LoopE:=⟨3,⟨[0,1,7,8],bx18,(.slice 9)::(.con (.fn 279 0 [(.ref 0 [] 64)]))::(.int .i64)::sv53⟩,[(.ret,⟨[4],bx18,sv53⟩),(.exit 0,⟨[],bx18,sv52⟩)],S325_v1_3step uu⟩
def F325_v1C:Cfg:=cfg Tryz.prog 19 1 [F279c uu] [S325_v1_3l uu] uu
def F325_v1c:CallE:=⟨325,⟨2,bx18,(.slice 9)::(.con (.fn 279 0 [(.ref 0 [] 64)]))::sv52⟩,⟨1,bx18,sv53⟩,λx=>F325_v1 uu x.1 x.2.1 x.2.2,(0,())⟩
theorem F325_v1k:aap (F325_v1C uu):=aad (qc (F279ok uu)<|q0) p0
theorem S325_v1_3ok:aai (F325_v1C uu) (lp (aao Tryz.f325) 0):=okL (F325_v1k uu) uu (S325_v1_3l uu) L0
theorem F325_v1ok:okP (F325_v1c uu):=okE Tryz.f325 (F325_v1k uu) (L1 (S325_v1_3ok uu))
def F261_v1 (d:List PV) (o:Unit) (z:Unit):Option (Bool×Unit):=(F325_v1 uu d () ()).bind λm=>some ((decide (m.1>=0)),())
def F261_v1c:CallE:=⟨261,⟨2,bx18,(.slice 9)::(.con (.fn 279 0 [(.ref 0 [] 64)]))::sv52⟩,⟨1,bx18,.bool::sv52⟩,λx=>F261_v1 uu x.1 x.2.1 x.2.2,(false,())⟩
theorem F261_v1ok:okP (F261_v1c uu):=okJ Tryz.f261 9 1 uu _ [] false (qc (F325_v1ok uu)<|q0) p0 L0
def F184 (d:List PV) (o:Unit):Option Bool:=(F261_v1 uu d () ()).bind λm=>some (!m.1)
def F184c:CallE:=⟨184,⟨2,[],(.slice 9)::sv52⟩,⟨1,[],[.bool]⟩,λx=>F184 uu x.1 x.2,false⟩
theorem F184ok:okP (F184c uu):=okJ Tryz.f184 9 0 uu _ [] false (qc (F261_v1ok uu)<|q0) p0 L0
def F186 (d:PV):Option Bool:=(F184 uu (d.fld 3).asList ()).bind λm=>some m
def F186c:CallE:=⟨186,⟨1,[],[.data 63]⟩,⟨1,[],[.bool]⟩,λx=>F186 uu x,false⟩
theorem F186ok:okP (F186c uu):=okJ Tryz.f186 6 0 uu _ [] false (qc (F184ok uu)<|q0) p0 L0
def F263_v2 (d:PV) (o:Unit) (z:Unit):Option (Bool×Unit):=(F186 uu d).bind λm=>some ((!m),())
def F263_v2c:CallE:=⟨263,⟨2,bx12,(.data 63)::(.con (.ref 0 [] 178))::sv54⟩,⟨1,bx12,.bool::sv54⟩,λx=>F263_v2 uu x.1 x.2.1 x.2.2,(false,())⟩
theorem F263_v2ok:okP (F263_v2c uu):=okJ Tryz.f263 8 1 uu _ [] false (qc (F186ok uu)<|q0) p0 L0
abbrev S326_v2_3x:=(List PV)×Unit×Int×Int×Unit
abbrev S326_v2_3y:=(Int×Unit)⊕(Unit)
def S326_v2_3 (m:List PV) (H:Unit) (o:Int) (d:Int) (M:Unit):Option (S326_v2_3x⊕S326_v2_3y):=bif (decide (d<o)) then bif aaa d m.length then (F263_v2 uu (m.getD d.toNat .bad) () ()).bind λz=>bif z.1 then some (.inr (.inl (d,()))) else some (.inl (m,(),o,(IntKind.wrap .i64 (d+1)),())) else none else some (.inr (.inr ()))
def S326_v2_3step (x:S326_v2_3x):Option (S326_v2_3x⊕S326_v2_3y):=S326_v2_3 uu x.1 x.2.1 x.2.2.1 x.2.2.2.1 x.2.2.2.2
def F326_v2 (m:List PV) (H:Unit) (M:Unit):Option (Int×Unit):=(aaw uu (S326_v2_3step uu) (m,(),(m.length:Int),(0:Int),())).bind λz=>sumE (λd=>some (d.1,()) ) (λo=>some ((-1:Int),()) ) z
def S326_v2_3l:LoopE:=⟨3,⟨[0,1,7,8],bx12,(.slice 63)::(.con (.fn 263 0 [(.ref 0 [] 178)]))::(.int .i64)::sv55⟩,[(.ret,⟨[4],bx12,sv55⟩),(.exit 0,⟨[],bx12,sv54⟩)],S326_v2_3step uu⟩
def F326_v2C:Cfg:=cfg Tryz.prog 19 1 [F263_v2c uu] [S326_v2_3l uu] uu
def F326_v2c:CallE:=⟨326,⟨2,bx12,(.slice 63)::(.con (.fn 263 0 [(.ref 0 [] 178)]))::sv54⟩,⟨1,bx12,sv55⟩,λx=>F326_v2 uu x.1 x.2.1 x.2.2,(0,())⟩
theorem F326_v2k:aap (F326_v2C uu):=aad (qc (F263_v2ok uu)<|q0) p0
theorem S326_v2_3ok:aai (F326_v2C uu) (lp (aao Tryz.f326) 0):=okL (F326_v2k uu) uu (S326_v2_3l uu) L0
theorem F326_v2ok:okP (F326_v2c uu):=okE Tryz.f326 (F326_v2k uu) (L1 (S326_v2_3ok uu))
def F262_v2 (d:List PV) (o:Unit) (z:Unit):Option (Bool×Unit):=(F326_v2 uu d () ()).bind λm=>some ((decide (m.1>=0)),())
def F262_v2c:CallE:=⟨262,⟨2,bx12,(.slice 63)::(.con (.fn 263 0 [(.ref 0 [] 178)]))::sv54⟩,⟨1,bx12,.bool::sv54⟩,λx=>F262_v2 uu x.1 x.2.1 x.2.2,(false,())⟩
theorem F262_v2ok:okP (F262_v2c uu):=okJ Tryz.f262 9 1 uu _ [] false (qc (F326_v2ok uu)<|q0) p0 L0
def F161_v2 (d:List PV) (o:Unit):Option Bool:=(F262_v2 uu d () ()).bind λm=>some (!m.1)
def F161_v2c:CallE:=⟨161,⟨2,[],(.slice 63)::sv54⟩,⟨1,[],[.bool]⟩,λx=>F161_v2 uu x.1 x.2,false⟩
theorem F161_v2ok:okP (F161_v2c uu):=okJ Tryz.f161 9 0 uu _ [] false (qc (F262_v2ok uu)<|q0) p0 L0
def F82 (d:PV):Option Bool:=(F184 uu (d.fld 2).asList ()).bind λm=>(bif m then F161_v2 uu (d.fld 3).asList () else some false).bind λo=>some (bif m then o else false)
def F82c:CallE:=⟨82,⟨1,[],[.data 28]⟩,⟨1,[],[.bool]⟩,λx=>F82 uu x,false⟩
theorem F82ok:okP (F82c uu):=okJ Tryz.f82 11 0 uu _ [] false (qc (F184ok uu)<|qc (F161_v2ok uu)<|q0) p0 L0
abbrev S83_8x:=Unit×(List PV)×(List PV)×Int×Int×(List PV)×Int×Int×PV×PV
abbrev S83_8y:=(Unit×(List PV)×(List PV)×Int×Int×PV×PV)
def S83_8 (uu:Nat) (X:Unit) (m:List PV) (z:List PV) (H:Int) (M:Int) (o:List PV) (O:Int) (d:Int) (U:PV) (V:PV):Option (S83_8x⊕S83_8y):=bif (decide (d<O)) then bif aaa d o.length then let W:=((o.getD d.toNat .bad).fld 8).asList;bif decide (m.length+[(PV.agg [(PV.slice W),(PV.int (2:Int))])].length<=aak) then some (.inl ((),(m++[(PV.agg [(PV.slice W),(PV.int (2:Int))])]),z,H,M,o,O,(IntKind.wrap .i64 (d+1)),U,V)) else none else none else some (.inr ((),m,z,H,M,U,V))
def S83_8step (x:S83_8x):Option (S83_8x⊕S83_8y):=S83_8 uu x.1 x.2.1 x.2.2.1 x.2.2.2.1 x.2.2.2.2.1 x.2.2.2.2.2.1 x.2.2.2.2.2.2.1 x.2.2.2.2.2.2.2.1 x.2.2.2.2.2.2.2.2.1 x.2.2.2.2.2.2.2.2.2
abbrev S83_4x:=Unit×(List PV)×(List PV)×Int×Int×PV
abbrev S83_4y:=(Unit×(List PV)×PV)
def S83_4 (W:Unit) (M:List PV) (O:List PV) (U:Int) (H:Int) (V:PV):Option (S83_4x⊕S83_4y):=bif (decide (H<U)) then bif aaa H O.length then let m:=O.getD H.toNat .bad;let o:=(m.fld 4).asList;bif decide (M.length+[(PV.agg [(PV.slice o),(PV.int (1:Int))])].length<=aak) then let z:=(m.fld 1).asList;(aaw uu (S83_8step uu) ((),(M++[(PV.agg [(PV.slice o),(PV.int (1:Int))])]),O,U,H,z,(z.length:Int),(0:Int),V,m)).bind λd=>some (.inl ((),d.2.1,d.2.2.1,d.2.2.2.1,(IntKind.wrap .i64 (d.2.2.2.2.1+1)),d.2.2.2.2.2.1)) else none else none else some (.inr ((),M,V))
def S83_4step (x:S83_4x):Option (S83_4x⊕S83_4y):=S83_4 uu x.1 x.2.1 x.2.2.1 x.2.2.2.1 x.2.2.2.2.1 x.2.2.2.2.2
abbrev S83_18x:=Unit×(List PV)×(List PV)×Int×Int×(List PV)×Int×Int×PV×PV
abbrev S83_18y:=(Unit×(List PV)×(List PV)×Int×Int×PV×PV)
def S83_18 (uu:Nat) (X:Unit) (m:List PV) (z:List PV) (H:Int) (M:Int) (o:List PV) (O:Int) (d:Int) (U:PV) (V:PV):Option (S83_18x⊕S83_18y):=bif (decide (d<O)) then bif aaa d o.length then let W:=((o.getD d.toNat .bad).fld 2).asList;bif decide (m.length+[(PV.agg [(PV.slice W),(PV.int (4:Int))])].length<=aak) then some (.inl ((),(m++[(PV.agg [(PV.slice W),(PV.int (4:Int))])]),z,H,M,o,O,(IntKind.wrap .i64 (d+1)),U,V)) else none else none else some (.inr ((),m,z,H,M,U,V))
def S83_18step (x:S83_18x):Option (S83_18x⊕S83_18y):=S83_18 uu x.1 x.2.1 x.2.2.1 x.2.2.2.1 x.2.2.2.2.1 x.2.2.2.2.2.1 x.2.2.2.2.2.2.1 x.2.2.2.2.2.2.2.1 x.2.2.2.2.2.2.2.2.1 x.2.2.2.2.2.2.2.2.2
abbrev S83_14x:=Unit×(List PV)×(List PV)×Int×Int×PV
abbrev S83_14y:=(Unit×(List PV)×PV)
def S83_14 (W:Unit) (o:List PV) (z:List PV) (M:Int) (m:Int) (O:PV):Option (S83_14x⊕S83_14y):=bif (decide (m<M)) then bif aaa m z.length then let H:=z.getD m.toNat .bad;let U:=(H.fld 4).asList;bif decide (o.length+[(PV.agg [(PV.slice U),(PV.int (3:Int))])].length<=aak) then let V:=(H.fld 2).asList;(aaw uu (S83_18step uu) ((),(o++[(PV.agg [(PV.slice U),(PV.int (3:Int))])]),z,M,m,V,(V.length:Int),(0:Int),O,H)).bind λd=>some (.inl ((),d.2.1,d.2.2.1,d.2.2.2.1,(IntKind.wrap .i64 (d.2.2.2.2.1+1)),d.2.2.2.2.2.1)) else none else none else some (.inr ((),o,O))
def S83_14step (x:S83_14x):Option (S83_14x⊕S83_14y):=S83_14 uu x.1 x.2.1 x.2.2.1 x.2.2.2.1 x.2.2.2.2.1 x.2.2.2.2.2
abbrev S83_28x:=(List PV)×(List PV)×Int×Int×(List PV)×Int×Int×PV×PV
abbrev S83_28y:=((List PV)×(List PV)×Int×Int×PV×PV)
def S83_28 (uu:Nat) (m:List PV) (z:List PV) (H:Int) (M:Int) (o:List PV) (O:Int) (d:Int) (U:PV) (V:PV):Option (S83_28x⊕S83_28y):=bif (decide (d<O)) then bif aaa d o.length then let W:=((o.getD d.toNat .bad).fld 4).asList;bif decide (m.length+[(PV.agg [(PV.slice W),(PV.int (6:Int))])].length<=aak) then some (.inl ((m++[(PV.agg [(PV.slice W),(PV.int (6:Int))])]),z,H,M,o,O,(IntKind.wrap .i64 (d+1)),U,V)) else none else none else some (.inr (m,z,H,M,U,V))
def S83_28step (x:S83_28x):Option (S83_28x⊕S83_28y):=S83_28 uu x.1 x.2.1 x.2.2.1 x.2.2.2.1 x.2.2.2.2.1 x.2.2.2.2.2.1 x.2.2.2.2.2.2.1 x.2.2.2.2.2.2.2.1 x.2.2.2.2.2.2.2.2
abbrev S83_24x:=(List PV)×(List PV)×Int×Int×PV
abbrev S83_24y:=((List PV)×PV)
def S83_24 (o:List PV) (z:List PV) (M:Int) (m:Int) (O:PV):Option (S83_24x⊕S83_24y):=bif (decide (m<M)) then bif aaa m z.length then let H:=z.getD m.toNat .bad;let U:=(H.fld 2).asList;bif decide (o.length+[(PV.agg [(PV.slice U),(PV.int (5:Int))])].length<=aak) then let V:=(H.fld 1).asList;(aaw uu (S83_28step uu) ((o++[(PV.agg [(PV.slice U),(PV.int (5:Int))])]),z,M,m,V,(V.length:Int),(0:Int),O,H)).bind λd=>some (.inl (d.1,d.2.1,d.2.2.1,(IntKind.wrap .i64 (d.2.2.2.1+1)),d.2.2.2.2.1)) else none else none else some (.inr (o,O))
def S83_24step (x:S83_24x):Option (S83_24x⊕S83_24y):=S83_24 uu x.1 x.2.1 x.2.2.1 x.2.2.2.1 x.2.2.2.2
def F83 (M:PV):Option ((List PV)):=let x1:=(M.fld 3).asList;(aaw uu (S83_4step uu) ((),[],x1,(x1.length:Int),(0:Int),M)).bind λd=>let o:=(d.2.2.fld 4).asList;(aaw uu (S83_14step uu) ((),d.2.1,o,(o.length:Int),(0:Int),d.2.2)).bind λm=>let z:=(m.2.2.fld 5).asList;(aaw uu (S83_24step uu) (m.2.1,z,(z.length:Int),(0:Int),m.2.2)).bind λH=>some H.1
def S83_8l:LoopE:=⟨8,⟨[1,3,17,18,19,30,31,32],[.box 28 .leaf,.acc,.box 63 .leaf],[(.con (.ref 0 [] 28)),.acc 1 134,.slice 63,.int .i64,.int .i64,.slice 54,.int .i64,.int .i64,.data 28,.data 63]⟩,[(.exit 2,⟨[1,3,17,18,19],[.box 28 .leaf,.acc,.box 63 .leaf],[(.con (.ref 0 [] 28)),.acc 1 134,.slice 63,.int .i64,.int .i64,.data 28,.data 63]⟩)],S83_8step uu⟩
def S83_4l:LoopE:=⟨4,⟨[1,3,17,18,19],bx19,(.con (.ref 0 [] 28))::(.acc 1 134)::(.slice 63)::sv56⟩,[(.exit 0,⟨[1,3],bx19,(.con (.ref 0 [] 28))::sv57⟩)],S83_4step uu⟩
def S83_18l:LoopE:=⟨18,⟨[1,3,45,46,47,58,59,60],[.box 28 .leaf,.acc,.box 127 .leaf],[(.con (.ref 0 [] 28)),.acc 1 134,.slice 127,.int .i64,.int .i64,.slice 182,.int .i64,.int .i64,.data 28,.data 127]⟩,[(.exit 6,⟨[1,3,45,46,47],[.box 28 .leaf,.acc,.box 127 .leaf],[(.con (.ref 0 [] 28)),.acc 1 134,.slice 127,.int .i64,.int .i64,.data 28,.data 127]⟩)],S83_18step uu⟩
def S83_14l:LoopE:=⟨14,⟨[1,3,45,46,47],bx19,(.con (.ref 0 [] 28))::(.acc 1 134)::(.slice 127)::sv56⟩,[(.exit 4,⟨[1,3],bx19,(.con (.ref 0 [] 28))::sv57⟩)],S83_14step uu⟩
def S83_28l:LoopE:=⟨28,⟨[3,73,74,75,86,87,88],[.box 28 .leaf,.acc,.box 130 .leaf],[.acc 1 134,.slice 130,.int .i64,.int .i64,.slice 188,.int .i64,.int .i64,.data 28,.data 130]⟩,[(.exit 10,⟨[3,73,74,75],[.box 28 .leaf,.acc,.box 130 .leaf],[.acc 1 134,.slice 130,.int .i64,.int .i64,.data 28,.data 130]⟩)],S83_28step uu⟩
def S83_24l:LoopE:=⟨24,⟨[3,73,74,75],bx19,(.acc 1 134)::(.slice 130)::sv56⟩,[(.exit 8,⟨[3],bx19,sv57⟩)],S83_24step uu⟩
def F83C:Cfg:=cfg Tryz.prog 101 0 [] [S83_8l uu,S83_4l uu,S83_18l uu,S83_14l uu,S83_28l uu,S83_24l uu] uu
def F83c:CallE:=⟨83,⟨1,[],[.data 28]⟩,⟨1,[],[.slice 134]⟩,λx=>F83 uu x,[]⟩
theorem F83k:aap (F83C uu):=aad q0 p0
theorem S83_8ok:aai (F83C uu) (lp (lp (aao Tryz.f83) 0) 0):=okL (F83k uu) uu (S83_8l uu) L0
theorem S83_4ok:aai (F83C uu) (lp (aao Tryz.f83) 0):=okL (F83k uu) uu (S83_4l uu) (L1 (S83_8ok uu))
theorem S83_18ok:aai (F83C uu) (lp (lp (aao Tryz.f83) 1) 0):=okL (F83k uu) uu (S83_18l uu) L0
theorem S83_14ok:aai (F83C uu) (lp (aao Tryz.f83) 1):=okL (F83k uu) uu (S83_14l uu) (L1 (S83_18ok uu))
theorem S83_28ok:aai (F83C uu) (lp (lp (aao Tryz.f83) 2) 0):=okL (F83k uu) uu (S83_28l uu) L0
theorem S83_24ok:aai (F83C uu) (lp (aao Tryz.f83) 2):=okL (F83k uu) uu (S83_24l uu) (L1 (S83_28ok uu))
theorem F83ok:okP (F83c uu):=okE Tryz.f83 (F83k uu) (L3 (S83_4ok uu) (S83_14ok uu) (S83_24ok uu))
def F187 (uu:Nat) (d:PV):Option Bool:=let m:=((d.fld 2).asList.length:Int);let o:=((d.fld 3).asList.length:Int);some (bif (decide (((d.fld 1).asList.length:Int)<=64)) then (decide ((if o>m then o else m)<=16)) else false)
def F187c:CallE:=⟨187,⟨1,[],[.data 63]⟩,⟨1,[],[.bool]⟩,λx=>F187 uu x,false⟩
theorem F187ok:okP (F187c uu):=okJ Tryz.f187 17 0 uu [] [] false q0 p0 L0
def F263_v3 (d:PV) (o:Unit) (z:Unit):Option (Bool×Unit):=(F187 uu d).bind λm=>some ((!m),())
def F263_v3c:CallE:=⟨263,⟨2,bx12,(.data 63)::(.con (.ref 0 [] 178))::sv58⟩,⟨1,bx12,.bool::sv58⟩,λx=>F263_v3 uu x.1 x.2.1 x.2.2,(false,())⟩
theorem F263_v3ok:okP (F263_v3c uu):=okJ Tryz.f263 8 1 uu _ [] false (qc (F187ok uu)<|q0) p0 L0
abbrev S326_v3_3x:=(List PV)×Unit×Int×Int×Unit
abbrev S326_v3_3y:=(Int×Unit)⊕(Unit)
def S326_v3_3 (m:List PV) (H:Unit) (o:Int) (d:Int) (M:Unit):Option (S326_v3_3x⊕S326_v3_3y):=bif (decide (d<o)) then bif aaa d m.length then (F263_v3 uu (m.getD d.toNat .bad) () ()).bind λz=>bif z.1 then some (.inr (.inl (d,()))) else some (.inl (m,(),o,(IntKind.wrap .i64 (d+1)),())) else none else some (.inr (.inr ()))
def S326_v3_3step (x:S326_v3_3x):Option (S326_v3_3x⊕S326_v3_3y):=S326_v3_3 uu x.1 x.2.1 x.2.2.1 x.2.2.2.1 x.2.2.2.2
def F326_v3 (m:List PV) (H:Unit) (M:Unit):Option (Int×Unit):=(aaw uu (S326_v3_3step uu) (m,(),(m.length:Int),(0:Int),())).bind λz=>sumE (λd=>some (d.1,()) ) (λo=>some ((-1:Int),()) ) z
def S326_v3_3l:LoopE:=⟨3,⟨[0,1,7,8],bx12,(.slice 63)::(.con (.fn 263 0 [(.ref 0 [] 178)]))::(.int .i64)::sv59⟩,[(.ret,⟨[4],bx12,sv59⟩),(.exit 0,⟨[],bx12,sv58⟩)],S326_v3_3step uu⟩
def F326_v3C:Cfg:=cfg Tryz.prog 19 1 [F263_v3c uu] [S326_v3_3l uu] uu
def F326_v3c:CallE:=⟨326,⟨2,bx12,(.slice 63)::(.con (.fn 263 0 [(.ref 0 [] 178)]))::sv58⟩,⟨1,bx12,sv59⟩,λx=>F326_v3 uu x.1 x.2.1 x.2.2,(0,())⟩
theorem F326_v3k:aap (F326_v3C uu):=aad (qc (F263_v3ok uu)<|q0) p0
theorem S326_v3_3ok:aai (F326_v3C uu) (lp (aao Tryz.f326) 0):=okL (F326_v3k uu) uu (S326_v3_3l uu) L0
theorem F326_v3ok:okP (F326_v3c uu):=okE Tryz.f326 (F326_v3k uu) (L1 (S326_v3_3ok uu))
def F262_v3 (d:List PV) (o:Unit) (z:Unit):Option (Bool×Unit):=(F326_v3 uu d () ()).bind λm=>some ((decide (m.1>=0)),())
def F262_v3c:CallE:=⟨262,⟨2,bx12,(.slice 63)::(.con (.fn 263 0 [(.ref 0 [] 178)]))::sv58⟩,⟨1,bx12,.bool::sv58⟩,λx=>F262_v3 uu x.1 x.2.1 x.2.2,(false,())⟩
theorem F262_v3ok:okP (F262_v3c uu):=okJ Tryz.f262 9 1 uu _ [] false (qc (F326_v3ok uu)<|q0) p0 L0
def F161_v3 (d:List PV) (o:Unit):Option Bool:=(F262_v3 uu d () ()).bind λm=>some (!m.1)
def F161_v3c:CallE:=⟨161,⟨2,[],(.slice 63)::sv58⟩,⟨1,[],[.bool]⟩,λx=>F161_v3 uu x.1 x.2,false⟩
theorem F161_v3ok:okP (F161_v3c uu):=okJ Tryz.f161 9 0 uu _ [] false (qc (F262_v3ok uu)<|q0) p0 L0
def F188 (uu:Nat) (d:PV):Option Bool:=some (bif (decide (((d.fld 2).asList.length:Int)<=64)) then (decide (((d.fld 3).asList.length:Int)<=16)) else false)
def F188c:CallE:=⟨188,⟨1,[],[.data 127]⟩,⟨1,[],[.bool]⟩,λx=>F188 uu x,false⟩
theorem F188ok:okP (F188c uu):=okJ Tryz.f188 13 0 uu [] [] false q0 p0 L0
def F268_v2 (d:PV) (o:Unit) (z:Unit):Option (Bool×Unit):=(F188 uu d).bind λm=>some ((!m),())
def F268_v2c:CallE:=⟨268,⟨2,bx14,(.data 127)::(.con (.ref 0 [] 184))::sv60⟩,⟨1,bx14,.bool::sv60⟩,λx=>F268_v2 uu x.1 x.2.1 x.2.2,(false,())⟩
theorem F268_v2ok:okP (F268_v2c uu):=okJ Tryz.f268 8 1 uu _ [] false (qc (F188ok uu)<|q0) p0 L0
abbrev S328_v2_3x:=(List PV)×Unit×Int×Int×Unit
abbrev S328_v2_3y:=(Int×Unit)⊕(Unit)
def S328_v2_3 (m:List PV) (H:Unit) (o:Int) (d:Int) (M:Unit):Option (S328_v2_3x⊕S328_v2_3y):=bif (decide (d<o)) then bif aaa d m.length then (F268_v2 uu (m.getD d.toNat .bad) () ()).bind λz=>bif z.1 then some (.inr (.inl (d,()))) else some (.inl (m,(),o,(IntKind.wrap .i64 (d+1)),())) else none else some (.inr (.inr ()))
def S328_v2_3step (x:S328_v2_3x):Option (S328_v2_3x⊕S328_v2_3y):=S328_v2_3 uu x.1 x.2.1 x.2.2.1 x.2.2.2.1 x.2.2.2.2
def F328_v2 (m:List PV) (H:Unit) (M:Unit):Option (Int×Unit):=(aaw uu (S328_v2_3step uu) (m,(),(m.length:Int),(0:Int),())).bind λz=>sumE (λd=>some (d.1,()) ) (λo=>some ((-1:Int),()) ) z
def S328_v2_3l:LoopE:=⟨3,⟨[0,1,7,8],bx14,(.slice 127)::(.con (.fn 268 0 [(.ref 0 [] 184)]))::(.int .i64)::sv61⟩,[(.ret,⟨[4],bx14,sv61⟩),(.exit 0,⟨[],bx14,sv60⟩)],S328_v2_3step uu⟩
def F328_v2C:Cfg:=cfg Tryz.prog 19 1 [F268_v2c uu] [S328_v2_3l uu] uu
def F328_v2c:CallE:=⟨328,⟨2,bx14,(.slice 127)::(.con (.fn 268 0 [(.ref 0 [] 184)]))::sv60⟩,⟨1,bx14,sv61⟩,λx=>F328_v2 uu x.1 x.2.1 x.2.2,(0,())⟩
theorem F328_v2k:aap (F328_v2C uu):=aad (qc (F268_v2ok uu)<|q0) p0
theorem S328_v2_3ok:aai (F328_v2C uu) (lp (aao Tryz.f328) 0):=okL (F328_v2k uu) uu (S328_v2_3l uu) L0
theorem F328_v2ok:okP (F328_v2c uu):=okE Tryz.f328 (F328_v2k uu) (L1 (S328_v2_3ok uu))
def F267_v2 (d:List PV) (o:Unit) (z:Unit):Option (Bool×Unit):=(F328_v2 uu d () ()).bind λm=>some ((decide (m.1>=0)),())
def F267_v2c:CallE:=⟨267,⟨2,bx14,(.slice 127)::(.con (.fn 268 0 [(.ref 0 [] 184)]))::sv60⟩,⟨1,bx14,.bool::sv60⟩,λx=>F267_v2 uu x.1 x.2.1 x.2.2,(false,())⟩
theorem F267_v2ok:okP (F267_v2c uu):=okJ Tryz.f267 9 1 uu _ [] false (qc (F328_v2ok uu)<|q0) p0 L0
def F167_v2 (d:List PV) (o:Unit):Option Bool:=(F267_v2 uu d () ()).bind λm=>some (!m.1)
def F167_v2c:CallE:=⟨167,⟨2,[],(.slice 127)::sv60⟩,⟨1,[],[.bool]⟩,λx=>F167_v2 uu x.1 x.2,false⟩
theorem F167_v2ok:okP (F167_v2c uu):=okJ Tryz.f167 9 0 uu _ [] false (qc (F267_v2ok uu)<|q0) p0 L0
def F189 (uu:Nat) (d:PV):Option Bool:=some (decide (((d.fld 1).asList.length:Int)<=64))
def F189c:CallE:=⟨189,⟨1,[],[.data 130]⟩,⟨1,[],[.bool]⟩,λx=>F189 uu x,false⟩
theorem F189ok:okP (F189c uu):=okJ Tryz.f189 7 0 uu [] [] false q0 p0 L0
def F272_v2 (d:PV) (o:Unit) (z:Unit):Option (Bool×Unit):=(F189 uu d).bind λm=>some ((!m),())
def F272_v2c:CallE:=⟨272,⟨2,bx16,(.data 130)::(.con (.ref 0 [] 190))::sv62⟩,⟨1,bx16,.bool::sv62⟩,λx=>F272_v2 uu x.1 x.2.1 x.2.2,(false,())⟩
theorem F272_v2ok:okP (F272_v2c uu):=okJ Tryz.f272 8 1 uu _ [] false (qc (F189ok uu)<|q0) p0 L0
abbrev S330_v2_3x:=(List PV)×Unit×Int×Int×Unit
abbrev S330_v2_3y:=(Int×Unit)⊕(Unit)
def S330_v2_3 (m:List PV) (H:Unit) (o:Int) (d:Int) (M:Unit):Option (S330_v2_3x⊕S330_v2_3y):=bif (decide (d<o)) then bif aaa d m.length then (F272_v2 uu (m.getD d.toNat .bad) () ()).bind λz=>bif z.1 then some (.inr (.inl (d,()))) else some (.inl (m,(),o,(IntKind.wrap .i64 (d+1)),())) else none else some (.inr (.inr ()))
def S330_v2_3step (x:S330_v2_3x):Option (S330_v2_3x⊕S330_v2_3y):=S330_v2_3 uu x.1 x.2.1 x.2.2.1 x.2.2.2.1 x.2.2.2.2
def F330_v2 (m:List PV) (H:Unit) (M:Unit):Option (Int×Unit):=(aaw uu (S330_v2_3step uu) (m,(),(m.length:Int),(0:Int),())).bind λz=>sumE (λd=>some (d.1,()) ) (λo=>some ((-1:Int),()) ) z
def S330_v2_3l:LoopE:=⟨3,⟨[0,1,7,8],bx16,(.slice 130)::(.con (.fn 272 0 [(.ref 0 [] 190)]))::(.int .i64)::sv63⟩,[(.ret,⟨[4],bx16,sv63⟩),(.exit 0,⟨[],bx16,sv62⟩)],S330_v2_3step uu⟩
def F330_v2C:Cfg:=cfg Tryz.prog 19 1 [F272_v2c uu] [S330_v2_3l uu] uu
def F330_v2c:CallE:=⟨330,⟨2,bx16,(.slice 130)::(.con (.fn 272 0 [(.ref 0 [] 190)]))::sv62⟩,⟨1,bx16,sv63⟩,λx=>F330_v2 uu x.1 x.2.1 x.2.2,(0,())⟩
theorem F330_v2k:aap (F330_v2C uu):=aad (qc (F272_v2ok uu)<|q0) p0
theorem S330_v2_3ok:aai (F330_v2C uu) (lp (aao Tryz.f330) 0):=okL (F330_v2k uu) uu (S330_v2_3l uu) L0
theorem F330_v2ok:okP (F330_v2c uu):=okE Tryz.f330 (F330_v2k uu) (L1 (S330_v2_3ok uu))
def F271_v2 (d:List PV) (o:Unit) (z:Unit):Option (Bool×Unit):=(F330_v2 uu d () ()).bind λm=>some ((decide (m.1>=0)),())
def F271_v2c:CallE:=⟨271,⟨2,bx16,(.slice 130)::(.con (.fn 272 0 [(.ref 0 [] 190)]))::sv62⟩,⟨1,bx16,.bool::sv62⟩,λx=>F271_v2 uu x.1 x.2.1 x.2.2,(false,())⟩
theorem F271_v2ok:okP (F271_v2c uu):=okJ Tryz.f271 9 1 uu _ [] false (qc (F330_v2ok uu)<|q0) p0 L0
def F171_v2 (d:List PV) (o:Unit):Option Bool:=(F271_v2 uu d () ()).bind λm=>some (!m.1)
def F171_v2c:CallE:=⟨171,⟨2,[],(.slice 130)::sv62⟩,⟨1,[],[.bool]⟩,λx=>F171_v2 uu x.1 x.2,false⟩
theorem F171_v2ok:okP (F171_v2c uu):=okJ Tryz.f171 9 0 uu _ [] false (qc (F271_v2ok uu)<|q0) p0 L0
def F84 (d:PV):Option Bool:=let z:=((d.fld 3).asList.length:Int);let H:=((d.fld 4).asList.length:Int);let V:=((d.fld 5).asList.length:Int);let M:=if V>(if H>z then H else z) then V else (if H>z then H else z);bif (bif (decide (((d.fld 2).asList.length:Int)>16)) then true else (decide (M>64))) then some false else (F161_v3 uu (d.fld 3).asList ()).bind λo=>(bif o then F167_v2 uu (d.fld 4).asList () else some false).bind λO=>let m:=bif o then O else false;(bif m then F171_v2 uu (d.fld 5).asList () else some false).bind λU=>some (bif m then U else false)
def F84c:CallE:=⟨84,⟨1,[],[.data 28]⟩,⟨1,[],[.bool]⟩,λx=>F84 uu x,false⟩
theorem F84ok:okP (F84c uu):=okJ Tryz.f84 33 0 uu _ [] false (qc (F161_v3ok uu)<|qc (F167_v2ok uu)<|qc (F171_v2ok uu)<|q0) p0 L0
def F190 (O:Unit) (z:Int) (d:Bo) (H:Bo):Option Bo:=(aim uu ([32,32]:Bo) z).bind λo=>bif decide (o.length+d.length<=aaf) then let m:=o++d;bif decide (m.length+([10]:Bo).length<=aaf) then (aa2 uu (m++([10]:Bo)) H).bind λM=>some M.2.2 else none else none
def F190c:CallE:=⟨190,⟨3,bx20,[(.con (.bref 0 196)),.int .i64,.str,.str]⟩,⟨0,bx20,[.str]⟩,λx=>F190 uu x.1 x.2.1 x.2.2.1 x.2.2.2,[]⟩
theorem F190ok:okP (F190c uu):=okJ Tryz.f190 15 1 uu _ [] false (qc (aw3 uu)<|qc (ac5 uu)<|q0) p0 L0
def F281 (d:List PV):Option Bo:=bif ((d.length:Int)==0) then some ([]:Bo) else (F34 uu d).bind λm=>bif decide (([32]:Bo).length+m.length<=aaf) then some (([32]:Bo)++m) else none
def F281c:CallE:=⟨281,⟨1,[],[.slice 116]⟩,⟨1,[],[.str]⟩,λx=>F281 uu x,[]⟩
theorem F281ok:okP (F281c uu):=okJ Tryz.f281 9 0 uu _ [] false (qc (F34ok uu)<|q0) p0 L0
def F337 (d:PV):Option Bo:=(F266 uu (d.fld 0).asInt).bind λz=>bif (bif z then ((d.fld 1).asStr==([]:Bo)) else false) then (F20 uu (d.fld 0).asInt).bind λH=>some H else let m:=bif (bif ((d.fld 0).asInt==0) then true else ((d.fld 0).asInt==9)) then true else ((d.fld 0).asInt==10);(bif m then F175 uu (d.fld 1).asStr else some false).bind λo=>bif (bif m then o else false) then some (d.fld 1).asStr else some ([]:Bo)
def F337c:CallE:=⟨337,⟨1,[],[.data 40]⟩,⟨1,[],[.str]⟩,λx=>F337 uu x,[]⟩
theorem F337ok:okP (F337c uu):=okJ Tryz.f337 36 0 uu _ [] false (qc (F266ok uu)<|qc (F20ok uu)<|qc (F175ok uu)<|q0) p0 L0
def F338 (d:PV):Option Bo:=(F333 uu d).bind λH=>bif H then some (d.fld 2).asStr else (F146 uu (d.fld 0).asInt d).bind λM=>bif (!M) then some ([]:Bo) else bif (bif ((d.fld 0).asInt==6) then true else ((d.fld 0).asInt==8)) then (F73 uu d).bind λm=>(F134 uu m).bind λo=>some o else (F73 uu d).bind λz=>some z
def F338c:CallE:=⟨338,⟨1,[],[.data 51]⟩,⟨1,[],[.str]⟩,λx=>F338 uu x,[]⟩
theorem F338ok:okP (F338c uu):=okJ Tryz.f338 28 0 uu _ [] false (qc (F333ok uu)<|qc (F146ok uu)<|qc (F73ok uu)<|qc (F134ok uu)<|q0) p0 L0
def F282 (d:PV):Option Bo:=(F337 uu (d.fld 4)).bind λX=>bif ((d.fld 2).asInt==5) then (F20 uu (d.fld 3).asInt).bind λy6=>bif decide (([109,97,112,60]:Bo).length+y6.length<=aaf) then bif decide ((([109,97,112,60]:Bo)++y6).length+([44,32]:Bo).length<=aaf) then let x7:=(([109,97,112,60]:Bo)++y6)++([44,32]:Bo);bif decide (x7.length+X.length<=aaf) then let x8:=x7++X;bif decide (x8.length+([62]:Bo).length<=aaf) then let x9:=x8++([62]:Bo);let H:=(d.fld 1).asStr;bif decide (([32]:Bo).length+H.length<=aaf) then bif decide ((([32]:Bo)++H).length+([32,61,32]:Bo).length<=aaf) then let Y:=(([32]:Bo)++H)++([32,61,32]:Bo);(alt uu (d.fld 0).asInt).bind λar=>bif decide (Y.length+ar.length<=aaf) then let Z:=Y++ar;bif decide (x9.length+Z.length<=aaf) then let m:=x9++Z;bif (d.fld 6).asBool then (F338 uu (d.fld 7)).bind λU=>bif decide (([32,100,101,102,97,117,108,116,32]:Bo).length+U.length<=aaf) then bif decide (m.length+(([32,100,101,102,97,117,108,116,32]:Bo)++U).length<=aaf) then let aa:=m++(([32,100,101,102,97,117,108,116,32]:Bo)++U);(F281 uu (d.fld 8).asList).bind λau=>bif decide (aa.length+au.length<=aaf) then let ab:=aa++au;bif decide (ab.length+([59]:Bo).length<=aaf) then some (ab++([59]:Bo)) else none else none else none else none else (F281 uu (d.fld 8).asList).bind λav=>bif decide (m.length+av.length<=aaf) then let ad:=m++av;bif decide (ad.length+([59]:Bo).length<=aaf) then some (ad++([59]:Bo)) else none else none else none else none else none else none else none else none else none else none else bif ((d.fld 5).asStr==([]:Bo)) then let aC:=(PV.agg [(PV.str ([]:Bo)),(PV.str ([114,101,113,117,105,114,101,100,32]:Bo)),(PV.str ([111,112,116,105,111,110,97,108,32]:Bo)),(PV.str ([112,108,97,105,110,32]:Bo)),(PV.str ([108,105,115,116,32]:Bo))]);let ae:=(d.fld 2).asInt;bif aaa ae 5 then let af:=(aC.fld ae.toNat).asStr;bif decide (af.length+X.length<=aaf) then let ag:=af++X;let M:=(d.fld 1).asStr;bif decide (([32]:Bo).length+M.length<=aaf) then bif decide ((([32]:Bo)++M).length+([32,61,32]:Bo).length<=aaf) then let ah:=(([32]:Bo)++M)++([32,61,32]:Bo);(alt uu (d.fld 0).asInt).bind λaw=>bif decide (ah.length+aw.length<=aaf) then let ai:=ah++aw;bif decide (ag.length+ai.length<=aaf) then let o:=ag++ai;bif (d.fld 6).asBool then (F338 uu (d.fld 7)).bind λV=>bif decide (([32,100,101,102,97,117,108,116,32]:Bo).length+V.length<=aaf) then bif decide (o.length+(([32,100,101,102,97,117,108,116,32]:Bo)++V).length<=aaf) then let aj:=o++(([32,100,101,102,97,117,108,116,32]:Bo)++V);(F281 uu (d.fld 8).asList).bind λax=>bif decide (aj.length+ax.length<=aaf) then let ak:=aj++ax;bif decide (ak.length+([59]:Bo).length<=aaf) then some (ak++([59]:Bo)) else none else none else none else none else (F281 uu (d.fld 8).asList).bind λay=>bif decide (o.length+ay.length<=aaf) then let al:=o++ay;bif decide (al.length+([59]:Bo).length<=aaf) then some (al++([59]:Bo)) else none else none else none else none else none else none else none else none else let O:=(d.fld 1).asStr;bif decide (([32]:Bo).length+O.length<=aaf) then bif decide ((([32]:Bo)++O).length+([32,61,32]:Bo).length<=aaf) then let am:=(([32]:Bo)++O)++([32,61,32]:Bo);(alt uu (d.fld 0).asInt).bind λaz=>bif decide (am.length+az.length<=aaf) then let an:=am++az;bif decide (X.length+an.length<=aaf) then let z:=X++an;bif (d.fld 6).asBool then (F338 uu (d.fld 7)).bind λW=>bif decide (([32,100,101,102,97,117,108,116,32]:Bo).length+W.length<=aaf) then bif decide (z.length+(([32,100,101,102,97,117,108,116,32]:Bo)++W).length<=aaf) then let ao:=z++(([32,100,101,102,97,117,108,116,32]:Bo)++W);(F281 uu (d.fld 8).asList).bind λaA=>bif decide (ao.length+aA.length<=aaf) then let ap:=ao++aA;bif decide (ap.length+([59]:Bo).length<=aaf) then some (ap++([59]:Bo)) else none else none else none else none else (F281 uu (d.fld 8).asList).bind λaB=>bif decide (z.length+aB.length<=aaf) then let aq:=z++aB;bif decide (aq.length+([59]:Bo).length<=aaf) then some (aq++([59]:Bo)) else none else none else none else none else none else none
def F282c:CallE:=⟨282,⟨1,[],[.data 54]⟩,⟨1,[],[.str]⟩,λx=>F282 uu x,[]⟩
theorem F282ok:okP (F282c uu):=okJ Tryz.f282 53 0 uu _ [] false (qc (F337ok uu)<|qc (F20ok uu)<|qc (auk uu)<|qc (F338ok uu)<|qc (F281ok uu)<|q0) p0 L0
abbrev S283_3x:=Unit×(List PV)×(List PV)×Int×Int×Bo
abbrev S283_3y:=(Unit×(List PV)×Bo)
def S283_3 (W:Unit) (o:List PV) (M:List PV) (U:Int) (z:Int) (V:Bo):Option (S283_3x⊕S283_3y):=bif (decide (z<U)) then bif aaa z M.length then let O:=M.getD z.toNat .bad;(alt uu (O.fld 0).asInt).bind λd=>bif ((O.fld 0).asInt != (O.fld 1).asInt) then (alt uu (O.fld 1).asInt).bind λm=>bif decide (([32,45,32]:Bo).length+m.length<=aaf) then bif decide (d.length+(([32,45,32]:Bo)++m).length<=aaf) then let H:=d++(([32,45,32]:Bo)++m);bif decide (o.length+[(PV.str H)].length<=aak) then some (.inl ((),(o++[(PV.str H)]),M,U,(IntKind.wrap .i64 (z+1)),V)) else none else none else none else bif decide (o.length+[(PV.str d)].length<=aak) then some (.inl ((),(o++[(PV.str d)]),M,U,(IntKind.wrap .i64 (z+1)),V)) else none else none else some (.inr ((),o,V))
def S283_3step (x:S283_3x):Option (S283_3x⊕S283_3y):=S283_3 uu x.1 x.2.1 x.2.2.1 x.2.2.2.1 x.2.2.2.2.1 x.2.2.2.2.2
def F283 (O:Unit) (H:List PV) (M:Bo):Option Bo:=(aaw uu (S283_3step uu) ((),[],H,(H.length:Int),(0:Int),M)).bind λd=>bif (decide ((d.2.1.length:Int)>0)) then (aqe uu d.2.1 ([44,32]:Bo)).bind λm=>bif decide (([114,101,115,101,114,118,101,100,32]:Bo).length+m.length<=aaf) then bif decide ((([114,101,115,101,114,118,101,100,32]:Bo)++m).length+([59]:Bo).length<=aaf) then let o:=(([114,101,115,101,114,118,101,100,32]:Bo)++m)++([59]:Bo);(F190 uu () (1:Int) o d.2.2).bind λz=>some z else none else none else some d.2.2
def S283_3l:LoopE:=⟨3,⟨[0,4,8,9,10],[.bld 196,.acc],(.con (.bref 0 196))::(.acc 1 9)::(.slice 234)::sv64⟩,[(.exit 0,⟨[0,4],[.bld 196,.acc],[(.con (.bref 0 196)),.acc 1 9,.str]⟩)],S283_3step uu⟩
def F283C:Cfg:=cfg Tryz.prog 42 1 [aw1 uu,a3c uu,F190c uu] [S283_3l uu] uu
def F283c:CallE:=⟨283,⟨2,bx20,[(.con (.bref 0 196)),.slice 234,.str]⟩,⟨0,bx20,[.str]⟩,λx=>F283 uu x.1 x.2.1 x.2.2,[]⟩
theorem F283k:aap (F283C uu):=aad (qc (auk uu)<|qc (azy uu)<|qc (F190ok uu)<|q0) p0
theorem S283_3ok:aai (F283C uu) (lp (aao Tryz.f283) 0):=okL (F283k uu) uu (S283_3l uu) L0
theorem F283ok:okP (F283c uu):=okE Tryz.f283 (F283k uu) (L1 (S283_3ok uu))
abbrev S192_5x:=Unit×Unit×Bo×(List PV)×Int×Int×Bo×PV
abbrev S192_5y:=(Unit×Unit×Bo×Bo×PV)
def S192_5 (a9:Unit) (ay:Unit) (M:Bo) (o:List PV) (z:Int) (m:Int) (O:Bo) (H:PV):Option (S192_5x⊕S192_5y):=bif (decide (m<z)) then bif aaa m o.length then let d:=o.getD m.toNat .bad;bif (bif (!(M==([]:Bo))) then (!((d.fld 5).asStr==M)) else false) then (F190 uu () (1:Int) ([125]:Bo) O).bind λaa=>bif (bif (!((d.fld 5).asStr==([]:Bo))) then (!((d.fld 5).asStr==M)) else false) then let U:=(d.fld 5).asStr;bif decide (([117,110,105,111,110,32]:Bo).length+U.length<=aaf) then bif decide ((([117,110,105,111,110,32]:Bo)++U).length+([32,123]:Bo).length<=aaf) then let ae:=(([117,110,105,111,110,32]:Bo)++U)++([32,123]:Bo);(F190 uu () (1:Int) ae aa).bind λab=>let V:=(d.fld 5).asStr;bif (V==([]:Bo)) then (F282 uu d).bind λag=>(F190 uu () (1:Int) ag ab).bind λah=>some (.inl ((),(),V,o,z,(IntKind.wrap .i64 (m+1)),ah,H)) else (F282 uu d).bind λai=>(F190 uu () (2:Int) ai ab).bind λaj=>some (.inl ((),(),V,o,z,(IntKind.wrap .i64 (m+1)),aj,H)) else none else none else let W:=(d.fld 5).asStr;bif (W==([]:Bo)) then (F282 uu d).bind λak=>(F190 uu () (1:Int) ak aa).bind λal=>some (.inl ((),(),W,o,z,(IntKind.wrap .i64 (m+1)),al,H)) else (F282 uu d).bind λam=>(F190 uu () (2:Int) am aa).bind λan=>some (.inl ((),(),W,o,z,(IntKind.wrap .i64 (m+1)),an,H)) else bif (bif (!((d.fld 5).asStr==([]:Bo))) then (!((d.fld 5).asStr==M)) else false) then let X:=(d.fld 5).asStr;bif decide (([117,110,105,111,110,32]:Bo).length+X.length<=aaf) then bif decide ((([117,110,105,111,110,32]:Bo)++X).length+([32,123]:Bo).length<=aaf) then let af:=(([117,110,105,111,110,32]:Bo)++X)++([32,123]:Bo);(F190 uu () (1:Int) af O).bind λad=>let Y:=(d.fld 5).asStr;bif (Y==([]:Bo)) then (F282 uu d).bind λao=>(F190 uu () (1:Int) ao ad).bind λap=>some (.inl ((),(),Y,o,z,(IntKind.wrap .i64 (m+1)),ap,H)) else (F282 uu d).bind λaq=>(F190 uu () (2:Int) aq ad).bind λar=>some (.inl ((),(),Y,o,z,(IntKind.wrap .i64 (m+1)),ar,H)) else none else none else let Z:=(d.fld 5).asStr;bif (Z==([]:Bo)) then (F282 uu d).bind λau=>(F190 uu () (1:Int) au O).bind λav=>some (.inl ((),(),Z,o,z,(IntKind.wrap .i64 (m+1)),av,H)) else (F282 uu d).bind λaw=>(F190 uu () (2:Int) aw O).bind λax=>some (.inl ((),(),Z,o,z,(IntKind.wrap .i64 (m+1)),ax,H)) else none else some (.inr ((),(),M,O,H))
def S192_5step (x:S192_5x):Option (S192_5x⊕S192_5y):=S192_5 uu x.1 x.2.1 x.2.2.1 x.2.2.2.1 x.2.2.2.2.1 x.2.2.2.2.2.1 x.2.2.2.2.2.2.1 x.2.2.2.2.2.2.2
abbrev S192_21x:=Unit×(List PV)×(List PV)×Int×Int×Bo×PV
abbrev S192_21y:=(Unit×(List PV)×Bo×PV)
def S192_21 (U:Unit) (m:List PV) (o:List PV) (z:Int) (d:Int) (H:Bo) (M:PV):Option (S192_21x⊕S192_21y):=bif (decide (d<z)) then bif aaa d o.length then (F134 uu (o.getD d.toNat .bad).asStr).bind λO=>bif decide (m.length+[(PV.str O)].length<=aak) then some (.inl ((),(m++[(PV.str O)]),o,z,(IntKind.wrap .i64 (d+1)),H,M)) else none else none else some (.inr ((),m,H,M))
def S192_21step (x:S192_21x):Option (S192_21x⊕S192_21y):=S192_21 uu x.1 x.2.1 x.2.2.1 x.2.2.2.1 x.2.2.2.2.1 x.2.2.2.2.2.1 x.2.2.2.2.2.2
def F192 (a0:Unit) (a1:PV) (a2:Bo):Option Bo:=let x1:=(a1.fld 0).asStr;bif decide (([109,101,115,115,97,103,101,32]:Bo).length+x1.length<=aaf) then (F281 uu (a1.fld 4).asList).bind λy3=>bif decide ((([109,101,115,115,97,103,101,32]:Bo)++x1).length+y3.length<=aaf) then let x4:=(([109,101,115,115,97,103,101,32]:Bo)++x1)++y3;bif decide (x4.length+([32,123]:Bo).length<=aaf) then (F190 uu () (0:Int) (x4++([32,123]:Bo)) a2).bind λy6=>let x7:=(a1.fld 1).asList;(aaw uu (S192_5step uu) ((),(),([]:Bo),x7,(x7.length:Int),(0:Int),y6,a1)).bind λd=>bif (!(d.2.2.1==([]:Bo))) then (F190 uu () (1:Int) ([125]:Bo) d.2.2.2.1).bind λae=>(F283 uu () (d.2.2.2.2.fld 2).asList ae).bind λaf=>let U:=(d.2.2.2.2.fld 3).asList;(aaw uu (S192_21step uu) ((),[],U,(U.length:Int),(0:Int),af,d.2.2.2.2)).bind λz=>bif (decide ((z.2.1.length:Int)>0)) then (aqe uu z.2.1 ([44,32]:Bo)).bind λM=>bif decide (([114,101,115,101,114,118,101,100,32]:Bo).length+M.length<=aaf) then bif decide ((([114,101,115,101,114,118,101,100,32]:Bo)++M).length+([59]:Bo).length<=aaf) then let ad:=(([114,101,115,101,114,118,101,100,32]:Bo)++M)++([59]:Bo);(F190 uu () (1:Int) ad z.2.2.1).bind λV=>(F190 uu () (0:Int) ([125]:Bo) V).bind λW=>some W else none else none else (F190 uu () (0:Int) ([125]:Bo) z.2.2.1).bind λX=>some X else (F283 uu () (d.2.2.2.2.fld 2).asList d.2.2.2.1).bind λY=>let H:=(d.2.2.2.2.fld 3).asList;(aaw uu (S192_21step uu) ((),[],H,(H.length:Int),(0:Int),Y,d.2.2.2.2)).bind λm=>bif (decide ((m.2.1.length:Int)>0)) then (aqe uu m.2.1 ([44,32]:Bo)).bind λo=>bif decide (([114,101,115,101,114,118,101,100,32]:Bo).length+o.length<=aaf) then bif decide ((([114,101,115,101,114,118,101,100,32]:Bo)++o).length+([59]:Bo).length<=aaf) then let O:=(([114,101,115,101,114,118,101,100,32]:Bo)++o)++([59]:Bo);(F190 uu () (1:Int) O m.2.2.1).bind λZ=>(F190 uu () (0:Int) ([125]:Bo) Z).bind λaa=>some aa else none else none else (F190 uu () (0:Int) ([125]:Bo) m.2.2.1).bind λab=>some ab else none else none else none
def S192_5l:LoopE:=⟨5,⟨[0,3,4,21,22,23],[.bld 196,.box 63 .leaf],(.con (.bref 0 196))::(.con (.ref 1 [] 63))::.str::(.slice 54)::(.int .i64)::(.int .i64)::sv65⟩,[(.exit 0,⟨[0,3,4],[.bld 196,.box 63 .leaf],(.con (.bref 0 196))::(.con (.ref 1 [] 63))::.str::sv65⟩)],S192_5step uu⟩
def S192_21l:LoopE:=⟨21,⟨[0,7,74,75,76],[.bld 196,.box 63 .leaf,.acc],(.con (.bref 0 196))::(.acc 2 9)::(.slice 9)::(.int .i64)::(.int .i64)::sv65⟩,[(.exit 2,⟨[0,7],[.bld 196,.box 63 .leaf,.acc],(.con (.bref 0 196))::(.acc 2 9)::sv65⟩)],S192_21step uu⟩
def F192C:Cfg:=cfg Tryz.prog 97 1 [F281c uu,F190c uu,F282c uu,F283c uu,F134c uu,a3c uu] [S192_5l uu,S192_21l uu] uu
def F192c:CallE:=⟨192,⟨2,bx20,[(.con (.bref 0 196)),.data 63,.str]⟩,⟨0,bx20,[.str]⟩,λx=>F192 uu x.1 x.2.1 x.2.2,[]⟩
theorem F192k:aap (F192C uu):=aad (qc (F281ok uu)<|qc (F190ok uu)<|qc (F282ok uu)<|qc (F283ok uu)<|qc (F134ok uu)<|qc (azy uu)<|q0) p0
theorem S192_5ok:aai (F192C uu) (lp (aao Tryz.f192) 0):=okL (F192k uu) uu (S192_5l uu) L0
theorem S192_21ok:aai (F192C uu) (lp (aao Tryz.f192) 1):=okL (F192k uu) uu (S192_21l uu) L0
theorem F192ok:okP (F192c uu):=okE Tryz.f192 (F192k uu) (L2 (S192_5ok uu) (S192_21ok uu))
abbrev S191_2x:=Unit×Unit×(List PV)×Int×Int×Bo
abbrev S191_2y:=(Bo)
def S191_2 (W:Unit) (X:Unit) (o:List PV) (z:Int) (m:Int) (U:Bo):Option (S191_2x⊕S191_2y):=bif (decide (m<z)) then bif aaa m o.length then let V:=o.getD m.toNat .bad;(azz uu U).bind λd=>bif (decide (d.1>0)) then (aa2 uu ([10]:Bo) d.2).bind λH=>(F192 uu () V H.2.2).bind λM=>some (.inl ((),(),o,z,(IntKind.wrap .i64 (m+1)),M)) else (F192 uu () V d.2).bind λO=>some (.inl ((),(),o,z,(IntKind.wrap .i64 (m+1)),O)) else none else some (.inr U)
def S191_2step (x:S191_2x):Option (S191_2x⊕S191_2y):=S191_2 uu x.1 x.2.1 x.2.2.1 x.2.2.2.1 x.2.2.2.2.1 x.2.2.2.2.2
def F191 (z:Unit) (m:List PV) (H:Unit) (o:Bo):Option Bo:=(aaw uu (S191_2step uu) ((),(),m,(m.length:Int),(0:Int),o)).bind λd=>some d
def S191_2l:LoopE:=⟨2,⟨[0,2,8,9,10],bx20,(.con (.bref 0 196))::(.con (.fn 192 1 [.bref 0 196]))::(.slice 63)::sv64⟩,[(.exit 0,⟨[],bx20,[.str]⟩)],S191_2step uu⟩
def F191C:Cfg:=cfg Tryz.prog 27 1 [aj3 uu,acl uu,F192c uu] [S191_2l uu] uu
def F191c:CallE:=⟨191,⟨3,bx20,[(.con (.bref 0 196)),.slice 63,(.con (.fn 192 1 [.bref 0 196])),.str]⟩,⟨0,bx20,[.str]⟩,λx=>F191 uu x.1 x.2.1 x.2.2.1 x.2.2.2,[]⟩
theorem F191k:aap (F191C uu):=aad (qc (ak4 uu)<|qc (ac5 uu)<|qc (F192ok uu)<|q0) p0
theorem S191_2ok:aai (F191C uu) (lp (aao Tryz.f191) 0):=okL (F191k uu) uu (S191_2l uu) L0
theorem F191ok:okP (F191c uu):=okE Tryz.f191 (F191k uu) (L1 (S191_2ok uu))
abbrev S194_7x:=Unit×Unit×(List PV)×Int×Int×Bo×PV
abbrev S194_7y:=(Unit×Unit×Bo×PV)
def S194_7 (aa:Unit) (ab:Unit) (m:List PV) (z:Int) (d:Int) (H:Bo) (M:PV):Option (S194_7x⊕S194_7y):=bif (decide (d<z)) then bif aaa d m.length then let o:=m.getD d.toNat .bad;let O:=(o.fld 0).asStr;bif decide (O.length+([32,61,32]:Bo).length<=aaf) then let U:=O++([32,61,32]:Bo);(alt uu (o.fld 1).asInt).bind λX=>bif decide (U.length+X.length<=aaf) then let V:=U++X;(F281 uu (o.fld 2).asList).bind λY=>bif decide (V.length+Y.length<=aaf) then let W:=V++Y;bif decide (W.length+([59]:Bo).length<=aaf) then (F190 uu () (1:Int) (W++([59]:Bo)) H).bind λZ=>some (.inl ((),(),m,z,(IntKind.wrap .i64 (d+1)),Z,M)) else none else none else none else none else none else some (.inr ((),(),H,M))
def S194_7step (x:S194_7x):Option (S194_7x⊕S194_7y):=S194_7 uu x.1 x.2.1 x.2.2.1 x.2.2.2.1 x.2.2.2.2.1 x.2.2.2.2.2.1 x.2.2.2.2.2.2
def F194 (a0:Unit) (d:PV) (a2:Bo):Option Bo:=bif (d.fld 1).asBool then bif decide (([111,112,101,110,32]:Bo).length+([101,110,117,109,32]:Bo).length<=aaf) then let x2:=(d.fld 0).asStr;bif decide ((([111,112,101,110,32]:Bo)++([101,110,117,109,32]:Bo)).length+x2.length<=aaf) then let x3:=(([111,112,101,110,32]:Bo)++([101,110,117,109,32]:Bo))++x2;(F281 uu (d.fld 4).asList).bind λy5=>bif decide (x3.length+y5.length<=aaf) then let x6:=x3++y5;bif decide (x6.length+([32,123]:Bo).length<=aaf) then (F190 uu () (0:Int) (x6++([32,123]:Bo)) a2).bind λy8=>let x9:=(d.fld 2).asList;(aaw uu (S194_7step uu) ((),(),x9,(x9.length:Int),(0:Int),y8,d)).bind λM=>(F283 uu () (M.2.2.2.fld 3).asList M.2.2.1).bind λV=>(F190 uu () (0:Int) ([125]:Bo) V).bind λW=>some W else none else none else none else none else bif decide (([]:Bo).length+([101,110,117,109,32]:Bo).length<=aaf) then let m:=(d.fld 0).asStr;bif decide ((([]:Bo)++([101,110,117,109,32]:Bo)).length+m.length<=aaf) then let o:=(([]:Bo)++([101,110,117,109,32]:Bo))++m;(F281 uu (d.fld 4).asList).bind λO=>bif decide (o.length+O.length<=aaf) then let z:=o++O;bif decide (z.length+([32,123]:Bo).length<=aaf) then (F190 uu () (0:Int) (z++([32,123]:Bo)) a2).bind λX=>let H:=(d.fld 2).asList;(aaw uu (S194_7step uu) ((),(),H,(H.length:Int),(0:Int),X,d)).bind λU=>(F283 uu () (U.2.2.2.fld 3).asList U.2.2.1).bind λY=>(F190 uu () (0:Int) ([125]:Bo) Y).bind λZ=>some Z else none else none else none else none
def S194_7l:LoopE:=⟨7,⟨[0,3,22,23,24],[.bld 196,.box 127 .leaf],[(.con (.bref 0 196)),(.con (.ref 1 [] 127)),.slice 182,.int .i64,.int .i64,.str,.data 127]⟩,[(.exit 0,⟨[0,3],[.bld 196,.box 127 .leaf],[(.con (.bref 0 196)),(.con (.ref 1 [] 127)),.str,.data 127]⟩)],S194_7step uu⟩
def F194C:Cfg:=cfg Tryz.prog 49 1 [F281c uu,F190c uu,aw1 uu,F283c uu] [S194_7l uu] uu
def F194c:CallE:=⟨194,⟨2,bx20,[(.con (.bref 0 196)),.data 127,.str]⟩,⟨0,bx20,[.str]⟩,λx=>F194 uu x.1 x.2.1 x.2.2,[]⟩
theorem F194k:aap (F194C uu):=aad (qc (F281ok uu)<|qc (F190ok uu)<|qc (auk uu)<|qc (F283ok uu)<|q0) p0
theorem S194_7ok:aai (F194C uu) (lp (aao Tryz.f194) 0):=okL (F194k uu) uu (S194_7l uu) L0
theorem F194ok:okP (F194c uu):=okE Tryz.f194 (F194k uu) (L1 (S194_7ok uu))
abbrev S193_2x:=Unit×Unit×(List PV)×Int×Int×Bo
abbrev S193_2y:=(Bo)
def S193_2 (W:Unit) (X:Unit) (o:List PV) (z:Int) (m:Int) (U:Bo):Option (S193_2x⊕S193_2y):=bif (decide (m<z)) then bif aaa m o.length then let V:=o.getD m.toNat .bad;(azz uu U).bind λd=>bif (decide (d.1>0)) then (aa2 uu ([10]:Bo) d.2).bind λH=>(F194 uu () V H.2.2).bind λM=>some (.inl ((),(),o,z,(IntKind.wrap .i64 (m+1)),M)) else (F194 uu () V d.2).bind λO=>some (.inl ((),(),o,z,(IntKind.wrap .i64 (m+1)),O)) else none else some (.inr U)
def S193_2step (x:S193_2x):Option (S193_2x⊕S193_2y):=S193_2 uu x.1 x.2.1 x.2.2.1 x.2.2.2.1 x.2.2.2.2.1 x.2.2.2.2.2
def F193 (z:Unit) (m:List PV) (H:Unit) (o:Bo):Option Bo:=(aaw uu (S193_2step uu) ((),(),m,(m.length:Int),(0:Int),o)).bind λd=>some d
def S193_2l:LoopE:=⟨2,⟨[0,2,8,9,10],bx20,(.con (.bref 0 196))::(.con (.fn 194 1 [.bref 0 196]))::(.slice 127)::sv64⟩,[(.exit 0,⟨[],bx20,[.str]⟩)],S193_2step uu⟩
def F193C:Cfg:=cfg Tryz.prog 27 1 [aj3 uu,acl uu,F194c uu] [S193_2l uu] uu
def F193c:CallE:=⟨193,⟨3,bx20,[(.con (.bref 0 196)),.slice 127,(.con (.fn 194 1 [.bref 0 196])),.str]⟩,⟨0,bx20,[.str]⟩,λx=>F193 uu x.1 x.2.1 x.2.2.1 x.2.2.2,[]⟩
theorem F193k:aap (F193C uu):=aad (qc (ak4 uu)<|qc (ac5 uu)<|qc (F194ok uu)<|q0) p0
theorem S193_2ok:aai (F193C uu) (lp (aao Tryz.f193) 0):=okL (F193k uu) uu (S193_2l uu) L0
theorem F193ok:okP (F193c uu):=okE Tryz.f193 (F193k uu) (L1 (S193_2ok uu))
abbrev S196_4x:=Unit×(List PV)×Int×Int×Bo×PV
abbrev S196_4y:=(Unit×Bo×PV)
def S196_4 (a9:Unit) (H:List PV) (M:Int) (z:Int) (O:Bo) (U:PV):Option (S196_4x⊕S196_4y):=bif (decide (z<M)) then bif aaa z H.length then let d:=H.getD z.toNat .bad;let o:=(d.fld 1).asStr;let m:=(d.fld 2).asStr;bif (bif ((d.fld 3).asInt==3) then true else ((d.fld 3).asInt==4)) then bif decide (([115,116,114,101,97,109,32]:Bo).length+o.length<=aaf) then bif (bif ((d.fld 3).asInt==2) then true else ((d.fld 3).asInt==4)) then bif decide (([115,116,114,101,97,109,32]:Bo).length+m.length<=aaf) then let V:=(d.fld 0).asStr;bif decide (([114,112,99,32]:Bo).length+V.length<=aaf) then bif decide ((([114,112,99,32]:Bo)++V).length+([40]:Bo).length<=aaf) then let Z:=(([114,112,99,32]:Bo)++V)++([40]:Bo);bif decide (Z.length+(([115,116,114,101,97,109,32]:Bo)++o).length<=aaf) then let aa:=Z++(([115,116,114,101,97,109,32]:Bo)++o);bif decide (aa.length+([41,32,114,101,116,117,114,110,115,32,40]:Bo).length<=aaf) then let ab:=aa++([41,32,114,101,116,117,114,110,115,32,40]:Bo);bif decide (ab.length+(([115,116,114,101,97,109,32]:Bo)++m).length<=aaf) then let ad:=ab++(([115,116,114,101,97,109,32]:Bo)++m);bif decide (ad.length+([41]:Bo).length<=aaf) then let ae:=ad++([41]:Bo);(F281 uu (d.fld 4).asList).bind λaA=>bif decide (ae.length+aA.length<=aaf) then let af:=ae++aA;bif decide (af.length+([59]:Bo).length<=aaf) then (F190 uu () (1:Int) (af++([59]:Bo)) O).bind λaE=>some (.inl ((),H,M,(IntKind.wrap .i64 (z+1)),aE,U)) else none else none else none else none else none else none else none else none else none else let W:=(d.fld 0).asStr;bif decide (([114,112,99,32]:Bo).length+W.length<=aaf) then bif decide ((([114,112,99,32]:Bo)++W).length+([40]:Bo).length<=aaf) then let ag:=(([114,112,99,32]:Bo)++W)++([40]:Bo);bif decide (ag.length+(([115,116,114,101,97,109,32]:Bo)++o).length<=aaf) then let ah:=ag++(([115,116,114,101,97,109,32]:Bo)++o);bif decide (ah.length+([41,32,114,101,116,117,114,110,115,32,40]:Bo).length<=aaf) then let ai:=ah++([41,32,114,101,116,117,114,110,115,32,40]:Bo);bif decide (ai.length+m.length<=aaf) then let aj:=ai++m;bif decide (aj.length+([41]:Bo).length<=aaf) then let ak:=aj++([41]:Bo);(F281 uu (d.fld 4).asList).bind λaB=>bif decide (ak.length+aB.length<=aaf) then let al:=ak++aB;bif decide (al.length+([59]:Bo).length<=aaf) then (F190 uu () (1:Int) (al++([59]:Bo)) O).bind λaF=>some (.inl ((),H,M,(IntKind.wrap .i64 (z+1)),aF,U)) else none else none else none else none else none else none else none else none else none else bif (bif ((d.fld 3).asInt==2) then true else ((d.fld 3).asInt==4)) then bif decide (([115,116,114,101,97,109,32]:Bo).length+m.length<=aaf) then let X:=(d.fld 0).asStr;bif decide (([114,112,99,32]:Bo).length+X.length<=aaf) then bif decide ((([114,112,99,32]:Bo)++X).length+([40]:Bo).length<=aaf) then let am:=(([114,112,99,32]:Bo)++X)++([40]:Bo);bif decide (am.length+o.length<=aaf) then let an:=am++o;bif decide (an.length+([41,32,114,101,116,117,114,110,115,32,40]:Bo).length<=aaf) then let ao:=an++([41,32,114,101,116,117,114,110,115,32,40]:Bo);bif decide (ao.length+(([115,116,114,101,97,109,32]:Bo)++m).length<=aaf) then let ap:=ao++(([115,116,114,101,97,109,32]:Bo)++m);bif decide (ap.length+([41]:Bo).length<=aaf) then let aq:=ap++([41]:Bo);(F281 uu (d.fld 4).asList).bind λaC=>bif decide (aq.length+aC.length<=aaf) then let ar:=aq++aC;bif decide (ar.length+([59]:Bo).length<=aaf) then (F190 uu () (1:Int) (ar++([59]:Bo)) O).bind λaG=>some (.inl ((),H,M,(IntKind.wrap .i64 (z+1)),aG,U)) else none else none else none else none else none else none else none else none else none else let Y:=(d.fld 0).asStr;bif decide (([114,112,99,32]:Bo).length+Y.length<=aaf) then bif decide ((([114,112,99,32]:Bo)++Y).length+([40]:Bo).length<=aaf) then let au:=(([114,112,99,32]:Bo)++Y)++([40]:Bo);bif decide (au.length+o.length<=aaf) then let av:=au++o;bif decide (av.length+([41,32,114,101,116,117,114,110,115,32,40]:Bo).length<=aaf) then let aw:=av++([41,32,114,101,116,117,114,110,115,32,40]:Bo);bif decide (aw.length+m.length<=aaf) then let ax:=aw++m;bif decide (ax.length+([41]:Bo).length<=aaf) then let ay:=ax++([41]:Bo);(F281 uu (d.fld 4).asList).bind λaD=>bif decide (ay.length+aD.length<=aaf) then let az:=ay++aD;bif decide (az.length+([59]:Bo).length<=aaf) then (F190 uu () (1:Int) (az++([59]:Bo)) O).bind λaH=>some (.inl ((),H,M,(IntKind.wrap .i64 (z+1)),aH,U)) else none else none else none else none else none else none else none else none else none else some (.inr ((),O,U))
def S196_4step (x:S196_4x):Option (S196_4x⊕S196_4y):=S196_4 uu x.1 x.2.1 x.2.2.1 x.2.2.2.1 x.2.2.2.2.1 x.2.2.2.2.2
def F196 (V:Unit) (d:PV) (O:Bo):Option Bo:=let x1:=(d.fld 0).asStr;bif decide (([115,101,114,118,105,99,101,32]:Bo).length+x1.length<=aaf) then (F281 uu (d.fld 2).asList).bind λM=>bif decide ((([115,101,114,118,105,99,101,32]:Bo)++x1).length+M.length<=aaf) then let z:=(([115,101,114,118,105,99,101,32]:Bo)++x1)++M;bif decide (z.length+([32,123]:Bo).length<=aaf) then (F190 uu () (0:Int) (z++([32,123]:Bo)) O).bind λU=>let H:=(d.fld 1).asList;(aaw uu (S196_4step uu) ((),H,(H.length:Int),(0:Int),U,d)).bind λm=>(F190 uu () (0:Int) ([125]:Bo) m.2.1).bind λo=>some o else none else none else none
def S196_4l:LoopE:=⟨4,⟨[0,19,20,21],[.bld 196,.box 130 .leaf],[(.con (.bref 0 196)),.slice 188,.int .i64,.int .i64,.str,.data 130]⟩,[(.exit 0,⟨[0],[.bld 196,.box 130 .leaf],[(.con (.bref 0 196)),.str,.data 130]⟩)],S196_4step uu⟩
def F196C:Cfg:=cfg Tryz.prog 69 1 [F281c uu,F190c uu] [S196_4l uu] uu
def F196c:CallE:=⟨196,⟨2,bx20,[(.con (.bref 0 196)),.data 130,.str]⟩,⟨0,bx20,[.str]⟩,λx=>F196 uu x.1 x.2.1 x.2.2,[]⟩
theorem F196k:aap (F196C uu):=aad (qc (F281ok uu)<|qc (F190ok uu)<|q0) p0
theorem S196_4ok:aai (F196C uu) (lp (aao Tryz.f196) 0):=okL (F196k uu) uu (S196_4l uu) L0
theorem F196ok:okP (F196c uu):=okE Tryz.f196 (F196k uu) (L1 (S196_4ok uu))
abbrev S195_2x:=Unit×Unit×(List PV)×Int×Int×Bo
abbrev S195_2y:=(Bo)
def S195_2 (W:Unit) (X:Unit) (o:List PV) (z:Int) (m:Int) (U:Bo):Option (S195_2x⊕S195_2y):=bif (decide (m<z)) then bif aaa m o.length then let V:=o.getD m.toNat .bad;(azz uu U).bind λd=>bif (decide (d.1>0)) then (aa2 uu ([10]:Bo) d.2).bind λH=>(F196 uu () V H.2.2).bind λM=>some (.inl ((),(),o,z,(IntKind.wrap .i64 (m+1)),M)) else (F196 uu () V d.2).bind λO=>some (.inl ((),(),o,z,(IntKind.wrap .i64 (m+1)),O)) else none else some (.inr U)
def S195_2step (x:S195_2x):Option (S195_2x⊕S195_2y):=S195_2 uu x.1 x.2.1 x.2.2.1 x.2.2.2.1 x.2.2.2.2.1 x.2.2.2.2.2
def F195 (z:Unit) (m:List PV) (H:Unit) (o:Bo):Option Bo:=(aaw uu (S195_2step uu) ((),(),m,(m.length:Int),(0:Int),o)).bind λd=>some d
def S195_2l:LoopE:=⟨2,⟨[0,2,8,9,10],bx20,(.con (.bref 0 196))::(.con (.fn 196 1 [.bref 0 196]))::(.slice 130)::sv64⟩,[(.exit 0,⟨[],bx20,[.str]⟩)],S195_2step uu⟩
def F195C:Cfg:=cfg Tryz.prog 27 1 [aj3 uu,acl uu,F196c uu] [S195_2l uu] uu
def F195c:CallE:=⟨195,⟨3,bx20,[(.con (.bref 0 196)),.slice 130,(.con (.fn 196 1 [.bref 0 196])),.str]⟩,⟨0,bx20,[.str]⟩,λx=>F195 uu x.1 x.2.1 x.2.2.1 x.2.2.2,[]⟩
theorem F195k:aap (F195C uu):=aad (qc (ak4 uu)<|qc (ac5 uu)<|qc (F196ok uu)<|q0) p0
theorem S195_2ok:aai (F195C uu) (lp (aao Tryz.f195) 0):=okL (F195k uu) uu (S195_2l uu) L0
theorem F195ok:okP (F195c uu):=okE Tryz.f195 (F195k uu) (L1 (S195_2ok uu))
abbrev S85_6x:=Unit×Unit×(List PV)×Int×Int×PV×Bo
abbrev S85_6y:=(Unit×Unit×PV×Bo)
def S85_6 (V:Unit) (W:Unit) (m:List PV) (z:Int) (d:Int) (H:PV) (M:Bo):Option (S85_6x⊕S85_6y):=bif (decide (d<z)) then bif aaa d m.length then (F134 uu (m.getD d.toNat .bad).asStr).bind λo=>bif decide (([105,109,112,111,114,116,32]:Bo).length+o.length<=aaf) then bif decide ((([105,109,112,111,114,116,32]:Bo)++o).length+([59]:Bo).length<=aaf) then let O:=(([105,109,112,111,114,116,32]:Bo)++o)++([59]:Bo);(F190 uu () (0:Int) O M).bind λU=>some (.inl ((),(),m,z,(IntKind.wrap .i64 (d+1)),H,U)) else none else none else none else some (.inr ((),(),H,M))
def S85_6step (x:S85_6x):Option (S85_6x⊕S85_6y):=S85_6 uu x.1 x.2.1 x.2.2.1 x.2.2.2.1 x.2.2.2.2.1 x.2.2.2.2.2.1 x.2.2.2.2.2.2
def F85 (o:PV):Option Bo:=bif (!((o.fld 1).asStr==([]:Bo))) then let H:=(o.fld 1).asStr;bif decide (([115,112,97,99,101,32]:Bo).length+H.length<=aaf) then bif decide ((([115,112,97,99,101,32]:Bo)++H).length+([59]:Bo).length<=aaf) then let x4:=(([115,112,97,99,101,32]:Bo)++H)++([59]:Bo);(F190 uu () (0:Int) x4 []).bind λy5=>let x6:=(o.fld 2).asList;(aaw uu (S85_6step uu) ((),(),x6,(x6.length:Int),(0:Int),o,y5)).bind λd=>(F191 uu () (d.2.2.1.fld 3).asList () d.2.2.2).bind λM=>(F193 uu () (d.2.2.1.fld 4).asList () M).bind λO=>(F195 uu () (d.2.2.1.fld 5).asList () O).bind λU=>(ain uu U).bind λV=>some V.1 else none else none else let z:=(o.fld 2).asList;(aaw uu (S85_6step uu) ((),(),z,(z.length:Int),(0:Int),o,[])).bind λm=>(F191 uu () (m.2.2.1.fld 3).asList () m.2.2.2).bind λW=>(F193 uu () (m.2.2.1.fld 4).asList () W).bind λX=>(F195 uu () (m.2.2.1.fld 5).asList () X).bind λY=>(ain uu Y).bind λZ=>some Z.1
def S85_6l:LoopE:=⟨6,⟨[1,3,18,19,20],[.box 28 .leaf,.bld 196],[(.con (.ref 0 [] 28)),(.con (.bref 1 196)),.slice 9,.int .i64,.int .i64,.data 28,.str]⟩,[(.exit 0,⟨[1,3],[.box 28 .leaf,.bld 196],[(.con (.ref 0 [] 28)),(.con (.bref 1 196)),.data 28,.str]⟩)],S85_6step uu⟩
def F85C:Cfg:=cfg Tryz.prog 53 0 [F190c uu,F134c uu,F191c uu,F193c uu,F195c uu,aon uu] [S85_6l uu] uu
def F85c:CallE:=⟨85,⟨1,[],[.data 28]⟩,⟨1,[],[.str]⟩,λx=>F85 uu x,[]⟩
theorem F85k:aap (F85C uu):=aad (qc (F190ok uu)<|qc (F134ok uu)<|qc (F191ok uu)<|qc (F193ok uu)<|qc (F195ok uu)<|qc (auq uu)<|q0) p0
theorem S85_6ok:aai (F85C uu) (lp (aao Tryz.f85) 0):=okL (F85k uu) uu (S85_6l uu) L0
theorem F85ok:okP (F85c uu):=okE Tryz.f85 (F85k uu) (L1 (S85_6ok uu))
abbrev S39_9x:=Unit×(List PV)×Int×Int×PV
abbrev S39_9y:=(Int×PV)⊕(Unit×PV)
def S39_9 (O:Unit) (m:List PV) (z:Int) (d:Int) (o:PV):Option (S39_9x⊕S39_9y):=bif (decide (d<z)) then bif aaa d m.length then let H:=m.getD d.toNat .bad;(F70 uu (H.fld 0).asList (H.fld 1).asInt).bind λM=>bif (M != 0) then some (.inr (.inl (M,o))) else some (.inl ((),m,z,(IntKind.wrap .i64 (d+1)),o)) else none else some (.inr (.inr ((),o)))
def S39_9step (x:S39_9x):Option (S39_9x⊕S39_9y):=S39_9 uu x.1 x.2.1 x.2.2.1 x.2.2.2.1 x.2.2.2.2
def F39 (d:PV):Option Int:=(F80 uu d).bind λV=>bif (!V) then some (8:Int) else (F81 uu d).bind λW=>bif (!W) then some (1:Int) else (F82 uu d).bind λX=>bif (!X) then some (7:Int) else (F83 uu d).bind λU=>(aaw uu (S39_9step uu) ((),U,(U.length:Int),(0:Int),d)).bind λz=>sumE (λH=>some H.1 ) (λo=>(F84 uu o.2).bind λM=>let m:=!M;(bif !m then F85 uu o.2 else some []).bind λO=>bif (bif m then true else (decide ((O.length:Int)>16384))) then some (3:Int) else some (0:Int) ) z
def S39_9l:LoopE:=⟨9,⟨[1,19,20,21],[.box 28 .leaf],(.con (.ref 0 [] 28))::(.slice 134)::sv56⟩,[(.ret,⟨[2],[.box 28 .leaf],sv66⟩),(.exit 1,⟨[1],[.box 28 .leaf],[(.con (.ref 0 [] 28)),.data 28]⟩)],S39_9step uu⟩
def F39C:Cfg:=cfg Tryz.prog 43 0 [F80c uu,F81c uu,F82c uu,F83c uu,F70c uu,F84c uu,F85c uu] [S39_9l uu] uu
def F39c:CallE:=⟨39,⟨1,[],[.data 28]⟩,⟨1,[],[.int .i64]⟩,λx=>F39 uu x,0⟩
theorem F39k:aap (F39C uu):=aad (qc (F80ok uu)<|qc (F81ok uu)<|qc (F82ok uu)<|qc (F83ok uu)<|qc (F70ok uu)<|qc (F84ok uu)<|qc (F85ok uu)<|q0) p0
theorem S39_9ok:aai (F39C uu) (lp (aao Tryz.f39) 0):=okL (F39k uu) uu (S39_9l uu) L0
theorem F39ok:okP (F39c uu):=okE Tryz.f39 (F39k uu) (L1 (S39_9ok uu))
def F41 (d:PV):Option Bo:=(F39 uu d).bind λm=>bif (m != 0) then some ([]:Bo) else (F85 uu d).bind λo=>some o
def F41c:CallE:=⟨41,⟨1,[],[.data 28]⟩,⟨1,[],[.str]⟩,λx=>F41 uu x,[]⟩
theorem F41ok:okP (F41c uu):=okJ Tryz.f41 8 0 uu _ [] false (qc (F39ok uu)<|qc (F85ok uu)<|q0) p0 L0
def F40 :Option Bool:=(F41 uu (PV.agg [(PV.str ([]:Bo)),(PV.str ([97]:Bo)),(PV.slice []),(PV.slice [(PV.agg [(PV.str ([77]:Bo)),(PV.slice [(PV.agg [(PV.int (1:Int)),(PV.str ([120]:Bo)),(PV.int (2:Int)),(PV.int (0:Int)),(PV.agg [(PV.int (2:Int)),(PV.str ([]:Bo))]),(PV.str ([]:Bo)),(PV.bool true),(PV.agg [(PV.int (2:Int)),(PV.int (18446744073709551611:Int)),(PV.str ([]:Bo)),(PV.slice []),(PV.slice []),(PV.slice []),(PV.slice [])]),(PV.slice [])])]),(PV.slice []),(PV.slice []),(PV.slice [])])]),(PV.slice []),(PV.slice [])])).bind λm=>let d:=m==([115,112,97,99,101,32,97,59,10,10,109,101,115,115,97,103,101,32,77,32,123,10,32,32,111,112,116,105,111,110,97,108,32,105,51,50,32,120,32,61,32,49,32,100,101,102,97,117,108,116,32,45,53,59,10,125,10]:Bo);(bif d then F39 uu (PV.agg [(PV.str ([]:Bo)),(PV.str ([97]:Bo)),(PV.slice []),(PV.slice [(PV.agg [(PV.str ([77]:Bo)),(PV.slice [(PV.agg [(PV.int (1:Int)),(PV.str ([120]:Bo)),(PV.int (2:Int)),(PV.int (0:Int)),(PV.agg [(PV.int (2:Int)),(PV.str ([]:Bo))]),(PV.str ([]:Bo)),(PV.bool true),(PV.agg [(PV.int (2:Int)),(PV.int (18446744073709551611:Int)),(PV.str ([]:Bo)),(PV.slice []),(PV.slice []),(PV.slice []),(PV.slice [])]),(PV.slice [])])]),(PV.slice []),(PV.slice []),(PV.slice [])])]),(PV.slice []),(PV.slice [])]) else some 0).bind λo=>some (bif d then (o==0) else false)
def F40c:CallE:=⟨40,⟨0,[],[]⟩,⟨1,[],[.bool]⟩,λx=>F40 uu ,false⟩
theorem F40ok:okP (F40c uu):=okJ Tryz.f40 19 0 uu _ [] false (qc (F41ok uu)<|qc (F39ok uu)<|q0) p0 L0
theorem awake10_run:F40 1000=some true:=bgq (by kernel_rfl)
def ahp (uu:Nat):Option Bool:=some true
def awy:CallE:={ f:=40,A:=⟨0,[],[]⟩,R:=⟨1,[],[.bool]⟩,F:=λx=>ahp uu,dflt:=false }
theorem az6:(F40c uu).F=λ_=>F40 uu:=rfl
theorem a5v:(awy uu).Ok Tryz.prog:=λx y h=>F40ok 1000 () y ((congrFun (az6 1000) ()).trans (awake10_run.trans h))
def F21 (uu:Nat) (d:Int):Option Bo:=bif (d==1) then some ([98,111,111,108]:Bo) else bif (d==2) then some ([105,51,50]:Bo) else bif (d==3) then some ([105,54,52]:Bo) else bif (d==4) then some ([117,51,50]:Bo) else bif (d==5) then some ([117,54,52]:Bo) else bif (d==6) then some ([100,111,117,98,108,101]:Bo) else bif (d==7) then some ([116,101,120,116]:Bo) else bif (d==8) then some ([98,121,116,101,115]:Bo) else some ([]:Bo)
def S19_3 (m:Bo) (d:Int):Option ((Bo×Int)⊕((Int)⊕(Unit))):=bif (decide (d<=8)) then (F21 uu d).bind λo=>bif (o==m) then some (.inr (.inl d)) else some (.inl (m,(IntKind.wrap .i64 (d+1)))) else some (.inr (.inr ()))
def S19_3step (x:Bo×Int):Option ((Bo×Int)⊕((Int)⊕(Unit))):=S19_3 uu x.1 x.2
def F19 (d:Bo):Option Int:=(aaw uu (S19_3step uu) (d,(1:Int))).bind λz=>sumE (λm=>some m ) (λo=>some (0:Int) ) z
def F105 (uu:Nat) (o:Unit) (m:Int) (s:Q4):Option (Bool×Q4):=let d:=bif (s.2.2.1==0) then (decide (s.2.1<(s.1.length:Int))) else false;bif imp d (aaa s.2.1 s.1.length) then some ((bif d then (((s.1.getD s.2.1.toNat .bad).fld 0).asInt==m) else false),s) else none
def F294 (uu:Nat) (d:Bo):Option Bool:=bif (d==([109,101,115,115,97,103,101]:Bo)) then some true else bif (d==([101,110,117,109]:Bo)) then some true else bif (d==([115,101,114,118,105,99,101]:Bo)) then some true else bif (d==([117,110,105,111,110]:Bo)) then some true else bif (d==([109,97,112]:Bo)) then some true else bif (d==([108,105,115,116]:Bo)) then some true else let o:=d==([114,101,113,117,105,114,101,100]:Bo);bif o then some true else let z:=d==([111,112,116,105,111,110,97,108]:Bo);bif z then some true else bif (d==([112,108,97,105,110]:Bo)) then some true else bif (d==([100,101,102,97,117,108,116]:Bo)) then some true else let m:=d==([114,101,115,101,114,118,101,100]:Bo);bif m then some true else bif (d==([105,109,112,111,114,116]:Bo)) then some true else bif (d==([115,112,97,99,101]:Bo)) then some true else bif (d==([114,112,99]:Bo)) then some true else bif (d==([115,116,114,101,97,109]:Bo)) then some true else bif (d==([114,101,116,117,114,110,115]:Bo)) then some true else bif (d==([111,112,101,110]:Bo)) then some true else bif (d==([116,114,117,101]:Bo)) then some true else bif (d==([102,97,108,115,101]:Bo)) then some true else bif (d==([110,97,110]:Bo)) then some true else bif (d==([105,110,102]:Bo)) then some true else some false
def F107 (O:Unit) (H:Int) (M:Bo) (s:Q4):Option (Bool×Q4):=(F105 uu () H s).bind λd=>let m:=d.1;let o:=d.2.1;let z:=d.2.2.1;bif imp m (aaa z o.length) then some ((bif m then (((o.getD z.toNat .bad).fld 1).asStr==M) else false),d.2) else none
def F340 (uu:Nat) (d:Int):Option Int:=bif (bif (decide (d>=48)) then (decide (d<=57)) else false) then some (IntKind.wrap .i64 (IntKind.wrap .u8 (d-48))) else bif (bif (decide (d>=97)) then (decide (d<=102)) else false) then some (IntKind.wrap .i64 ((IntKind.wrap .i64 (IntKind.wrap .u8 (d-97)))+10)) else some (-1:Int)
def F102 (z:Unit) (m:Int) (o:Bo) (s:Q4):Option (Bool×Q4):=(F107 uu () m o s).bind λd=>bif (!d.1) then some (false,d.2) else some (true,d.2.1,(IntKind.wrap .i64 (d.2.2.1+1)),d.2.2.2)
def F152 (uu:Nat) (d:Bo):Option Int:=let x1:=d==([100,101,112,114,101,99,97,116,101,100]:Bo);bif x1 then some (1:Int) else bif (d==([115,101,99,114,101,116]:Bo)) then some (1:Int) else let m:=d==([105,100,101,109,112,111,116,101,110,116]:Bo);bif m then some (1:Int) else bif (d==([100,111,99]:Bo)) then some (7:Int) else bif (d==([97,108,105,97,115]:Bo)) then some (7:Int) else bif (d==([114,111,117,116,101]:Bo)) then some (7:Int) else bif (d==([111,119,110,101,114]:Bo)) then some (7:Int) else bif (d==([115,105,110,99,101]:Bo)) then some (4:Int) else bif (d==([117,110,116,105,108]:Bo)) then some (4:Int) else bif (d==([108,101,110,103,116,104]:Bo)) then some (4:Int) else bif (d==([116,105,109,101,111,117,116]:Bo)) then some (4:Int) else bif (d==([109,105,110]:Bo)) then some (3:Int) else bif (d==([109,97,120]:Bo)) then some (3:Int) else some (0:Int)
abbrev S37_5x:=(List PV)×(List PV)×Int
abbrev S37_5y:=(Bool)⊕(Unit)
def S37_5 (uu:Nat) (m:List PV) (o:List PV) (d:Int):Option (S37_5x⊕S37_5y):=bif (decide (d<(m.length:Int))) then bif aaa d m.length then bif aaa d o.length then let z:=!(((m.getD d.toNat .bad).fld 0).asStr==((o.getD d.toNat .bad).fld 0).asStr);bif imp (!z) (aaa d m.length) then bif imp (!z) (aaa d o.length) then let H:=bif z then true else ((((m.getD d.toNat .bad).fld 1).fld 0).asInt != (((o.getD d.toNat .bad).fld 1).fld 0).asInt);bif imp (!H) (aaa d m.length) then bif imp (!H) (aaa d o.length) then let M:=bif H then true else ((((m.getD d.toNat .bad).fld 1).fld 1).asInt != (((o.getD d.toNat .bad).fld 1).fld 1).asInt);bif imp (!M) (aaa d m.length) then bif imp (!M) (aaa d o.length) then bif (bif M then true else (!((((m.getD d.toNat .bad).fld 1).fld 2).asStr==(((o.getD d.toNat .bad).fld 1).fld 2).asStr))) then some (.inr (.inl false)) else some (.inl (m,o,(IntKind.wrap .i64 (d+1)))) else none else none else none else none else none else none else none else none else some (.inr (.inr ()))
def S37_5step (x:S37_5x):Option (S37_5x⊕S37_5y):=S37_5 uu x.1 x.2.1 x.2.2
def F37 (m:List PV) (o:List PV):Option Bool:=bif ((m.length:Int) != (o.length:Int)) then some false else (aaw uu (S37_5step uu) (m,o,(0:Int))).bind λz=>sumE (λd=>some d ) (λH=>some true ) z
def S37_5l:LoopE:=⟨5,⟨[0,1,5],[],[.slice 116,.slice 116,.int .i64]⟩,[(.ret,⟨[4],[],[.bool]⟩),(.exit 0,⟨[],[],[]⟩)],S37_5step uu⟩
def F37C:Cfg:=cfg Tryz.prog 73 0 [] [S37_5l uu] uu
def F37c:CallE:=⟨37,⟨2,[],[.slice 116,.slice 116]⟩,⟨1,[],[.bool]⟩,λx=>F37 uu x.1 x.2,false⟩
theorem F37k:aap (F37C uu):=aad q0 p0
theorem S37_5ok:aai (F37C uu) (lp (aao Tryz.f37) 0):=okL (F37k uu) uu (S37_5l uu) L0
theorem F37ok:okP (F37c uu):=okE Tryz.f37 (F37k uu) (L1 (S37_5ok uu))
abbrev S86_4x:=(List PV)×(List PV)×Bool×Int
abbrev S86_4y:=(Bool)
def S86_4 (uu:Nat) (m:List PV) (o:List PV) (z:Bool) (d:Int):Option (S86_4x⊕S86_4y):=bif (bif z then (decide (d<(m.length:Int))) else false) then bif aaa d m.length then bif aaa d o.length then some (.inl (m,o,((m.getD d.toNat .bad).asStr==(o.getD d.toNat .bad).asStr),(IntKind.wrap .i64 (d+1)))) else none else none else some (.inr z)
def S86_4step (x:S86_4x):Option (S86_4x⊕S86_4y):=S86_4 uu x.1 x.2.1 x.2.2.1 x.2.2.2
def F86 (m:List PV) (o:List PV):Option Bool:=(aaw uu (S86_4step uu) (m,o,((m.length:Int)==(o.length:Int)),(0:Int))).bind λd=>some d
def S86_4l:LoopE:=⟨4,⟨[0,1,5,6],[],(.slice 9)::(.slice 9)::sv39⟩,[(.exit 0,⟨[5],[],[.bool]⟩)],S86_4step uu⟩
def F86C:Cfg:=cfg Tryz.prog 31 0 [] [S86_4l uu] uu
def F86c:CallE:=⟨86,⟨2,[],[.slice 9,.slice 9]⟩,⟨1,[],[.bool]⟩,λx=>F86 uu x.1 x.2,false⟩
theorem F86k:aap (F86C uu):=aad q0 p0
theorem S86_4ok:aai (F86C uu) (lp (aao Tryz.f86) 0):=okL (F86k uu) uu (S86_4l uu) L0
theorem F86ok:okP (F86c uu):=okE Tryz.f86 (F86k uu) (L1 (S86_4ok uu))
abbrev S197_4x:=(List PV)×(List PV)×Bool×Int
abbrev S197_4y:=(Bool)
def S197_4 (uu:Nat) (z:List PV) (H:List PV) (O:Bool) (d:Int):Option (S197_4x⊕S197_4y):=bif (bif O then (decide (d<(z.length:Int))) else false) then bif aaa d z.length then let m:=z.getD d.toNat .bad;bif aaa d H.length then let o:=H.getD d.toNat .bad;let M:=bif (m.fld 0).asInt==(o.fld 0).asInt then (bif (m.fld 1).asInt==(o.fld 1).asInt then true else false) else false;some (.inl (z,H,M,(IntKind.wrap .i64 (d+1)))) else none else none else some (.inr O)
def S197_4step (x:S197_4x):Option (S197_4x⊕S197_4y):=S197_4 uu x.1 x.2.1 x.2.2.1 x.2.2.2
def F197 (m:List PV) (o:List PV):Option Bool:=(aaw uu (S197_4step uu) (m,o,((m.length:Int)==(o.length:Int)),(0:Int))).bind λd=>some d
def S197_4l:LoopE:=⟨4,⟨[0,1,5,6],[],(.slice 234)::(.slice 234)::sv39⟩,[(.exit 0,⟨[5],[],[.bool]⟩)],S197_4step uu⟩
def F197C:Cfg:=cfg Tryz.prog 31 0 [] [S197_4l uu] uu
def F197c:CallE:=⟨197,⟨2,[],[.slice 234,.slice 234]⟩,⟨1,[],[.bool]⟩,λx=>F197 uu x.1 x.2,false⟩
theorem F197k:aap (F197C uu):=aad q0 p0
theorem S197_4ok:aai (F197C uu) (lp (aao Tryz.f197) 0):=okL (F197k uu) uu (S197_4l uu) L0
theorem F197ok:okP (F197c uu):=okE Tryz.f197 (F197k uu) (L1 (S197_4ok uu))
def F198 (d:PV) (m:PV):Option Bool:=let x1:=d.fld 7;let M:=m.fld 7;let o:=d.fld 4;let z:=m.fld 4;let O:=bif (o.fld 0).asInt==(z.fld 0).asInt then (bif (o.fld 1).asStr==(z.fld 1).asStr then true else false) else false;let H:=bif (bif (bif (bif (bif (bif (bif (bif (bif ((d.fld 0).asInt==(m.fld 0).asInt) then ((d.fld 1).asStr==(m.fld 1).asStr) else false) then ((d.fld 2).asInt==(m.fld 2).asInt) else false) then ((d.fld 3).asInt==(m.fld 3).asInt) else false) then O else false) then ((d.fld 5).asStr==(m.fld 5).asStr) else false) then ((d.fld 6).asBool==(m.fld 6).asBool) else false) then ((x1.fld 0).asInt==(M.fld 0).asInt) else false) then ((x1.fld 1).asInt==(M.fld 1).asInt) else false) then ((x1.fld 2).asStr==(M.fld 2).asStr) else false;(bif H then F37 uu (d.fld 8).asList (m.fld 8).asList else some false).bind λU=>some (bif H then U else false)
def F198c:CallE:=⟨198,⟨2,[],[.data 54,.data 54]⟩,⟨1,[],[.bool]⟩,λx=>F198 uu x.1 x.2,false⟩
theorem F198ok:okP (F198c uu):=okJ Tryz.f198 86 0 uu _ [] false (qc (F37ok uu)<|q0) p0 L0
abbrev S87_4x:=Unit×Unit×Bool×Int×PV×PV
abbrev S87_4y:=(Bool×PV×PV)
def S87_4 (U:Unit) (V:Unit) (z:Bool) (d:Int) (m:PV) (o:PV):Option (S87_4x⊕S87_4y):=bif (bif z then (decide (d<((m.fld 1).asList.length:Int))) else false) then let H:=(m.fld 1).asList;bif aaa d H.length then let M:=(o.fld 1).asList;bif aaa d M.length then (F198 uu (H.getD d.toNat .bad) (M.getD d.toNat .bad)).bind λO=>some (.inl ((),(),O,(IntKind.wrap .i64 (d+1)),m,o)) else none else none else some (.inr (z,m,o))
def S87_4step (x:S87_4x):Option (S87_4x⊕S87_4y):=S87_4 uu x.1 x.2.1 x.2.2.1 x.2.2.2.1 x.2.2.2.2.1 x.2.2.2.2.2
def F87 (d:PV) (m:PV):Option Bool:=let V:=bif ((d.fld 0).asStr==(m.fld 0).asStr) then (((d.fld 1).asList.length:Int)==((m.fld 1).asList.length:Int)) else false;(bif V then F197 uu (d.fld 2).asList (m.fld 2).asList else some false).bind λH=>let o:=bif V then H else false;(bif o then F86 uu (d.fld 3).asList (m.fld 3).asList else some false).bind λM=>let z:=bif o then M else false;(bif z then F37 uu (d.fld 4).asList (m.fld 4).asList else some false).bind λO=>(aaw uu (S87_4step uu) ((),(),(bif z then O else false),(0:Int),d,m)).bind λU=>some U.1
def S87_4l:LoopE:=⟨4,⟨[2,3,5,6],[.box 63 .leaf,.box 63 .leaf],(.con (.ref 0 [] 63))::(.con (.ref 1 [] 63))::.bool::(.int .i64)::sv67⟩,[(.exit 0,⟨[5],[.box 63 .leaf,.box 63 .leaf],.bool::sv67⟩)],S87_4step uu⟩
def F87C:Cfg:=cfg Tryz.prog 64 0 [F197c uu,F86c uu,F37c uu,F198c uu] [S87_4l uu] uu
def F87c:CallE:=⟨87,⟨2,[],sv67⟩,⟨1,[],[.bool]⟩,λx=>F87 uu x.1 x.2,false⟩
theorem F87k:aap (F87C uu):=aad (qc (F197ok uu)<|qc (F86ok uu)<|qc (F37ok uu)<|qc (F198ok uu)<|q0) p0
theorem S87_4ok:aai (F87C uu) (lp (aao Tryz.f87) 0):=okL (F87k uu) uu (S87_4l uu) L0
theorem F87ok:okP (F87c uu):=okE Tryz.f87 (F87k uu) (L1 (S87_4ok uu))
abbrev S88_4x:=Unit×Unit×Bool×Int×PV×PV
abbrev S88_4y:=(Bool×PV×PV)
def S88_4 (X:Unit) (Y:Unit) (M:Bool) (d:Int) (m:PV) (o:PV):Option (S88_4x⊕S88_4y):=bif (bif M then (decide (d<((m.fld 2).asList.length:Int))) else false) then let O:=(m.fld 2).asList;bif aaa d O.length then let z:=O.getD d.toNat .bad;let U:=(o.fld 2).asList;bif aaa d U.length then let H:=U.getD d.toNat .bad;let V:=bif ((z.fld 0).asStr==(H.fld 0).asStr) then ((z.fld 1).asInt==(H.fld 1).asInt) else false;(bif V then F37 uu (z.fld 2).asList (H.fld 2).asList else some false).bind λW=>some (.inl ((),(),(bif V then W else false),(IntKind.wrap .i64 (d+1)),m,o)) else none else none else some (.inr (M,m,o))
def S88_4step (x:S88_4x):Option (S88_4x⊕S88_4y):=S88_4 uu x.1 x.2.1 x.2.2.1 x.2.2.2.1 x.2.2.2.2.1 x.2.2.2.2.2
def F88 (d:PV) (m:PV):Option Bool:=let o:=bif (bif ((d.fld 0).asStr==(m.fld 0).asStr) then ((d.fld 1).asBool==(m.fld 1).asBool) else false) then (((d.fld 2).asList.length:Int)==((m.fld 2).asList.length:Int)) else false;(bif o then F197 uu (d.fld 3).asList (m.fld 3).asList else some false).bind λH=>let z:=bif o then H else false;(bif z then F37 uu (d.fld 4).asList (m.fld 4).asList else some false).bind λM=>(aaw uu (S88_4step uu) ((),(),(bif z then M else false),(0:Int),d,m)).bind λO=>some O.1
def S88_4l:LoopE:=⟨4,⟨[2,3,5,6],[.box 127 .leaf,.box 127 .leaf],(.con (.ref 0 [] 127))::(.con (.ref 1 [] 127))::.bool::(.int .i64)::sv68⟩,[(.exit 0,⟨[5],[.box 127 .leaf,.box 127 .leaf],.bool::sv68⟩)],S88_4step uu⟩
def F88C:Cfg:=cfg Tryz.prog 84 0 [F197c uu,F37c uu] [S88_4l uu] uu
def F88c:CallE:=⟨88,⟨2,[],sv68⟩,⟨1,[],[.bool]⟩,λx=>F88 uu x.1 x.2,false⟩
theorem F88k:aap (F88C uu):=aad (qc (F197ok uu)<|qc (F37ok uu)<|q0) p0
theorem S88_4ok:aai (F88C uu) (lp (aao Tryz.f88) 0):=okL (F88k uu) uu (S88_4l uu) L0
theorem F88ok:okP (F88c uu):=okE Tryz.f88 (F88k uu) (L1 (S88_4ok uu))
abbrev S89_4x:=Unit×Unit×Bool×Int×PV×PV
abbrev S89_4y:=(Bool×PV×PV)
def S89_4 (X:Unit) (Y:Unit) (M:Bool) (d:Int) (z:PV) (H:PV):Option (S89_4x⊕S89_4y):=bif (bif M then (decide (d<((z.fld 1).asList.length:Int))) else false) then let O:=(z.fld 1).asList;bif aaa d O.length then let m:=O.getD d.toNat .bad;let U:=(H.fld 1).asList;bif aaa d U.length then let o:=U.getD d.toNat .bad;let V:=bif (bif (bif ((m.fld 0).asStr==(o.fld 0).asStr) then ((m.fld 1).asStr==(o.fld 1).asStr) else false) then ((m.fld 2).asStr==(o.fld 2).asStr) else false) then ((m.fld 3).asInt==(o.fld 3).asInt) else false;(bif V then F37 uu (m.fld 4).asList (o.fld 4).asList else some false).bind λW=>some (.inl ((),(),(bif V then W else false),(IntKind.wrap .i64 (d+1)),z,H)) else none else none else some (.inr (M,z,H))
def S89_4step (x:S89_4x):Option (S89_4x⊕S89_4y):=S89_4 uu x.1 x.2.1 x.2.2.1 x.2.2.2.1 x.2.2.2.2.1 x.2.2.2.2.2
def F89 (d:PV) (m:PV):Option Bool:=let H:=bif ((d.fld 0).asStr==(m.fld 0).asStr) then (((d.fld 1).asList.length:Int)==((m.fld 1).asList.length:Int)) else false;(bif H then F37 uu (d.fld 2).asList (m.fld 2).asList else some false).bind λo=>(aaw uu (S89_4step uu) ((),(),(bif H then o else false),(0:Int),d,m)).bind λz=>some z.1
def S89_4l:LoopE:=⟨4,⟨[2,3,5,6],[.box 130 .leaf,.box 130 .leaf],(.con (.ref 0 [] 130))::(.con (.ref 1 [] 130))::.bool::(.int .i64)::sv69⟩,[(.exit 0,⟨[5],[.box 130 .leaf,.box 130 .leaf],.bool::sv69⟩)],S89_4step uu⟩
def F89C:Cfg:=cfg Tryz.prog 84 0 [F37c uu] [S89_4l uu] uu
def F89c:CallE:=⟨89,⟨2,[],sv69⟩,⟨1,[],[.bool]⟩,λx=>F89 uu x.1 x.2,false⟩
theorem F89k:aap (F89C uu):=aad (qc (F37ok uu)<|q0) p0
theorem S89_4ok:aai (F89C uu) (lp (aao Tryz.f89) 0):=okL (F89k uu) uu (S89_4l uu) L0
theorem F89ok:okP (F89c uu):=okE Tryz.f89 (F89k uu) (L1 (S89_4ok uu))
abbrev S42_4x:=Unit×Unit×Bool×Int×PV×PV
abbrev S42_4y:=(Unit×Unit×Bool×PV×PV)
def S42_4 (U:Unit) (V:Unit) (z:Bool) (d:Int) (m:PV) (o:PV):Option (S42_4x⊕S42_4y):=bif (bif z then (decide (d<((m.fld 3).asList.length:Int))) else false) then let H:=(m.fld 3).asList;bif aaa d H.length then let M:=(o.fld 3).asList;bif aaa d M.length then (F87 uu (H.getD d.toNat .bad) (M.getD d.toNat .bad)).bind λO=>some (.inl ((),(),O,(IntKind.wrap .i64 (d+1)),m,o)) else none else none else some (.inr ((),(),z,m,o))
def S42_4step (x:S42_4x):Option (S42_4x⊕S42_4y):=S42_4 uu x.1 x.2.1 x.2.2.1 x.2.2.2.1 x.2.2.2.2.1 x.2.2.2.2.2
abbrev S42_8x:=Unit×Unit×Bool×Int×PV×PV
abbrev S42_8y:=(Unit×Unit×Bool×PV×PV)
def S42_8 (U:Unit) (V:Unit) (z:Bool) (d:Int) (m:PV) (o:PV):Option (S42_8x⊕S42_8y):=bif (bif z then (decide (d<((m.fld 4).asList.length:Int))) else false) then let H:=(m.fld 4).asList;bif aaa d H.length then let M:=(o.fld 4).asList;bif aaa d M.length then (F88 uu (H.getD d.toNat .bad) (M.getD d.toNat .bad)).bind λO=>some (.inl ((),(),O,(IntKind.wrap .i64 (d+1)),m,o)) else none else none else some (.inr ((),(),z,m,o))
def S42_8step (x:S42_8x):Option (S42_8x⊕S42_8y):=S42_8 uu x.1 x.2.1 x.2.2.1 x.2.2.2.1 x.2.2.2.2.1 x.2.2.2.2.2
abbrev S42_12x:=Unit×Unit×Bool×Int×PV×PV
abbrev S42_12y:=(Bool×PV×PV)
def S42_12 (U:Unit) (V:Unit) (z:Bool) (d:Int) (m:PV) (o:PV):Option (S42_12x⊕S42_12y):=bif (bif z then (decide (d<((m.fld 5).asList.length:Int))) else false) then let H:=(m.fld 5).asList;bif aaa d H.length then let M:=(o.fld 5).asList;bif aaa d M.length then (F89 uu (H.getD d.toNat .bad) (M.getD d.toNat .bad)).bind λO=>some (.inl ((),(),O,(IntKind.wrap .i64 (d+1)),m,o)) else none else none else some (.inr (z,m,o))
def S42_12step (x:S42_12x):Option (S42_12x⊕S42_12y):=S42_12 uu x.1 x.2.1 x.2.2.1 x.2.2.2.1 x.2.2.2.2.1 x.2.2.2.2.2
def F42 (o:PV) (z:PV):Option Bool:=let M:=(o.fld 1).asStr==((z.fld 1).asStr);(bif M then F86 uu (o.fld 2).asList (z.fld 2).asList else some false).bind λO=>(aaw uu (S42_4step uu) ((),(),(bif (bif (bif (bif M then O else false) then (((o.fld 3).asList.length:Int)==((z.fld 3).asList.length:Int)) else false) then (((o.fld 4).asList.length:Int)==((z.fld 4).asList.length:Int)) else false) then (((o.fld 5).asList.length:Int)==((z.fld 5).asList.length:Int)) else false),(0:Int),o,z)).bind λd=>(aaw uu (S42_8step uu) ((),(),d.2.2.1,(0:Int),d.2.2.2.1,d.2.2.2.2)).bind λm=>(aaw uu (S42_12step uu) ((),(),m.2.2.1,(0:Int),m.2.2.2.1,m.2.2.2.2)).bind λH=>some H.1
def S42_4l:LoopE:=⟨4,⟨[2,3,5,6],bx21,sv70⟩,[(.exit 0,⟨[2,3,5],bx21,(.con (.ref 0 [] 28))::(.con (.ref 1 [] 28))::sv71⟩)],S42_4step uu⟩
def S42_8l:LoopE:=⟨8,⟨[2,3,5,7],bx21,sv70⟩,[(.exit 2,⟨[2,3,5],bx21,(.con (.ref 0 [] 28))::(.con (.ref 1 [] 28))::sv71⟩)],S42_8step uu⟩
def S42_12l:LoopE:=⟨12,⟨[2,3,5,8],bx21,sv70⟩,[(.exit 4,⟨[5],bx21,sv71⟩)],S42_12step uu⟩
def F42C:Cfg:=cfg Tryz.prog 112 0 [F86c uu,F87c uu,F88c uu,F89c uu] [S42_4l uu,S42_8l uu,S42_12l uu] uu
def F42c:CallE:=⟨42,⟨2,[],sv72⟩,⟨1,[],[.bool]⟩,λx=>F42 uu x.1 x.2,false⟩
theorem F42k:aap (F42C uu):=aad (qc (F86ok uu)<|qc (F87ok uu)<|qc (F88ok uu)<|qc (F89ok uu)<|q0) p0
theorem S42_4ok:aai (F42C uu) (lp (aao Tryz.f42) 0):=okL (F42k uu) uu (S42_4l uu) L0
theorem S42_8ok:aai (F42C uu) (lp (aao Tryz.f42) 1):=okL (F42k uu) uu (S42_8l uu) L0
theorem S42_12ok:aai (F42C uu) (lp (aao Tryz.f42) 2):=okL (F42k uu) uu (S42_12l uu) L0
theorem F42ok:okP (F42c uu):=okE Tryz.f42 (F42k uu) (L3 (S42_4ok uu) (S42_8ok uu) (S42_12ok uu))
def F13 (V:Bo):Option Bool:=bif (decide ((V.length:Int)>3000)) then some true else (F15 uu ([102]:Bo) V).bind λX=>let z:=X.1;let W:=X.2.2 != 0;(bif !W then F39 uu z else some 0).bind λY=>bif (bif W then true else (Y != 0)) then (ahp uu).bind λH=>some H else (F41 uu z).bind λM=>(F15 uu ([102]:Bo) M).bind λo=>let d:=o.2.2==0;(bif d then F42 uu z o.1 else some false).bind λO=>let m:=bif d then O else false;(bif m then ahp uu else some false).bind λU=>some (bif m then U else false)
def F13c:CallE:=⟨13,⟨1,[],[.str]⟩,⟨1,[],[.bool]⟩,λx=>F13 uu x,false⟩
theorem F13ok:okP (F13c uu):=okJ Tryz.f13 42 0 uu _ [] false (qc (F15ok uu)<|qc (F39ok uu)<|qc (a5v uu)<|qc (F41ok uu)<|qc (F42ok uu)<|q0) p0 L0
end
end Go.Ab
