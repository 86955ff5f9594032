/- A part of the proof: lemmas on how the program runs over plain data. -/
import Derived.Test.YthokbeimbdnnoaaGreatDoorAbFmtE
set_option linter.unusedVariables false
set_option linter.unusedSimpArgs false
set_option linter.unnecessarySimpa false
namespace Go.Ab
open Go Go.Proofs
set_option maxRecDepth 100000
noncomputable section
abbrev okP (c:CallE):Prop:=c.Ok Tryz.prog
variable (uu:Nat)
abbrev bx0:List BSh:=[.box 303 .leaf,.acc]
abbrev bx1:List BSh:=[.box 9 .leaf]
abbrev bx2:List BSh:=[.box 9 .leaf,.box 63 .leaf]
abbrev bx3:List BSh:=[.box 3 .leaf]
abbrev bx4:List BSh:=[.box 3 .leaf,.box 59 .leaf]
abbrev bx5:List BSh:=[.box 66 (.agg 66 [.leaf]),.acc]
abbrev bx6:List BSh:=[.box 66 (.agg 66 [.leaf]),.acc,.box 63 .leaf,.box 63 .leaf]
abbrev bx7:List BSh:=[.box 9 .leaf,.box 73 .leaf]
abbrev bx8:List BSh:=[.box 3 .leaf,.box 103 .leaf]
abbrev bx9:List BSh:=[.box 66 (.agg 66 [.leaf]),.acc,.box 73 .leaf,.box 73 .leaf]
abbrev bx10:List BSh:=[.box 9 .leaf,.box 78 .leaf]
abbrev bx11:List BSh:=[.box 78 .leaf,.box 105 .leaf]
abbrev bx12:List BSh:=[.box 66 (.agg 66 [.leaf]),.acc,.box 78 .leaf,.box 78 .leaf]
abbrev bx13:List BSh:=[.box 66 (.agg 66 [.leaf]),.acc,.box 26 .leaf,.box 26 .leaf]
abbrev bx14:List BSh:=[.arr 34 0]
abbrev bx15:List BSh:=[.box 26 .leaf,.box 26 .leaf,.box 66 (.agg 66 [.leaf]),.acc]
abbrev bx16:List BSh:=[.box 26 .leaf,.box 179 .leaf,.map 9 63,.map 9 4,.box 179 (.agg 179 [.leaf,.leaf])]
abbrev bx17:List BSh:=[.arr 9 0]
abbrev bx18:List BSh:=[.box 26 .leaf,.box 179 .leaf,.arr 9 1,.box 63 .leaf,.mit 9 4]
abbrev bx19:List BSh:=[.box 26 .leaf,.box 179 .leaf,.arr 9 1]
abbrev bx20:List BSh:=[.box 26 .leaf,.box 26 .leaf,.arr 9 1,.arr 9 0,.acc]
abbrev bx21:List BSh:=[.box 26 .leaf,.acc]
abbrev bx22:List BSh:=[.box 134 (.agg 134 [.leaf,.leaf]),.acc]
abbrev bx23:List BSh:=[.box 26 .leaf]
abbrev bx24:List BSh:=[.arr 4 0,.box 26 .leaf,.box 63 .leaf]
abbrev bx25:List BSh:=[.box 26 .leaf,.arr 4 0]
abbrev bx26:List BSh:=[.box 63 .leaf,.box 59 .leaf]
abbrev bx27:List BSh:=[.box 26 .leaf,.box 59 .leaf,.box 56 .leaf]
abbrev bx28:List BSh:=[.box 26 .leaf,.box 63 .leaf]
abbrev bx29:List BSh:=[.box 26 .leaf,.box 63 .leaf,.box 134 (.agg 134 [.leaf,.leaf]),.acc,.box 59 .leaf]
abbrev bx30:List BSh:=[.box 26 .leaf,.box 63 .leaf,.box 134 (.agg 134 [.leaf,.leaf]),.acc]
abbrev bx31:List BSh:=[.box 73 .leaf,.box 134 (.agg 134 [.leaf,.leaf]),.acc,.box 103 .leaf]
abbrev bx32:List BSh:=[.box 73 .leaf,.box 134 (.agg 134 [.leaf,.leaf]),.acc]
abbrev bx33:List BSh:=[.box 26 .leaf,.box 78 .leaf,.box 134 (.agg 134 [.leaf,.leaf]),.acc]
abbrev bx34:List BSh:=[.box 26 .leaf,.box 134 (.agg 134 [.leaf,.leaf]),.acc]
abbrev bx35:List BSh:=[.box 63 .leaf,.box 63 .leaf]
abbrev bx36:List BSh:=[.box 26 .leaf,.box 73 .leaf]
abbrev bx37:List BSh:=[.box 73 .leaf,.box 103 .leaf]
abbrev bx38:List BSh:=[.box 73 .leaf,.box 73 .leaf]
abbrev bx39:List BSh:=[.box 26 .leaf,.box 78 .leaf]
abbrev bx40:List BSh:=[.box 78 .leaf,.box 78 .leaf]
abbrev bx41:List BSh:=[.box 26 .leaf,.box 26 .leaf,.acc,.acc]
abbrev bx42:List BSh:=[.box 26 .leaf,.box 26 .leaf,.acc,.acc,.acc]
abbrev sv0:List Shape:=[(.con (.ref 0 [] 9)),.str]
abbrev sv1:List Shape:=[.str,.data 63]
abbrev sv2:List Shape:=[.data 26,.str]
abbrev sv3:List Shape:=[.bool,.int .i64]
abbrev sv4:List Shape:=[.int .i64,.data 59]
abbrev sv5:List Shape:=[.data 63,.int .i64]
abbrev sv6:List Shape:=[.str,.int .i64]
abbrev sv8:List Shape:=[.int .i64,.int .i64]
abbrev sv10:List Shape:=[.str,.data 73]
abbrev sv11:List Shape:=[.int .i64,.data 103]
abbrev sv13:List Shape:=[.str,.data 78]
abbrev sv14:List Shape:=[.data 78,.data 105]
abbrev sv27:List Shape:=[(.con (.fn 65 0 [])),.slice 34]
abbrev sv30:List Shape:=[.data 26,.data 26]
abbrev sv35:List Shape:=[.data 179,.slice 9]
abbrev sv36:List Shape:=[.data 179,.str]
abbrev sv37:List Shape:=[.slice 9,.slice 9]
abbrev sv39:List Shape:=[.acc 1 9,.data 26]
abbrev sv41:List Shape:=[.str,.acc 1 208]
abbrev sv42:List Shape:=[.int .i64,.data 26]
abbrev sv45:List Shape:=[.data 26,.slice 4]
abbrev sv46:List Shape:=[.data 63,.data 59]
abbrev sv49:List Shape:=[.data 26,.data 63]
abbrev sv51:List Shape:=[.str,.acc 2 208]
abbrev sv52:List Shape:=[.str,.acc 3 208]
abbrev sv53:List Shape:=[.data 26,.data 78]
abbrev sv59:List Shape:=[.data 63,.data 63]
abbrev sv60:List Shape:=[.data 26,.data 73]
abbrev sv61:List Shape:=[.data 73,.data 103]
abbrev sv63:List Shape:=[.data 73,.data 73]
abbrev sv65:List Shape:=[.data 78,.data 78]
abbrev sv7:List Shape:=.str::sv6
abbrev sv9:List Shape:=(.acc 1 34)::sv59
abbrev sv12:List Shape:=(.acc 1 34)::sv63
abbrev sv15:List Shape:=(.acc 1 34)::sv65
abbrev sv17:List Shape:=(.acc 1 34)::sv30
abbrev sv26:List Shape:=(.int .i64)::sv27
abbrev sv34:List Shape:=[.int .i64,.int .i64,.slice 9]
abbrev sv43:List Shape:=(.slice 4)::sv49
abbrev sv44:List Shape:=(.int .i64)::sv45
abbrev sv47:List Shape:=.bool::sv46
abbrev sv48:List Shape:=[.data 26,.data 59,.data 56]
abbrev sv67:List Shape:=(.acc 3 9)::sv30
abbrev sv69:List Shape:=(.acc 4 34)::sv30
abbrev sv19:List Shape:=[.int .i64,(.con (.fn 65 0 [])),.int .i64,.slice 34]
abbrev sv20:List Shape:=(.int .i64)::sv26
abbrev sv21:List Shape:=[.int .i64,.int .i64,.int .i64,.slice 34]
abbrev sv24:List Shape:=[(.con (.arr 0 0 34)),.int .i64,.int .i64,.slice 34]
abbrev sv29:List Shape:=[(.con (.ref 2 [] 66)),.data 26,.data 26,.acc 3 34]
abbrev sv32:List Shape:=(.int .i64)::sv34
abbrev sv40:List Shape:=(.int .i64)::(.int .i64)::sv41
abbrev sv50:List Shape:=(.data 26)::(.data 63)::sv52
abbrev sv56:List Shape:=(.int .i64)::(.data 26)::sv51
abbrev sv57:List Shape:=(.con (.ref 1 [] 134))::(.data 26)::sv51
abbrev sv58:List Shape:=(.int .i64)::(.int .i64)::sv59
abbrev sv62:List Shape:=(.int .i64)::(.int .i64)::sv63
abbrev sv64:List Shape:=(.int .i64)::(.int .i64)::sv65
abbrev sv66:List Shape:=(.int .i64)::(.int .i64)::sv30
abbrev sv16:List Shape:=(.int .i64)::(.int .i64)::sv17
abbrev sv18:List Shape:=[.int .i64,(.con (.fn 65 0 [])),.int .i64,.int .i64,.slice 34]
abbrev sv28:List Shape:=[.int .i64,.int .i64,.data 26,.data 26,.acc 3 34]
abbrev sv33:List Shape:=(.con (.arr 0 0 9))::sv32
abbrev sv38:List Shape:=(.int .i64)::(.con (.ref 0 [] 26))::(.acc 1 9)::sv42
abbrev sv55:List Shape:=(.con (.ref 0 [] 26))::sv57
abbrev sv22:List Shape:=(.con (.arr 0 0 34))::(.int .i64)::sv20
abbrev sv23:List Shape:=(.con (.arr 0 0 34))::sv18
abbrev sv25:List Shape:=(.int .i64)::(.con (.fn 65 0 []))::sv21
abbrev sv31:List Shape:=[.data 26,.data 179,.map 9 63,.map 9 4,(.con (.mref 2)),(.con (.mref 3))]
abbrev sv54:List Shape:=(.con (.ref 0 [] 26))::(.con (.ref 1 [] 134))::sv56
abbrev sv68:List Shape:=(.acc 4 34)::(.slice 9)::sv66
def F255 (uu:Nat) (h:Int):Option Bool:=some ((agi .and .i64 h (IntKind.wrap .i64 (h-1)))==0)
def F255c:CallE:=⟨255,⟨1,[],[.int .i64]⟩,⟨1,[],[.bool]⟩,λx=>F255 uu x,false⟩
theorem F255ok:okP (F255c uu):=okJ Tryz.f255 8 0 uu [] [] false q0 p0 L0
abbrev S226_12x:=(List PV)×Int×Bool×Bool×(List PV)×Bq×Unit×Int×Int×Int×Int×PV
abbrev S226_12y:=((List PV)×Int×Bool×Bool×(List PV)×Bq×Unit×Int×PV)
def S226_12 (uu:Nat) (H:List PV) (h:Int) (I:Bool) (J:Bool) (M:List PV) (O:Bq) (ag:Unit) (Z:Int) (o:Int) (aa:Int) (ab:Int) (ad:PV):Option (S226_12x⊕S226_12y):=bif (decide (h>=aa)) then let z:=IntKind.wrap .i64 (Z-1);let ae:=agi .and .u64 h ab;bif aaa ae (([48,49,50,51,52,53,54,55,56,57,97,98,99,100,101,102,103,104,105,106,107,108,109,110,111,112,113,114,115,116,117,118,119,120,121,122]:Bq).length) then let af:=((([48,49,50,51,52,53,54,55,56,57,97,98,99,100,101,102,103,104,105,106,107,108,109,110,111,112,113,114,115,116,117,118,119,120,121,122]:Bq).getD ae.toNat 0).toNat:Int);bif aaa z 65 then bif decide (0<=o) then some (.inl (H,(h.fdiv (2^(min o.toNat (IntKind.bits .u64)))),I,J,M,O,(),z,o,aa,ab,(PV.agg (ad.parts.set z.toNat (PV.int af))))) else none else none else none else some (.inr (H,h,I,J,M,O,(),Z,ad))
def S226_12step (x:S226_12x):Option (S226_12x⊕S226_12y):=S226_12 uu x.1 x.2.1 x.2.2.1 x.2.2.2.1 x.2.2.2.2.1 x.2.2.2.2.2.1 x.2.2.2.2.2.2.1 x.2.2.2.2.2.2.2.1 x.2.2.2.2.2.2.2.2.1 x.2.2.2.2.2.2.2.2.2.1 x.2.2.2.2.2.2.2.2.2.2.1 x.2.2.2.2.2.2.2.2.2.2.2
abbrev S226_19x:=(List PV)×Int×Bool×Bool×(List PV)×Bq×Unit×Int×Int×PV
abbrev S226_19y:=((List PV)×Int×Bool×Bool×(List PV)×Bq×Unit×Int×PV)
def S226_19 (uu:Nat) (H:List PV) (o:Int) (I:Bool) (J:Bool) (M:List PV) (O:Bq) (af:Unit) (Z:Int) (h:Int) (aa:PV):Option (S226_19x⊕S226_19y):=bif (decide (o>=h)) then let z:=IntKind.wrap .i64 (Z-1);bif !(decide (h=0)) then let ab:=IntKind.wrap .u64 (o.tdiv h);let ad:=IntKind.wrap .u64 (o-(IntKind.wrap .u64 (ab*h)));bif aaa ad (([48,49,50,51,52,53,54,55,56,57,97,98,99,100,101,102,103,104,105,106,107,108,109,110,111,112,113,114,115,116,117,118,119,120,121,122]:Bq).length) then let ae:=((([48,49,50,51,52,53,54,55,56,57,97,98,99,100,101,102,103,104,105,106,107,108,109,110,111,112,113,114,115,116,117,118,119,120,121,122]:Bq).getD ad.toNat 0).toNat:Int);bif aaa z 65 then some (.inl (H,ab,I,J,M,O,(),z,h,(PV.agg (aa.parts.set z.toNat (PV.int ae))))) else none else none else none else some (.inr (H,o,I,J,M,O,(),Z,aa))
def S226_19step (x:S226_19x):Option (S226_19x⊕S226_19y):=S226_19 uu x.1 x.2.1 x.2.2.1 x.2.2.2.1 x.2.2.2.2.1 x.2.2.2.2.2.1 x.2.2.2.2.2.2.1 x.2.2.2.2.2.2.2.1 x.2.2.2.2.2.2.2.2.1 x.2.2.2.2.2.2.2.2.2
def F226 (a0:List PV) (a1:Int) (a2:Int) (a3:Bool) (a4:Bool):Option ((List PV)×Bq):=bif (bif (bif (decide (a2<2)) then true else (a2==10)) then true else (decide (a2>36))) then none else bif a3 then let x6:=IntKind.wrap .u64 (0-a1);(F255 uu a2).bind λy7=>bif y7 then (Ltz uu (IntKind.wrap .u64 a2)).bind λy9=>(aag uu (S226_12step uu) (a0,x6,a3,a4,[],([]:Bq),(),(65:Int),(IntKind.wrap .u64 y9),(IntKind.wrap .u64 a2),(IntKind.wrap .u64 ((IntKind.wrap .u64 a2)-1)),(PV.agg (List.replicate 65 (PV.int (0:Int)))))).bind λZ=>let o:=IntKind.wrap .i64 (Z.2.2.2.2.2.2.2.1-1);let ag:=Z.2.1;bif aaa ag (([48,49,50,51,52,53,54,55,56,57,97,98,99,100,101,102,103,104,105,106,107,108,109,110,111,112,113,114,115,116,117,118,119,120,121,122]:Bq).length) then let ah:=((([48,49,50,51,52,53,54,55,56,57,97,98,99,100,101,102,103,104,105,106,107,108,109,110,111,112,113,114,115,116,117,118,119,120,121,122]:Bq).getD ag.toNat 0).toNat:Int);bif aaa o 65 then bif Z.2.2.1 then let J:=IntKind.wrap .i64 (o-1);bif aaa J 65 then bif Z.2.2.2.1 then bif decide (0<=J/\J<65/\J<=65/\(65:Int)<=65) then none else none else bif decide (0<=J/\J<65/\J<=65/\(65:Int)<=65) then let ao:=(((PV.agg ((PV.agg (Z.2.2.2.2.2.2.2.2.parts.set o.toNat (PV.int ah))).parts.set J.toNat (PV.int (45:Int)))).parts.drop J.toNat).take ((65:Int).toNat-J.toNat)).map aax;some (Z.2.2.2.2.1,ao) else none else none else bif Z.2.2.2.1 then bif decide (0<=o/\o<65/\o<=65/\(65:Int)<=65) then none else none else bif decide (0<=o/\o<65/\o<=65/\(65:Int)<=65) then let ap:=(((PV.agg (Z.2.2.2.2.2.2.2.2.parts.set o.toNat (PV.int ah))).parts.drop o.toNat).take ((65:Int).toNat-o.toNat)).map aax;some (Z.2.2.2.2.1,ap) else none else none else none else (aag uu (S226_19step uu) (a0,x6,a3,a4,[],([]:Bq),(),(65:Int),(IntKind.wrap .u64 a2),(PV.agg (List.replicate 65 (PV.int (0:Int)))))).bind λaa=>let z:=IntKind.wrap .i64 (aa.2.2.2.2.2.2.2.1-1);let ai:=aa.2.1;bif aaa ai (([48,49,50,51,52,53,54,55,56,57,97,98,99,100,101,102,103,104,105,106,107,108,109,110,111,112,113,114,115,116,117,118,119,120,121,122]:Bq).length) then let aj:=((([48,49,50,51,52,53,54,55,56,57,97,98,99,100,101,102,103,104,105,106,107,108,109,110,111,112,113,114,115,116,117,118,119,120,121,122]:Bq).getD ai.toNat 0).toNat:Int);bif aaa z 65 then bif aa.2.2.1 then let M:=IntKind.wrap .i64 (z-1);bif aaa M 65 then bif aa.2.2.2.1 then bif decide (0<=M/\M<65/\M<=65/\(65:Int)<=65) then none else none else bif decide (0<=M/\M<65/\M<=65/\(65:Int)<=65) then let aq:=(((PV.agg ((PV.agg (aa.2.2.2.2.2.2.2.2.parts.set z.toNat (PV.int aj))).parts.set M.toNat (PV.int (45:Int)))).parts.drop M.toNat).take ((65:Int).toNat-M.toNat)).map aax;some (aa.2.2.2.2.1,aq) else none else none else bif aa.2.2.2.1 then bif decide (0<=z/\z<65/\z<=65/\(65:Int)<=65) then none else none else bif decide (0<=z/\z<65/\z<=65/\(65:Int)<=65) then let ar:=(((PV.agg (aa.2.2.2.2.2.2.2.2.parts.set z.toNat (PV.int aj))).parts.drop z.toNat).take ((65:Int).toNat-z.toNat)).map aax;some (aa.2.2.2.2.1,ar) else none else none else none else (F255 uu a2).bind λaw=>bif aw then (Ltz uu (IntKind.wrap .u64 a2)).bind λax=>(aag uu (S226_12step uu) (a0,a1,a3,a4,[],([]:Bq),(),(65:Int),(IntKind.wrap .u64 ax),(IntKind.wrap .u64 a2),(IntKind.wrap .u64 ((IntKind.wrap .u64 a2)-1)),(PV.agg (List.replicate 65 (PV.int (0:Int)))))).bind λab=>let H:=IntKind.wrap .i64 (ab.2.2.2.2.2.2.2.1-1);let ak:=ab.2.1;bif aaa ak (([48,49,50,51,52,53,54,55,56,57,97,98,99,100,101,102,103,104,105,106,107,108,109,110,111,112,113,114,115,116,117,118,119,120,121,122]:Bq).length) then let al:=((([48,49,50,51,52,53,54,55,56,57,97,98,99,100,101,102,103,104,105,106,107,108,109,110,111,112,113,114,115,116,117,118,119,120,121,122]:Bq).getD ak.toNat 0).toNat:Int);bif aaa H 65 then bif ab.2.2.1 then let O:=IntKind.wrap .i64 (H-1);bif aaa O 65 then bif ab.2.2.2.1 then bif decide (0<=O/\O<65/\O<=65/\(65:Int)<=65) then none else none else bif decide (0<=O/\O<65/\O<=65/\(65:Int)<=65) then let au:=(((PV.agg ((PV.agg (ab.2.2.2.2.2.2.2.2.parts.set H.toNat (PV.int al))).parts.set O.toNat (PV.int (45:Int)))).parts.drop O.toNat).take ((65:Int).toNat-O.toNat)).map aax;some (ab.2.2.2.2.1,au) else none else none else bif ab.2.2.2.1 then bif decide (0<=H/\H<65/\H<=65/\(65:Int)<=65) then none else none else bif decide (0<=H/\H<65/\H<=65/\(65:Int)<=65) then let av:=(((PV.agg (ab.2.2.2.2.2.2.2.2.parts.set H.toNat (PV.int al))).parts.drop H.toNat).take ((65:Int).toNat-H.toNat)).map aax;some (ab.2.2.2.2.1,av) else none else none else none else (aag uu (S226_19step uu) (a0,a1,a3,a4,[],([]:Bq),(),(65:Int),(IntKind.wrap .u64 a2),(PV.agg (List.replicate 65 (PV.int (0:Int)))))).bind λad=>let I:=IntKind.wrap .i64 (ad.2.2.2.2.2.2.2.1-1);let am:=ad.2.1;bif aaa am (([48,49,50,51,52,53,54,55,56,57,97,98,99,100,101,102,103,104,105,106,107,108,109,110,111,112,113,114,115,116,117,118,119,120,121,122]:Bq).length) then let an:=((([48,49,50,51,52,53,54,55,56,57,97,98,99,100,101,102,103,104,105,106,107,108,109,110,111,112,113,114,115,116,117,118,119,120,121,122]:Bq).getD am.toNat 0).toNat:Int);bif aaa I 65 then bif ad.2.2.1 then let h:=IntKind.wrap .i64 (I-1);bif aaa h 65 then bif ad.2.2.2.1 then bif decide (0<=h/\h<65/\h<=65/\(65:Int)<=65) then none else none else bif decide (0<=h/\h<65/\h<=65/\(65:Int)<=65) then let ae:=(((PV.agg ((PV.agg (ad.2.2.2.2.2.2.2.2.parts.set I.toNat (PV.int an))).parts.set h.toNat (PV.int (45:Int)))).parts.drop h.toNat).take ((65:Int).toNat-h.toNat)).map aax;some (ad.2.2.2.2.1,ae) else none else none else bif ad.2.2.2.1 then bif decide (0<=I/\I<65/\I<=65/\(65:Int)<=65) then none else none else bif decide (0<=I/\I<65/\I<=65/\(65:Int)<=65) then let af:=(((PV.agg (ad.2.2.2.2.2.2.2.2.parts.set I.toNat (PV.int an))).parts.drop I.toNat).take ((65:Int).toNat-I.toNat)).map aax;some (ad.2.2.2.2.1,af) else none else none else none
def S226_12l:LoopE:=⟨12,⟨[0,1,3,4,10,11,12,13,14,15,16],bx0,[.slice 5,.int .u64,.bool,.bool,.acc 1 5,.str,(.con (.ref 0 [] 303)),.int .i64,.int .u64,.int .u64,.int .u64,.data 303]⟩,[(.exit 0,⟨[0,1,3,4,10,11,12,13],bx0,[.slice 5,.int .u64,.bool,.bool,.acc 1 5,.str,(.con (.ref 0 [] 303)),.int .i64,.data 303]⟩)],S226_12step uu⟩
def S226_19l:LoopE:=⟨19,⟨[0,1,3,4,10,11,12,13,17],bx0,[.slice 5,.int .u64,.bool,.bool,.acc 1 5,.str,(.con (.ref 0 [] 303)),.int .i64,.int .u64,.data 303]⟩,[(.exit 2,⟨[0,1,3,4,10,11,12,13],bx0,[.slice 5,.int .u64,.bool,.bool,.acc 1 5,.str,(.con (.ref 0 [] 303)),.int .i64,.data 303]⟩)],S226_19step uu⟩
def F226C:Cfg:=cfg Tryz.prog 102 0 [F255c uu,Ltzc uu] [S226_12l uu,S226_19l uu] uu
def F226c:CallE:=⟨226,⟨5,[],[.slice 5,.int .u64,.int .i64,.bool,.bool]⟩,⟨2,[],[.slice 5,.str]⟩,λx=>F226 uu x.1 x.2.1 x.2.2.1 x.2.2.2.1 x.2.2.2.2,([],[])⟩
theorem F226k:aam (F226C uu):=aad (qc (F255ok uu)<|qc (Ltzok uu)<|q0) p0
theorem S226_12ok:LoopOk (F226C uu) (lp (aaj Tryz.f226) 0):=okL (F226k uu) uu (S226_12l uu) L0
theorem S226_19ok:LoopOk (F226C uu) (lp (aaj Tryz.f226) 1):=okL (F226k uu) uu (S226_19l uu) L0
theorem F226ok:okP (F226c uu):=okE Tryz.f226 (F226k uu) (L2 (S226_12ok uu) (S226_19ok uu))
def F322 (h:Int) (o:Int):Option Bq:=bif (o==10) then bif (decide (h<100)) then none else none else (F226 uu [] h o false false).bind λz=>some z.2
def F322c:CallE:=⟨322,⟨2,[],[.int .u64,.int .i64]⟩,⟨1,[],[.str]⟩,λx=>F322 uu x.1 x.2,[]⟩
theorem F322ok:okP (F322c uu):=okJ Tryz.f322 32 0 uu _ [] false (qc (F226ok uu)<|q0) p0 L0
def Lfmt (u base:Int):Option Bq:=bif decide (base=10) then au8 uu u base else F322 uu u base
def a6z:CallE:={ f:=322,A:=⟨2,[],[.int .u64,.int .i64]⟩,R:=⟨1,[],[.str]⟩,F:=λx=>Lfmt uu x.1 x.2,dflt:=[] }
theorem a68:(a6z uu).Ok Tryz.prog:=by
 intro x y h
 have h:Lfmt uu x.1 x.2=some y:=h
 unfold Lfmt at h
 cases o:decide (x.2=10) with
 | true=>rw [o] at h;exact a4p uu x y h
 | false=>rw [o] at h;exact F322ok uu x y h
def F86 (uu:Nat) (o:PV) (z:Unit) (h:Bq):Option (Bool×Bq):=some (((o.fld 0).asStr==h),h)
def F86c:CallE:=⟨86,⟨2,bx1,(.data 63)::sv0⟩,⟨1,bx1,[.bool,.str]⟩,λx=>F86 uu x.1 x.2.1 x.2.2,(false,[])⟩
theorem F86ok:okP (F86c uu):=okJ Tryz.f86 8 1 uu [] [] false q0 p0 L0
abbrev S85_3x:=Unit×Unit×(List PV)×Int×Int×Bq×PV
abbrev S85_3y:=(Unit×Bool×Bq×PV)⊕(Unit×Bq×PV)
def S85_3 (O:Unit) (Z:Unit) (H:List PV) (I:Int) (z:Int) (J:Bq) (M:PV):Option (S85_3x⊕S85_3y):=bif (decide (z<I)) then bif aaa z H.length then let o:=H.getD z.toNat .bad;(F86 uu o () J).bind λh=>bif h.1 then some (.inr (.inl ((),true,h.2,o))) else some (.inl ((),(),H,I,(IntKind.wrap .i64 (z+1)),h.2,M)) else none else some (.inr (.inr ((),J,M)))
def S85_3step (x:S85_3x):Option (S85_3x⊕S85_3y):=S85_3 uu x.1 x.2.1 x.2.2.1 x.2.2.2.1 x.2.2.2.2.1 x.2.2.2.2.2.1 x.2.2.2.2.2.2
def F85 (H:List PV) (J:Unit) (I:Bq):Option (PV×Bool×Bq):=(aag uu (S85_3step uu) ((),(),H,(H.length:Int),(0:Int),I,(PV.agg [(PV.str ([]:Bq)),(PV.slice []),(PV.slice []),(PV.slice []),(PV.slice [])]))).bind λz=>sumE (λh=>some (h.2.2.2,h.2.1,h.2.2.1) ) (λo=>some ((PV.agg [(PV.str ([]:Bq)),(PV.slice []),(PV.slice []),(PV.slice []),(PV.slice [])]),false,o.2.1) ) z
def S85_3l:LoopE:=⟨3,⟨[1,4,9,10,11],bx2,(.con (.fn 86 0 [(.ref 0 [] 9)]))::(.con (.ref 1 [] 63))::(.slice 63)::(.int .i64)::(.int .i64)::sv1⟩,[(.ret,⟨[4,5],bx2,(.con (.ref 1 [] 63))::.bool::sv1⟩),(.exit 0,⟨[4],bx2,(.con (.ref 1 [] 63))::sv1⟩)],S85_3step uu⟩
def F85C:Cfg:=cfg Tryz.prog 21 1 [F86c uu] [S85_3l uu] uu
def F85c:CallE:=⟨85,⟨2,bx1,[.slice 63,(.con (.fn 86 0 [(.ref 0 [] 9)])),.str]⟩,⟨2,bx1,[.data 63,.bool,.str]⟩,λx=>F85 uu x.1 x.2.1 x.2.2,(PV.bad,false,[])⟩
theorem F85k:aam (F85C uu):=aad (qc (F86ok uu)<|q0) p0
theorem S85_3ok:LoopOk (F85C uu) (lp (aaj Tryz.f85) 0):=okL (F85k uu) uu (S85_3l uu) L0
theorem F85ok:okP (F85c uu):=okE Tryz.f85 (F85k uu) (L1 (S85_3ok uu))
def F35 (o:PV) (z:Bq):Option (PV×Bool):=(F85 uu (o.fld 0).asList () z).bind λh=>some (h.1,h.2.1)
def F35c:CallE:=⟨35,⟨2,[],sv2⟩,⟨2,[],[.data 63,.bool]⟩,λx=>F35 uu x.1 x.2,(PV.bad,false)⟩
theorem F35ok:okP (F35c uu):=okJ Tryz.f35 12 0 uu _ [] false (qc (F85ok uu)<|q0) p0 L0
def F194 (uu:Nat) (o:PV) (z:Unit) (h:Int):Option (Bool×Int):=some (((o.fld 0).asInt==h),h)
def F194c:CallE:=⟨194,⟨2,bx3,[.data 59,(.con (.ref 0 [] 3)),.int .i64]⟩,⟨1,bx3,sv3⟩,λx=>F194 uu x.1 x.2.1 x.2.2,(false,0)⟩
theorem F194ok:okP (F194c uu):=okJ Tryz.f194 8 1 uu [] [] false q0 p0 L0
abbrev S193_3x:=Unit×Unit×(List PV)×Int×Int×Int×PV
abbrev S193_3y:=(Unit×Bool×Int×PV)⊕(Unit×Int×PV)
def S193_3 (O:Unit) (Z:Unit) (H:List PV) (I:Int) (z:Int) (J:Int) (M:PV):Option (S193_3x⊕S193_3y):=bif (decide (z<I)) then bif aaa z H.length then let o:=H.getD z.toNat .bad;(F194 uu o () J).bind λh=>bif h.1 then some (.inr (.inl ((),true,h.2,o))) else some (.inl ((),(),H,I,(IntKind.wrap .i64 (z+1)),h.2,M)) else none else some (.inr (.inr ((),J,M)))
def S193_3step (x:S193_3x):Option (S193_3x⊕S193_3y):=S193_3 uu x.1 x.2.1 x.2.2.1 x.2.2.2.1 x.2.2.2.2.1 x.2.2.2.2.2.1 x.2.2.2.2.2.2
def F193 (H:List PV) (J:Unit) (I:Int):Option (PV×Bool×Int):=(aag uu (S193_3step uu) ((),(),H,(H.length:Int),(0:Int),I,(PV.agg [(PV.int (0:Int)),(PV.str ([]:Bq)),(PV.int (0:Int)),(PV.int (0:Int)),(PV.agg [(PV.int (0:Int)),(PV.str ([]:Bq))]),(PV.str ([]:Bq)),(PV.bool false),(PV.agg [(PV.int (0:Int)),(PV.int (0:Int)),(PV.str ([]:Bq)),(PV.slice []),(PV.slice []),(PV.slice []),(PV.slice [])]),(PV.slice [])]))).bind λz=>sumE (λh=>some (h.2.2.2,h.2.1,h.2.2.1) ) (λo=>some ((PV.agg [(PV.int (0:Int)),(PV.str ([]:Bq)),(PV.int (0:Int)),(PV.int (0:Int)),(PV.agg [(PV.int (0:Int)),(PV.str ([]:Bq))]),(PV.str ([]:Bq)),(PV.bool false),(PV.agg [(PV.int (0:Int)),(PV.int (0:Int)),(PV.str ([]:Bq)),(PV.slice []),(PV.slice []),(PV.slice []),(PV.slice [])]),(PV.slice [])]),false,o.2.1) ) z
def S193_3l:LoopE:=⟨3,⟨[1,4,9,10,11],bx4,(.con (.fn 194 0 [(.ref 0 [] 3)]))::(.con (.ref 1 [] 59))::(.slice 59)::(.int .i64)::(.int .i64)::sv4⟩,[(.ret,⟨[4,5],bx4,(.con (.ref 1 [] 59))::.bool::sv4⟩),(.exit 0,⟨[4],bx4,(.con (.ref 1 [] 59))::sv4⟩)],S193_3step uu⟩
def F193C:Cfg:=cfg Tryz.prog 21 1 [F194c uu] [S193_3l uu] uu
def F193c:CallE:=⟨193,⟨2,bx3,[.slice 59,(.con (.fn 194 0 [(.ref 0 [] 3)])),.int .i64]⟩,⟨2,bx3,(.data 59)::sv3⟩,λx=>F193 uu x.1 x.2.1 x.2.2,(PV.bad,false,0)⟩
theorem F193k:aam (F193C uu):=aad (qc (F194ok uu)<|q0) p0
theorem S193_3ok:LoopOk (F193C uu) (lp (aaj Tryz.f193) 0):=okL (F193k uu) uu (S193_3l uu) L0
theorem F193ok:okP (F193c uu):=okE Tryz.f193 (F193k uu) (L1 (S193_3ok uu))
def F129 (o:PV) (z:Int):Option (PV×Bool):=(F193 uu (o.fld 1).asList () z).bind λh=>some (h.1,h.2.1)
def F129c:CallE:=⟨129,⟨2,[],sv5⟩,⟨2,[],[.data 59,.bool]⟩,λx=>F129 uu x.1 x.2,(PV.bad,false)⟩
theorem F129ok:okP (F129c uu):=okJ Tryz.f129 12 0 uu _ [] false (qc (F193ok uu)<|q0) p0 L0
def F36 (uu:Nat) (z:Unit) (h:List PV) (o:List PV):Option ((List PV)):=bif decide (o.length+h.length<=aae) then some (o++h) else none
def F36c:CallE:=⟨36,⟨2,bx5,[(.con (.ref 0 [] 66)),.slice 34,.acc 1 34]⟩,⟨0,bx5,[.acc 1 34]⟩,λx=>F36 uu x.1 x.2.1 x.2.2,[]⟩
theorem F36ok:okP (F36c uu):=okJ Tryz.f36 13 2 uu [] [] false q0 p0 L0
def F153 (Z:Unit) (o:Int) (z:Bq) (H:Int) (I:Bq) (J:Bq) (M:Bool) (h:List PV):Option ((List PV)):=bif M then (F36 uu () [(PV.agg [(PV.int o),(PV.str z),(PV.int H),(PV.str I),(PV.str J)])] h).bind λO=>some O else some h
def F153c:CallE:=⟨153,⟨7,bx5,[(.con (.ref 0 [] 66)),.int .i64,.str,.int .i64,.str,.str,.bool,.acc 1 34]⟩,⟨0,bx5,[.acc 1 34]⟩,λx=>F153 uu x.1 x.2.1 x.2.2.1 x.2.2.2.1 x.2.2.2.2.1 x.2.2.2.2.2.1 x.2.2.2.2.2.2.1 x.2.2.2.2.2.2.2,[]⟩
theorem F153ok:okP (F153c uu):=okJ Tryz.f153 24 2 uu _ [] false (qc (F36ok uu)<|q0) p0 L0
def F247 (uu:Nat) (h:Int):Option Bool:=some (bif (decide (h>=1)) then (decide (h<=8)) else false)
def F247c:CallE:=⟨247,⟨1,[],[.int .i64]⟩,⟨1,[],[.bool]⟩,λx=>F247 uu x,false⟩
theorem F247ok:okP (F247c uu):=okJ Tryz.f247 9 0 uu [] [] false q0 p0 L0
def F249 (uu:Nat) :Option PV:=let x1:=(PV.agg [(PV.str ([98,111,111,108]:Bq)),(PV.str ([105,51,50]:Bq)),(PV.str ([105,54,52]:Bq)),(PV.str ([117,51,50]:Bq)),(PV.str ([117,54,52]:Bq)),(PV.str ([100,111,117,98,108,101]:Bq)),(PV.str ([116,101,120,116]:Bq)),(PV.str ([98,121,116,101,115]:Bq))]);some x1
def F249c:CallE:=⟨249,⟨0,[],[]⟩,⟨1,[],[.data 299]⟩,λx=>F249 uu ,PV.bad⟩
theorem F249ok:okP (F249c uu):=okJ Tryz.f249 2 0 uu [] [] false q0 p0 L0
def F214 (h:Int):Option Bq:=bif (bif (decide (h<1)) then true else (decide (h>8))) then some ([]:Bq) else (F249 uu).bind λz=>let o:=IntKind.wrap .i64 (h-1);bif aaa o 8 then some (z.fld o.toNat).asStr else none
def F214c:CallE:=⟨214,⟨1,[],[.int .i64]⟩,⟨1,[],[.str]⟩,λx=>F214 uu x,[]⟩
theorem F214ok:okP (F214c uu):=okJ Tryz.f214 13 0 uu _ [] false (qc (F249ok uu)<|q0) p0 L0
def F257 (uu:Nat) (h:Bq) (o:Bq):Option Bool:=let H:=decide ((h.length:Int)>=(o.length:Int));let z:=(o.length:Int);bif imp H (decide (0<=(0:Int)/\(0:Int)<=z/\z<=(h.length:Int))) then some (bif H then (((h.take z.toNat).drop (0:Int).toNat)==o) else false) else none
def F257c:CallE:=⟨257,⟨2,[],[.str,.str]⟩,⟨1,[],[.bool]⟩,λx=>F257 uu x.1 x.2,false⟩
theorem F257ok:okP (F257c uu):=okJ Tryz.f257 18 0 uu [] [] false q0 p0 L0
def F301 (h:Bq) (z:Bq):Option Bq:=(F257 uu h z).bind λH=>bif H then let o:=(z.length:Int);bif decide (0<=o/\o<=(h.length:Int)/\(h.length:Int)<=(h.length:Int)) then some ((h.take (h.length:Int).toNat).drop o.toNat) else none else some h
def F301c:CallE:=⟨301,⟨2,[],[.str,.str]⟩,⟨1,[],[.str]⟩,λx=>F301 uu x.1 x.2,[]⟩
theorem F301ok:okP (F301c uu):=okJ Tryz.f301 13 0 uu _ [] false (qc (F257ok uu)<|q0) p0 L0
def F281 (h:Bq) (o:Bq):Option Bq:=(F301 uu h o).bind λz=>some z
def F281c:CallE:=⟨281,⟨2,[],[.str,.str]⟩,⟨1,[],[.str]⟩,λx=>F281 uu x.1 x.2,[]⟩
theorem F281ok:okP (F281c uu):=okJ Tryz.f281 8 0 uu _ [] false (qc (F301ok uu)<|q0) p0 L0
def F315 (uu:Nat) (h:Int):Option Int:=bif (bif (decide (h>=97)) then (decide (h<=122)) else false) then some (1:Int) else bif (bif (decide (h>=65)) then (decide (h<=90)) else false) then some (2:Int) else bif (bif (decide (h>=48)) then (decide (h<=57)) else false) then some (3:Int) else bif (h==95) then some (4:Int) else some (0:Int)
def F315c:CallE:=⟨315,⟨1,[],[.int .i32]⟩,⟨1,[],[.int .i64]⟩,λx=>F315 uu x,0⟩
theorem F315ok:okP (F315c uu):=okJ Tryz.f315 27 0 uu [] [] false q0 p0 L0
abbrev S300_3x:=Bq×Unit×Bq×Int
abbrev S300_3y:=(Bool×Bq×Int)⊕(Bq×Bq×Int)
def S300_3 (H:Bq) (I:Unit) (o:Bq) (h:Int):Option (S300_3x⊕S300_3y):=bif (decide (h.toNat<o.length)) then bif decide (h.toNat<o.length) then bif decide (h.toNat<o.length) then (F315 uu ((Utf8.decode ⟨o.toArray⟩ h.toNat).1:Int)).bind λz=>bif (bif (z==0) then true else (bif (bif ((h.toNat:Int)==0) then (z != 1) else false) then (z != 2) else false)) then some (.inr (.inl (false,o,((bif decide (h.toNat<o.length) then h.toNat+(Utf8.decode ⟨o.toArray⟩ h.toNat).2 else h.toNat:Nat):Int)))) else some (.inl (H,(),o,((bif decide (h.toNat<o.length) then h.toNat+(Utf8.decode ⟨o.toArray⟩ h.toNat).2 else h.toNat:Nat):Int))) else none else none else some (.inr (.inr (H,o,((bif decide (h.toNat<o.length) then h.toNat+(Utf8.decode ⟨o.toArray⟩ h.toNat).2 else h.toNat:Nat):Int))))
def S300_3step (x:S300_3x):Option (S300_3x⊕S300_3y):=S300_3 uu x.1 x.2.1 x.2.2.1 x.2.2.2
def F300 (H:Bq):Option Bool:=(aag uu (S300_3step uu) (H,(),H,((0:Nat):Int))).bind λz=>sumE (λo=>some o.1 ) (λh=>some (bif (decide ((h.1.length:Int)>=1)) then (decide ((h.1.length:Int)<=40)) else false) ) z
def S300_3l:LoopE:=⟨3,⟨[0,7],[.iter],.str::(.con (.iref 0))::sv6⟩,[(.ret,⟨[2],[.iter],.bool::sv6⟩),(.exit 0,⟨[0],[.iter],sv7⟩)],S300_3step uu⟩
def F300C:Cfg:=cfg Tryz.prog 36 0 [F315c uu] [S300_3l uu] uu
def F300c:CallE:=⟨300,⟨1,[],[.str]⟩,⟨1,[],[.bool]⟩,λx=>F300 uu x,false⟩
theorem F300k:aam (F300C uu):=aad (qc (F315ok uu)<|q0) p0
theorem S300_3ok:LoopOk (F300C uu) (lp (aaj Tryz.f300) 0):=okL (F300k uu) uu (S300_3l uu) L0
theorem F300ok:okP (F300c uu):=okE Tryz.f300 (F300k uu) (L1 (S300_3ok uu))
abbrev S280_3x:=Bq×(List PV)×Int×Int
abbrev S280_3y:=(Bool)⊕(Bq)
def S280_3 (H:Bq) (o:List PV) (I:Int) (h:Int):Option (S280_3x⊕S280_3y):=bif (decide (h<I)) then bif aaa h o.length then (F300 uu (o.getD h.toNat .bad).asStr).bind λz=>bif (!z) then some (.inr (.inl false)) else some (.inl (H,o,I,(IntKind.wrap .i64 (h+1)))) else none else some (.inr (.inr H))
def S280_3step (x:S280_3x):Option (S280_3x⊕S280_3y):=S280_3 uu x.1 x.2.1 x.2.2.1 x.2.2.2
def F280 (H:Bq):Option Bool:=(anf uu H ([46]:Bq)).bind λI=>(aag uu (S280_3step uu) (H,I,(I.length:Int),(0:Int))).bind λz=>sumE (λh=>some h ) (λo=>some (decide ((o.length:Int)<=120)) ) z
def S280_3l:LoopE:=⟨3,⟨[0,6,7,8],[],.str::(.slice 9)::sv8⟩,[(.ret,⟨[2],[],[.bool]⟩),(.exit 0,⟨[0],[],[.str]⟩)],S280_3step uu⟩
def F280C:Cfg:=cfg Tryz.prog 19 0 [aw7 uu,F300c uu] [S280_3l uu] uu
def F280c:CallE:=⟨280,⟨1,[],[.str]⟩,⟨1,[],[.bool]⟩,λx=>F280 uu x,false⟩
theorem F280k:aam (F280C uu):=aad (qc (a0n uu)<|qc (F300ok uu)<|q0) p0
theorem S280_3ok:LoopOk (F280C uu) (lp (aaj Tryz.f280) 0):=okL (F280k uu) uu (S280_3l uu) L0
theorem F280ok:okP (F280c uu):=okE Tryz.f280 (F280k uu) (L1 (S280_3ok uu))
def F248 (h:Bq):Option Bool:=(F281 uu h ([46]:Bq)).bind λo=>(F280 uu o).bind λz=>some z
def F248c:CallE:=⟨248,⟨1,[],[.str]⟩,⟨1,[],[.bool]⟩,λx=>F248 uu x,false⟩
theorem F248ok:okP (F248c uu):=okJ Tryz.f248 6 0 uu _ [] false (qc (F281ok uu)<|qc (F280ok uu)<|q0) p0 L0
def F212 (h:PV):Option Bq:=(F247 uu (h.fld 0).asInt).bind λH=>bif (bif H then ((h.fld 1).asStr==([]:Bq)) else false) then (F214 uu (h.fld 0).asInt).bind λI=>some I else let o:=bif (bif ((h.fld 0).asInt==0) then true else ((h.fld 0).asInt==9)) then true else ((h.fld 0).asInt==10);(bif o then F248 uu (h.fld 1).asStr else some false).bind λz=>bif (bif o then z else false) then some (h.fld 1).asStr else some ([]:Bq)
def F212c:CallE:=⟨212,⟨1,[],[.data 49]⟩,⟨1,[],[.str]⟩,λx=>F212 uu x,[]⟩
theorem F212ok:okP (F212c uu):=okJ Tryz.f212 36 0 uu _ [] false (qc (F247ok uu)<|qc (F214ok uu)<|qc (F248ok uu)<|q0) p0 L0
def F213 (uu:Nat) (h:Int):Option Bq:=bif (h==1) then some ([114,101,113,117,105,114,101,100]:Bq) else bif (h==2) then some ([111,112,116,105,111,110,97,108]:Bq) else bif (h==3) then some ([112,108,97,105,110]:Bq) else bif (h==4) then some ([108,105,115,116]:Bq) else bif (h==5) then some ([109,97,112]:Bq) else some ([]:Bq)
def F213c:CallE:=⟨213,⟨1,[],[.int .i64]⟩,⟨1,[],[.str]⟩,λx=>F213 uu x,[]⟩
theorem F213ok:okP (F213c uu):=okJ Tryz.f213 14 0 uu [] [] false q0 p0 L0
def F316 (uu:Nat) (h:Bq):Option Bool:=bif (h==([109,101,115,115,97,103,101]:Bq)) then some true else bif (h==([101,110,117,109]:Bq)) then some true else bif (h==([115,101,114,118,105,99,101]:Bq)) then some true else bif (h==([117,110,105,111,110]:Bq)) then some true else bif (h==([109,97,112]:Bq)) then some true else bif (h==([108,105,115,116]:Bq)) then some true else let z:=h==([114,101,113,117,105,114,101,100]:Bq);bif z then some true else let H:=h==([111,112,116,105,111,110,97,108]:Bq);bif H then some true else bif (h==([112,108,97,105,110]:Bq)) then some true else bif (h==([100,101,102,97,117,108,116]:Bq)) then some true else let o:=h==([114,101,115,101,114,118,101,100]:Bq);bif o then some true else bif (h==([105,109,112,111,114,116]:Bq)) then some true else bif (h==([115,112,97,99,101]:Bq)) then some true else bif (h==([114,112,99]:Bq)) then some true else bif (h==([115,116,114,101,97,109]:Bq)) then some true else bif (h==([114,101,116,117,114,110,115]:Bq)) then some true else bif (h==([111,112,101,110]:Bq)) then some true else bif (h==([116,114,117,101]:Bq)) then some true else bif (h==([102,97,108,115,101]:Bq)) then some true else bif (h==([110,97,110]:Bq)) then some true else bif (h==([105,110,102]:Bq)) then some true else some false
def F316c:CallE:=⟨316,⟨1,[],[.str]⟩,⟨1,[],[.bool]⟩,λx=>F316 uu x,false⟩
theorem F316ok:okP (F316c uu):=okJ Tryz.f316 27 0 uu [] [] false q0 p0 L0
def F302 (h:Bq):Option Bool:=(F300 uu h).bind λo=>(bif o then F316 uu h else some false).bind λz=>some (bif o then (!z) else false)
def F302c:CallE:=⟨302,⟨1,[],[.str]⟩,⟨1,[],[.bool]⟩,λx=>F302 uu x,false⟩
theorem F302ok:okP (F302c uu):=okJ Tryz.f302 10 0 uu _ [] false (qc (F300ok uu)<|qc (F316ok uu)<|q0) p0 L0
def F282 (h:PV):Option Bool:=let o:=(h.fld 0).asInt==9;(bif o then F302 uu (h.fld 2).asStr else some false).bind λz=>some (bif (bif (bif o then z else false) then ((h.fld 1).asInt==0) else false) then ((IntKind.wrap .i64 ((IntKind.wrap .i64 ((IntKind.wrap .i64 (((h.fld 3).asList.length:Int)+((h.fld 4).asList.length:Int)))+((h.fld 5).asList.length:Int)))+((h.fld 6).asList.length:Int)))==0) else false)
def F282c:CallE:=⟨282,⟨1,[],[.data 56]⟩,⟨1,[],[.bool]⟩,λx=>F282 uu x,false⟩
theorem F282ok:okP (F282c uu):=okJ Tryz.f282 34 0 uu _ [] false (qc (F302ok uu)<|q0) p0 L0
def F303 (uu:Nat) (h:Int):Option Bool:=some (bif (decide (h>=1)) then (decide (h<=9)) else false)
def F303c:CallE:=⟨303,⟨1,[],[.int .i64]⟩,⟨1,[],[.bool]⟩,λx=>F303 uu x,false⟩
theorem F303ok:okP (F303c uu):=okJ Tryz.f303 9 0 uu [] [] false q0 p0 L0
def F317 (uu:Nat) (h:Int):Option Bool:=some (bif (h==7) then true else (h==8))
def F317c:CallE:=⟨317,⟨1,[],[.int .i64]⟩,⟨1,[],[.bool]⟩,λx=>F317 uu x,false⟩
theorem F317ok:okP (F317c uu):=okJ Tryz.f317 9 0 uu [] [] false q0 p0 L0
def F304 (h:PV):Option Bool:=bif (decide ((IntKind.wrap .i64 ((IntKind.wrap .i64 ((IntKind.wrap .i64 (((h.fld 3).asList.length:Int)+((h.fld 4).asList.length:Int)))+((h.fld 5).asList.length:Int)))+((h.fld 6).asList.length:Int)))>0)) then some false else (F317 uu (h.fld 0).asInt).bind λo=>bif o then some ((h.fld 1).asInt==0) else some ((h.fld 2).asStr==([]:Bq))
def F304c:CallE:=⟨304,⟨1,[],[.data 56]⟩,⟨1,[],[.bool]⟩,λx=>F304 uu x,false⟩
theorem F304ok:okP (F304c uu):=okJ Tryz.f304 28 0 uu _ [] false (qc (F317ok uu)<|q0) p0 L0
def F305 (uu:Nat) (o:Int) (h:Int):Option Bool:=bif (o==1) then some (decide (h<=1)) else bif (o==2) then some (bif (decide ((IntKind.wrap .i64 h)>=(-2147483648:Int))) then (decide ((IntKind.wrap .i64 h)<=2147483647)) else false) else bif (o==9) then some (decide (h<=2147483647)) else bif (o==4) then some (decide (h<=4294967295)) else some true
def F305c:CallE:=⟨305,⟨2,[],[.int .i64,.int .u64]⟩,⟨1,[],[.bool]⟩,λx=>F305 uu x.1 x.2,false⟩
theorem F305ok:okP (F305c uu):=okJ Tryz.f305 28 0 uu [] [] false q0 p0 L0
def F227 (h:Bq) (o:Bq):Option Bool:=(F257 uu h o).bind λz=>some z
def F227c:CallE:=⟨227,⟨2,[],[.str,.str]⟩,⟨1,[],[.bool]⟩,λx=>F227 uu x.1 x.2,false⟩
theorem F227ok:okP (F227c uu):=okJ Tryz.f227 8 0 uu _ [] false (qc (F257ok uu)<|q0) p0 L0
def F166 (h:Bq) (o:Int) (z:Int):Option Bool:=let x1:=z==65533;bif imp x1 (decide (0<=o/\o<=(h.length:Int)/\(h.length:Int)<=(h.length:Int))) then (bif x1 then F227 uu ((h.take (h.length:Int).toNat).drop o.toNat) ([239,191,189]:Bq) else some false).bind λH=>some (bif x1 then (!H) else false) else none
def F166c:CallE:=⟨166,⟨3,[],[.str,.int .i64,.int .i32]⟩,⟨1,[],[.bool]⟩,λx=>F166 uu x.1 x.2.1 x.2.2,false⟩
theorem F166ok:okP (F166c uu):=okJ Tryz.f166 16 0 uu _ [] false (qc (F227ok uu)<|q0) p0 L0
abbrev S318_3x:=Bq×Unit×Bq×Int
abbrev S318_3y:=(Int×Bq×Int)⊕(Bq×Int)
def S318_3 (z:Bq) (J:Unit) (o:Bq) (h:Int):Option (S318_3x⊕S318_3y):=bif (decide (h.toNat<o.length)) then bif decide (h.toNat<o.length) then let H:=(h.toNat:Int);bif decide (h.toNat<o.length) then (F166 uu z H ((Utf8.decode ⟨o.toArray⟩ h.toNat).1:Int)).bind λI=>bif I then some (.inr (.inl (H,o,((bif decide (h.toNat<o.length) then h.toNat+(Utf8.decode ⟨o.toArray⟩ h.toNat).2 else h.toNat:Nat):Int)))) else some (.inl (z,(),o,((bif decide (h.toNat<o.length) then h.toNat+(Utf8.decode ⟨o.toArray⟩ h.toNat).2 else h.toNat:Nat):Int))) else none else none else some (.inr (.inr (o,((bif decide (h.toNat<o.length) then h.toNat+(Utf8.decode ⟨o.toArray⟩ h.toNat).2 else h.toNat:Nat):Int))))
def S318_3step (x:S318_3x):Option (S318_3x⊕S318_3y):=S318_3 uu x.1 x.2.1 x.2.2.1 x.2.2.2
def F318 (h:Bq):Option Int:=(aag uu (S318_3step uu) (h,(),h,((0:Nat):Int))).bind λz=>sumE (λH=>some H.1 ) (λo=>some (-1:Int) ) z
def S318_3l:LoopE:=⟨3,⟨[0,6],[.iter],.str::(.con (.iref 0))::sv6⟩,[(.ret,⟨[2],[.iter],(.int .i64)::sv6⟩),(.exit 0,⟨[],[.iter],sv6⟩)],S318_3step uu⟩
def F318C:Cfg:=cfg Tryz.prog 16 0 [F166c uu] [S318_3l uu] uu
def F318c:CallE:=⟨318,⟨1,[],[.str]⟩,⟨1,[],[.int .i64]⟩,λx=>F318 uu x,0⟩
theorem F318k:aam (F318C uu):=aad (qc (F166ok uu)<|q0) p0
theorem S318_3ok:LoopOk (F318C uu) (lp (aaj Tryz.f318) 0):=okL (F318k uu) uu (S318_3l uu) L0
theorem F318ok:okP (F318c uu):=okE Tryz.f318 (F318k uu) (L1 (S318_3ok uu))
def F306 (h:Bq):Option Bool:=(F318 uu h).bind λo=>some (decide (o<0))
def F306c:CallE:=⟨306,⟨1,[],[.str]⟩,⟨1,[],[.bool]⟩,λx=>F306 uu x,false⟩
theorem F306ok:okP (F306c uu):=okJ Tryz.f306 6 0 uu _ [] false (qc (F318ok uu)<|q0) p0 L0
def F283 (z:Int) (h:PV):Option Bool:=(F303 uu z).bind λO=>let J:=bif (!O) then true else ((h.fld 0).asInt != z);(bif !J then F304 uu h else some false).bind λZ=>let M:=bif J then true else (!Z);(bif !M then F305 uu z (h.fld 1).asInt else some false).bind λH=>bif (bif (bif M then true else (!H)) then true else (decide (((h.fld 2).asStr.length:Int)>4096))) then some false else let o:=z != 7;(bif !o then F306 uu (h.fld 2).asStr else some false).bind λI=>some (bif o then true else I)
def F283c:CallE:=⟨283,⟨2,[],[.int .i64,.data 56]⟩,⟨1,[],[.bool]⟩,λx=>F283 uu x.1 x.2,false⟩
theorem F283ok:okP (F283c uu):=okJ Tryz.f283 39 0 uu _ [] false (qc (F303ok uu)<|qc (F304ok uu)<|qc (F305ok uu)<|qc (F306ok uu)<|q0) p0 L0
def F319 (uu:Nat) (h:Bool):Option Bq:=bif h then some ([116,114,117,101]:Bq) else some ([102,97,108,115,101]:Bq)
def F319c:CallE:=⟨319,⟨1,[],[.bool]⟩,⟨1,[],[.str]⟩,λx=>F319 uu x,[]⟩
theorem F319ok:okP (F319c uu):=okJ Tryz.f319 4 0 uu [] [] false q0 p0 L0
def F307 (h:Bool):Option Bq:=(F319 uu h).bind λo=>some o
def F307c:CallE:=⟨307,⟨1,[],[.bool]⟩,⟨1,[],[.str]⟩,λx=>F307 uu x,[]⟩
theorem F307ok:okP (F307c uu):=okJ Tryz.f307 5 0 uu _ [] false (qc (F319ok uu)<|q0) p0 L0
def F320 (uu:Nat) (h:Int):Option Int:=let x1:=agi .and .u64 h (9218868437227405312:Int);let o:=agi .and .u64 h (4503599627370495:Int);bif (bif (x1==9218868437227405312) then (o != 0) else false) then some (0:Int) else bif (x1==9218868437227405312) then some (1:Int) else bif (bif (x1==0) then (o==0) else false) then some (2:Int) else bif (x1==0) then some (3:Int) else some (4:Int)
def F320c:CallE:=⟨320,⟨1,[],[.int .u64]⟩,⟨1,[],[.int .i64]⟩,λx=>F320 uu x,0⟩
theorem F320ok:okP (F320c uu):=okJ Tryz.f320 29 0 uu [] [] false q0 p0 L0
def F310 (h:Int) (o:Int):Option Bq:=(Lfmt uu h o).bind λz=>some z
def F310c:CallE:=⟨310,⟨2,[],[.int .u64,.int .i64]⟩,⟨1,[],[.str]⟩,λx=>F310 uu x.1 x.2,[]⟩
theorem F310ok:okP (F310c uu):=okJ Tryz.f310 8 0 uu _ [] false (qc (a68 uu)<|q0) p0 L0
def F308 (o:Int):Option Bq:=(F320 uu o).bind λz=>bif (z==0) then some ([110,97,110]:Bq) else bif (bif (z==1) then ((agi .and .u64 o (9223372036854775808:Int)) != 0) else false) then some ([45,105,110,102]:Bq) else bif (z==1) then some ([105,110,102]:Bq) else (F310 uu o (16:Int)).bind λH=>(ajh uu ([48]:Bq) (IntKind.wrap .i64 ((16:Int)-(H.length:Int)))).bind λh=>bif decide (([48,120]:Bq).length+h.length<=aan) then bif decide ((([48,120]:Bq)++h).length+H.length<=aan) then some ((([48,120]:Bq)++h)++H) else none else none
def F308c:CallE:=⟨308,⟨1,[],[.int .u64]⟩,⟨1,[],[.str]⟩,λx=>F308 uu x,[]⟩
theorem F308ok:okP (F308c uu):=okJ Tryz.f308 30 0 uu _ [] false (qc (F320ok uu)<|qc (F310ok uu)<|qc (aw6 uu)<|q0) p0 L0
def F167 (uu:Nat) (h:Int):Option Bq:=let x1:=h.fdiv (2^(min (4:Int).toNat (IntKind.bits .u8)));let o:=IntKind.wrap .u8 ((h.fdiv (2^(min (4:Int).toNat (IntKind.bits .u8))))+1);bif decide (0<=x1/\x1<=o/\o<=(([48,49,50,51,52,53,54,55,56,57,97,98,99,100,101,102]:Bq).length:Int)) then let z:=(([48,49,50,51,52,53,54,55,56,57,97,98,99,100,101,102]:Bq).take o.toNat).drop x1.toNat;bif decide (([92,120]:Bq).length+z.length<=aan) then let H:=agi .and .u8 h (15:Int);let I:=IntKind.wrap .u8 ((agi .and .u8 h (15:Int))+1);bif decide (0<=H/\H<=I/\I<=(([48,49,50,51,52,53,54,55,56,57,97,98,99,100,101,102]:Bq).length:Int)) then let J:=(([48,49,50,51,52,53,54,55,56,57,97,98,99,100,101,102]:Bq).take I.toNat).drop H.toNat;bif decide ((([92,120]:Bq)++z).length+J.length<=aan) then some ((([92,120]:Bq)++z)++J) else none else none else none else none
def F167c:CallE:=⟨167,⟨1,[],[.int .u8]⟩,⟨1,[],[.str]⟩,λx=>F167 uu x,[]⟩
theorem F167ok:okP (F167c uu):=okJ Tryz.f167 17 0 uu [] [] false q0 p0 L0
def F103 (o:Bq) (z:Int) (h:Int):Option Bq:=bif (h==34) then some ([92,34]:Bq) else bif (h==92) then some ([92,92]:Bq) else bif (h==10) then some ([92,110]:Bq) else bif (h==9) then some ([92,116]:Bq) else bif (h==13) then some ([92,114]:Bq) else let I:=bif (decide (h<32)) then true else (h==127);(bif !I then F166 uu o z h else some false).bind λJ=>bif (bif I then true else J) then bif aaa z o.length then (F167 uu ((o.getD z.toNat 0).toNat:Int)).bind λH=>some H else none else some ((Utf8.encode h).data.toList)
def F103c:CallE:=⟨103,⟨3,[],[.str,.int .i64,.int .i32]⟩,⟨1,[],[.str]⟩,λx=>F103 uu x.1 x.2.1 x.2.2,[]⟩
theorem F103ok:okP (F103c uu):=okJ Tryz.f103 41 0 uu _ [] false (qc (F166ok uu)<|qc (F167ok uu)<|q0) p0 L0
abbrev S53_5x:=Bq×Unit×Unit×Bq×Bq×Int
abbrev S53_5y:=(Unit×Bq×Bq×Int)
def S53_5 (I:Bq) (M:Unit) (O:Unit) (J:Bq) (o:Bq) (h:Int):Option (S53_5x⊕S53_5y):=bif (decide (h.toNat<o.length)) then bif decide (h.toNat<o.length) then bif decide (h.toNat<o.length) then (F103 uu I (h.toNat:Int) ((Utf8.decode ⟨o.toArray⟩ h.toNat).1:Int)).bind λz=>(abo uu z J).bind λH=>some (.inl (I,(),(),H.2.2,o,((bif decide (h.toNat<o.length) then h.toNat+(Utf8.decode ⟨o.toArray⟩ h.toNat).2 else h.toNat:Nat):Int))) else none else none else some (.inr ((),J,o,((bif decide (h.toNat<o.length) then h.toNat+(Utf8.decode ⟨o.toArray⟩ h.toNat).2 else h.toNat:Nat):Int)))
def S53_5step (x:S53_5x):Option (S53_5x⊕S53_5y):=S53_5 uu x.1 x.2.1 x.2.2.1 x.2.2.2.1 x.2.2.2.2.1 x.2.2.2.2.2
def F53 (H:Bq):Option Bq:=(abo uu ([34]:Bq) []).bind λI=>(aag uu (S53_5step uu) (H,(),(),I.2.2,H,((0:Nat):Int))).bind λh=>(abo uu ([34]:Bq) h.2.1).bind λo=>(aoa uu o.2.2).bind λz=>some z.1
def S53_5l:LoopE:=⟨5,⟨[0,3,8],[.bld 89,.iter],.str::(.con (.bref 0 89))::(.con (.iref 1))::sv7⟩,[(.exit 0,⟨[3],[.bld 89,.iter],(.con (.bref 0 89))::sv7⟩)],S53_5step uu⟩
def F53C:Cfg:=cfg Tryz.prog 20 0 [ado uu,F103c uu,ah5 uu] [S53_5l uu] uu
def F53c:CallE:=⟨53,⟨1,[],[.str]⟩,⟨1,[],[.str]⟩,λx=>F53 uu x,[]⟩
theorem F53k:aam (F53C uu):=aad (qc (ae1 uu)<|qc (F103ok uu)<|qc (akc uu)<|q0) p0
theorem S53_5ok:LoopOk (F53C uu) (lp (aaj Tryz.f53) 0):=okL (F53k uu) uu (S53_5l uu) L0
theorem F53ok:okP (F53c uu):=okE Tryz.f53 (F53k uu) (L1 (S53_5ok uu))
abbrev S309_4x:=Bq×(List PV)×Int×Int
abbrev S309_4y:=((List PV))
def S309_4 (uu:Nat) (o:Bq) (M:List PV) (O:Int) (h:Int):Option (S309_4x⊕S309_4y):=bif (decide (h<O)) then bif aaa h o.length then let z:=((o.getD h.toNat 0).toNat:Int).fdiv (2^(min (4:Int).toNat (IntKind.bits .u8)));bif aaa z (([48,49,50,51,52,53,54,55,56,57,97,98,99,100,101,102]:Bq).length) then let H:=((([48,49,50,51,52,53,54,55,56,57,97,98,99,100,101,102]:Bq).getD z.toNat 0).toNat:Int);bif aaa h o.length then let I:=agi .and .u8 ((o.getD h.toNat 0).toNat:Int) (15:Int);bif aaa I (([48,49,50,51,52,53,54,55,56,57,97,98,99,100,101,102]:Bq).length) then let J:=((([48,49,50,51,52,53,54,55,56,57,97,98,99,100,101,102]:Bq).getD I.toNat 0).toNat:Int);bif decide (M.length+[(PV.int H),(PV.int J)].length<=aae) then some (.inl (o,(M++[(PV.int H),(PV.int J)]),O,(IntKind.wrap .i64 (h+1)))) else none else none else none else none else none else some (.inr M)
def S309_4step (x:S309_4x):Option (S309_4x⊕S309_4y):=S309_4 uu x.1 x.2.1 x.2.2.1 x.2.2.2
def F309 (h:Bq):Option Bq:=let z:=IntKind.wrap .i64 ((2:Int)*(h.length:Int));bif decide (0<=z/\z<=aae) then (aag uu (S309_4step uu) (h,[],(h.length:Int),(0:Int))).bind λo=>some (o.map aax) else none
def S309_4l:LoopE:=⟨4,⟨[0,3,10,11],[.acc],.str::(.acc 0 5)::sv8⟩,[(.exit 0,⟨[3],[.acc],[.acc 0 5]⟩)],S309_4step uu⟩
def F309C:Cfg:=cfg Tryz.prog 30 0 [] [S309_4l uu] uu
def F309c:CallE:=⟨309,⟨1,[],[.str]⟩,⟨1,[],[.str]⟩,λx=>F309 uu x,[]⟩
theorem F309k:aam (F309C uu):=aad q0 p0
theorem S309_4ok:LoopOk (F309C uu) (lp (aaj Tryz.f309) 0):=okL (F309k uu) uu (S309_4l uu) L0
theorem F309ok:okP (F309c uu):=okE Tryz.f309 (F309k uu) (L1 (S309_4ok uu))
def F284 (h:PV):Option Bq:=(F283 uu (h.fld 0).asInt h).bind λy2=>bif (!y2) then some ([]:Bq) else let o:=(h.fld 0).asInt;bif (o==1) then (F307 uu ((h.fld 1).asInt==1)).bind λy8=>some y8 else bif (o==2) then (apy uu (IntKind.wrap .i64 (h.fld 1).asInt)).bind λH=>some H else bif (o==3) then (apy uu (IntKind.wrap .i64 (h.fld 1).asInt)).bind λI=>some I else bif (o==6) then (F308 uu (h.fld 1).asInt).bind λJ=>some J else bif (o==7) then (F53 uu (h.fld 2).asStr).bind λM=>some M else bif (o==8) then (F309 uu (h.fld 2).asStr).bind λO=>(F53 uu O).bind λz=>bif decide (([120]:Bq).length+z.length<=aan) then some (([120]:Bq)++z) else none else (F310 uu (h.fld 1).asInt (10:Int)).bind λZ=>some Z
def F284c:CallE:=⟨284,⟨1,[],[.data 56]⟩,⟨1,[],[.str]⟩,λx=>F284 uu x,[]⟩
theorem F284ok:okP (F284c uu):=okJ Tryz.f284 43 0 uu _ [] false (qc (F283ok uu)<|qc (F307ok uu)<|qc (aw5 uu)<|qc (F308ok uu)<|qc (F53ok uu)<|qc (F309ok uu)<|qc (F310ok uu)<|q0) p0 L0
def F250 (h:PV):Option Bq:=(F282 uu h).bind λI=>bif I then some (h.fld 2).asStr else (F283 uu (h.fld 0).asInt h).bind λJ=>bif (!J) then some ([]:Bq) else bif (bif ((h.fld 0).asInt==6) then true else ((h.fld 0).asInt==8)) then (F284 uu h).bind λo=>(F53 uu o).bind λz=>some z else (F284 uu h).bind λH=>some H
def F250c:CallE:=⟨250,⟨1,[],[.data 56]⟩,⟨1,[],[.str]⟩,λx=>F250 uu x,[]⟩
theorem F250ok:okP (F250c uu):=okJ Tryz.f250 28 0 uu _ [] false (qc (F282ok uu)<|qc (F283ok uu)<|qc (F284ok uu)<|qc (F53ok uu)<|q0) p0 L0
def F215 (h:PV):Option Bq:=bif (!(h.fld 6).asBool) then some ([]:Bq) else (F250 uu (h.fld 7)).bind λo=>some o
def F215c:CallE:=⟨215,⟨1,[],[.data 59]⟩,⟨1,[],[.str]⟩,λx=>F215 uu x,[]⟩
theorem F215ok:okP (F215c uu):=okJ Tryz.f215 9 0 uu _ [] false (qc (F250ok uu)<|q0) p0 L0
def F152 (a0:Unit) (I:Bq) (h:PV) (o:PV) (a4:List PV):Option ((List PV)):=(F153 uu () (5:Int) I (h.fld 0).asInt (h.fld 1).asStr (o.fld 1).asStr (!((h.fld 1).asStr==(o.fld 1).asStr)) a4).bind λy7=>(F212 uu (h.fld 4)).bind λJ=>(F212 uu (o.fld 4)).bind λM=>(F153 uu () (6:Int) I (h.fld 0).asInt J M (bif ((((h.fld 4).fld 0).asInt) != (((o.fld 4).fld 0).asInt)) then true else (!((((h.fld 4).fld 1).asStr)==(((o.fld 4).fld 1).asStr)))) y7).bind λO=>(F213 uu (h.fld 2).asInt).bind λZ=>(F213 uu (o.fld 2).asInt).bind λaa=>(F153 uu () (7:Int) I (h.fld 0).asInt Z aa ((h.fld 2).asInt != (o.fld 2).asInt) O).bind λab=>(F214 uu (h.fld 3).asInt).bind λad=>(F214 uu (o.fld 3).asInt).bind λae=>(F153 uu () (8:Int) I (h.fld 0).asInt ad ae ((h.fld 3).asInt != (o.fld 3).asInt) ab).bind λaf=>(F153 uu () (9:Int) I (h.fld 0).asInt (h.fld 5).asStr (o.fld 5).asStr (!((h.fld 5).asStr==(o.fld 5).asStr)) af).bind λag=>let z:=h.fld 7;let H:=o.fld 7;(F215 uu h).bind λah=>(F215 uu o).bind λai=>(F153 uu () (10:Int) I (h.fld 0).asInt ah ai (bif (bif (bif (!((h.fld 6).asBool==(o.fld 6).asBool)) then true else ((z.fld 0).asInt != (H.fld 0).asInt)) then true else ((z.fld 1).asInt != (H.fld 1).asInt)) then true else (!((z.fld 2).asStr==(H.fld 2).asStr))) ag).bind λaj=>some aj
def F152c:CallE:=⟨152,⟨4,bx5,[(.con (.ref 0 [] 66)),.str,.data 59,.data 59,.acc 1 34]⟩,⟨0,bx5,[.acc 1 34]⟩,λx=>F152 uu x.1 x.2.1 x.2.2.1 x.2.2.2.1 x.2.2.2.2,[]⟩
theorem F152ok:okP (F152c uu):=okJ Tryz.f152 136 2 uu _ [] false (qc (F153ok uu)<|qc (F212ok uu)<|qc (F213ok uu)<|qc (F214ok uu)<|qc (F215ok uu)<|q0) p0 L0
abbrev S82_3x:=Unit×Unit×Unit×(List PV)×Int×Int×(List PV)×PV×PV
abbrev S82_3y:=(Unit×Unit×Unit×(List PV)×PV×PV)
def S82_3 (a3:Unit) (a4:Unit) (a5:Unit) (J:List PV) (M:Int) (H:Int) (O:List PV) (h:PV) (o:PV):Option (S82_3x⊕S82_3y):=bif (decide (H<M)) then bif aaa H J.length then let z:=J.getD H.toNat .bad;(F129 uu o (z.fld 0).asInt).bind λI=>bif I.2 then (F152 uu () (h.fld 0).asStr z I.1 O).bind λZ=>some (.inl ((),(),(),J,M,(IntKind.wrap .i64 (H+1)),Z,h,o)) else (F36 uu () [(PV.agg [(PV.int (3:Int)),(PV.str (h.fld 0).asStr),(PV.int (z.fld 0).asInt),(PV.str (z.fld 1).asStr),(PV.str ([]:Bq))])] O).bind λaa=>some (.inl ((),(),(),J,M,(IntKind.wrap .i64 (H+1)),aa,h,o)) else none else some (.inr ((),(),(),O,h,o))
def S82_3step (x:S82_3x):Option (S82_3x⊕S82_3y):=S82_3 uu x.1 x.2.1 x.2.2.1 x.2.2.2.1 x.2.2.2.2.1 x.2.2.2.2.2.1 x.2.2.2.2.2.2.1 x.2.2.2.2.2.2.2.1 x.2.2.2.2.2.2.2.2
abbrev S82_11x:=Unit×Unit×(List PV)×Int×Int×(List PV)×PV×PV
abbrev S82_11y:=((List PV)×PV×PV)
def S82_11 (aa:Unit) (ab:Unit) (z:List PV) (H:Int) (h:Int) (I:List PV) (o:PV) (J:PV):Option (S82_11x⊕S82_11y):=bif (decide (h<H)) then bif aaa h z.length then let M:=z.getD h.toNat .bad;(F129 uu o (M.fld 0).asInt).bind λO=>bif (!O.2) then (F36 uu () [(PV.agg [(PV.int (4:Int)),(PV.str (o.fld 0).asStr),(PV.int (M.fld 0).asInt),(PV.str ([]:Bq)),(PV.str (M.fld 1).asStr)])] I).bind λZ=>some (.inl ((),(),z,H,(IntKind.wrap .i64 (h+1)),Z,o,J)) else some (.inl ((),(),z,H,(IntKind.wrap .i64 (h+1)),I,o,J)) else none else some (.inr (I,o,J))
def S82_11step (x:S82_11x):Option (S82_11x⊕S82_11y):=S82_11 uu x.1 x.2.1 x.2.2.1 x.2.2.2.1 x.2.2.2.2.1 x.2.2.2.2.2.1 x.2.2.2.2.2.2.1 x.2.2.2.2.2.2.2
def F82 (M:Unit) (H:PV) (I:PV) (J:List PV):Option ((List PV)):=let x1:=(H.fld 1).asList;(aag uu (S82_3step uu) ((),(),(),x1,(x1.length:Int),(0:Int),J,H,I)).bind λh=>let o:=(h.2.2.2.2.2.fld 1).asList;(aag uu (S82_11step uu) ((),(),o,(o.length:Int),(0:Int),h.2.2.2.1,h.2.2.2.2.1,h.2.2.2.2.2)).bind λz=>some z.1
def S82_3l:LoopE:=⟨3,⟨[0,4,5,15,16,17],bx6,(.con (.ref 0 [] 66))::(.con (.ref 2 [] 63))::(.con (.ref 3 [] 63))::(.slice 59)::(.int .i64)::(.int .i64)::sv9⟩,[(.exit 0,⟨[0,4,5],bx6,(.con (.ref 0 [] 66))::(.con (.ref 2 [] 63))::(.con (.ref 3 [] 63))::sv9⟩)],S82_3step uu⟩
def S82_11l:LoopE:=⟨11,⟨[0,4,47,48,49],bx6,(.con (.ref 0 [] 66))::(.con (.ref 2 [] 63))::(.slice 59)::(.int .i64)::(.int .i64)::sv9⟩,[(.exit 2,⟨[],bx6,sv9⟩)],S82_11step uu⟩
def F82C:Cfg:=cfg Tryz.prog 73 2 [F129c uu,F152c uu,F36c uu] [S82_3l uu,S82_11l uu] uu
def F82c:CallE:=⟨82,⟨3,bx5,[(.con (.ref 0 [] 66)),.data 63,.data 63,.acc 1 34]⟩,⟨0,bx5,[.acc 1 34]⟩,λx=>F82 uu x.1 x.2.1 x.2.2.1 x.2.2.2,[]⟩
theorem F82k:aam (F82C uu):=aad (qc (F129ok uu)<|qc (F152ok uu)<|qc (F36ok uu)<|q0) p0
theorem S82_3ok:LoopOk (F82C uu) (lp (aaj Tryz.f82) 0):=okL (F82k uu) uu (S82_3l uu) L0
theorem S82_11ok:LoopOk (F82C uu) (lp (aaj Tryz.f82) 1):=okL (F82k uu) uu (S82_11l uu) L0
theorem F82ok:okP (F82c uu):=okE Tryz.f82 (F82k uu) (L2 (S82_3ok uu) (S82_11ok uu))
def F88 (uu:Nat) (o:PV) (z:Unit) (h:Bq):Option (Bool×Bq):=some (((o.fld 0).asStr==h),h)
def F88c:CallE:=⟨88,⟨2,bx1,(.data 73)::sv0⟩,⟨1,bx1,[.bool,.str]⟩,λx=>F88 uu x.1 x.2.1 x.2.2,(false,[])⟩
theorem F88ok:okP (F88c uu):=okJ Tryz.f88 8 1 uu [] [] false q0 p0 L0
abbrev S87_3x:=Unit×Unit×(List PV)×Int×Int×Bq×PV
abbrev S87_3y:=(Unit×Bool×Bq×PV)⊕(Unit×Bq×PV)
def S87_3 (O:Unit) (Z:Unit) (H:List PV) (I:Int) (z:Int) (J:Bq) (M:PV):Option (S87_3x⊕S87_3y):=bif (decide (z<I)) then bif aaa z H.length then let o:=H.getD z.toNat .bad;(F88 uu o () J).bind λh=>bif h.1 then some (.inr (.inl ((),true,h.2,o))) else some (.inl ((),(),H,I,(IntKind.wrap .i64 (z+1)),h.2,M)) else none else some (.inr (.inr ((),J,M)))
def S87_3step (x:S87_3x):Option (S87_3x⊕S87_3y):=S87_3 uu x.1 x.2.1 x.2.2.1 x.2.2.2.1 x.2.2.2.2.1 x.2.2.2.2.2.1 x.2.2.2.2.2.2
def F87 (H:List PV) (J:Unit) (I:Bq):Option (PV×Bool×Bq):=(aag uu (S87_3step uu) ((),(),H,(H.length:Int),(0:Int),I,(PV.agg [(PV.str ([]:Bq)),(PV.bool false),(PV.slice []),(PV.slice []),(PV.slice [])]))).bind λz=>sumE (λh=>some (h.2.2.2,h.2.1,h.2.2.1) ) (λo=>some ((PV.agg [(PV.str ([]:Bq)),(PV.bool false),(PV.slice []),(PV.slice []),(PV.slice [])]),false,o.2.1) ) z
def S87_3l:LoopE:=⟨3,⟨[1,4,9,10,11],bx7,(.con (.fn 88 0 [(.ref 0 [] 9)]))::(.con (.ref 1 [] 73))::(.slice 73)::(.int .i64)::(.int .i64)::sv10⟩,[(.ret,⟨[4,5],bx7,(.con (.ref 1 [] 73))::.bool::sv10⟩),(.exit 0,⟨[4],bx7,(.con (.ref 1 [] 73))::sv10⟩)],S87_3step uu⟩
def F87C:Cfg:=cfg Tryz.prog 21 1 [F88c uu] [S87_3l uu] uu
def F87c:CallE:=⟨87,⟨2,bx1,[.slice 73,(.con (.fn 88 0 [(.ref 0 [] 9)])),.str]⟩,⟨2,bx1,[.data 73,.bool,.str]⟩,λx=>F87 uu x.1 x.2.1 x.2.2,(PV.bad,false,[])⟩
theorem F87k:aam (F87C uu):=aad (qc (F88ok uu)<|q0) p0
theorem S87_3ok:LoopOk (F87C uu) (lp (aaj Tryz.f87) 0):=okL (F87k uu) uu (S87_3l uu) L0
theorem F87ok:okP (F87c uu):=okE Tryz.f87 (F87k uu) (L1 (S87_3ok uu))
def F37 (o:PV) (z:Bq):Option (PV×Bool):=(F87 uu (o.fld 1).asList () z).bind λh=>some (h.1,h.2.1)
def F37c:CallE:=⟨37,⟨2,[],sv2⟩,⟨2,[],[.data 73,.bool]⟩,λx=>F37 uu x.1 x.2,(PV.bad,false)⟩
theorem F37ok:okP (F37c uu):=okJ Tryz.f37 12 0 uu _ [] false (qc (F87ok uu)<|q0) p0 L0
def F154 (uu:Nat) (h:Bool):Option Bq:=bif h then some ([111,112,101,110]:Bq) else some ([99,108,111,115,101,100]:Bq)
def F154c:CallE:=⟨154,⟨1,[],[.bool]⟩,⟨1,[],[.str]⟩,λx=>F154 uu x,[]⟩
theorem F154ok:okP (F154c uu):=okJ Tryz.f154 4 0 uu [] [] false q0 p0 L0
def F196 (uu:Nat) (o:PV) (z:Unit) (h:Int):Option (Bool×Int):=some (((o.fld 1).asInt==h),h)
def F196c:CallE:=⟨196,⟨2,bx3,[.data 103,(.con (.ref 0 [] 3)),.int .i64]⟩,⟨1,bx3,sv3⟩,λx=>F196 uu x.1 x.2.1 x.2.2,(false,0)⟩
theorem F196ok:okP (F196c uu):=okJ Tryz.f196 8 1 uu [] [] false q0 p0 L0
abbrev S195_3x:=Unit×Unit×(List PV)×Int×Int×Int×PV
abbrev S195_3y:=(Unit×Bool×Int×PV)⊕(Unit×Int×PV)
def S195_3 (O:Unit) (Z:Unit) (H:List PV) (I:Int) (z:Int) (J:Int) (M:PV):Option (S195_3x⊕S195_3y):=bif (decide (z<I)) then bif aaa z H.length then let o:=H.getD z.toNat .bad;(F196 uu o () J).bind λh=>bif h.1 then some (.inr (.inl ((),true,h.2,o))) else some (.inl ((),(),H,I,(IntKind.wrap .i64 (z+1)),h.2,M)) else none else some (.inr (.inr ((),J,M)))
def S195_3step (x:S195_3x):Option (S195_3x⊕S195_3y):=S195_3 uu x.1 x.2.1 x.2.2.1 x.2.2.2.1 x.2.2.2.2.1 x.2.2.2.2.2.1 x.2.2.2.2.2.2
def F195 (H:List PV) (J:Unit) (I:Int):Option (PV×Bool×Int):=(aag uu (S195_3step uu) ((),(),H,(H.length:Int),(0:Int),I,(PV.agg [(PV.str ([]:Bq)),(PV.int (0:Int)),(PV.slice [])]))).bind λz=>sumE (λh=>some (h.2.2.2,h.2.1,h.2.2.1) ) (λo=>some ((PV.agg [(PV.str ([]:Bq)),(PV.int (0:Int)),(PV.slice [])]),false,o.2.1) ) z
def S195_3l:LoopE:=⟨3,⟨[1,4,9,10,11],bx8,(.con (.fn 196 0 [(.ref 0 [] 3)]))::(.con (.ref 1 [] 103))::(.slice 103)::(.int .i64)::(.int .i64)::sv11⟩,[(.ret,⟨[4,5],bx8,(.con (.ref 1 [] 103))::.bool::sv11⟩),(.exit 0,⟨[4],bx8,(.con (.ref 1 [] 103))::sv11⟩)],S195_3step uu⟩
def F195C:Cfg:=cfg Tryz.prog 21 1 [F196c uu] [S195_3l uu] uu
def F195c:CallE:=⟨195,⟨2,bx3,[.slice 103,(.con (.fn 196 0 [(.ref 0 [] 3)])),.int .i64]⟩,⟨2,bx3,(.data 103)::sv3⟩,λx=>F195 uu x.1 x.2.1 x.2.2,(PV.bad,false,0)⟩
theorem F195k:aam (F195C uu):=aad (qc (F196ok uu)<|q0) p0
theorem S195_3ok:LoopOk (F195C uu) (lp (aaj Tryz.f195) 0):=okL (F195k uu) uu (S195_3l uu) L0
theorem F195ok:okP (F195c uu):=okE Tryz.f195 (F195k uu) (L1 (S195_3ok uu))
def F130 (o:PV) (z:Int):Option (PV×Bool):=(F195 uu (o.fld 2).asList () z).bind λh=>some (h.1,h.2.1)
def F130c:CallE:=⟨130,⟨2,[],[.data 73,.int .i64]⟩,⟨2,[],[.data 103,.bool]⟩,λx=>F130 uu x.1 x.2,(PV.bad,false)⟩
theorem F130ok:okP (F130c uu):=okJ Tryz.f130 12 0 uu _ [] false (qc (F195ok uu)<|q0) p0 L0
abbrev S83_4x:=Unit×Unit×Unit×(List PV)×Int×Int×(List PV)×PV×PV
abbrev S83_4y:=(Unit×Unit×Unit×(List PV)×PV×PV)
def S83_4 (ad:Unit) (ae:Unit) (af:Unit) (H:List PV) (J:Int) (o:Int) (M:List PV) (z:PV) (I:PV):Option (S83_4x⊕S83_4y):=bif (decide (o<J)) then bif aaa o H.length then let h:=H.getD o.toNat .bad;(F130 uu I (h.fld 1).asInt).bind λZ=>let O:=Z.1;bif Z.2 then (F153 uu () (16:Int) (z.fld 0).asStr (h.fld 1).asInt (h.fld 0).asStr (O.fld 0).asStr (!((h.fld 0).asStr==(O.fld 0).asStr)) M).bind λaa=>some (.inl ((),(),(),H,J,(IntKind.wrap .i64 (o+1)),aa,z,I)) else (F36 uu () [(PV.agg [(PV.int (14:Int)),(PV.str (z.fld 0).asStr),(PV.int (h.fld 1).asInt),(PV.str (h.fld 0).asStr),(PV.str ([]:Bq))])] M).bind λab=>some (.inl ((),(),(),H,J,(IntKind.wrap .i64 (o+1)),ab,z,I)) else none else some (.inr ((),(),(),M,z,I))
def S83_4step (x:S83_4x):Option (S83_4x⊕S83_4y):=S83_4 uu x.1 x.2.1 x.2.2.1 x.2.2.2.1 x.2.2.2.2.1 x.2.2.2.2.2.1 x.2.2.2.2.2.2.1 x.2.2.2.2.2.2.2.1 x.2.2.2.2.2.2.2.2
abbrev S83_12x:=Unit×Unit×(List PV)×Int×Int×(List PV)×PV×PV
abbrev S83_12y:=((List PV)×PV×PV)
def S83_12 (aa:Unit) (ab:Unit) (z:List PV) (H:Int) (h:Int) (I:List PV) (o:PV) (J:PV):Option (S83_12x⊕S83_12y):=bif (decide (h<H)) then bif aaa h z.length then let M:=z.getD h.toNat .bad;(F130 uu o (M.fld 1).asInt).bind λO=>bif (!O.2) then (F36 uu () [(PV.agg [(PV.int (15:Int)),(PV.str (o.fld 0).asStr),(PV.int (M.fld 1).asInt),(PV.str ([]:Bq)),(PV.str (M.fld 0).asStr)])] I).bind λZ=>some (.inl ((),(),z,H,(IntKind.wrap .i64 (h+1)),Z,o,J)) else some (.inl ((),(),z,H,(IntKind.wrap .i64 (h+1)),I,o,J)) else none else some (.inr (I,o,J))
def S83_12step (x:S83_12x):Option (S83_12x⊕S83_12y):=S83_12 uu x.1 x.2.1 x.2.2.1 x.2.2.2.1 x.2.2.2.2.1 x.2.2.2.2.2.1 x.2.2.2.2.2.2.1 x.2.2.2.2.2.2.2
def F83 (a0:Unit) (o:PV) (I:PV) (M:List PV):Option ((List PV)):=(F154 uu (o.fld 1).asBool).bind λO=>(F154 uu (I.fld 1).asBool).bind λZ=>(F153 uu () (13:Int) (o.fld 0).asStr (-1:Int) O Z (!((o.fld 1).asBool==(I.fld 1).asBool)) M).bind λy9=>let z:=(o.fld 2).asList;(aag uu (S83_4step uu) ((),(),(),z,(z.length:Int),(0:Int),y9,o,I)).bind λh=>let H:=(h.2.2.2.2.2.fld 2).asList;(aag uu (S83_12step uu) ((),(),H,(H.length:Int),(0:Int),h.2.2.2.1,h.2.2.2.2.1,h.2.2.2.2.2)).bind λJ=>some J.1
def S83_4l:LoopE:=⟨4,⟨[0,4,5,30,31,32],bx9,(.con (.ref 0 [] 66))::(.con (.ref 2 [] 73))::(.con (.ref 3 [] 73))::(.slice 103)::(.int .i64)::(.int .i64)::sv12⟩,[(.exit 0,⟨[0,4,5],bx9,(.con (.ref 0 [] 66))::(.con (.ref 2 [] 73))::(.con (.ref 3 [] 73))::sv12⟩)],S83_4step uu⟩
def S83_12l:LoopE:=⟨12,⟨[0,4,71,72,73],bx9,(.con (.ref 0 [] 66))::(.con (.ref 2 [] 73))::(.slice 103)::(.int .i64)::(.int .i64)::sv12⟩,[(.exit 2,⟨[],bx9,sv12⟩)],S83_12step uu⟩
def F83C:Cfg:=cfg Tryz.prog 97 2 [F154c uu,F153c uu,F130c uu,F36c uu] [S83_4l uu,S83_12l uu] uu
def F83c:CallE:=⟨83,⟨3,bx5,[(.con (.ref 0 [] 66)),.data 73,.data 73,.acc 1 34]⟩,⟨0,bx5,[.acc 1 34]⟩,λx=>F83 uu x.1 x.2.1 x.2.2.1 x.2.2.2,[]⟩
theorem F83k:aam (F83C uu):=aad (qc (F154ok uu)<|qc (F153ok uu)<|qc (F130ok uu)<|qc (F36ok uu)<|q0) p0
theorem S83_4ok:LoopOk (F83C uu) (lp (aaj Tryz.f83) 0):=okL (F83k uu) uu (S83_4l uu) L0
theorem S83_12ok:LoopOk (F83C uu) (lp (aaj Tryz.f83) 1):=okL (F83k uu) uu (S83_12l uu) L0
theorem F83ok:okP (F83c uu):=okE Tryz.f83 (F83k uu) (L2 (S83_4ok uu) (S83_12ok uu))
def F90 (uu:Nat) (o:PV) (z:Unit) (h:Bq):Option (Bool×Bq):=some (((o.fld 0).asStr==h),h)
def F90c:CallE:=⟨90,⟨2,bx1,(.data 78)::sv0⟩,⟨1,bx1,[.bool,.str]⟩,λx=>F90 uu x.1 x.2.1 x.2.2,(false,[])⟩
theorem F90ok:okP (F90c uu):=okJ Tryz.f90 8 1 uu [] [] false q0 p0 L0
abbrev S89_3x:=Unit×Unit×(List PV)×Int×Int×Bq×PV
abbrev S89_3y:=(Unit×Bool×Bq×PV)⊕(Unit×Bq×PV)
def S89_3 (O:Unit) (Z:Unit) (H:List PV) (I:Int) (z:Int) (J:Bq) (M:PV):Option (S89_3x⊕S89_3y):=bif (decide (z<I)) then bif aaa z H.length then let o:=H.getD z.toNat .bad;(F90 uu o () J).bind λh=>bif h.1 then some (.inr (.inl ((),true,h.2,o))) else some (.inl ((),(),H,I,(IntKind.wrap .i64 (z+1)),h.2,M)) else none else some (.inr (.inr ((),J,M)))
def S89_3step (x:S89_3x):Option (S89_3x⊕S89_3y):=S89_3 uu x.1 x.2.1 x.2.2.1 x.2.2.2.1 x.2.2.2.2.1 x.2.2.2.2.2.1 x.2.2.2.2.2.2
def F89 (H:List PV) (J:Unit) (I:Bq):Option (PV×Bool×Bq):=(aag uu (S89_3step uu) ((),(),H,(H.length:Int),(0:Int),I,(PV.agg [(PV.str ([]:Bq)),(PV.slice []),(PV.slice [])]))).bind λz=>sumE (λh=>some (h.2.2.2,h.2.1,h.2.2.1) ) (λo=>some ((PV.agg [(PV.str ([]:Bq)),(PV.slice []),(PV.slice [])]),false,o.2.1) ) z
def S89_3l:LoopE:=⟨3,⟨[1,4,9,10,11],bx10,(.con (.fn 90 0 [(.ref 0 [] 9)]))::(.con (.ref 1 [] 78))::(.slice 78)::(.int .i64)::(.int .i64)::sv13⟩,[(.ret,⟨[4,5],bx10,(.con (.ref 1 [] 78))::.bool::sv13⟩),(.exit 0,⟨[4],bx10,(.con (.ref 1 [] 78))::sv13⟩)],S89_3step uu⟩
def F89C:Cfg:=cfg Tryz.prog 21 1 [F90c uu] [S89_3l uu] uu
def F89c:CallE:=⟨89,⟨2,bx1,[.slice 78,(.con (.fn 90 0 [(.ref 0 [] 9)])),.str]⟩,⟨2,bx1,[.data 78,.bool,.str]⟩,λx=>F89 uu x.1 x.2.1 x.2.2,(PV.bad,false,[])⟩
theorem F89k:aam (F89C uu):=aad (qc (F90ok uu)<|q0) p0
theorem S89_3ok:LoopOk (F89C uu) (lp (aaj Tryz.f89) 0):=okL (F89k uu) uu (S89_3l uu) L0
theorem F89ok:okP (F89c uu):=okE Tryz.f89 (F89k uu) (L1 (S89_3ok uu))
def F38 (o:PV) (z:Bq):Option (PV×Bool):=(F89 uu (o.fld 2).asList () z).bind λh=>some (h.1,h.2.1)
def F38c:CallE:=⟨38,⟨2,[],sv2⟩,⟨2,[],[.data 78,.bool]⟩,λx=>F38 uu x.1 x.2,(PV.bad,false)⟩
theorem F38ok:okP (F38c uu):=okJ Tryz.f38 12 0 uu _ [] false (qc (F89ok uu)<|q0) p0 L0
abbrev S155_3x:=Bq×Unit×(List PV)×Int×Int×PV×PV
abbrev S155_3y:=(Unit×Bool×PV×PV)⊕(Unit×PV×PV)
def S155_3 (uu:Nat) (I:Bq) (O:Unit) (z:List PV) (J:Int) (o:Int) (H:PV) (M:PV):Option (S155_3x⊕S155_3y):=bif (decide (o<J)) then bif aaa o z.length then let h:=z.getD o.toNat .bad;bif ((h.fld 0).asStr==I) then some (.inr (.inl ((),true,H,h))) else some (.inl (I,(),z,J,(IntKind.wrap .i64 (o+1)),H,M)) else none else some (.inr (.inr ((),H,M)))
def S155_3step (x:S155_3x):Option (S155_3x⊕S155_3y):=S155_3 uu x.1 x.2.1 x.2.2.1 x.2.2.2.1 x.2.2.2.2.1 x.2.2.2.2.2.1 x.2.2.2.2.2.2
def F155 (o:PV) (H:Bq):Option (PV×Bool):=let x1:=(o.fld 1).asList;(aag uu (S155_3step uu) (H,(),x1,(x1.length:Int),(0:Int),o,(PV.agg [(PV.str ([]:Bq)),(PV.str ([]:Bq)),(PV.str ([]:Bq)),(PV.int (0:Int)),(PV.slice [])]))).bind λz=>sumE (λh=>some (h.2.2.2,h.2.1) ) (λI=>some ((PV.agg [(PV.str ([]:Bq)),(PV.str ([]:Bq)),(PV.str ([]:Bq)),(PV.int (0:Int)),(PV.slice [])]),false) ) z
def S155_3l:LoopE:=⟨3,⟨[1,4,9,10,11],bx11,.str::(.con (.ref 1 [] 105))::(.slice 105)::(.int .i64)::(.int .i64)::sv14⟩,[(.ret,⟨[4,5],bx11,(.con (.ref 1 [] 105))::.bool::sv14⟩),(.exit 0,⟨[4],bx11,(.con (.ref 1 [] 105))::sv14⟩)],S155_3step uu⟩
def F155C:Cfg:=cfg Tryz.prog 22 0 [] [S155_3l uu] uu
def F155c:CallE:=⟨155,⟨2,[],[.data 78,.str]⟩,⟨2,[],[.data 105,.bool]⟩,λx=>F155 uu x.1 x.2,(PV.bad,false)⟩
theorem F155k:aam (F155C uu):=aad q0 p0
theorem S155_3ok:LoopOk (F155C uu) (lp (aaj Tryz.f155) 0):=okL (F155k uu) uu (S155_3l uu) L0
theorem F155ok:okP (F155c uu):=okE Tryz.f155 (F155k uu) (L1 (S155_3ok uu))
def F156 (uu:Nat) (h:PV):Option Bq:=let x1:=(h.fld 0).asStr;bif decide (x1.length+([58,32]:Bq).length<=aan) then let o:=x1++([58,32]:Bq);let z:=(h.fld 1).asStr;bif decide (o.length+z.length<=aan) then let H:=o++z;bif decide (H.length+([32,45,62,32]:Bq).length<=aan) then let I:=H++([32,45,62,32]:Bq);let J:=(h.fld 2).asStr;bif decide (I.length+J.length<=aan) then some (I++J) else none else none else none else none
def F156c:CallE:=⟨156,⟨1,[],[.data 105]⟩,⟨1,[],[.str]⟩,λx=>F156 uu x,[]⟩
theorem F156ok:okP (F156c uu):=okJ Tryz.f156 13 0 uu [] [] false q0 p0 L0
def F157 (uu:Nat) (h:Int):Option Bq:=bif (h==1) then some ([117,110,97,114,121]:Bq) else bif (h==2) then some ([115,101,114,118,101,114]:Bq) else bif (h==3) then some ([99,108,105,101,110,116]:Bq) else bif (h==4) then some ([98,111,116,104]:Bq) else some ([]:Bq)
def F157c:CallE:=⟨157,⟨1,[],[.int .i64]⟩,⟨1,[],[.str]⟩,λx=>F157 uu x,[]⟩
theorem F157ok:okP (F157c uu):=okJ Tryz.f157 12 0 uu [] [] false q0 p0 L0
abbrev S84_3x:=Unit×Unit×Unit×(List PV)×Int×Int×(List PV)×PV×PV
abbrev S84_3y:=(Unit×Unit×Unit×(List PV)×PV×PV)
def S84_3 (a3:Unit) (a4:Unit) (a5:Unit) (a6:List PV) (a7:Int) (I:Int) (a9:List PV) (o:PV) (H:PV):Option (S84_3x⊕S84_3y):=bif (decide (I<a7)) then bif aaa I a6.length then let h:=a6.getD I.toNat .bad;(F155 uu H (h.fld 0).asStr).bind λaa=>let z:=aa.1;bif (!aa.2) then (F36 uu () [(PV.agg [(PV.int (19:Int)),(PV.str (o.fld 0).asStr),(PV.int (-1:Int)),(PV.str (h.fld 0).asStr),(PV.str ([]:Bq))])] a9).bind λae=>some (.inl ((),(),(),a6,a7,(IntKind.wrap .i64 (I+1)),ae,o,H)) else (F156 uu h).bind λaf=>(F156 uu z).bind λag=>(F153 uu () (21:Int) (o.fld 0).asStr (-1:Int) af ag (bif (!((h.fld 1).asStr==(z.fld 1).asStr)) then true else (!((h.fld 2).asStr==(z.fld 2).asStr))) a9).bind λah=>let J:=(h.fld 0).asStr;bif decide (J.length+([58,32]:Bq).length<=aan) then let M:=J++([58,32]:Bq);(F157 uu (h.fld 3).asInt).bind λab=>bif decide (M.length+ab.length<=aan) then let O:=(h.fld 0).asStr;bif decide (O.length+([58,32]:Bq).length<=aan) then let Z:=O++([58,32]:Bq);(F157 uu (z.fld 3).asInt).bind λad=>bif decide (Z.length+ad.length<=aan) then (F153 uu () (22:Int) (o.fld 0).asStr (-1:Int) (M++ab) (Z++ad) ((h.fld 3).asInt != (z.fld 3).asInt) ah).bind λai=>some (.inl ((),(),(),a6,a7,(IntKind.wrap .i64 (I+1)),ai,o,H)) else none else none else none else none else none else some (.inr ((),(),(),a9,o,H))
def S84_3step (x:S84_3x):Option (S84_3x⊕S84_3y):=S84_3 uu x.1 x.2.1 x.2.2.1 x.2.2.2.1 x.2.2.2.2.1 x.2.2.2.2.2.1 x.2.2.2.2.2.2.1 x.2.2.2.2.2.2.2.1 x.2.2.2.2.2.2.2.2
abbrev S84_12x:=Unit×Unit×(List PV)×Int×Int×(List PV)×PV×PV
abbrev S84_12y:=((List PV)×PV×PV)
def S84_12 (aa:Unit) (ab:Unit) (z:List PV) (H:Int) (h:Int) (I:List PV) (o:PV) (J:PV):Option (S84_12x⊕S84_12y):=bif (decide (h<H)) then bif aaa h z.length then let M:=z.getD h.toNat .bad;(F155 uu o (M.fld 0).asStr).bind λO=>bif (!O.2) then (F36 uu () [(PV.agg [(PV.int (20:Int)),(PV.str (o.fld 0).asStr),(PV.int (-1:Int)),(PV.str ([]:Bq)),(PV.str (M.fld 0).asStr)])] I).bind λZ=>some (.inl ((),(),z,H,(IntKind.wrap .i64 (h+1)),Z,o,J)) else some (.inl ((),(),z,H,(IntKind.wrap .i64 (h+1)),I,o,J)) else none else some (.inr (I,o,J))
def S84_12step (x:S84_12x):Option (S84_12x⊕S84_12y):=S84_12 uu x.1 x.2.1 x.2.2.1 x.2.2.2.1 x.2.2.2.2.1 x.2.2.2.2.2.1 x.2.2.2.2.2.2.1 x.2.2.2.2.2.2.2
def F84 (M:Unit) (H:PV) (I:PV) (J:List PV):Option ((List PV)):=let x1:=(H.fld 1).asList;(aag uu (S84_3step uu) ((),(),(),x1,(x1.length:Int),(0:Int),J,H,I)).bind λh=>let o:=(h.2.2.2.2.2.fld 1).asList;(aag uu (S84_12step uu) ((),(),o,(o.length:Int),(0:Int),h.2.2.2.1,h.2.2.2.2.1,h.2.2.2.2.2)).bind λz=>some z.1
def S84_3l:LoopE:=⟨3,⟨[0,4,5,15,16,17],bx12,(.con (.ref 0 [] 66))::(.con (.ref 2 [] 78))::(.con (.ref 3 [] 78))::(.slice 105)::(.int .i64)::(.int .i64)::sv15⟩,[(.exit 0,⟨[0,4,5],bx12,(.con (.ref 0 [] 66))::(.con (.ref 2 [] 78))::(.con (.ref 3 [] 78))::sv15⟩)],S84_3step uu⟩
def S84_12l:LoopE:=⟨12,⟨[0,4,83,84,85],bx12,(.con (.ref 0 [] 66))::(.con (.ref 2 [] 78))::(.slice 105)::(.int .i64)::(.int .i64)::sv15⟩,[(.exit 2,⟨[],bx12,sv15⟩)],S84_12step uu⟩
def F84C:Cfg:=cfg Tryz.prog 107 2 [F155c uu,F36c uu,F156c uu,F153c uu,F157c uu] [S84_3l uu,S84_12l uu] uu
def F84c:CallE:=⟨84,⟨3,bx5,[(.con (.ref 0 [] 66)),.data 78,.data 78,.acc 1 34]⟩,⟨0,bx5,[.acc 1 34]⟩,λx=>F84 uu x.1 x.2.1 x.2.2.1 x.2.2.2,[]⟩
theorem F84k:aam (F84C uu):=aad (qc (F155ok uu)<|qc (F36ok uu)<|qc (F156ok uu)<|qc (F153ok uu)<|qc (F157ok uu)<|q0) p0
theorem S84_3ok:LoopOk (F84C uu) (lp (aaj Tryz.f84) 0):=okL (F84k uu) uu (S84_3l uu) L0
theorem S84_12ok:LoopOk (F84C uu) (lp (aaj Tryz.f84) 1):=okL (F84k uu) uu (S84_12l uu) L0
theorem F84ok:okP (F84c uu):=okE Tryz.f84 (F84k uu) (L2 (S84_3ok uu) (S84_12ok uu))
abbrev S34_3x:=Unit×Unit×Unit×(List PV)×Int×Int×(List PV)×PV×PV
abbrev S34_3y:=(Unit×Unit×Unit×(List PV)×PV×PV)
def S34_3 (a3:Unit) (a4:Unit) (a5:Unit) (J:List PV) (M:Int) (H:Int) (O:List PV) (o:PV) (h:PV):Option (S34_3x⊕S34_3y):=bif (decide (H<M)) then bif aaa H J.length then let z:=J.getD H.toNat .bad;(F35 uu h (z.fld 0).asStr).bind λI=>bif I.2 then (F82 uu () z I.1 O).bind λZ=>some (.inl ((),(),(),J,M,(IntKind.wrap .i64 (H+1)),Z,o,h)) else (F36 uu () [(PV.agg [(PV.int (1:Int)),(PV.str (z.fld 0).asStr),(PV.int (-1:Int)),(PV.str ([]:Bq)),(PV.str ([]:Bq))])] O).bind λaa=>some (.inl ((),(),(),J,M,(IntKind.wrap .i64 (H+1)),aa,o,h)) else none else some (.inr ((),(),(),O,o,h))
def S34_3step (x:S34_3x):Option (S34_3x⊕S34_3y):=S34_3 uu x.1 x.2.1 x.2.2.1 x.2.2.2.1 x.2.2.2.2.1 x.2.2.2.2.2.1 x.2.2.2.2.2.2.1 x.2.2.2.2.2.2.2.1 x.2.2.2.2.2.2.2.2
abbrev S34_11x:=Unit×Unit×Unit×(List PV)×Int×Int×(List PV)×PV×PV
abbrev S34_11y:=(Unit×Unit×Unit×(List PV)×PV×PV)
def S34_11 (ab:Unit) (ad:Unit) (ae:Unit) (o:List PV) (H:Int) (h:Int) (I:List PV) (J:PV) (z:PV):Option (S34_11x⊕S34_11y):=bif (decide (h<H)) then bif aaa h o.length then let M:=o.getD h.toNat .bad;(F37 uu z (M.fld 0).asStr).bind λO=>bif O.2 then (F83 uu () M O.1 I).bind λZ=>some (.inl ((),(),(),o,H,(IntKind.wrap .i64 (h+1)),Z,J,z)) else (F36 uu () [(PV.agg [(PV.int (11:Int)),(PV.str (M.fld 0).asStr),(PV.int (-1:Int)),(PV.str ([]:Bq)),(PV.str ([]:Bq))])] I).bind λaa=>some (.inl ((),(),(),o,H,(IntKind.wrap .i64 (h+1)),aa,J,z)) else none else some (.inr ((),(),(),I,J,z))
def S34_11step (x:S34_11x):Option (S34_11x⊕S34_11y):=S34_11 uu x.1 x.2.1 x.2.2.1 x.2.2.2.1 x.2.2.2.2.1 x.2.2.2.2.2.1 x.2.2.2.2.2.2.1 x.2.2.2.2.2.2.2.1 x.2.2.2.2.2.2.2.2
abbrev S34_19x:=Unit×Unit×(List PV)×Int×Int×(List PV)×PV×PV
abbrev S34_19y:=((List PV)×PV×PV)
def S34_19 (ab:Unit) (ad:Unit) (o:List PV) (H:Int) (h:Int) (I:List PV) (J:PV) (z:PV):Option (S34_19x⊕S34_19y):=bif (decide (h<H)) then bif aaa h o.length then let M:=o.getD h.toNat .bad;(F38 uu z (M.fld 0).asStr).bind λO=>bif O.2 then (F84 uu () M O.1 I).bind λZ=>some (.inl ((),(),o,H,(IntKind.wrap .i64 (h+1)),Z,J,z)) else (F36 uu () [(PV.agg [(PV.int (17:Int)),(PV.str (M.fld 0).asStr),(PV.int (-1:Int)),(PV.str ([]:Bq)),(PV.str ([]:Bq))])] I).bind λaa=>some (.inl ((),(),o,H,(IntKind.wrap .i64 (h+1)),aa,J,z)) else none else some (.inr (I,J,z))
def S34_19step (x:S34_19x):Option (S34_19x⊕S34_19y):=S34_19 uu x.1 x.2.1 x.2.2.1 x.2.2.2.1 x.2.2.2.2.1 x.2.2.2.2.2.1 x.2.2.2.2.2.2.1 x.2.2.2.2.2.2.2
def F34 (Z:Unit) (J:PV) (M:PV) (O:List PV):Option ((List PV)):=let x1:=(J.fld 0).asList;(aag uu (S34_3step uu) ((),(),(),x1,(x1.length:Int),(0:Int),O,J,M)).bind λh=>let z:=(h.2.2.2.2.1.fld 1).asList;(aag uu (S34_11step uu) ((),(),(),z,(z.length:Int),(0:Int),h.2.2.2.1,h.2.2.2.2.1,h.2.2.2.2.2)).bind λo=>let H:=(o.2.2.2.2.1.fld 2).asList;(aag uu (S34_19step uu) ((),(),H,(H.length:Int),(0:Int),o.2.2.2.1,o.2.2.2.2.1,o.2.2.2.2.2)).bind λI=>some I.1
def S34_3l:LoopE:=⟨3,⟨[0,4,5,19,20,21],bx13,(.con (.ref 0 [] 66))::(.con (.ref 2 [] 26))::(.con (.ref 3 [] 26))::(.slice 63)::sv16⟩,[(.exit 0,⟨[0,4,5],bx13,(.con (.ref 0 [] 66))::(.con (.ref 2 [] 26))::(.con (.ref 3 [] 26))::sv17⟩)],S34_3step uu⟩
def S34_11l:LoopE:=⟨11,⟨[0,4,5,45,46,47],bx13,(.con (.ref 0 [] 66))::(.con (.ref 2 [] 26))::(.con (.ref 3 [] 26))::(.slice 73)::sv16⟩,[(.exit 2,⟨[0,4,5],bx13,(.con (.ref 0 [] 66))::(.con (.ref 2 [] 26))::(.con (.ref 3 [] 26))::sv17⟩)],S34_11step uu⟩
def S34_19l:LoopE:=⟨19,⟨[0,5,71,72,73],bx13,(.con (.ref 0 [] 66))::(.con (.ref 3 [] 26))::(.slice 78)::sv16⟩,[(.exit 4,⟨[],bx13,sv17⟩)],S34_19step uu⟩
def F34C:Cfg:=cfg Tryz.prog 96 2 [F35c uu,F82c uu,F36c uu,F37c uu,F83c uu,F38c uu,F84c uu] [S34_3l uu,S34_11l uu,S34_19l uu] uu
def F34c:CallE:=⟨34,⟨3,bx5,[(.con (.ref 0 [] 66)),.data 26,.data 26,.acc 1 34]⟩,⟨0,bx5,[.acc 1 34]⟩,λx=>F34 uu x.1 x.2.1 x.2.2.1 x.2.2.2,[]⟩
theorem F34k:aam (F34C uu):=aad (qc (F35ok uu)<|qc (F82ok uu)<|qc (F36ok uu)<|qc (F37ok uu)<|qc (F83ok uu)<|qc (F38ok uu)<|qc (F84ok uu)<|q0) p0
theorem S34_3ok:LoopOk (F34C uu) (lp (aaj Tryz.f34) 0):=okL (F34k uu) uu (S34_3l uu) L0
theorem S34_11ok:LoopOk (F34C uu) (lp (aaj Tryz.f34) 1):=okL (F34k uu) uu (S34_11l uu) L0
theorem S34_19ok:LoopOk (F34C uu) (lp (aaj Tryz.f34) 2):=okL (F34k uu) uu (S34_19l uu) L0
theorem F34ok:okP (F34c uu):=okE Tryz.f34 (F34k uu) (L3 (S34_3ok uu) (S34_11ok uu) (S34_19ok uu))
def F91 (uu:Nat) (h:Unit):Option Unit:=some ()
def F91c:CallE:=⟨91,⟨1,[],[.con .nils]⟩,⟨1,[],[.con .nils]⟩,λx=>F91 uu x,()⟩
theorem F91ok:okP (F91c uu):=okJ Tryz.f91 8 0 uu [] [] true q0 p0 L0
def F91_v1 (uu:Nat) (h:List PV):Option (Unit×(List PV)):=bif decide (h.length<=aae) then some ((),h) else none
def F91_v1c:CallE:=⟨91,⟨1,[],[.sln 34]⟩,⟨1,[.arr 34 1],[(.con (.arr 0 1 34)),.slice 34]⟩,λx=>F91_v1 uu x,((),[])⟩
theorem F91_v1ok:okP (F91_v1c uu):=okJ Tryz.f91 8 0 uu [] [] true q0 p0 L0
def F91_v2 (h:List PV):Option (Unit×(List PV)):=F91_v1 uu h
def F91_v2c:CallE:=⟨91,⟨1,[],[.slice 34]⟩,⟨1,[.arr 34 1],[(.con (.arr 0 1 34)),.slice 34]⟩,λx=>F91_v2 uu x,((),[])⟩
theorem F91_v2ok:okP (F91_v2c uu):=by
 intro x y h
 have h:F91_v1 uu x=some y:=h
 have o:=F91_v1ok uu x y h
 unfold F91_v1 at h
 obtain ⟨z,rfl⟩:=aa0 h
 exact as0 (λ_=>F91ok uu () () rfl) o
def F125 (uu:Nat) (h:Int):Option Int:=bif (bif (decide (h>=1)) then (decide (h<=10)) else false) then some (1:Int) else bif (bif (decide (h>=11)) then (decide (h<=16)) else false) then some (2:Int) else some (3:Int)
def F125c:CallE:=⟨125,⟨1,[],[.int .i64]⟩,⟨1,[],[.int .i64]⟩,λx=>F125 uu x,0⟩
theorem F125ok:okP (F125c uu):=okJ Tryz.f125 17 0 uu [] [] false q0 p0 L0
def F189 (uu:Nat) (h:Int):Option Bool:=some (h != h)
def F189c:CallE:=⟨189,⟨1,[],[.int .i64]⟩,⟨1,[],[.bool]⟩,λx=>F189 uu x,false⟩
theorem F189ok:okP (F189c uu):=okJ Tryz.f189 6 0 uu [] [] false q0 p0 L0
def F124 (h:Int) (o:Int):Option Int:=(F189 uu h).bind λH=>(F189 uu o).bind λz=>bif H then bif z then some (0:Int) else some (-1:Int) else bif z then some (1:Int) else bif (decide (h<o)) then some (-1:Int) else bif (decide (h>o)) then some (1:Int) else some (0:Int)
def F124c:CallE:=⟨124,⟨2,[],sv8⟩,⟨1,[],[.int .i64]⟩,λx=>F124 uu x.1 x.2,0⟩
theorem F124ok:okP (F124c uu):=okJ Tryz.f124 20 0 uu _ [] false (qc (F189ok uu)<|q0) p0 L0
def F190 (uu:Nat) (h:Bq):Option Bool:=some (!(h==h))
def F190c:CallE:=⟨190,⟨1,[],[.str]⟩,⟨1,[],[.bool]⟩,λx=>F190 uu x,false⟩
theorem F190ok:okP (F190c uu):=okJ Tryz.f190 6 0 uu [] [] false q0 p0 L0
def F126 (h:Bq) (o:Bq):Option Int:=(F190 uu h).bind λH=>(F190 uu o).bind λz=>bif H then bif z then some (0:Int) else some (-1:Int) else bif z then some (1:Int) else bif (Op.bytesLess h o) then some (-1:Int) else bif (!(Op.bytesLess h o||h==o)) then some (1:Int) else some (0:Int)
def F126c:CallE:=⟨126,⟨2,[],[.str,.str]⟩,⟨1,[],[.int .i64]⟩,λx=>F126 uu x.1 x.2,0⟩
theorem F126ok:okP (F126c uu):=okJ Tryz.f126 20 0 uu _ [] false (qc (F190ok uu)<|q0) p0 L0
def F127 (h:PV):Option Bq:=let x1:=(h.fld 0).asInt;bif (x1==19) then some (h.fld 3).asStr else bif (x1==20) then some (h.fld 4).asStr else bif (x1==21) then (Lcut uu (h.fld 3).asStr ([58,32]:Bq)).bind λz=>some z.1 else bif (x1==22) then (Lcut uu (h.fld 3).asStr ([58,32]:Bq)).bind λo=>some o.1 else some ([]:Bq)
def F127c:CallE:=⟨127,⟨1,[],[.data 34]⟩,⟨1,[],[.str]⟩,λx=>F127 uu x,[]⟩
theorem F127ok:okP (F127c uu):=okJ Tryz.f127 27 0 uu _ [] false (qc (a6y uu)<|q0) p0 L0
abbrev S123_4x:=Int×(List PV)×Int×Int
abbrev S123_4y:=(Int)⊕(Int)
def S123_4 (uu:Nat) (o:Int) (z:List PV) (H:Int) (h:Int):Option (S123_4x⊕S123_4y):=bif (decide (h<H)) then bif aaa h z.length then let I:=(z.getD h.toNat .bad).asInt;bif (I != o) then some (.inr (.inl I)) else some (.inl (o,z,H,(IntKind.wrap .i64 (h+1)))) else none else some (.inr (.inr o))
def S123_4step (x:S123_4x):Option (S123_4x⊕S123_4y):=S123_4 uu x.1 x.2.1 x.2.2.1 x.2.2.2
def F123 (H:List PV):Option Int:=(aag uu (S123_4step uu) ((0:Int),H,(H.length:Int),(0:Int))).bind λz=>sumE (λh=>some h ) (λo=>some o ) z
def S123_4l:LoopE:=⟨4,⟨[3,6,7,8],[],(.int .i64)::(.slice 3)::sv8⟩,[(.ret,⟨[2],[],[.int .i64]⟩),(.exit 0,⟨[3],[],[.int .i64]⟩)],S123_4step uu⟩
def F123C:Cfg:=cfg Tryz.prog 18 0 [] [S123_4l uu] uu
def F123c:CallE:=⟨123,⟨1,[],[.slice 3]⟩,⟨1,[],[.int .i64]⟩,λx=>F123 uu x,0⟩
theorem F123k:aam (F123C uu):=aad q0 p0
theorem S123_4ok:LoopOk (F123C uu) (lp (aaj Tryz.f123) 0):=okL (F123k uu) uu (S123_4l uu) L0
theorem F123ok:okP (F123c uu):=okE Tryz.f123 (F123k uu) (L1 (S123_4ok uu))
def F65 (h:PV) (o:PV):Option Int:=(F125 uu (h.fld 0).asInt).bind λy2=>(F125 uu (o.fld 0).asInt).bind λy4=>(F124 uu y2 y4).bind λy5=>(F126 uu (h.fld 1).asStr (o.fld 1).asStr).bind λy8=>(F124 uu (h.fld 2).asInt (o.fld 2).asInt).bind λz=>(F127 uu h).bind λH=>(F127 uu o).bind λI=>(F126 uu H I).bind λJ=>(F124 uu (h.fld 0).asInt (o.fld 0).asInt).bind λM=>(F126 uu (h.fld 3).asStr (o.fld 3).asStr).bind λO=>(F126 uu (h.fld 4).asStr (o.fld 4).asStr).bind λZ=>(F123 uu [(PV.int y5),(PV.int y8),(PV.int z),(PV.int J),(PV.int M),(PV.int O),(PV.int Z)]).bind λaa=>some aa
def F65c:CallE:=⟨65,⟨2,[],[.data 34,.data 34]⟩,⟨1,[],[.int .i64]⟩,λx=>F65 uu x.1 x.2,0⟩
theorem F65ok:okP (F65c uu):=okJ Tryz.f65 44 0 uu _ [] false (qc (F125ok uu)<|qc (F124ok uu)<|qc (F126ok uu)<|qc (F127ok uu)<|qc (F123ok uu)<|q0) p0 L0
abbrev S216_5x:=Unit×Int×Int×Unit×Int×Int×(List PV)
abbrev S216_5y:=(Unit×Int×Int×Unit×Int×(List PV))
def S216_5 (a9:Unit) (H:Int) (I:Int) (ad:Unit) (J:Int) (h:Int) (o:List PV):Option (S216_5x⊕S216_5y):=let z:=decide (h>H);bif imp z (aaa h o.length) then let M:=IntKind.wrap .i64 (h-1);bif imp z (aaa M o.length) then (bif z then F65 uu (o.getD h.toNat .bad) (o.getD M.toNat .bad) else some 0).bind λab=>bif (bif z then (decide (ab<0)) else false) then let O:=IntKind.wrap .i64 (h-1);let Z:=IntKind.wrap .i64 (h-1);bif aaa Z o.length then bif aaa h o.length then bif aaa h o.length then let aa:=o.set h.toNat (o.getD Z.toNat .bad);bif aaa O aa.length then some (.inl ((),H,I,(),J,(IntKind.wrap .i64 (h-1)),(aa.set O.toNat (o.getD h.toNat .bad)))) else none else none else none else none else some (.inr ((),H,I,(),J,o)) else none else none
def S216_5step (x:S216_5x):Option (S216_5x⊕S216_5y):=S216_5 uu x.1 x.2.1 x.2.2.1 x.2.2.2.1 x.2.2.2.2.1 x.2.2.2.2.2.1 x.2.2.2.2.2.2
abbrev S216_2x:=Unit×Int×Int×Unit×Int×(List PV)
abbrev S216_2y:=((List PV))
def S216_2 (J:Unit) (I:Int) (z:Int) (M:Unit) (o:Int) (H:List PV):Option (S216_2x⊕S216_2y):=bif (decide (o<z)) then (aag uu (S216_5step uu) ((),I,z,(),o,o,H)).bind λh=>some (.inl ((),h.2.1,h.2.2.1,(),(IntKind.wrap .i64 (h.2.2.2.2.1+1)),h.2.2.2.2.2)) else some (.inr H)
def S216_2step (x:S216_2x):Option (S216_2x⊕S216_2y):=S216_2 uu x.1 x.2.1 x.2.2.1 x.2.2.2.1 x.2.2.2.2.1 x.2.2.2.2.2
def F216 (I:Unit) (o:Int) (z:Int) (J:Unit) (H:List PV):Option ((List PV)):=(aag uu (S216_2step uu) ((),o,z,(),(IntKind.wrap .i64 (o+1)),H)).bind λh=>some h
def S216_5l:LoopE:=⟨5,⟨[0,1,2,3,8,9],bx14,(.con (.arr 0 0 34))::(.int .i64)::sv18⟩,[(.exit 2,⟨[0,1,2,3,8],bx14,(.con (.arr 0 0 34))::(.int .i64)::sv19⟩)],S216_5step uu⟩
def S216_2l:LoopE:=⟨2,⟨[0,1,2,3,8],bx14,(.con (.arr 0 0 34))::(.int .i64)::sv19⟩,[(.exit 0,⟨[],bx14,[.slice 34]⟩)],S216_2step uu⟩
def F216C:Cfg:=cfg Tryz.prog 53 1 [F65c uu] [S216_5l uu,S216_2l uu] uu
def F216c:CallE:=⟨216,⟨4,bx14,(.con (.arr 0 0 34))::sv20⟩,⟨0,bx14,[.slice 34]⟩,λx=>F216 uu x.1 x.2.1 x.2.2.1 x.2.2.2.1 x.2.2.2.2,[]⟩
theorem F216k:aam (F216C uu):=aad (qc (F65ok uu)<|q0) p0
theorem S216_5ok:LoopOk (F216C uu) (lp (lp (aaj Tryz.f216) 0) 0):=okL (F216k uu) uu (S216_5l uu) L0
theorem S216_2ok:LoopOk (F216C uu) (lp (aaj Tryz.f216) 0):=okL (F216k uu) uu (S216_2l uu) (L1 (S216_5ok uu))
theorem F216ok:okP (F216c uu):=okE Tryz.f216 (F216k uu) (L1 (S216_2ok uu))
abbrev S285_2x:=Unit×Int×Int×Int×Int×(List PV)
abbrev S285_2y:=((List PV))
def S285_2 (uu:Nat) (a1:Unit) (J:Int) (M:Int) (O:Int) (o:Int) (h:List PV):Option (S285_2x⊕S285_2y):=bif (decide (o<O)) then let Z:=IntKind.wrap .i64 (J+o);let x9:=IntKind.wrap .i64 (M+o);let z:=IntKind.wrap .i64 (M+o);bif aaa z h.length then let H:=IntKind.wrap .i64 (J+o);bif aaa H h.length then bif aaa Z h.length then let I:=h.set Z.toNat (h.getD z.toNat .bad);bif aaa x9 I.length then some (.inl ((),J,M,O,(IntKind.wrap .i64 (o+1)),(I.set x9.toNat (h.getD H.toNat .bad)))) else none else none else none else none else some (.inr h)
def S285_2step (x:S285_2x):Option (S285_2x⊕S285_2y):=S285_2 uu x.1 x.2.1 x.2.2.1 x.2.2.2.1 x.2.2.2.2.1 x.2.2.2.2.2
def F285 (J:Unit) (o:Int) (z:Int) (H:Int) (M:Unit) (I:List PV):Option ((List PV)):=(aag uu (S285_2step uu) ((),o,z,H,(0:Int),I)).bind λh=>some h
def S285_2l:LoopE:=⟨2,⟨[0,1,2,3,10],bx14,(.con (.arr 0 0 34))::(.int .i64)::sv21⟩,[(.exit 0,⟨[],bx14,[.slice 34]⟩)],S285_2step uu⟩
def F285C:Cfg:=cfg Tryz.prog 38 1 [] [S285_2l uu] uu
def F285c:CallE:=⟨285,⟨5,bx14,sv22⟩,⟨0,bx14,[.slice 34]⟩,λx=>F285 uu x.1 x.2.1 x.2.2.1 x.2.2.2.1 x.2.2.2.2.1 x.2.2.2.2.2,[]⟩
theorem F285k:aam (F285C uu):=aad q0 p0
theorem S285_2ok:LoopOk (F285C uu) (lp (aaj Tryz.f285) 0):=okL (F285k uu) uu (S285_2l uu) L0
theorem F285ok:okP (F285c uu):=okE Tryz.f285 (F285k uu) (L1 (S285_2ok uu))
abbrev S251_3x:=Unit×Int×Unit×Int×Int×(List PV)
abbrev S251_3y:=(Unit×Int×Unit×Int×(List PV))
def S251_3 (M:Unit) (o:Int) (O:Unit) (h:Int) (z:Int) (H:List PV):Option (S251_3x⊕S251_3y):=bif (h != z) then bif (decide (h>z)) then (F285 uu () (IntKind.wrap .i64 (o-h)) o z () H).bind λI=>some (.inl ((),o,(),(IntKind.wrap .i64 (h-z)),z,I)) else (F285 uu () (IntKind.wrap .i64 (o-h)) (IntKind.wrap .i64 ((IntKind.wrap .i64 (o+z))-h)) h () H).bind λJ=>some (.inl ((),o,(),h,(IntKind.wrap .i64 (z-h)),J)) else some (.inr ((),o,(),h,H))
def S251_3step (x:S251_3x):Option (S251_3x⊕S251_3y):=S251_3 uu x.1 x.2.1 x.2.2.1 x.2.2.2.1 x.2.2.2.2.1 x.2.2.2.2.2
def F251 (M:Unit) (H:Int) (o:Int) (I:Int) (O:Unit) (J:List PV):Option ((List PV)):=(aag uu (S251_3step uu) ((),o,(),(IntKind.wrap .i64 (o-H)),(IntKind.wrap .i64 (I-o)),J)).bind λh=>(F285 uu () (IntKind.wrap .i64 (h.2.1-h.2.2.2.1)) h.2.1 h.2.2.2.1 () h.2.2.2.2).bind λz=>some z
def S251_3l:LoopE:=⟨3,⟨[0,2,4,10,11],bx14,sv23⟩,[(.exit 0,⟨[0,2,4,10],bx14,(.con (.arr 0 0 34))::sv19⟩)],S251_3step uu⟩
def F251C:Cfg:=cfg Tryz.prog 58 1 [F285c uu] [S251_3l uu] uu
def F251c:CallE:=⟨251,⟨5,bx14,sv22⟩,⟨0,bx14,[.slice 34]⟩,λx=>F251 uu x.1 x.2.1 x.2.2.1 x.2.2.2.1 x.2.2.2.2.1 x.2.2.2.2.2,[]⟩
theorem F251k:aam (F251C uu):=aad (qc (F285ok uu)<|q0) p0
theorem S251_3ok:LoopOk (F251C uu) (lp (aaj Tryz.f251) 0):=okL (F251k uu) uu (S251_3l uu) L0
theorem F251ok:okP (F251c uu):=okE Tryz.f251 (F251k uu) (L1 (S251_3ok uu))
def B217c (r:(Unit×Int×Int×Int×Unit×(List PV))->Option ((List PV))):CallE:=⟨217,⟨5,bx14,sv22⟩,⟨0,bx14,[.slice 34]⟩,r,[]⟩
abbrev B217_4x:=Unit×Int×Unit×Int×Int×(List PV)
abbrev B217_4y:=(Unit×Int×Int×(List PV))
def B217_4 (r0:(Unit×Int×Int×Int×Unit×(List PV))->Option ((List PV))) (M:Unit) (z:Int) (O:Unit) (H:Int) (I:Int) (o:List PV):Option (B217_4x⊕B217_4y):=bif (decide (H<I)) then let h:=IntKind.wrap .i64 ((IntKind.wrap .u64 (IntKind.wrap .i64 (H+I))).fdiv (2^(min (1:Int).toNat (IntKind.bits .u64))));bif aaa h o.length then bif aaa z o.length then (F65 uu (o.getD h.toNat .bad) (o.getD z.toNat .bad)).bind λJ=>bif (decide (J<0)) then some (.inl ((),z,(),(IntKind.wrap .i64 (h+1)),I,o)) else some (.inl ((),z,(),H,h,o)) else none else none else some (.inr ((),z,H,o))
def B217_4step (r0:(Unit×Int×Int×Int×Unit×(List PV))->Option ((List PV))) (x:B217_4x):Option (B217_4x⊕B217_4y):=B217_4 uu r0 x.1 x.2.1 x.2.2.1 x.2.2.2.1 x.2.2.2.2.1 x.2.2.2.2.2
abbrev B217_10x:=Unit×Int×Int×(List PV)
abbrev B217_10y:=((List PV))
def B217_10 (uu:Nat) (r0:(Unit×Int×Int×Int×Unit×(List PV))->Option ((List PV))) (M:Unit) (z:Int) (h:Int) (o:List PV):Option (B217_10x⊕B217_10y):=bif (decide (h<(IntKind.wrap .i64 (z-1)))) then let H:=IntKind.wrap .i64 (h+1);let I:=IntKind.wrap .i64 (h+1);bif aaa I o.length then bif aaa h o.length then bif aaa h o.length then let J:=o.set h.toNat (o.getD I.toNat .bad);bif aaa H J.length then some (.inl ((),z,(IntKind.wrap .i64 (h+1)),(J.set H.toNat (o.getD h.toNat .bad)))) else none else none else none else none else some (.inr o)
def B217_10step (r0:(Unit×Int×Int×Int×Unit×(List PV))->Option ((List PV))) (x:B217_10x):Option (B217_10x⊕B217_10y):=B217_10 uu r0 x.1 x.2.1 x.2.2.1 x.2.2.2
abbrev B217_16x:=Unit×Int×Unit×Int×Int×(List PV)
abbrev B217_16y:=(Unit×Int×Int×(List PV))
def B217_16 (r0:(Unit×Int×Int×Int×Unit×(List PV))->Option ((List PV))) (M:Unit) (o:Int) (O:Unit) (z:Int) (I:Int) (h:List PV):Option (B217_16x⊕B217_16y):=bif (decide (z<I)) then let H:=IntKind.wrap .i64 ((IntKind.wrap .u64 (IntKind.wrap .i64 (z+I))).fdiv (2^(min (1:Int).toNat (IntKind.bits .u64))));bif aaa o h.length then bif aaa H h.length then (F65 uu (h.getD o.toNat .bad) (h.getD H.toNat .bad)).bind λJ=>bif (!(decide (J<0))) then some (.inl ((),o,(),(IntKind.wrap .i64 (H+1)),I,h)) else some (.inl ((),o,(),z,H,h)) else none else none else some (.inr ((),o,z,h))
def B217_16step (r0:(Unit×Int×Int×Int×Unit×(List PV))->Option ((List PV))) (x:B217_16x):Option (B217_16x⊕B217_16y):=B217_16 uu r0 x.1 x.2.1 x.2.2.1 x.2.2.2.1 x.2.2.2.2.1 x.2.2.2.2.2
abbrev B217_22x:=Unit×Int×Int×(List PV)
abbrev B217_22y:=((List PV))
def B217_22 (uu:Nat) (r0:(Unit×Int×Int×Int×Unit×(List PV))->Option ((List PV))) (M:Unit) (z:Int) (h:Int) (o:List PV):Option (B217_22x⊕B217_22y):=bif (decide (h>z)) then let H:=IntKind.wrap .i64 (h-1);let I:=IntKind.wrap .i64 (h-1);bif aaa I o.length then bif aaa h o.length then bif aaa h o.length then let J:=o.set h.toNat (o.getD I.toNat .bad);bif aaa H J.length then some (.inl ((),z,(IntKind.wrap .i64 (h-1)),(J.set H.toNat (o.getD h.toNat .bad)))) else none else none else none else none else some (.inr o)
def B217_22step (r0:(Unit×Int×Int×Int×Unit×(List PV))->Option ((List PV))) (x:B217_22x):Option (B217_22x⊕B217_22y):=B217_22 uu r0 x.1 x.2.1 x.2.2.1 x.2.2.2
abbrev B217_34x:=Unit×Int×Int×Int×Unit×Int×Int×Int×Int×Int×(List PV)
abbrev B217_34y:=(Unit×Int×Int×Int×Unit×Int×Int×Int×(List PV))
def B217_34 (r0:(Unit×Int×Int×Int×Unit×(List PV))->Option ((List PV))) (ae:Unit) (H:Int) (I:Int) (J:Int) (af:Unit) (M:Int) (O:Int) (z:Int) (Z:Int) (aa:Int) (h:List PV):Option (B217_34x⊕B217_34y):=bif (decide (z<Z)) then let o:=IntKind.wrap .i64 ((IntKind.wrap .u64 (IntKind.wrap .i64 (z+Z))).fdiv (2^(min (1:Int).toNat (IntKind.bits .u64))));let ab:=IntKind.wrap .i64 (aa-o);bif aaa ab h.length then bif aaa o h.length then (F65 uu (h.getD ab.toNat .bad) (h.getD o.toNat .bad)).bind λad=>bif (!(decide (ad<0))) then some (.inl ((),H,I,J,(),M,O,(IntKind.wrap .i64 (o+1)),Z,aa,h)) else some (.inl ((),H,I,J,(),M,O,z,o,aa,h)) else none else none else some (.inr ((),H,I,J,(),M,O,z,h))
def B217_34step (r0:(Unit×Int×Int×Int×Unit×(List PV))->Option ((List PV))) (x:B217_34x):Option (B217_34x⊕B217_34y):=B217_34 uu r0 x.1 x.2.1 x.2.2.1 x.2.2.2.1 x.2.2.2.2.1 x.2.2.2.2.2.1 x.2.2.2.2.2.2.1 x.2.2.2.2.2.2.2.1 x.2.2.2.2.2.2.2.2.1 x.2.2.2.2.2.2.2.2.2.1 x.2.2.2.2.2.2.2.2.2.2
def B217 (r0:(Unit×Int×Int×Int×Unit×(List PV))->Option ((List PV))) (a0:Unit) (a1:Int) (Z:Int) (a3:Int) (a4:Unit) (a5:List PV):Option ((List PV)):=bif ((IntKind.wrap .i64 (Z-a1))==1) then (aag uu (B217_4step uu r0) ((),a1,(),Z,a3,a5)).bind λaf=>(aag uu (B217_10step uu r0) ((),af.2.2.1,af.2.1,af.2.2.2)).bind λap=>some ap else bif ((IntKind.wrap .i64 (a3-Z))==1) then (aag uu (B217_16step uu r0) ((),Z,(),a1,Z,a5)).bind λag=>(aag uu (B217_22step uu r0) ((),ag.2.2.1,ag.2.1,ag.2.2.2)).bind λaq=>some aq else let I:=IntKind.wrap .i64 ((IntKind.wrap .u64 (IntKind.wrap .i64 (a1+a3))).fdiv (2^(min (1:Int).toNat (IntKind.bits .u64))));let J:=IntKind.wrap .i64 (I+Z);bif (decide (Z>I)) then (aag uu (B217_34step uu r0) ((),a1,Z,a3,(),I,J,(IntKind.wrap .i64 (J-a3)),I,(IntKind.wrap .i64 (J-1)),a5)).bind λh=>let z:=IntKind.wrap .i64 (h.2.2.2.2.2.2.1-h.2.2.2.2.2.2.2.1);bif (bif (decide (h.2.2.2.2.2.2.2.1<h.2.2.1)) then (decide (h.2.2.1<z)) else false) then (F251 uu () h.2.2.2.2.2.2.2.1 h.2.2.1 z () h.2.2.2.2.2.2.2.2).bind λM=>bif (bif (decide (h.2.1<h.2.2.2.2.2.2.2.1)) then (decide (h.2.2.2.2.2.2.2.1<h.2.2.2.2.2.1)) else false) then (r0 ((),h.2.1,h.2.2.2.2.2.2.2.1,h.2.2.2.2.2.1,(),M)).bind λaa=>bif (bif (decide (h.2.2.2.2.2.1<z)) then (decide (z<h.2.2.2.1)) else false) then (r0 ((),h.2.2.2.2.2.1,z,h.2.2.2.1,(),aa)).bind λah=>some ah else some aa else bif (bif (decide (h.2.2.2.2.2.1<z)) then (decide (z<h.2.2.2.1)) else false) then (r0 ((),h.2.2.2.2.2.1,z,h.2.2.2.1,(),M)).bind λai=>some ai else some M else bif (bif (decide (h.2.1<h.2.2.2.2.2.2.2.1)) then (decide (h.2.2.2.2.2.2.2.1<h.2.2.2.2.2.1)) else false) then (r0 ((),h.2.1,h.2.2.2.2.2.2.2.1,h.2.2.2.2.2.1,(),h.2.2.2.2.2.2.2.2)).bind λab=>bif (bif (decide (h.2.2.2.2.2.1<z)) then (decide (z<h.2.2.2.1)) else false) then (r0 ((),h.2.2.2.2.2.1,z,h.2.2.2.1,(),ab)).bind λaj=>some aj else some ab else bif (bif (decide (h.2.2.2.2.2.1<z)) then (decide (z<h.2.2.2.1)) else false) then (r0 ((),h.2.2.2.2.2.1,z,h.2.2.2.1,(),h.2.2.2.2.2.2.2.2)).bind λak=>some ak else some h.2.2.2.2.2.2.2.2 else (aag uu (B217_34step uu r0) ((),a1,Z,a3,(),I,J,a1,Z,(IntKind.wrap .i64 (J-1)),a5)).bind λo=>let H:=IntKind.wrap .i64 (o.2.2.2.2.2.2.1-o.2.2.2.2.2.2.2.1);bif (bif (decide (o.2.2.2.2.2.2.2.1<o.2.2.1)) then (decide (o.2.2.1<H)) else false) then (F251 uu () o.2.2.2.2.2.2.2.1 o.2.2.1 H () o.2.2.2.2.2.2.2.2).bind λO=>bif (bif (decide (o.2.1<o.2.2.2.2.2.2.2.1)) then (decide (o.2.2.2.2.2.2.2.1<o.2.2.2.2.2.1)) else false) then (r0 ((),o.2.1,o.2.2.2.2.2.2.2.1,o.2.2.2.2.2.1,(),O)).bind λad=>bif (bif (decide (o.2.2.2.2.2.1<H)) then (decide (H<o.2.2.2.1)) else false) then (r0 ((),o.2.2.2.2.2.1,H,o.2.2.2.1,(),ad)).bind λal=>some al else some ad else bif (bif (decide (o.2.2.2.2.2.1<H)) then (decide (H<o.2.2.2.1)) else false) then (r0 ((),o.2.2.2.2.2.1,H,o.2.2.2.1,(),O)).bind λam=>some am else some O else bif (bif (decide (o.2.1<o.2.2.2.2.2.2.2.1)) then (decide (o.2.2.2.2.2.2.2.1<o.2.2.2.2.2.1)) else false) then (r0 ((),o.2.1,o.2.2.2.2.2.2.2.1,o.2.2.2.2.2.1,(),o.2.2.2.2.2.2.2.2)).bind λae=>bif (bif (decide (o.2.2.2.2.2.1<H)) then (decide (H<o.2.2.2.1)) else false) then (r0 ((),o.2.2.2.2.2.1,H,o.2.2.2.1,(),ae)).bind λan=>some an else some ae else bif (bif (decide (o.2.2.2.2.2.1<H)) then (decide (H<o.2.2.2.1)) else false) then (r0 ((),o.2.2.2.2.2.1,H,o.2.2.2.1,(),o.2.2.2.2.2.2.2.2)).bind λao=>some ao else some o.2.2.2.2.2.2.2.2
def B217_4l (r0:(Unit×Int×Int×Int×Unit×(List PV))->Option ((List PV))):LoopE:=⟨4,⟨[0,1,4,10,11],bx14,sv23⟩,[(.exit 0,⟨[0,1,10],bx14,sv24⟩)],B217_4step uu r0⟩
def B217_10l (r0:(Unit×Int×Int×Int×Unit×(List PV))->Option ((List PV))):LoopE:=⟨10,⟨[0,10,13],bx14,sv24⟩,[(.exit 2,⟨[],bx14,[.slice 34]⟩)],B217_10step uu r0⟩
def B217_16l (r0:(Unit×Int×Int×Int×Unit×(List PV))->Option ((List PV))):LoopE:=⟨16,⟨[0,2,4,14,15],bx14,sv23⟩,[(.exit 4,⟨[0,2,14],bx14,sv24⟩)],B217_16step uu r0⟩
def B217_22l (r0:(Unit×Int×Int×Int×Unit×(List PV))->Option ((List PV))):LoopE:=⟨22,⟨[0,14,17],bx14,sv24⟩,[(.exit 6,⟨[],bx14,[.slice 34]⟩)],B217_22step uu r0⟩
def B217_34l (r0:(Unit×Int×Int×Int×Unit×(List PV))->Option ((List PV))):LoopE:=⟨34,⟨[0,1,2,3,4,18,19,20,21,22],bx14,(.con (.arr 0 0 34))::(.int .i64)::(.int .i64)::(.int .i64)::(.con (.fn 65 0 []))::(.int .i64)::(.int .i64)::sv21⟩,[(.exit 8,⟨[0,1,2,3,4,18,19,20],bx14,(.con (.arr 0 0 34))::(.int .i64)::(.int .i64)::sv25⟩)],B217_34step uu r0⟩
def B217C (r0:(Unit×Int×Int×Int×Unit×(List PV))->Option ((List PV))):Cfg:=cfg Tryz.prog 220 1 [F65c uu,F251c uu,B217c r0] [B217_4l uu r0,B217_10l uu r0,B217_16l uu r0,B217_22l uu r0,B217_34l uu r0] uu
theorem B217k (r0:(Unit×Int×Int×Int×Unit×(List PV))->Option ((List PV))) (h:(B217c r0).Ok Tryz.prog):aam (B217C uu r0):=aad (qc (F65ok uu)<|qc (F251ok uu)<|qc h<|q0) p0
theorem B217_4ok (r0:(Unit×Int×Int×Int×Unit×(List PV))->Option ((List PV))) (h:(B217c r0).Ok Tryz.prog):LoopOk (B217C uu r0) (lp (aaj Tryz.f217) 0):=okL (B217k uu r0 h) uu (B217_4l uu r0) L0
theorem B217_10ok (r0:(Unit×Int×Int×Int×Unit×(List PV))->Option ((List PV))) (h:(B217c r0).Ok Tryz.prog):LoopOk (B217C uu r0) (lp (aaj Tryz.f217) 1):=okL (B217k uu r0 h) uu (B217_10l uu r0) L0
theorem B217_16ok (r0:(Unit×Int×Int×Int×Unit×(List PV))->Option ((List PV))) (h:(B217c r0).Ok Tryz.prog):LoopOk (B217C uu r0) (lp (aaj Tryz.f217) 2):=okL (B217k uu r0 h) uu (B217_16l uu r0) L0
theorem B217_22ok (r0:(Unit×Int×Int×Int×Unit×(List PV))->Option ((List PV))) (h:(B217c r0).Ok Tryz.prog):LoopOk (B217C uu r0) (lp (aaj Tryz.f217) 3):=okL (B217k uu r0 h) uu (B217_22l uu r0) L0
theorem B217_34ok (r0:(Unit×Int×Int×Int×Unit×(List PV))->Option ((List PV))) (h:(B217c r0).Ok Tryz.prog):LoopOk (B217C uu r0) (lp (aaj Tryz.f217) 4):=okL (B217k uu r0 h) uu (B217_34l uu r0) L0
theorem B217ok (r0:(Unit×Int×Int×Int×Unit×(List PV))->Option ((List PV))) (o:(B217c r0).Ok Tryz.prog):(B217c (λx=>B217 uu r0 x.1 x.2.1 x.2.2.1 x.2.2.2.1 x.2.2.2.2.1 x.2.2.2.2.2)).Ok Tryz.prog:=okE Tryz.f217 (B217k uu r0 o) (ant 5 (by kernel_rfl) λi z=>match i,z with | 0,_=>(B217_4ok uu r0 o) | 1,_=>(B217_10ok uu r0 o) | 2,_=>(B217_16ok uu r0 o) | 3,_=>(B217_22ok uu r0 o) | 4,_=>(B217_34ok uu r0 o) | n+5,h=>absurd h (by omega))
def G217 (uu:Nat):Nat->((Unit×Int×Int×Int×Unit×(List PV))->Option ((List PV))) | 0=>λ_=>none | d+1=>λx=>B217 uu (G217 uu d) x.1 x.2.1 x.2.2.1 x.2.2.2.1 x.2.2.2.2.1 x.2.2.2.2.2
theorem G217ok (uu:Nat):∀ d,(B217c (G217 uu d)).Ok Tryz.prog
 | 0=>a4j
 | d+1=>B217ok uu (G217 uu d) (G217ok uu d)
def F217 (h:Unit) (o:Int) (z:Int) (H:Int) (I:Unit) (J:List PV):Option ((List PV)):=limQ uu (λd=>(G217 uu d)) (h,o,z,H,I,J)
def F217c:CallE:=⟨217,⟨5,bx14,sv22⟩,⟨0,bx14,[.slice 34]⟩,λx=>F217 uu x.1 x.2.1 x.2.2.1 x.2.2.2.1 x.2.2.2.2.1 x.2.2.2.2.2,[]⟩
theorem F217ok:okP (F217c uu):=a8c (F217c uu) (G:=(λd=>(G217 uu d))) (λx=>rfl) (λd=>(G217ok uu d))
abbrev S158_3x:=Unit×Int×Unit×Int×Int×Int×(List PV)
abbrev S158_3y:=(Unit×Int×Unit×Int×Int×(List PV))
def S158_3 (M:Unit) (o:Int) (O:Unit) (z:Int) (H:Int) (h:Int) (I:List PV):Option (S158_3x⊕S158_3y):=bif (decide (h<=o)) then (F216 uu () H h () I).bind λJ=>some (.inl ((),o,(),z,h,(IntKind.wrap .i64 (h+z)),J)) else some (.inr ((),o,(),z,H,I))
def S158_3step (x:S158_3x):Option (S158_3x⊕S158_3y):=S158_3 uu x.1 x.2.1 x.2.2.1 x.2.2.2.1 x.2.2.2.2.1 x.2.2.2.2.2.1 x.2.2.2.2.2.2
abbrev S158_10x:=Unit×Int×Unit×Int×Int×Int×(List PV)
abbrev S158_10y:=(Unit×Int×Unit×Int×Int×(List PV))
def S158_10 (M:Unit) (z:Int) (O:Unit) (h:Int) (H:Int) (o:Int) (I:List PV):Option (S158_10x⊕S158_10y):=bif (decide (o<=z)) then (F217 uu () H (IntKind.wrap .i64 (H+h)) o () I).bind λJ=>some (.inl ((),z,(),h,o,(IntKind.wrap .i64 (o+(IntKind.wrap .i64 ((2:Int)*h)))),J)) else some (.inr ((),z,(),h,H,I))
def S158_10step (x:S158_10x):Option (S158_10x⊕S158_10y):=S158_10 uu x.1 x.2.1 x.2.2.1 x.2.2.2.1 x.2.2.2.2.1 x.2.2.2.2.2.1 x.2.2.2.2.2.2
abbrev S158_8x:=Unit×Int×Unit×Int×(List PV)
abbrev S158_8y:=((List PV))
def S158_8 (M:Unit) (z:Int) (O:Unit) (o:Int) (H:List PV):Option (S158_8x⊕S158_8y):=bif (decide (o<z)) then (aag uu (S158_10step uu) ((),z,(),o,(0:Int),(IntKind.wrap .i64 ((2:Int)*o)),H)).bind λh=>let I:=IntKind.wrap .i64 (h.2.2.2.2.1+h.2.2.2.1);bif (decide (I<h.2.1)) then (F217 uu () h.2.2.2.2.1 I h.2.1 () h.2.2.2.2.2).bind λJ=>some (.inl ((),h.2.1,(),(IntKind.wrap .i64 (h.2.2.2.1*2)),J)) else some (.inl ((),h.2.1,(),(IntKind.wrap .i64 (h.2.2.2.1*2)),h.2.2.2.2.2)) else some (.inr H)
def S158_8step (x:S158_8x):Option (S158_8x⊕S158_8y):=S158_8 uu x.1 x.2.1 x.2.2.1 x.2.2.2.1 x.2.2.2.2
def F158 (J:Unit) (H:Int) (M:Unit) (I:List PV):Option ((List PV)):=(aag uu (S158_3step uu) ((),H,(),(20:Int),(0:Int),(20:Int),I)).bind λh=>(F216 uu () h.2.2.2.2.1 h.2.1 () h.2.2.2.2.2).bind λo=>(aag uu (S158_8step uu) ((),h.2.1,(),h.2.2.2.1,o)).bind λz=>some z
def S158_3l:LoopE:=⟨3,⟨[0,1,2,6,7,8],bx14,(.con (.arr 0 0 34))::sv25⟩,[(.exit 0,⟨[0,1,2,6,7],bx14,sv23⟩)],S158_3step uu⟩
def S158_10l:LoopE:=⟨10,⟨[0,1,2,6,7,8],bx14,(.con (.arr 0 0 34))::sv25⟩,[(.exit 4,⟨[0,1,2,6,7],bx14,sv23⟩)],S158_10step uu⟩
def S158_8l:LoopE:=⟨8,⟨[0,1,2,6],bx14,(.con (.arr 0 0 34))::sv19⟩,[(.exit 2,⟨[],bx14,[.slice 34]⟩)],S158_8step uu⟩
def F158C:Cfg:=cfg Tryz.prog 63 1 [F216c uu,F217c uu] [S158_3l uu,S158_10l uu,S158_8l uu] uu
def F158c:CallE:=⟨158,⟨3,bx14,(.con (.arr 0 0 34))::sv26⟩,⟨0,bx14,[.slice 34]⟩,λx=>F158 uu x.1 x.2.1 x.2.2.1 x.2.2.2,[]⟩
theorem F158k:aam (F158C uu):=aad (qc (F216ok uu)<|qc (F217ok uu)<|q0) p0
theorem S158_3ok:LoopOk (F158C uu) (lp (aaj Tryz.f158) 0):=okL (F158k uu) uu (S158_3l uu) L0
theorem S158_10ok:LoopOk (F158C uu) (lp (lp (aaj Tryz.f158) 1) 0):=okL (F158k uu) uu (S158_10l uu) L0
theorem S158_8ok:LoopOk (F158C uu) (lp (aaj Tryz.f158) 1):=okL (F158k uu) uu (S158_8l uu) (L1 (S158_10ok uu))
theorem F158ok:okP (F158c uu):=okE Tryz.f158 (F158k uu) (L2 (S158_3ok uu) (S158_8ok uu))
def F92 (z:Unit) (H:Unit) (h:List PV):Option ((List PV)):=(F158 uu () (h.length:Int) () h).bind λo=>some o
def F92c:CallE:=⟨92,⟨2,bx14,(.con (.arr 0 0 34))::sv27⟩,⟨0,bx14,[.slice 34]⟩,λx=>F92 uu x.1 x.2.1 x.2.2,[]⟩
theorem F92ok:okP (F92c uu):=okJ Tryz.f92 9 1 uu _ [] false (qc (F158ok uu)<|q0) p0 L0
def F39 (h:List PV):Option ((List PV)):=(F91_v2 uu h).bind λo=>(F92 uu () () o.2).bind λz=>some z
def F39c:CallE:=⟨39,⟨1,[],[.slice 34]⟩,⟨1,[],[.slice 34]⟩,λx=>F39 uu x,[]⟩
theorem F39ok:okP (F39c uu):=okJ Tryz.f39 9 0 uu _ [] false (qc (F91_v2ok uu)<|qc (F92ok uu)<|q0) p0 L0
abbrev S14_5x:=Unit×Unit×Unit×(List PV)×Int×Int×PV×PV×(List PV)
abbrev S14_5y:=(Unit×Unit×Unit×PV×PV×(List PV))
def S14_5 (a4:Unit) (a5:Unit) (a6:Unit) (J:List PV) (M:Int) (H:Int) (h:PV) (o:PV) (z:List PV):Option (S14_5x⊕S14_5y):=bif (decide (H<M)) then bif aaa H J.length then let I:=J.getD H.toNat .bad;(F35 uu h (I.fld 0).asStr).bind λO=>bif (!O.2) then (F36 uu () [(PV.agg [(PV.int (2:Int)),(PV.str (I.fld 0).asStr),(PV.int (-1:Int)),(PV.str ([]:Bq)),(PV.str ([]:Bq))])] z).bind λZ=>some (.inl ((),(),(),J,M,(IntKind.wrap .i64 (H+1)),h,o,Z)) else some (.inl ((),(),(),J,M,(IntKind.wrap .i64 (H+1)),h,o,z)) else none else some (.inr ((),(),(),h,o,z))
def S14_5step (x:S14_5x):Option (S14_5x⊕S14_5y):=S14_5 uu x.1 x.2.1 x.2.2.1 x.2.2.2.1 x.2.2.2.2.1 x.2.2.2.2.2.1 x.2.2.2.2.2.2.1 x.2.2.2.2.2.2.2.1 x.2.2.2.2.2.2.2.2
abbrev S14_12x:=Unit×Unit×Unit×(List PV)×Int×Int×PV×PV×(List PV)
abbrev S14_12y:=(Unit×Unit×Unit×PV×PV×(List PV))
def S14_12 (aa:Unit) (ab:Unit) (ad:Unit) (o:List PV) (H:Int) (h:Int) (z:PV) (I:PV) (J:List PV):Option (S14_12x⊕S14_12y):=bif (decide (h<H)) then bif aaa h o.length then let M:=o.getD h.toNat .bad;(F37 uu z (M.fld 0).asStr).bind λO=>bif (!O.2) then (F36 uu () [(PV.agg [(PV.int (12:Int)),(PV.str (M.fld 0).asStr),(PV.int (-1:Int)),(PV.str ([]:Bq)),(PV.str ([]:Bq))])] J).bind λZ=>some (.inl ((),(),(),o,H,(IntKind.wrap .i64 (h+1)),z,I,Z)) else some (.inl ((),(),(),o,H,(IntKind.wrap .i64 (h+1)),z,I,J)) else none else some (.inr ((),(),(),z,I,J))
def S14_12step (x:S14_12x):Option (S14_12x⊕S14_12y):=S14_12 uu x.1 x.2.1 x.2.2.1 x.2.2.2.1 x.2.2.2.2.1 x.2.2.2.2.2.1 x.2.2.2.2.2.2.1 x.2.2.2.2.2.2.2.1 x.2.2.2.2.2.2.2.2
abbrev S14_19x:=Unit×Unit×(List PV)×Int×Int×PV×PV×(List PV)
abbrev S14_19y:=(Unit×PV×PV×(List PV))
def S14_19 (aa:Unit) (ab:Unit) (o:List PV) (H:Int) (h:Int) (z:PV) (I:PV) (J:List PV):Option (S14_19x⊕S14_19y):=bif (decide (h<H)) then bif aaa h o.length then let M:=o.getD h.toNat .bad;(F38 uu z (M.fld 0).asStr).bind λO=>bif (!O.2) then (F36 uu () [(PV.agg [(PV.int (18:Int)),(PV.str (M.fld 0).asStr),(PV.int (-1:Int)),(PV.str ([]:Bq)),(PV.str ([]:Bq))])] J).bind λZ=>some (.inl ((),(),o,H,(IntKind.wrap .i64 (h+1)),z,I,Z)) else some (.inl ((),(),o,H,(IntKind.wrap .i64 (h+1)),z,I,J)) else none else some (.inr ((),z,I,J))
def S14_19step (x:S14_19x):Option (S14_19x⊕S14_19y):=S14_19 uu x.1 x.2.1 x.2.2.1 x.2.2.2.1 x.2.2.2.2.1 x.2.2.2.2.2.1 x.2.2.2.2.2.2.1 x.2.2.2.2.2.2.2
def F14 (O:PV) (I:PV):Option ((List PV)):=(F34 uu () O I []).bind λy1=>let Z:=(I.fld 0).asList;(aag uu (S14_5step uu) ((),(),(),Z,(Z.length:Int),(0:Int),O,I,y1)).bind λh=>let z:=(h.2.2.2.2.1.fld 1).asList;(aag uu (S14_12step uu) ((),(),(),z,(z.length:Int),(0:Int),h.2.2.2.1,h.2.2.2.2.1,h.2.2.2.2.2)).bind λo=>let H:=(o.2.2.2.2.1.fld 2).asList;(aag uu (S14_19step uu) ((),(),H,(H.length:Int),(0:Int),o.2.2.2.1,o.2.2.2.2.1,o.2.2.2.2.2)).bind λJ=>(F39 uu J.2.2.2).bind λM=>some M
def S14_5l:LoopE:=⟨5,⟨[2,3,5,25,26,27],bx15,(.con (.ref 0 [] 26))::(.con (.ref 1 [] 26))::(.con (.ref 2 [] 66))::(.slice 63)::sv28⟩,[(.exit 0,⟨[2,3,5],bx15,(.con (.ref 0 [] 26))::(.con (.ref 1 [] 26))::sv29⟩)],S14_5step uu⟩
def S14_12l:LoopE:=⟨12,⟨[2,3,5,48,49,50],bx15,(.con (.ref 0 [] 26))::(.con (.ref 1 [] 26))::(.con (.ref 2 [] 66))::(.slice 73)::sv28⟩,[(.exit 2,⟨[2,3,5],bx15,(.con (.ref 0 [] 26))::(.con (.ref 1 [] 26))::sv29⟩)],S14_12step uu⟩
def S14_19l:LoopE:=⟨19,⟨[2,5,71,72,73],bx15,(.con (.ref 0 [] 26))::(.con (.ref 2 [] 66))::(.slice 78)::sv28⟩,[(.exit 4,⟨[5],bx15,sv29⟩)],S14_19step uu⟩
def F14C:Cfg:=cfg Tryz.prog 98 0 [F34c uu,F35c uu,F36c uu,F37c uu,F38c uu,F39c uu] [S14_5l uu,S14_12l uu,S14_19l uu] uu
def F14c:CallE:=⟨14,⟨2,[],sv30⟩,⟨1,[],[.slice 34]⟩,λx=>F14 uu x.1 x.2,[]⟩
theorem F14k:aam (F14C uu):=aad (qc (F34ok uu)<|qc (F35ok uu)<|qc (F36ok uu)<|qc (F37ok uu)<|qc (F38ok uu)<|qc (F39ok uu)<|q0) p0
theorem S14_5ok:LoopOk (F14C uu) (lp (aaj Tryz.f14) 0):=okL (F14k uu) uu (S14_5l uu) L0
theorem S14_12ok:LoopOk (F14C uu) (lp (aaj Tryz.f14) 1):=okL (F14k uu) uu (S14_12l uu) L0
theorem S14_19ok:LoopOk (F14C uu) (lp (aaj Tryz.f14) 2):=okL (F14k uu) uu (S14_19l uu) L0
theorem F14ok:okP (F14c uu):=okE Tryz.f14 (F14k uu) (L3 (S14_5ok uu) (S14_12ok uu) (S14_19ok uu))
abbrev S114_4x:=Unit×Unit×Unit×(List PV)×Int×Int×PV×PV×(List (PV×PV))×(List (PV×PV))×Unit×Unit
abbrev S114_4y:=(Unit×Unit×Unit×PV×PV×(List (PV×PV))×(List (PV×PV))×Unit×Unit)
def S114_4 (uu:Nat) (a3:Unit) (a4:Unit) (a5:Unit) (J:List PV) (M:Int) (I:Int) (O:PV) (o:PV) (h:List (PV×PV)) (z:List (PV×PV)) (Z:Unit) (aa:Unit):Option (S114_4x⊕S114_4y):=bif (decide (I<M)) then bif aaa I J.length then let H:=J.getD I.toNat .bad;bif (!(PV.mhas h (PV.str (H.fld 0).asStr))) then some (.inl ((),(),(),J,M,(IntKind.wrap .i64 (I+1)),O,o,PV.mput h (PV.str (H.fld 0).asStr) H,z,(),())) else some (.inl ((),(),(),J,M,(IntKind.wrap .i64 (I+1)),O,o,h,z,(),())) else none else some (.inr ((),(),(),O,o,h,z,(),()))
def S114_4step (x:S114_4x):Option (S114_4x⊕S114_4y):=S114_4 uu x.1 x.2.1 x.2.2.1 x.2.2.2.1 x.2.2.2.2.1 x.2.2.2.2.2.1 x.2.2.2.2.2.2.1 x.2.2.2.2.2.2.2.1 x.2.2.2.2.2.2.2.2.1 x.2.2.2.2.2.2.2.2.2.1 x.2.2.2.2.2.2.2.2.2.2.1 x.2.2.2.2.2.2.2.2.2.2.2
abbrev S114_11x:=Unit×Unit×(List PV)×Int×Int×PV×PV×(List (PV×PV))×(List (PV×PV))×Unit×Unit
abbrev S114_11y:=(Unit×Unit×PV×PV×(List (PV×PV))×(List (PV×PV))×Unit×Unit)
def S114_11 (uu:Nat) (O:Unit) (Z:Unit) (o:List PV) (z:Int) (h:Int) (H:PV) (I:PV) (J:List (PV×PV)) (M:List (PV×PV)) (aa:Unit) (ab:Unit):Option (S114_11x⊕S114_11y):=bif (decide (h<z)) then bif aaa h o.length then some (.inl ((),(),o,z,(IntKind.wrap .i64 (h+1)),H,I,J,PV.mput M (PV.str (((o.getD h.toNat .bad).fld 0).asStr)) (PV.bool true),(),())) else none else some (.inr ((),(),H,I,J,M,(),()))
def S114_11step (x:S114_11x):Option (S114_11x⊕S114_11y):=S114_11 uu x.1 x.2.1 x.2.2.1 x.2.2.2.1 x.2.2.2.2.1 x.2.2.2.2.2.1 x.2.2.2.2.2.2.1 x.2.2.2.2.2.2.2.1 x.2.2.2.2.2.2.2.2.1 x.2.2.2.2.2.2.2.2.2.1 x.2.2.2.2.2.2.2.2.2.2
def F114 (H:PV):Option PV:=let x1:=(H.fld 0).asList;(aag uu (S114_4step uu) ((),(),(),x1,(x1.length:Int),(0:Int),H,(PV.agg [(PV.map []),(PV.map [])]),[],[],(),())).bind λh=>let o:=(h.2.2.2.1.fld 1).asList;(aag uu (S114_11step uu) ((),(),o,(o.length:Int),(0:Int),h.2.2.2.1,h.2.2.2.2.1,h.2.2.2.2.2.1,h.2.2.2.2.2.2.1,(),())).bind λz=>some (PV.agg [(PV.map z.2.2.2.2.1),(PV.map z.2.2.2.2.2.1)])
def S114_4l:LoopE:=⟨4,⟨[1,2,3,14,15,16],bx16,(.con (.ref 0 [] 26))::(.con (.ref 1 [] 179))::(.con (.ref 4 [] 179))::(.slice 63)::(.int .i64)::(.int .i64)::sv31⟩,[(.exit 0,⟨[1,2,3],bx16,(.con (.ref 0 [] 26))::(.con (.ref 1 [] 179))::(.con (.ref 4 [] 179))::sv31⟩)],S114_4step uu⟩
def S114_11l:LoopE:=⟨11,⟨[2,3,37,38,39],bx16,(.con (.ref 1 [] 179))::(.con (.ref 4 [] 179))::(.slice 73)::(.int .i64)::(.int .i64)::sv31⟩,[(.exit 2,⟨[2,3],bx16,(.con (.ref 1 [] 179))::(.con (.ref 4 [] 179))::sv31⟩)],S114_11step uu⟩
def F114C:Cfg:=cfg Tryz.prog 49 0 [] [S114_4l uu,S114_11l uu] uu
def F114c:CallE:=⟨114,⟨1,[],[.data 26]⟩,⟨1,[],[.data 179]⟩,λx=>F114 uu x,PV.bad⟩
theorem F114k:aam (F114C uu):=aad q0 p0
theorem S114_4ok:LoopOk (F114C uu) (lp (aaj Tryz.f114) 0):=okL (F114k uu) uu (S114_4l uu) L0
theorem S114_11ok:LoopOk (F114C uu) (lp (aaj Tryz.f114) 1):=okL (F114k uu) uu (S114_11l uu) L0
theorem F114ok:okP (F114c uu):=okE Tryz.f114 (F114k uu) (L2 (S114_4ok uu) (S114_11ok uu))
def F228 (uu:Nat) (o:PV) (h:PV):Option Bool:=some (bif (PV.mhas ((o.fld 0).asMap) (PV.str (((h.fld 4).fld 1).asStr))) then ((((h.fld 4).fld 0).asInt)==10) else false)
def F228c:CallE:=⟨228,⟨2,[],[.data 179,.data 59]⟩,⟨1,[],[.bool]⟩,λx=>F228 uu x.1 x.2,false⟩
theorem F228ok:okP (F228c uu):=okJ Tryz.f228 23 0 uu [] [] false q0 p0 L0
def F173 (o:PV) (h:PV):Option Bool:=(F228 uu o h).bind λz=>some (bif z then true else (bif ((((h.fld 4).fld 0).asInt)==9) then (((PV.mget ((o.fld 1).asMap) (PV.str (((h.fld 4).fld 1).asStr))).getD (PV.bool false)).asBool) else false))
def F173c:CallE:=⟨173,⟨2,[],[.data 179,.data 59]⟩,⟨1,[],[.bool]⟩,λx=>F173 uu x.1 x.2,false⟩
theorem F173ok:okP (F173c uu):=okJ Tryz.f173 22 0 uu _ [] false (qc (F228ok uu)<|q0) p0 L0
def F185 (uu:Nat) (h:Int):Option Int:=bif (decide (h>=4294967296)) then let H:=h.fdiv (2^(min (32:Int).toNat (IntKind.bits .u64)));bif (decide (H>=65536)) then let x4:=H.fdiv (2^(min (16:Int).toNat (IntKind.bits .u64)));let x5:=IntKind.wrap .i64 ((32:Int)+16);bif (decide (x4>=256)) then let x9:=IntKind.wrap .u8 (x4.fdiv (2^(min (8:Int).toNat (IntKind.bits .u64))));bif aaa x9 (([0,1,2,2,3,3,3,3,4,4,4,4,4,4,4,4,5,5,5,5,5,5,5,5,5,5,5,5,5,5,5,5,6,6,6,6,6,6,6,6,6,6,6,6,6,6,6,6,6,6,6,6,6,6,6,6,6,6,6,6,6,6,6,6,7,7,7,7,7,7,7,7,7,7,7,7,7,7,7,7,7,7,7,7,7,7,7,7,7,7,7,7,7,7,7,7,7,7,7,7,7,7,7,7,7,7,7,7,7,7,7,7,7,7,7,7,7,7,7,7,7,7,7,7,7,7,7,7,8,8,8,8,8,8,8,8,8,8,8,8,8,8,8,8,8,8,8,8,8,8,8,8,8,8,8,8,8,8,8,8,8,8,8,8,8,8,8,8,8,8,8,8,8,8,8,8,8,8,8,8,8,8,8,8,8,8,8,8,8,8,8,8,8,8,8,8,8,8,8,8,8,8,8,8,8,8,8,8,8,8,8,8,8,8,8,8,8,8,8,8,8,8,8,8,8,8,8,8,8,8,8,8,8,8,8,8,8,8,8,8,8,8,8,8,8,8,8,8,8,8,8,8,8,8,8,8]:Bq).length) then let ad:=((([0,1,2,2,3,3,3,3,4,4,4,4,4,4,4,4,5,5,5,5,5,5,5,5,5,5,5,5,5,5,5,5,6,6,6,6,6,6,6,6,6,6,6,6,6,6,6,6,6,6,6,6,6,6,6,6,6,6,6,6,6,6,6,6,7,7,7,7,7,7,7,7,7,7,7,7,7,7,7,7,7,7,7,7,7,7,7,7,7,7,7,7,7,7,7,7,7,7,7,7,7,7,7,7,7,7,7,7,7,7,7,7,7,7,7,7,7,7,7,7,7,7,7,7,7,7,7,7,8,8,8,8,8,8,8,8,8,8,8,8,8,8,8,8,8,8,8,8,8,8,8,8,8,8,8,8,8,8,8,8,8,8,8,8,8,8,8,8,8,8,8,8,8,8,8,8,8,8,8,8,8,8,8,8,8,8,8,8,8,8,8,8,8,8,8,8,8,8,8,8,8,8,8,8,8,8,8,8,8,8,8,8,8,8,8,8,8,8,8,8,8,8,8,8,8,8,8,8,8,8,8,8,8,8,8,8,8,8,8,8,8,8,8,8,8,8,8,8,8,8,8,8,8,8,8,8]:Bq).getD x9.toNat 0).toNat:Int);some (IntKind.wrap .i64 ((IntKind.wrap .i64 (x5+8))+(IntKind.wrap .i64 ad))) else none else let z:=IntKind.wrap .u8 x4;bif aaa z (([0,1,2,2,3,3,3,3,4,4,4,4,4,4,4,4,5,5,5,5,5,5,5,5,5,5,5,5,5,5,5,5,6,6,6,6,6,6,6,6,6,6,6,6,6,6,6,6,6,6,6,6,6,6,6,6,6,6,6,6,6,6,6,6,7,7,7,7,7,7,7,7,7,7,7,7,7,7,7,7,7,7,7,7,7,7,7,7,7,7,7,7,7,7,7,7,7,7,7,7,7,7,7,7,7,7,7,7,7,7,7,7,7,7,7,7,7,7,7,7,7,7,7,7,7,7,7,7,8,8,8,8,8,8,8,8,8,8,8,8,8,8,8,8,8,8,8,8,8,8,8,8,8,8,8,8,8,8,8,8,8,8,8,8,8,8,8,8,8,8,8,8,8,8,8,8,8,8,8,8,8,8,8,8,8,8,8,8,8,8,8,8,8,8,8,8,8,8,8,8,8,8,8,8,8,8,8,8,8,8,8,8,8,8,8,8,8,8,8,8,8,8,8,8,8,8,8,8,8,8,8,8,8,8,8,8,8,8,8,8,8,8,8,8,8,8,8,8,8,8,8,8,8,8,8,8]:Bq).length) then let ae:=((([0,1,2,2,3,3,3,3,4,4,4,4,4,4,4,4,5,5,5,5,5,5,5,5,5,5,5,5,5,5,5,5,6,6,6,6,6,6,6,6,6,6,6,6,6,6,6,6,6,6,6,6,6,6,6,6,6,6,6,6,6,6,6,6,7,7,7,7,7,7,7,7,7,7,7,7,7,7,7,7,7,7,7,7,7,7,7,7,7,7,7,7,7,7,7,7,7,7,7,7,7,7,7,7,7,7,7,7,7,7,7,7,7,7,7,7,7,7,7,7,7,7,7,7,7,7,7,7,8,8,8,8,8,8,8,8,8,8,8,8,8,8,8,8,8,8,8,8,8,8,8,8,8,8,8,8,8,8,8,8,8,8,8,8,8,8,8,8,8,8,8,8,8,8,8,8,8,8,8,8,8,8,8,8,8,8,8,8,8,8,8,8,8,8,8,8,8,8,8,8,8,8,8,8,8,8,8,8,8,8,8,8,8,8,8,8,8,8,8,8,8,8,8,8,8,8,8,8,8,8,8,8,8,8,8,8,8,8,8,8,8,8,8,8,8,8,8,8,8,8,8,8,8,8,8,8]:Bq).getD z.toNat 0).toNat:Int);some (IntKind.wrap .i64 (x5+(IntKind.wrap .i64 ae))) else none else bif (decide (H>=256)) then let I:=IntKind.wrap .u8 (H.fdiv (2^(min (8:Int).toNat (IntKind.bits .u64))));bif aaa I (([0,1,2,2,3,3,3,3,4,4,4,4,4,4,4,4,5,5,5,5,5,5,5,5,5,5,5,5,5,5,5,5,6,6,6,6,6,6,6,6,6,6,6,6,6,6,6,6,6,6,6,6,6,6,6,6,6,6,6,6,6,6,6,6,7,7,7,7,7,7,7,7,7,7,7,7,7,7,7,7,7,7,7,7,7,7,7,7,7,7,7,7,7,7,7,7,7,7,7,7,7,7,7,7,7,7,7,7,7,7,7,7,7,7,7,7,7,7,7,7,7,7,7,7,7,7,7,7,8,8,8,8,8,8,8,8,8,8,8,8,8,8,8,8,8,8,8,8,8,8,8,8,8,8,8,8,8,8,8,8,8,8,8,8,8,8,8,8,8,8,8,8,8,8,8,8,8,8,8,8,8,8,8,8,8,8,8,8,8,8,8,8,8,8,8,8,8,8,8,8,8,8,8,8,8,8,8,8,8,8,8,8,8,8,8,8,8,8,8,8,8,8,8,8,8,8,8,8,8,8,8,8,8,8,8,8,8,8,8,8,8,8,8,8,8,8,8,8,8,8,8,8,8,8,8,8]:Bq).length) then let af:=((([0,1,2,2,3,3,3,3,4,4,4,4,4,4,4,4,5,5,5,5,5,5,5,5,5,5,5,5,5,5,5,5,6,6,6,6,6,6,6,6,6,6,6,6,6,6,6,6,6,6,6,6,6,6,6,6,6,6,6,6,6,6,6,6,7,7,7,7,7,7,7,7,7,7,7,7,7,7,7,7,7,7,7,7,7,7,7,7,7,7,7,7,7,7,7,7,7,7,7,7,7,7,7,7,7,7,7,7,7,7,7,7,7,7,7,7,7,7,7,7,7,7,7,7,7,7,7,7,8,8,8,8,8,8,8,8,8,8,8,8,8,8,8,8,8,8,8,8,8,8,8,8,8,8,8,8,8,8,8,8,8,8,8,8,8,8,8,8,8,8,8,8,8,8,8,8,8,8,8,8,8,8,8,8,8,8,8,8,8,8,8,8,8,8,8,8,8,8,8,8,8,8,8,8,8,8,8,8,8,8,8,8,8,8,8,8,8,8,8,8,8,8,8,8,8,8,8,8,8,8,8,8,8,8,8,8,8,8,8,8,8,8,8,8,8,8,8,8,8,8,8,8,8,8,8,8]:Bq).getD I.toNat 0).toNat:Int);some (IntKind.wrap .i64 ((IntKind.wrap .i64 ((32:Int)+8))+(IntKind.wrap .i64 af))) else none else let J:=IntKind.wrap .u8 H;bif aaa J (([0,1,2,2,3,3,3,3,4,4,4,4,4,4,4,4,5,5,5,5,5,5,5,5,5,5,5,5,5,5,5,5,6,6,6,6,6,6,6,6,6,6,6,6,6,6,6,6,6,6,6,6,6,6,6,6,6,6,6,6,6,6,6,6,7,7,7,7,7,7,7,7,7,7,7,7,7,7,7,7,7,7,7,7,7,7,7,7,7,7,7,7,7,7,7,7,7,7,7,7,7,7,7,7,7,7,7,7,7,7,7,7,7,7,7,7,7,7,7,7,7,7,7,7,7,7,7,7,8,8,8,8,8,8,8,8,8,8,8,8,8,8,8,8,8,8,8,8,8,8,8,8,8,8,8,8,8,8,8,8,8,8,8,8,8,8,8,8,8,8,8,8,8,8,8,8,8,8,8,8,8,8,8,8,8,8,8,8,8,8,8,8,8,8,8,8,8,8,8,8,8,8,8,8,8,8,8,8,8,8,8,8,8,8,8,8,8,8,8,8,8,8,8,8,8,8,8,8,8,8,8,8,8,8,8,8,8,8,8,8,8,8,8,8,8,8,8,8,8,8,8,8,8,8,8,8]:Bq).length) then let ag:=((([0,1,2,2,3,3,3,3,4,4,4,4,4,4,4,4,5,5,5,5,5,5,5,5,5,5,5,5,5,5,5,5,6,6,6,6,6,6,6,6,6,6,6,6,6,6,6,6,6,6,6,6,6,6,6,6,6,6,6,6,6,6,6,6,7,7,7,7,7,7,7,7,7,7,7,7,7,7,7,7,7,7,7,7,7,7,7,7,7,7,7,7,7,7,7,7,7,7,7,7,7,7,7,7,7,7,7,7,7,7,7,7,7,7,7,7,7,7,7,7,7,7,7,7,7,7,7,7,8,8,8,8,8,8,8,8,8,8,8,8,8,8,8,8,8,8,8,8,8,8,8,8,8,8,8,8,8,8,8,8,8,8,8,8,8,8,8,8,8,8,8,8,8,8,8,8,8,8,8,8,8,8,8,8,8,8,8,8,8,8,8,8,8,8,8,8,8,8,8,8,8,8,8,8,8,8,8,8,8,8,8,8,8,8,8,8,8,8,8,8,8,8,8,8,8,8,8,8,8,8,8,8,8,8,8,8,8,8,8,8,8,8,8,8,8,8,8,8,8,8,8,8,8,8,8,8]:Bq).getD J.toNat 0).toNat:Int);some (IntKind.wrap .i64 ((32:Int)+(IntKind.wrap .i64 ag))) else none else bif (decide (h>=65536)) then let o:=h.fdiv (2^(min (16:Int).toNat (IntKind.bits .u64)));let M:=IntKind.wrap .i64 ((0:Int)+16);bif (decide (o>=256)) then let O:=IntKind.wrap .u8 (o.fdiv (2^(min (8:Int).toNat (IntKind.bits .u64))));bif aaa O (([0,1,2,2,3,3,3,3,4,4,4,4,4,4,4,4,5,5,5,5,5,5,5,5,5,5,5,5,5,5,5,5,6,6,6,6,6,6,6,6,6,6,6,6,6,6,6,6,6,6,6,6,6,6,6,6,6,6,6,6,6,6,6,6,7,7,7,7,7,7,7,7,7,7,7,7,7,7,7,7,7,7,7,7,7,7,7,7,7,7,7,7,7,7,7,7,7,7,7,7,7,7,7,7,7,7,7,7,7,7,7,7,7,7,7,7,7,7,7,7,7,7,7,7,7,7,7,7,8,8,8,8,8,8,8,8,8,8,8,8,8,8,8,8,8,8,8,8,8,8,8,8,8,8,8,8,8,8,8,8,8,8,8,8,8,8,8,8,8,8,8,8,8,8,8,8,8,8,8,8,8,8,8,8,8,8,8,8,8,8,8,8,8,8,8,8,8,8,8,8,8,8,8,8,8,8,8,8,8,8,8,8,8,8,8,8,8,8,8,8,8,8,8,8,8,8,8,8,8,8,8,8,8,8,8,8,8,8,8,8,8,8,8,8,8,8,8,8,8,8,8,8,8,8,8,8]:Bq).length) then let ah:=((([0,1,2,2,3,3,3,3,4,4,4,4,4,4,4,4,5,5,5,5,5,5,5,5,5,5,5,5,5,5,5,5,6,6,6,6,6,6,6,6,6,6,6,6,6,6,6,6,6,6,6,6,6,6,6,6,6,6,6,6,6,6,6,6,7,7,7,7,7,7,7,7,7,7,7,7,7,7,7,7,7,7,7,7,7,7,7,7,7,7,7,7,7,7,7,7,7,7,7,7,7,7,7,7,7,7,7,7,7,7,7,7,7,7,7,7,7,7,7,7,7,7,7,7,7,7,7,7,8,8,8,8,8,8,8,8,8,8,8,8,8,8,8,8,8,8,8,8,8,8,8,8,8,8,8,8,8,8,8,8,8,8,8,8,8,8,8,8,8,8,8,8,8,8,8,8,8,8,8,8,8,8,8,8,8,8,8,8,8,8,8,8,8,8,8,8,8,8,8,8,8,8,8,8,8,8,8,8,8,8,8,8,8,8,8,8,8,8,8,8,8,8,8,8,8,8,8,8,8,8,8,8,8,8,8,8,8,8,8,8,8,8,8,8,8,8,8,8,8,8,8,8,8,8,8,8]:Bq).getD O.toNat 0).toNat:Int);some (IntKind.wrap .i64 ((IntKind.wrap .i64 (M+8))+(IntKind.wrap .i64 ah))) else none else let Z:=IntKind.wrap .u8 o;bif aaa Z (([0,1,2,2,3,3,3,3,4,4,4,4,4,4,4,4,5,5,5,5,5,5,5,5,5,5,5,5,5,5,5,5,6,6,6,6,6,6,6,6,6,6,6,6,6,6,6,6,6,6,6,6,6,6,6,6,6,6,6,6,6,6,6,6,7,7,7,7,7,7,7,7,7,7,7,7,7,7,7,7,7,7,7,7,7,7,7,7,7,7,7,7,7,7,7,7,7,7,7,7,7,7,7,7,7,7,7,7,7,7,7,7,7,7,7,7,7,7,7,7,7,7,7,7,7,7,7,7,8,8,8,8,8,8,8,8,8,8,8,8,8,8,8,8,8,8,8,8,8,8,8,8,8,8,8,8,8,8,8,8,8,8,8,8,8,8,8,8,8,8,8,8,8,8,8,8,8,8,8,8,8,8,8,8,8,8,8,8,8,8,8,8,8,8,8,8,8,8,8,8,8,8,8,8,8,8,8,8,8,8,8,8,8,8,8,8,8,8,8,8,8,8,8,8,8,8,8,8,8,8,8,8,8,8,8,8,8,8,8,8,8,8,8,8,8,8,8,8,8,8,8,8,8,8,8,8]:Bq).length) then let ai:=((([0,1,2,2,3,3,3,3,4,4,4,4,4,4,4,4,5,5,5,5,5,5,5,5,5,5,5,5,5,5,5,5,6,6,6,6,6,6,6,6,6,6,6,6,6,6,6,6,6,6,6,6,6,6,6,6,6,6,6,6,6,6,6,6,7,7,7,7,7,7,7,7,7,7,7,7,7,7,7,7,7,7,7,7,7,7,7,7,7,7,7,7,7,7,7,7,7,7,7,7,7,7,7,7,7,7,7,7,7,7,7,7,7,7,7,7,7,7,7,7,7,7,7,7,7,7,7,7,8,8,8,8,8,8,8,8,8,8,8,8,8,8,8,8,8,8,8,8,8,8,8,8,8,8,8,8,8,8,8,8,8,8,8,8,8,8,8,8,8,8,8,8,8,8,8,8,8,8,8,8,8,8,8,8,8,8,8,8,8,8,8,8,8,8,8,8,8,8,8,8,8,8,8,8,8,8,8,8,8,8,8,8,8,8,8,8,8,8,8,8,8,8,8,8,8,8,8,8,8,8,8,8,8,8,8,8,8,8,8,8,8,8,8,8,8,8,8,8,8,8,8,8,8,8,8,8]:Bq).getD Z.toNat 0).toNat:Int);some (IntKind.wrap .i64 (M+(IntKind.wrap .i64 ai))) else none else bif (decide (h>=256)) then let aa:=IntKind.wrap .u8 (h.fdiv (2^(min (8:Int).toNat (IntKind.bits .u64))));bif aaa aa (([0,1,2,2,3,3,3,3,4,4,4,4,4,4,4,4,5,5,5,5,5,5,5,5,5,5,5,5,5,5,5,5,6,6,6,6,6,6,6,6,6,6,6,6,6,6,6,6,6,6,6,6,6,6,6,6,6,6,6,6,6,6,6,6,7,7,7,7,7,7,7,7,7,7,7,7,7,7,7,7,7,7,7,7,7,7,7,7,7,7,7,7,7,7,7,7,7,7,7,7,7,7,7,7,7,7,7,7,7,7,7,7,7,7,7,7,7,7,7,7,7,7,7,7,7,7,7,7,8,8,8,8,8,8,8,8,8,8,8,8,8,8,8,8,8,8,8,8,8,8,8,8,8,8,8,8,8,8,8,8,8,8,8,8,8,8,8,8,8,8,8,8,8,8,8,8,8,8,8,8,8,8,8,8,8,8,8,8,8,8,8,8,8,8,8,8,8,8,8,8,8,8,8,8,8,8,8,8,8,8,8,8,8,8,8,8,8,8,8,8,8,8,8,8,8,8,8,8,8,8,8,8,8,8,8,8,8,8,8,8,8,8,8,8,8,8,8,8,8,8,8,8,8,8,8,8]:Bq).length) then let aj:=((([0,1,2,2,3,3,3,3,4,4,4,4,4,4,4,4,5,5,5,5,5,5,5,5,5,5,5,5,5,5,5,5,6,6,6,6,6,6,6,6,6,6,6,6,6,6,6,6,6,6,6,6,6,6,6,6,6,6,6,6,6,6,6,6,7,7,7,7,7,7,7,7,7,7,7,7,7,7,7,7,7,7,7,7,7,7,7,7,7,7,7,7,7,7,7,7,7,7,7,7,7,7,7,7,7,7,7,7,7,7,7,7,7,7,7,7,7,7,7,7,7,7,7,7,7,7,7,7,8,8,8,8,8,8,8,8,8,8,8,8,8,8,8,8,8,8,8,8,8,8,8,8,8,8,8,8,8,8,8,8,8,8,8,8,8,8,8,8,8,8,8,8,8,8,8,8,8,8,8,8,8,8,8,8,8,8,8,8,8,8,8,8,8,8,8,8,8,8,8,8,8,8,8,8,8,8,8,8,8,8,8,8,8,8,8,8,8,8,8,8,8,8,8,8,8,8,8,8,8,8,8,8,8,8,8,8,8,8,8,8,8,8,8,8,8,8,8,8,8,8,8,8,8,8,8,8]:Bq).getD aa.toNat 0).toNat:Int);some (IntKind.wrap .i64 ((IntKind.wrap .i64 ((0:Int)+8))+(IntKind.wrap .i64 aj))) else none else let ab:=IntKind.wrap .u8 h;bif aaa ab (([0,1,2,2,3,3,3,3,4,4,4,4,4,4,4,4,5,5,5,5,5,5,5,5,5,5,5,5,5,5,5,5,6,6,6,6,6,6,6,6,6,6,6,6,6,6,6,6,6,6,6,6,6,6,6,6,6,6,6,6,6,6,6,6,7,7,7,7,7,7,7,7,7,7,7,7,7,7,7,7,7,7,7,7,7,7,7,7,7,7,7,7,7,7,7,7,7,7,7,7,7,7,7,7,7,7,7,7,7,7,7,7,7,7,7,7,7,7,7,7,7,7,7,7,7,7,7,7,8,8,8,8,8,8,8,8,8,8,8,8,8,8,8,8,8,8,8,8,8,8,8,8,8,8,8,8,8,8,8,8,8,8,8,8,8,8,8,8,8,8,8,8,8,8,8,8,8,8,8,8,8,8,8,8,8,8,8,8,8,8,8,8,8,8,8,8,8,8,8,8,8,8,8,8,8,8,8,8,8,8,8,8,8,8,8,8,8,8,8,8,8,8,8,8,8,8,8,8,8,8,8,8,8,8,8,8,8,8,8,8,8,8,8,8,8,8,8,8,8,8,8,8,8,8,8,8]:Bq).length) then let ak:=((([0,1,2,2,3,3,3,3,4,4,4,4,4,4,4,4,5,5,5,5,5,5,5,5,5,5,5,5,5,5,5,5,6,6,6,6,6,6,6,6,6,6,6,6,6,6,6,6,6,6,6,6,6,6,6,6,6,6,6,6,6,6,6,6,7,7,7,7,7,7,7,7,7,7,7,7,7,7,7,7,7,7,7,7,7,7,7,7,7,7,7,7,7,7,7,7,7,7,7,7,7,7,7,7,7,7,7,7,7,7,7,7,7,7,7,7,7,7,7,7,7,7,7,7,7,7,7,7,8,8,8,8,8,8,8,8,8,8,8,8,8,8,8,8,8,8,8,8,8,8,8,8,8,8,8,8,8,8,8,8,8,8,8,8,8,8,8,8,8,8,8,8,8,8,8,8,8,8,8,8,8,8,8,8,8,8,8,8,8,8,8,8,8,8,8,8,8,8,8,8,8,8,8,8,8,8,8,8,8,8,8,8,8,8,8,8,8,8,8,8,8,8,8,8,8,8,8,8,8,8,8,8,8,8,8,8,8,8,8,8,8,8,8,8,8,8,8,8,8,8,8,8,8,8,8,8]:Bq).getD ab.toNat 0).toNat:Int);some (IntKind.wrap .i64 ((0:Int)+(IntKind.wrap .i64 ak))) else none
def F185c:CallE:=⟨185,⟨1,[],[.int .u64]⟩,⟨1,[],[.int .i64]⟩,λx=>F185 uu x,0⟩
theorem F185ok:okP (F185c uu):=okJ Tryz.f185 25 0 uu [] [] false q0 p0 L0
def F118 (h:Int):Option Int:=(F185 uu h).bind λo=>some o
def F118c:CallE:=⟨118,⟨1,[],[.int .u64]⟩,⟨1,[],[.int .i64]⟩,λx=>F118 uu x,0⟩
theorem F118ok:okP (F118c uu):=okJ Tryz.f118 8 0 uu _ [] false (qc (F185ok uu)<|q0) p0 L0
def F181 (h:Bq) (o:Bq):Option Bool:=(F190 uu h).bind λz=>(bif z then F190 uu o else some false).bind λH=>some (bif (bif z then (!H) else false) then true else (Op.bytesLess h o))
def F181c:CallE:=⟨181,⟨2,[],[.str,.str]⟩,⟨1,[],[.bool]⟩,λx=>F181 uu x.1 x.2,false⟩
theorem F181ok:okP (F181c uu):=okJ Tryz.f181 17 0 uu _ [] false (qc (F190ok uu)<|q0) p0 L0
abbrev S175_5x:=Unit×Int×Int×Int×Int×(List PV)
abbrev S175_5y:=(Unit×Int×Int×Int×(List PV))
def S175_5 (a8:Unit) (a9:Int) (H:Int) (I:Int) (h:Int) (o:List PV):Option (S175_5x⊕S175_5y):=let z:=decide (h>a9);bif imp z (aaa h o.length) then let J:=IntKind.wrap .i64 (h-1);bif imp z (aaa J o.length) then (bif z then F181 uu (o.getD h.toNat .bad).asStr (o.getD J.toNat .bad).asStr else some false).bind λaa=>bif (bif z then aa else false) then let M:=IntKind.wrap .i64 (h-1);let O:=IntKind.wrap .i64 (h-1);bif aaa O o.length then bif aaa h o.length then bif aaa h o.length then let Z:=o.set h.toNat (PV.str (o.getD O.toNat .bad).asStr);bif aaa M Z.length then some (.inl ((),a9,H,I,(IntKind.wrap .i64 (h-1)),(Z.set M.toNat (PV.str (o.getD h.toNat .bad).asStr)))) else none else none else none else none else some (.inr ((),a9,H,I,o)) else none else none
def S175_5step (x:S175_5x):Option (S175_5x⊕S175_5y):=S175_5 uu x.1 x.2.1 x.2.2.1 x.2.2.2.1 x.2.2.2.2.1 x.2.2.2.2.2
abbrev S175_2x:=Unit×Int×Int×Int×(List PV)
abbrev S175_2y:=((List PV))
def S175_2 (J:Unit) (I:Int) (z:Int) (o:Int) (H:List PV):Option (S175_2x⊕S175_2y):=bif (decide (o<z)) then (aag uu (S175_5step uu) ((),I,z,o,o,H)).bind λh=>some (.inl ((),h.2.1,h.2.2.1,(IntKind.wrap .i64 (h.2.2.2.1+1)),h.2.2.2.2)) else some (.inr H)
def S175_2step (x:S175_2x):Option (S175_2x⊕S175_2y):=S175_2 uu x.1 x.2.1 x.2.2.1 x.2.2.2.1 x.2.2.2.2
def F175 (I:Unit) (o:Int) (z:Int) (H:List PV):Option ((List PV)):=(aag uu (S175_2step uu) ((),o,z,(IntKind.wrap .i64 (o+1)),H)).bind λh=>some h
def S175_5l:LoopE:=⟨5,⟨[0,1,2,6,7],bx17,(.con (.arr 0 0 9))::(.int .i64)::sv32⟩,[(.exit 2,⟨[0,1,2,6],bx17,sv33⟩)],S175_5step uu⟩
def S175_2l:LoopE:=⟨2,⟨[0,1,2,6],bx17,sv33⟩,[(.exit 0,⟨[],bx17,[.slice 9]⟩)],S175_2step uu⟩
def F175C:Cfg:=cfg Tryz.prog 49 1 [F181c uu] [S175_5l uu,S175_2l uu] uu
def F175c:CallE:=⟨175,⟨3,bx17,(.con (.arr 0 0 9))::sv34⟩,⟨0,bx17,[.slice 9]⟩,λx=>F175 uu x.1 x.2.1 x.2.2.1 x.2.2.2,[]⟩
theorem F175k:aam (F175C uu):=aad (qc (F181ok uu)<|q0) p0
theorem S175_5ok:LoopOk (F175C uu) (lp (lp (aaj Tryz.f175) 0) 0):=okL (F175k uu) uu (S175_5l uu) L0
theorem S175_2ok:LoopOk (F175C uu) (lp (aaj Tryz.f175) 0):=okL (F175k uu) uu (S175_2l uu) (L1 (S175_5ok uu))
theorem F175ok:okP (F175c uu):=okE Tryz.f175 (F175k uu) (L1 (S175_2ok uu))
def B117c (r:(Unit×Int×Int×Int×(List PV))->Option ((List PV))):CallE:=⟨117,⟨4,bx17,sv33⟩,⟨0,bx17,[.slice 9]⟩,r,[]⟩
abbrev B117_3x:=Unit×Int×Int×Int×Bool×Bool×(List PV)
abbrev B117_3y:=((List PV))
def B117_3 (r0:(Unit×Int×Int×Int×(List PV))->Option ((List PV))) (M:Unit) (o:Int) (z:Int) (H:Int) (I:Bool) (O:Bool) (J:List PV):Option (B117_3x⊕B117_3y):=bif (decide ((IntKind.wrap .i64 (z-o))<=12)) then (F175 uu () o z J).bind λh=>some (.inr h) else bif (H==0) then none else bif (!I) then none else none
def B117_3step (r0:(Unit×Int×Int×Int×(List PV))->Option ((List PV))) (x:B117_3x):Option (B117_3x⊕B117_3y):=B117_3 uu r0 x.1 x.2.1 x.2.2.1 x.2.2.2.1 x.2.2.2.2.1 x.2.2.2.2.2.1 x.2.2.2.2.2.2
def B117 (r0:(Unit×Int×Int×Int×(List PV))->Option ((List PV))) (J:Unit) (o:Int) (z:Int) (H:Int) (I:List PV):Option ((List PV)):=(aag uu (B117_3step uu r0) ((),o,z,H,true,true,I)).bind λh=>some h
def B117_3l (r0:(Unit×Int×Int×Int×(List PV))->Option ((List PV))):LoopE:=⟨3,⟨[0,1,2,3,8,9],bx17,[(.con (.arr 0 0 9)),.int .i64,.int .i64,.int .i64,.bool,.bool,.slice 9]⟩,[(.ret,⟨[],bx17,[.slice 9]⟩)],B117_3step uu r0⟩
def B117C (r0:(Unit×Int×Int×Int×(List PV))->Option ((List PV))):Cfg:=cfg Tryz.prog 134 1 [F175c uu] [B117_3l uu r0] uu
theorem B117k (r0:(Unit×Int×Int×Int×(List PV))->Option ((List PV))) (h:(B117c r0).Ok Tryz.prog):aam (B117C uu r0):=aad (qc (F175ok uu)<|q0) p0
theorem B117_3ok (r0:(Unit×Int×Int×Int×(List PV))->Option ((List PV))) (h:(B117c r0).Ok Tryz.prog):LoopOk (B117C uu r0) (lp (aaj Tryz.f117) 0):=okL (B117k uu r0 h) uu (B117_3l uu r0) L0
theorem B117ok (r0:(Unit×Int×Int×Int×(List PV))->Option ((List PV))) (h:(B117c r0).Ok Tryz.prog):(B117c (λx=>B117 uu r0 x.1 x.2.1 x.2.2.1 x.2.2.2.1 x.2.2.2.2)).Ok Tryz.prog:=okE Tryz.f117 (B117k uu r0 h) (L1 (B117_3ok uu r0 h))
def G117 (uu:Nat):Nat->((Unit×Int×Int×Int×(List PV))->Option ((List PV))) | 0=>λ_=>none | d+1=>λx=>B117 uu (G117 uu d) x.1 x.2.1 x.2.2.1 x.2.2.2.1 x.2.2.2.2
theorem G117ok (uu:Nat):∀ d,(B117c (G117 uu d)).Ok Tryz.prog
 | 0=>a4j
 | d+1=>B117ok uu (G117 uu d) (G117ok uu d)
def F117 (h:Unit) (o:Int) (z:Int) (H:Int) (I:List PV):Option ((List PV)):=limQ uu (λd=>(G117 uu d)) (h,o,z,H,I)
def F117c:CallE:=⟨117,⟨4,bx17,sv33⟩,⟨0,bx17,[.slice 9]⟩,λx=>F117 uu x.1 x.2.1 x.2.2.1 x.2.2.2.1 x.2.2.2.2,[]⟩
theorem F117ok:okP (F117c uu):=a8c (F117c uu) (G:=(λd=>(G117 uu d))) (λx=>rfl) (λd=>(G117ok uu d))
def F62 (H:Unit) (h:List PV):Option ((List PV)):=let x1:=(h.length:Int);(F118 uu (IntKind.wrap .u64 x1)).bind λo=>(F117 uu () (0:Int) x1 o h).bind λz=>some z
def F62c:CallE:=⟨62,⟨1,bx17,[(.con (.arr 0 0 9)),.slice 9]⟩,⟨0,bx17,[.slice 9]⟩,λx=>F62 uu x.1 x.2,[]⟩
theorem F62ok:okP (F62c uu):=okJ Tryz.f62 11 1 uu _ [] false (qc (F118ok uu)<|qc (F117ok uu)<|q0) p0 L0
abbrev S115_4x:=Unit×Unit×(List PV)×Int×Int×PV×(List PV)
abbrev S115_4y:=(Unit×PV×(List PV))
def S115_4 (Z:Unit) (aa:Unit) (o:List PV) (I:Int) (h:Int) (z:PV) (H:List PV):Option (S115_4x⊕S115_4y):=bif (decide (h<I)) then bif aaa h o.length then let J:=o.getD h.toNat .bad;(F173 uu z J).bind λO=>bif O then let M:=((J.fld 4).fld 1).asStr;bif decide (H.length+[(PV.str M)].length<=aae) then some (.inl ((),(),o,I,(IntKind.wrap .i64 (h+1)),z,(H++[(PV.str M)]))) else none else some (.inl ((),(),o,I,(IntKind.wrap .i64 (h+1)),z,H)) else none else some (.inr ((),z,H))
def S115_4step (x:S115_4x):Option (S115_4x⊕S115_4y):=S115_4 uu x.1 x.2.1 x.2.2.1 x.2.2.2.1 x.2.2.2.2.1 x.2.2.2.2.2.1 x.2.2.2.2.2.2
def F115 (H:PV) (J:Bq):Option ((List PV)):=let M:=(PV.mget ((H.fld 0).asMap) (PV.str J)).getD (PV.agg [(PV.str ([]:Bq)),(PV.slice []),(PV.slice []),(PV.slice []),(PV.slice [])]);let I:=(M.fld 1).asList;(aag uu (S115_4step uu) ((),(),I,(I.length:Int),(0:Int),H,[])).bind λh=>(F62 uu () h.2.2).bind λo=>(aik uu o).bind λz=>some z.2
def S115_4l:LoopE:=⟨4,⟨[2,5,12,13,14],[.box 179 .leaf,.arr 9 1],(.con (.ref 0 [] 179))::(.con (.arr 1 1 9))::(.slice 59)::(.int .i64)::(.int .i64)::sv35⟩,[(.exit 0,⟨[5],[.box 179 .leaf,.arr 9 1],(.con (.arr 1 1 9))::sv35⟩)],S115_4step uu⟩
def F115C:Cfg:=cfg Tryz.prog 32 0 [F173c uu,F62c uu,afs uu] [S115_4l uu] uu
def F115c:CallE:=⟨115,⟨2,[],sv36⟩,⟨1,[],[.slice 9]⟩,λx=>F115 uu x.1 x.2,[]⟩
theorem F115k:aam (F115C uu):=aad (qc (F173ok uu)<|qc (F62ok uu)<|qc (agm uu)<|q0) p0
theorem S115_4ok:LoopOk (F115C uu) (lp (aaj Tryz.f115) 0):=okL (F115k uu) uu (S115_4l uu) L0
theorem F115ok:okP (F115c uu):=okE Tryz.f115 (F115k uu) (L1 (S115_4ok uu))
abbrev S174_4x:=Unit×(List PV)×(List PV)×Int×Int×PV
abbrev S174_4y:=((List PV)×PV)
def S174_4 (Z:Unit) (I:List PV) (J:List PV) (M:Int) (o:Int) (h:PV):Option (S174_4x⊕S174_4y):=bif (decide (o<M)) then bif aaa o J.length then let z:=J.getD o.toNat .bad;(F228 uu h z).bind λO=>bif O then let H:=((z.fld 4).fld 1).asStr;bif decide (I.length+[(PV.str H)].length<=aae) then some (.inl ((),(I++[(PV.str H)]),J,M,(IntKind.wrap .i64 (o+1)),h)) else none else some (.inl ((),I,J,M,(IntKind.wrap .i64 (o+1)),h)) else none else some (.inr (I,h))
def S174_4step (x:S174_4x):Option (S174_4x⊕S174_4y):=S174_4 uu x.1 x.2.1 x.2.2.1 x.2.2.2.1 x.2.2.2.2.1 x.2.2.2.2.2
def F174 (o:PV) (H:Bq):Option ((List PV)):=let I:=(PV.mget ((o.fld 0).asMap) (PV.str H)).getD (PV.agg [(PV.str ([]:Bq)),(PV.slice []),(PV.slice []),(PV.slice []),(PV.slice [])]);let z:=(I.fld 1).asList;(aag uu (S174_4step uu) ((),[],z,(z.length:Int),(0:Int),o)).bind λh=>some h.1
def S174_4l:LoopE:=⟨4,⟨[2,5,12,13,14],[.box 179 .leaf,.acc],[(.con (.ref 0 [] 179)),.acc 1 9,.slice 59,.int .i64,.int .i64,.data 179]⟩,[(.exit 0,⟨[5],[.box 179 .leaf,.acc],[.acc 1 9,.data 179]⟩)],S174_4step uu⟩
def F174C:Cfg:=cfg Tryz.prog 29 0 [F228c uu] [S174_4l uu] uu
def F174c:CallE:=⟨174,⟨2,[],sv36⟩,⟨1,[],[.slice 9]⟩,λx=>F174 uu x.1 x.2,[]⟩
theorem F174k:aam (F174C uu):=aad (qc (F228ok uu)<|q0) p0
theorem S174_4ok:LoopOk (F174C uu) (lp (aaj Tryz.f174) 0):=okL (F174k uu) uu (S174_4l uu) L0
theorem F174ok:okP (F174c uu):=okE Tryz.f174 (F174k uu) (L1 (S174_4ok uu))
abbrev S116_4x:=Unit×Unit×(List PV)×PV×(List (PV×PV))
abbrev S116_4y:=(Unit×PV×(List (PV×PV)))
def S116_4 (J:Unit) (M:Unit) (h:List PV) (z:PV) (H:List (PV×PV)):Option (S116_4x⊕S116_4y):=bif (decide ((h.length:Int)>0)) then bif aaa (0:Int) h.length then let o:=(h.getD (0:Int).toNat .bad).asStr;bif (!(((PV.mget H (PV.str o)).getD (PV.bool false)).asBool)) then (F174 uu z o).bind λI=>none else bif decide (0<=(1:Int)/\(1:Int)<=(h.length:Int)/\(h.length:Int)<=(h.length:Int)) then some (.inl ((),(),((h.take (h.length:Int).toNat).drop (1:Int).toNat),z,H)) else none else none else some (.inr ((),z,H))
def S116_4step (x:S116_4x):Option (S116_4x⊕S116_4y):=S116_4 uu x.1 x.2.1 x.2.2.1 x.2.2.2.1 x.2.2.2.2
def F116 (o:PV) (z:Bq):Option ((List (PV×PV))):=(F174 uu o z).bind λH=>(aag uu (S116_4step uu) ((),(),H,o,[])).bind λh=>some h.2.2
def S116_4l:LoopE:=⟨4,⟨[2,5,6],[.box 179 .leaf,.map 9 4],[(.con (.ref 0 [] 179)),(.con (.mref 1)),.slice 9,.data 179,.map 9 4]⟩,[(.exit 0,⟨[5],[.box 179 .leaf,.map 9 4],[(.con (.mref 1)),.data 179,.map 9 4]⟩)],S116_4step uu⟩
def F116C:Cfg:=cfg Tryz.prog 32 0 [F174c uu] [S116_4l uu] uu
def F116c:CallE:=⟨116,⟨2,[],sv36⟩,⟨1,[],[.map 9 4]⟩,λx=>F116 uu x.1 x.2,[]⟩
theorem F116k:aam (F116C uu):=aad (qc (F174ok uu)<|q0) p0
theorem S116_4ok:LoopOk (F116C uu) (lp (aaj Tryz.f116) 0):=okL (F116k uu) uu (S116_4l uu) L0
theorem F116ok:okP (F116c uu):=okE Tryz.f116 (F116k uu) (L1 (S116_4ok uu))
abbrev S61_13x:=Unit×Unit×(List PV)×Int×Int×Unit×PV×PV×(List PV)×PV×(List (PV×PV))
abbrev S61_13y:=(Unit×Unit×(List PV)×Int×Int×PV×PV×(List PV)×PV×(List (PV×PV)))
def S61_13 (uu:Nat) (Z:Unit) (aa:Unit) (o:List PV) (z:Int) (H:Int) (ab:Unit) (I:PV) (J:PV) (M:List PV) (O:PV) (h:List (PV×PV)):Option (S61_13x⊕S61_13y):=bif h.isEmpty then some (.inr ((),(),o,z,H,I,J,M,O,h)) else none
def S61_13step (x:S61_13x):Option (S61_13x⊕S61_13y):=S61_13 uu x.1 x.2.1 x.2.2.1 x.2.2.2.1 x.2.2.2.2.1 x.2.2.2.2.2.1 x.2.2.2.2.2.2.1 x.2.2.2.2.2.2.2.1 x.2.2.2.2.2.2.2.2.1 x.2.2.2.2.2.2.2.2.2.1 x.2.2.2.2.2.2.2.2.2.2
abbrev S61_5x:=Unit×Unit×(List PV)×Int×Int×PV×PV×(List PV)
abbrev S61_5y:=(Unit×PV×PV×(List PV))
def S61_5 (af:Unit) (ag:Unit) (J:List PV) (M:Int) (z:Int) (O:PV) (o:PV) (H:List PV):Option (S61_5x⊕S61_5y):=bif (decide (z<M)) then bif aaa z J.length then let h:=(J.getD z.toNat .bad).asStr;let Z:=(o.fld 0).asMap;let ad:=(PV.mget Z (PV.str h)).getD (PV.agg [(PV.str ([]:Bq)),(PV.slice []),(PV.slice []),(PV.slice []),(PV.slice [])]);bif (!(PV.mhas Z (PV.str h))) then bif (((PV.mget ((o.fld 1).asMap) (PV.str h)).getD (PV.bool false)).asBool) then bif decide (H.length+[(PV.str h)].length<=aae) then some (.inl ((),(),J,M,(IntKind.wrap .i64 (z+1)),O,o,(H++[(PV.str h)]))) else none else some (.inl ((),(),J,M,(IntKind.wrap .i64 (z+1)),O,o,H)) else bif decide (H.length+[(PV.str h)].length<=aae) then let aa:=H++[(PV.str h)];(F115 uu o h).bind λab=>bif decide (aa.length+ab.length<=aae) then (F116 uu o h).bind λae=>(aag uu (S61_13step uu) ((),(),J,M,z,(),O,o,(aa++ab),ad,ae)).bind λI=>some (.inl ((),(),I.2.2.1,I.2.2.2.1,(IntKind.wrap .i64 (I.2.2.2.2.1+1)),I.2.2.2.2.2.1,I.2.2.2.2.2.2.1,I.2.2.2.2.2.2.2.1)) else none else none else none else some (.inr ((),O,o,H))
def S61_5step (x:S61_5x):Option (S61_5x⊕S61_5y):=S61_5 uu x.1 x.2.1 x.2.2.1 x.2.2.2.1 x.2.2.2.2.1 x.2.2.2.2.2.1 x.2.2.2.2.2.2.1 x.2.2.2.2.2.2.2
def F61 (H:PV) (I:List PV):Option (Unit×(List PV)):=(F114 uu H).bind λJ=>(aag uu (S61_5step uu) ((),(),I,(I.length:Int),(0:Int),H,J,[])).bind λh=>(F62 uu () h.2.2.2).bind λo=>(aik uu o).bind λz=>some ((),z.2)
def S61_13l:LoopE:=⟨13,⟨[5,6,14,15,16,48],bx18,[(.con (.ref 1 [] 179)),(.con (.arr 2 1 9)),.slice 9,.int .i64,.int .i64,(.con (.mitr 4)),.data 26,.data 179,.slice 9,.data 63,.map 9 4]⟩,[(.exit 2,⟨[5,6,14,15,16],bx18,[(.con (.ref 1 [] 179)),(.con (.arr 2 1 9)),.slice 9,.int .i64,.int .i64,.data 26,.data 179,.slice 9,.data 63,.map 9 4]⟩)],S61_13step uu⟩
def S61_5l:LoopE:=⟨5,⟨[5,6,14,15,16],bx19,(.con (.ref 1 [] 179))::(.con (.arr 2 1 9))::(.slice 9)::(.int .i64)::(.int .i64)::(.data 26)::sv35⟩,[(.exit 0,⟨[6],bx19,(.con (.arr 2 1 9))::(.data 26)::sv35⟩)],S61_5step uu⟩
def F61C:Cfg:=cfg Tryz.prog 66 0 [F114c uu,F115c uu,F116c uu,F62c uu,afs uu] [S61_13l uu,S61_5l uu] uu [] true
def F61c:CallE:=⟨61,⟨2,[],[.data 26,.slice 9]⟩,⟨1,[.arr 9 1],[(.con (.arr 0 1 9)),.slice 9]⟩,λx=>F61 uu x.1 x.2,((),[])⟩
theorem F61k:aam (F61C uu):=aad (qc (F114ok uu)<|qc (F115ok uu)<|qc (F116ok uu)<|qc (F62ok uu)<|qc (agm uu)<|q0) p0
theorem S61_13ok:LoopOk (F61C uu) (lp (lp (aaj Tryz.f61) 0) 0):=okL (F61k uu) uu (S61_13l uu) L0
theorem S61_5ok:LoopOk (F61C uu) (lp (aaj Tryz.f61) 0):=okL (F61k uu) uu (S61_5l uu) (L1 (S61_13ok uu))
theorem F61ok:okP (F61c uu):=okE Tryz.f61 (F61k uu) (L1 (S61_5ok uu))
abbrev S20_4x:=Bq×(List PV)×(List PV)×Int×Int
abbrev S20_4y:=((List PV))
def S20_4 (uu:Nat) (H:Bq) (o:List PV) (z:List PV) (I:Int) (h:Int):Option (S20_4x⊕S20_4y):=bif (decide (h<I)) then bif aaa h z.length then let J:=z.getD h.toNat .bad;bif ((J.fld 1).asStr==H) then bif decide (o.length+[J].length<=aae) then some (.inl (H,(o++[J]),z,I,(IntKind.wrap .i64 (h+1)))) else none else some (.inl (H,o,z,I,(IntKind.wrap .i64 (h+1)))) else none else some (.inr o)
def S20_4step (x:S20_4x):Option (S20_4x⊕S20_4y):=S20_4 uu x.1 x.2.1 x.2.2.1 x.2.2.2.1 x.2.2.2.2
def F20 (o:List PV) (z:Bq):Option ((List PV)):=(aag uu (S20_4step uu) (z,[],o,(o.length:Int),(0:Int))).bind λh=>some h
def S20_4l:LoopE:=⟨4,⟨[1,5,8,9,10],[.acc],.str::(.acc 0 34)::(.slice 34)::sv8⟩,[(.exit 0,⟨[5],[.acc],[.acc 0 34]⟩)],S20_4step uu⟩
def F20C:Cfg:=cfg Tryz.prog 24 0 [] [S20_4l uu] uu
def F20c:CallE:=⟨20,⟨2,[],[.slice 34,.str]⟩,⟨1,[],[.slice 34]⟩,λx=>F20 uu x.1 x.2,[]⟩
theorem F20k:aam (F20C uu):=aad q0 p0
theorem S20_4ok:LoopOk (F20C uu) (lp (aaj Tryz.f20) 0):=okL (F20k uu) uu (S20_4l uu) L0
theorem F20ok:okP (F20c uu):=okE Tryz.f20 (F20k uu) (L1 (S20_4ok uu))
abbrev S24_7x:=(List PV)×(List PV)×Unit×Int×Int×PV×PV×(List PV)×(List PV)
abbrev S24_7y:=((List PV)×PV×PV×(List PV)×(List PV))
def S24_7 (Z:List PV) (O:List PV) (ab:Unit) (z:Int) (h:Int) (H:PV) (I:PV) (o:List PV) (J:List PV):Option (S24_7x⊕S24_7y):=bif (decide (h<z)) then bif aaa h o.length then let M:=(o.getD h.toNat .bad).asStr;(F20 uu Z M).bind λaa=>bif (decide ((aa.length:Int)>0)) then bif decide (O.length+[(PV.str M)].length<=aae) then some (.inl (Z,(O++[(PV.str M)]),(),z,(IntKind.wrap .i64 (h+1)),H,I,o,J)) else none else some (.inl (Z,O,(),z,(IntKind.wrap .i64 (h+1)),H,I,o,J)) else none else some (.inr (O,H,I,o,J))
def S24_7step (x:S24_7x):Option (S24_7x⊕S24_7y):=S24_7 uu x.1 x.2.1 x.2.2.1 x.2.2.2.1 x.2.2.2.2.1 x.2.2.2.2.2.1 x.2.2.2.2.2.2.1 x.2.2.2.2.2.2.2.1 x.2.2.2.2.2.2.2.2
def F24 (h:PV) (o:PV) (I:Bq):Option ((List PV)):=(F61 uu h [(PV.str I)]).bind λJ=>(F61 uu o [(PV.str I)]).bind λz=>bif decide (J.2.length+z.2.length<=aae) then (F62 uu () (J.2++z.2)).bind λO=>(F14 uu h o).bind λZ=>(aik uu O).bind λM=>(aag uu (S24_7step uu) (Z,[],(),(M.2.length:Int),(0:Int),h,o,M.2,z.2)).bind λH=>some H.1 else none
def S24_7l:LoopE:=⟨7,⟨[8,9,27,28,29],bx20,(.slice 34)::(.acc 4 9)::(.con (.arr 2 1 9))::(.int .i64)::(.int .i64)::(.data 26)::(.data 26)::sv37⟩,[(.exit 0,⟨[9],bx20,(.acc 4 9)::(.data 26)::(.data 26)::sv37⟩)],S24_7step uu⟩
def F24C:Cfg:=cfg Tryz.prog 44 0 [F61c uu,F62c uu,F14c uu,afs uu,F20c uu] [S24_7l uu] uu
def F24c:CallE:=⟨24,⟨3,[],(.data 26)::sv2⟩,⟨1,[],[.slice 9]⟩,λx=>F24 uu x.1 x.2.1 x.2.2,[]⟩
theorem F24k:aam (F24C uu):=aad (qc (F61ok uu)<|qc (F62ok uu)<|qc (F14ok uu)<|qc (agm uu)<|qc (F20ok uu)<|q0) p0
theorem S24_7ok:LoopOk (F24C uu) (lp (aaj Tryz.f24) 0):=okL (F24k uu) uu (S24_7l uu) L0
theorem F24ok:okP (F24c uu):=okE Tryz.f24 (F24k uu) (L1 (S24_7ok uu))
def F51 (uu:Nat) (h:Int):Option Bq:=let x1:=(PV.agg [(PV.str ([109,101,115,115,97,103,101,45,103,111,110,101]:Bq)),(PV.str ([109,101,115,115,97,103,101,45,110,101,119]:Bq)),(PV.str ([102,105,101,108,100,45,103,111,110,101]:Bq)),(PV.str ([102,105,101,108,100,45,110,101,119]:Bq)),(PV.str ([102,105,101,108,100,45,110,97,109,101]:Bq)),(PV.str ([102,105,101,108,100,45,116,121,112,101]:Bq)),(PV.str ([102,105,101,108,100,45,99,97,114,100]:Bq)),(PV.str ([102,105,101,108,100,45,107,101,121]:Bq)),(PV.str ([102,105,101,108,100,45,117,110,105,111,110]:Bq)),(PV.str ([102,105,101,108,100,45,100,101,102,97,117,108,116]:Bq)),(PV.str ([101,110,117,109,45,103,111,110,101]:Bq)),(PV.str ([101,110,117,109,45,110,101,119]:Bq)),(PV.str ([101,110,117,109,45,111,112,101,110]:Bq)),(PV.str ([105,116,101,109,45,103,111,110,101]:Bq)),(PV.str ([105,116,101,109,45,110,101,119]:Bq)),(PV.str ([105,116,101,109,45,110,97,109,101]:Bq)),(PV.str ([115,101,114,118,105,99,101,45,103,111,110,101]:Bq)),(PV.str ([115,101,114,118,105,99,101,45,110,101,119]:Bq)),(PV.str ([109,101,116,104,111,100,45,103,111,110,101]:Bq)),(PV.str ([109,101,116,104,111,100,45,110,101,119]:Bq)),(PV.str ([109,101,116,104,111,100,45,116,121,112,101]:Bq)),(PV.str ([109,101,116,104,111,100,45,115,104,97,112,101]:Bq))]);bif (bif (decide (h<1)) then true else (decide (h>22))) then some ([117,110,107,110,111,119,110]:Bq) else let o:=IntKind.wrap .i64 (h-1);bif aaa o 22 then some (x1.fld o.toNat).asStr else none
def F51c:CallE:=⟨51,⟨1,[],[.int .i64]⟩,⟨1,[],[.str]⟩,λx=>F51 uu x,[]⟩
theorem F51ok:okP (F51c uu):=okJ Tryz.f51 15 0 uu [] [] false q0 p0 L0
abbrev S18_4x:=Unit×(List PV)×Int×Int×Bq
abbrev S18_4y:=(Unit×Bq)
def S18_4 (a2:Unit) (H:List PV) (a4:Int) (z:Int) (a6:Bq):Option (S18_4x⊕S18_4y):=bif (decide (z<a4)) then bif aaa z H.length then let h:=H.getD z.toNat .bad;(F51 uu (h.fld 0).asInt).bind λI=>(apy uu (h.fld 2).asInt).bind λJ=>(F53 uu (h.fld 3).asStr).bind λM=>(F53 uu (h.fld 4).asStr).bind λO=>(a0m uu [(PV.str I),(PV.str (h.fld 1).asStr),(PV.str J),(PV.str M),(PV.str O)] ([32]:Bq)).bind λo=>bif decide (o.length+([10]:Bq).length<=aan) then (abo uu (o++([10]:Bq)) a6).bind λZ=>some (.inl ((),H,a4,(IntKind.wrap .i64 (z+1)),Z.2.2)) else none else none else some (.inr ((),a6))
def S18_4step (x:S18_4x):Option (S18_4x⊕S18_4y):=S18_4 uu x.1 x.2.1 x.2.2.1 x.2.2.2.1 x.2.2.2.2
def F18 (z:List PV):Option Bq:=(aag uu (S18_4step uu) ((),z,(z.length:Int),(0:Int),[])).bind λh=>(aoa uu h.2).bind λo=>some o.1
def S18_4l:LoopE:=⟨4,⟨[3,6,7,8],[.bld 89],[(.con (.bref 0 89)),.slice 34,.int .i64,.int .i64,.str]⟩,[(.exit 0,⟨[3],[.bld 89],[(.con (.bref 0 89)),.str]⟩)],S18_4step uu⟩
def F18C:Cfg:=cfg Tryz.prog 32 0 [F51c uu,aw4 uu,F53c uu,a3s uu,ado uu,ah5 uu] [S18_4l uu] uu
def F18c:CallE:=⟨18,⟨1,[],[.slice 34]⟩,⟨1,[],[.str]⟩,λx=>F18 uu x,[]⟩
theorem F18k:aam (F18C uu):=aad (qc (F51ok uu)<|qc (aw5 uu)<|qc (F53ok uu)<|qc (a4q uu)<|qc (ae1 uu)<|qc (akc uu)<|q0) p0
theorem S18_4ok:LoopOk (F18C uu) (lp (aaj Tryz.f18) 0):=okL (F18k uu) uu (S18_4l uu) L0
theorem F18ok:okP (F18c uu):=okE Tryz.f18 (F18k uu) (L1 (S18_4ok uu))
def F47 (uu:Nat) (h:Int):Option Int:=bif (h==1) then some (IntKind.wrap .i64 (h+1)) else bif (h==3) then some (IntKind.wrap .i64 (h+1)) else bif (h==11) then some (IntKind.wrap .i64 (h+1)) else bif (h==17) then some (IntKind.wrap .i64 (h+1)) else bif (h==19) then some (IntKind.wrap .i64 (h+1)) else bif (h==14) then some (IntKind.wrap .i64 (h+1)) else bif (h==2) then some (IntKind.wrap .i64 (h-1)) else bif (h==4) then some (IntKind.wrap .i64 (h-1)) else bif (h==12) then some (IntKind.wrap .i64 (h-1)) else bif (h==18) then some (IntKind.wrap .i64 (h-1)) else bif (h==20) then some (IntKind.wrap .i64 (h-1)) else bif (h==15) then some (IntKind.wrap .i64 (h-1)) else some h
def F47c:CallE:=⟨47,⟨1,[],[.int .i64]⟩,⟨1,[],[.int .i64]⟩,λx=>F47 uu x,0⟩
theorem F47ok:okP (F47c uu):=okJ Tryz.f47 23 0 uu [] [] false q0 p0 L0
abbrev S16_4x:=(List PV)×(List PV)×Int×Int
abbrev S16_4y:=((List PV))
def S16_4 (M:List PV) (O:List PV) (a4:Int) (J:Int):Option (S16_4x⊕S16_4y):=bif (decide (J<a4)) then bif aaa J O.length then let I:=O.getD J.toNat .bad;(F47 uu (I.fld 0).asInt).bind λy9=>let h:=(I.fld 1).asStr;let o:=(I.fld 2).asInt;let z:=(I.fld 4).asStr;let H:=(I.fld 3).asStr;bif decide (M.length+[(PV.agg [(PV.int y9),(PV.str h),(PV.int o),(PV.str z),(PV.str H)])].length<=aae) then let Z:=M++[(PV.agg [(PV.int y9),(PV.str h),(PV.int o),(PV.str z),(PV.str H)])];some (.inl (Z,O,a4,(IntKind.wrap .i64 (J+1)))) else none else none else some (.inr M)
def S16_4step (x:S16_4x):Option (S16_4x⊕S16_4y):=S16_4 uu x.1 x.2.1 x.2.2.1 x.2.2.2
def F16 (z:List PV):Option ((List PV)):=(aag uu (S16_4step uu) ([],z,(z.length:Int),(0:Int))).bind λh=>(F39 uu h).bind λo=>some o
def S16_4l:LoopE:=⟨4,⟨[3,6,7,8],[.acc],(.acc 0 34)::(.slice 34)::sv8⟩,[(.exit 0,⟨[3],[.acc],[.acc 0 34]⟩)],S16_4step uu⟩
def F16C:Cfg:=cfg Tryz.prog 30 0 [F47c uu,F39c uu] [S16_4l uu] uu
def F16c:CallE:=⟨16,⟨1,[],[.slice 34]⟩,⟨1,[],[.slice 34]⟩,λx=>F16 uu x,[]⟩
theorem F16k:aam (F16C uu):=aad (qc (F47ok uu)<|qc (F39ok uu)<|q0) p0
theorem S16_4ok:LoopOk (F16C uu) (lp (aaj Tryz.f16) 0):=okL (F16k uu) uu (S16_4l uu) L0
theorem F16ok:okP (F16c uu):=okE Tryz.f16 (F16k uu) (L1 (S16_4ok uu))
def F12 :Option Bool:=(F14 uu (PV.agg [(PV.slice [(PV.agg [(PV.str ([97,46,77]:Bq)),(PV.slice [(PV.agg [(PV.int (1:Int)),(PV.str ([110]:Bq)),(PV.int (3:Int)),(PV.int (0:Int)),(PV.agg [(PV.int (4:Int)),(PV.str ([]:Bq))]),(PV.str ([]:Bq)),(PV.bool false),(PV.agg [(PV.int (0:Int)),(PV.int (0:Int)),(PV.str ([]:Bq)),(PV.slice []),(PV.slice []),(PV.slice []),(PV.slice [])]),(PV.slice [])]),(PV.agg [(PV.int (2:Int)),(PV.str ([108]:Bq)),(PV.int (4:Int)),(PV.int (0:Int)),(PV.agg [(PV.int (7:Int)),(PV.str ([]:Bq))]),(PV.str ([]:Bq)),(PV.bool false),(PV.agg [(PV.int (0:Int)),(PV.int (0:Int)),(PV.str ([]:Bq)),(PV.slice []),(PV.slice []),(PV.slice []),(PV.slice [])]),(PV.slice [])])]),(PV.slice []),(PV.slice []),(PV.slice [])])]),(PV.slice []),(PV.slice [])]) (PV.agg [(PV.slice [(PV.agg [(PV.str ([97,46,77]:Bq)),(PV.slice [(PV.agg [(PV.int (1:Int)),(PV.str ([109]:Bq)),(PV.int (3:Int)),(PV.int (0:Int)),(PV.agg [(PV.int (3:Int)),(PV.str ([]:Bq))]),(PV.str ([]:Bq)),(PV.bool false),(PV.agg [(PV.int (0:Int)),(PV.int (0:Int)),(PV.str ([]:Bq)),(PV.slice []),(PV.slice []),(PV.slice []),(PV.slice [])]),(PV.slice [])])]),(PV.slice []),(PV.slice []),(PV.slice [])])]),(PV.slice []),(PV.slice [])])).bind λH=>(F24 uu (PV.agg [(PV.slice [(PV.agg [(PV.str ([97,46,77]:Bq)),(PV.slice [(PV.agg [(PV.int (1:Int)),(PV.str ([110]:Bq)),(PV.int (3:Int)),(PV.int (0:Int)),(PV.agg [(PV.int (4:Int)),(PV.str ([]:Bq))]),(PV.str ([]:Bq)),(PV.bool false),(PV.agg [(PV.int (0:Int)),(PV.int (0:Int)),(PV.str ([]:Bq)),(PV.slice []),(PV.slice []),(PV.slice []),(PV.slice [])]),(PV.slice [])]),(PV.agg [(PV.int (2:Int)),(PV.str ([108]:Bq)),(PV.int (4:Int)),(PV.int (0:Int)),(PV.agg [(PV.int (7:Int)),(PV.str ([]:Bq))]),(PV.str ([]:Bq)),(PV.bool false),(PV.agg [(PV.int (0:Int)),(PV.int (0:Int)),(PV.str ([]:Bq)),(PV.slice []),(PV.slice []),(PV.slice []),(PV.slice [])]),(PV.slice [])])]),(PV.slice []),(PV.slice []),(PV.slice [])])]),(PV.slice []),(PV.slice [])]) (PV.agg [(PV.slice [(PV.agg [(PV.str ([97,46,77]:Bq)),(PV.slice [(PV.agg [(PV.int (1:Int)),(PV.str ([109]:Bq)),(PV.int (3:Int)),(PV.int (0:Int)),(PV.agg [(PV.int (3:Int)),(PV.str ([]:Bq))]),(PV.str ([]:Bq)),(PV.bool false),(PV.agg [(PV.int (0:Int)),(PV.int (0:Int)),(PV.str ([]:Bq)),(PV.slice []),(PV.slice []),(PV.slice []),(PV.slice [])]),(PV.slice [])])]),(PV.slice []),(PV.slice []),(PV.slice [])])]),(PV.slice []),(PV.slice [])]) ([97,46,77]:Bq)).bind λo=>(F18 uu H).bind λI=>let z:=I==([102,105,101,108,100,45,110,97,109,101,32,97,46,77,32,49,32,34,110,34,32,34,109,34,10,102,105,101,108,100,45,116,121,112,101,32,97,46,77,32,49,32,34,117,51,50,34,32,34,105,54,52,34,10,102,105,101,108,100,45,103,111,110,101,32,97,46,77,32,50,32,34,108,34,32,34,34,10]:Bq);(bif z then F16 uu H else some []).bind λJ=>let h:=bif (bif z then ((J.length:Int)==3) else false) then ((o.length:Int)==1) else false;bif imp h (aaa (0:Int) o.length) then some (bif h then ((o.getD (0:Int).toNat .bad).asStr==([97,46,77]:Bq)) else false) else none
def F12c:CallE:=⟨12,⟨0,[],[]⟩,⟨1,[],[.bool]⟩,λx=>F12 uu ,false⟩
theorem F12ok:okP (F12c uu):=okJ Tryz.f12 51 0 uu _ [] false (qc (F14ok uu)<|qc (F24ok uu)<|qc (F18ok uu)<|qc (F16ok uu)<|q0) p0 L0
theorem awake36_run:F12 1000=some true:=a1s (by kernel_rfl)
def akt (uu:Nat):Option Bool:=some true
def apx:CallE:={ f:=12,A:=⟨0,[],[]⟩,R:=⟨1,[],[.bool]⟩,F:=λx=>akt uu,dflt:=false }
theorem ar2:(F12c uu).F=λ_=>F12 uu:=rfl
theorem au7:(apx uu).Ok Tryz.prog:=λx y h=>F12ok 1000 () y ((congrFun (ar2 1000) ()).trans (awake36_run.trans h))
abbrev S74_4x:=Int×Unit×(List PV)×Int×PV
abbrev S74_4y:=(Int×Unit×(List PV)×PV)
def S74_4 (uu:Nat) (I:Int) (M:Unit) (J:List PV) (z:Int) (H:PV):Option (S74_4x⊕S74_4y):=bif (bif (I==1) then (decide (z<((H.fld 0).asList.length:Int))) else false) then let h:=(H.fld 0).asList;bif aaa z h.length then let o:=((h.getD z.toNat .bad).fld 0).asStr;bif decide (J.length+[(PV.str o)].length<=aae) then some (.inl (I,(),(J++[(PV.str o)]),(IntKind.wrap .i64 (z+1)),H)) else none else none else some (.inr (I,(),J,H))
def S74_4step (x:S74_4x):Option (S74_4x⊕S74_4y):=S74_4 uu x.1 x.2.1 x.2.2.1 x.2.2.2.1 x.2.2.2.2
abbrev S74_8x:=Int×Unit×(List PV)×Int×PV
abbrev S74_8y:=(Int×Unit×(List PV)×PV)
def S74_8 (uu:Nat) (z:Int) (M:Unit) (H:List PV) (h:Int) (o:PV):Option (S74_8x⊕S74_8y):=bif (bif (z==2) then (decide (h<((o.fld 1).asList.length:Int))) else false) then let I:=(o.fld 1).asList;bif aaa h I.length then let J:=((I.getD h.toNat .bad).fld 0).asStr;bif decide (H.length+[(PV.str J)].length<=aae) then some (.inl (z,(),(H++[(PV.str J)]),(IntKind.wrap .i64 (h+1)),o)) else none else none else some (.inr (z,(),H,o))
def S74_8step (x:S74_8x):Option (S74_8x⊕S74_8y):=S74_8 uu x.1 x.2.1 x.2.2.1 x.2.2.2.1 x.2.2.2.2
abbrev S74_12x:=Int×Unit×(List PV)×Int×PV
abbrev S74_12y:=((List PV)×PV)
def S74_12 (uu:Nat) (H:Int) (M:Unit) (z:List PV) (h:Int) (o:PV):Option (S74_12x⊕S74_12y):=bif (bif (H==3) then (decide (h<((o.fld 2).asList.length:Int))) else false) then let I:=(o.fld 2).asList;bif aaa h I.length then let J:=((I.getD h.toNat .bad).fld 0).asStr;bif decide (z.length+[(PV.str J)].length<=aae) then some (.inl (H,(),(z++[(PV.str J)]),(IntKind.wrap .i64 (h+1)),o)) else none else none else some (.inr (z,o))
def S74_12step (x:S74_12x):Option (S74_12x⊕S74_12y):=S74_12 uu x.1 x.2.1 x.2.2.1 x.2.2.2.1 x.2.2.2.2
def F74 (H:PV) (I:Int):Option ((List PV)):=(aag uu (S74_4step uu) (I,(),[],(0:Int),H)).bind λh=>(aag uu (S74_8step uu) (h.1,(),h.2.2.1,(0:Int),h.2.2.2)).bind λo=>(aag uu (S74_12step uu) (o.1,(),o.2.2.1,(0:Int),o.2.2.2)).bind λz=>some z.1
def S74_4l:LoopE:=⟨4,⟨[1,2,5,6],bx21,sv38⟩,[(.exit 0,⟨[1,2,5],bx21,(.int .i64)::(.con (.ref 0 [] 26))::sv39⟩)],S74_4step uu⟩
def S74_8l:LoopE:=⟨8,⟨[1,2,5,7],bx21,sv38⟩,[(.exit 2,⟨[1,2,5],bx21,(.int .i64)::(.con (.ref 0 [] 26))::sv39⟩)],S74_8step uu⟩
def S74_12l:LoopE:=⟨12,⟨[1,2,5,8],bx21,sv38⟩,[(.exit 4,⟨[5],bx21,sv39⟩)],S74_12step uu⟩
def F74C:Cfg:=cfg Tryz.prog 70 0 [] [S74_4l uu,S74_8l uu,S74_12l uu] uu
def F74c:CallE:=⟨74,⟨2,[],[.data 26,.int .i64]⟩,⟨1,[],[.slice 9]⟩,λx=>F74 uu x.1 x.2,[]⟩
theorem F74k:aam (F74C uu):=aad q0 p0
theorem S74_4ok:LoopOk (F74C uu) (lp (aaj Tryz.f74) 0):=okL (F74k uu) uu (S74_4l uu) L0
theorem S74_8ok:LoopOk (F74C uu) (lp (aaj Tryz.f74) 1):=okL (F74k uu) uu (S74_8l uu) L0
theorem S74_12ok:LoopOk (F74C uu) (lp (aaj Tryz.f74) 2):=okL (F74k uu) uu (S74_12l uu) L0
theorem F74ok:okP (F74c uu):=okE Tryz.f74 (F74k uu) (L3 (S74_4ok uu) (S74_8ok uu) (S74_12ok uu))
def F75 (uu:Nat) (J:Unit) (I:Bool) (z:Int) (H:Int) (h:Bq) (o:List PV):Option (Bq×(List PV)):=bif I then bif decide (o.length+[(PV.agg [(PV.str h),(PV.int z),(PV.int H)])].length<=aae) then some (h,(o++[(PV.agg [(PV.str h),(PV.int z),(PV.int H)])])) else none else some (h,o)
def F75c:CallE:=⟨75,⟨4,bx22,(.con (.ref 0 [] 134))::.bool::sv40⟩,⟨0,bx22,sv41⟩,λx=>F75 uu x.1 x.2.1 x.2.2.1 x.2.2.2.1 x.2.2.2.2.1 x.2.2.2.2.2,([],[])⟩
theorem F75ok:okP (F75c uu):=okJ Tryz.f75 25 2 uu [] [] false q0 p0 L0
def S76_3 (uu:Nat) (h:List PV) (o:Int):Option (((List PV)×Int)⊕((Bool)⊕(Unit))):=bif (decide (o<(h.length:Int))) then bif aaa o h.length then let z:=(h.getD o.toNat .bad).asStr;let H:=IntKind.wrap .i64 (o-1);bif aaa H h.length then let I:=(h.getD H.toNat .bad).asStr;bif (Op.bytesLess z I||z==I) then some (.inr (.inl false)) else some (.inl (h,(IntKind.wrap .i64 (o+1)))) else none else none else some (.inr (.inr ()))
def S76_3step (x:(List PV)×Int):Option (((List PV)×Int)⊕((Bool)⊕(Unit))):=S76_3 uu x.1 x.2
def F76 (o:List PV):Option Bool:=(aag uu (S76_3step uu) (o,(1:Int))).bind λz=>sumE (λh=>some h ) (λH=>some true ) z
def S76_3l:LoopE:=⟨3,⟨[0,3],[],[.slice 9,.int .i64]⟩,[(.ret,⟨[2],[],[.bool]⟩),(.exit 0,⟨[],[],[]⟩)],S76_3step uu⟩
def F76C:Cfg:=cfg Tryz.prog 20 0 [] [S76_3l uu] uu
def F76c:CallE:=⟨76,⟨1,[],[.slice 9]⟩,⟨1,[],[.bool]⟩,λx=>F76 uu x,false⟩
theorem F76k:aam (F76C uu):=aad q0 p0
theorem S76_3ok:LoopOk (F76C uu) (lp (aaj Tryz.f76) 0):=okL (F76k uu) uu (S76_3l uu) L0
theorem F76ok:okP (F76c uu):=okE Tryz.f76 (F76k uu) (L1 (S76_3ok uu))
abbrev S139_3x:=(List PV)×Bq×Int
abbrev S139_3y:=(Bool)⊕(Unit)
def S139_3 (uu:Nat) (h:List PV) (z:Bq) (o:Int):Option (S139_3x⊕S139_3y):=bif (decide (o<(h.length:Int))) then bif aaa o h.length then bif ((h.getD o.toNat .bad).asStr==z) then some (.inr (.inl true)) else some (.inl (h,z,(IntKind.wrap .i64 (o+1)))) else none else some (.inr (.inr ()))
def S139_3step (x:S139_3x):Option (S139_3x⊕S139_3y):=S139_3 uu x.1 x.2.1 x.2.2
def F139 (o:List PV) (H:Bq):Option Bool:=(aag uu (S139_3step uu) (o,H,(0:Int))).bind λz=>sumE (λh=>some h ) (λI=>some false ) z
def S139_3l:LoopE:=⟨3,⟨[0,1,5],[],(.slice 9)::sv6⟩,[(.ret,⟨[4],[],[.bool]⟩),(.exit 0,⟨[],[],[]⟩)],S139_3step uu⟩
def F139C:Cfg:=cfg Tryz.prog 18 0 [] [S139_3l uu] uu
def F139c:CallE:=⟨139,⟨2,[],[.slice 9,.str]⟩,⟨1,[],[.bool]⟩,λx=>F139 uu x.1 x.2,false⟩
theorem F139k:aam (F139C uu):=aad q0 p0
theorem S139_3ok:LoopOk (F139C uu) (lp (aaj Tryz.f139) 0):=okL (F139k uu) uu (S139_3l uu) L0
theorem F139ok:okP (F139c uu):=okE Tryz.f139 (F139k uu) (L1 (S139_3ok uu))
abbrev S77_3x:=(List PV)×(List PV)×Int
abbrev S77_3y:=(Bool)⊕(Unit)
def S77_3 (h:List PV) (z:List PV) (o:Int):Option (S77_3x⊕S77_3y):=bif (decide (o<(h.length:Int))) then bif aaa o h.length then (F139 uu z (h.getD o.toNat .bad).asStr).bind λH=>bif H then some (.inr (.inl true)) else some (.inl (h,z,(IntKind.wrap .i64 (o+1)))) else none else some (.inr (.inr ()))
def S77_3step (x:S77_3x):Option (S77_3x⊕S77_3y):=S77_3 uu x.1 x.2.1 x.2.2
def F77 (o:List PV) (H:List PV):Option Bool:=(aag uu (S77_3step uu) (o,H,(0:Int))).bind λz=>sumE (λh=>some h ) (λI=>some false ) z
def S77_3l:LoopE:=⟨3,⟨[0,1,5],[],[.slice 9,.slice 9,.int .i64]⟩,[(.ret,⟨[4],[],[.bool]⟩),(.exit 0,⟨[],[],[]⟩)],S77_3step uu⟩
def F77C:Cfg:=cfg Tryz.prog 18 0 [F139c uu] [S77_3l uu] uu
def F77c:CallE:=⟨77,⟨2,[],sv37⟩,⟨1,[],[.bool]⟩,λx=>F77 uu x.1 x.2,false⟩
theorem F77k:aam (F77C uu):=aad (qc (F139ok uu)<|q0) p0
theorem S77_3ok:LoopOk (F77C uu) (lp (aaj Tryz.f77) 0):=okL (F77k uu) uu (S77_3l uu) L0
theorem F77ok:okP (F77c uu):=okE Tryz.f77 (F77k uu) (L1 (S77_3ok uu))
abbrev S151_3x:=Bq×Unit×Int×PV
abbrev S151_3y:=(Int×PV)⊕(PV)
def S151_3 (uu:Nat) (z:Bq) (I:Unit) (h:Int) (o:PV):Option (S151_3x⊕S151_3y):=bif (decide (h<((o.fld 0).asList.length:Int))) then let H:=(o.fld 0).asList;bif aaa h H.length then bif (((H.getD h.toNat .bad).fld 0).asStr==z) then some (.inr (.inl (h,o))) else some (.inl (z,(),(IntKind.wrap .i64 (h+1)),o)) else none else some (.inr (.inr o))
def S151_3step (x:S151_3x):Option (S151_3x⊕S151_3y):=S151_3 uu x.1 x.2.1 x.2.2.1 x.2.2.2
def F151 (o:PV) (H:Bq):Option Int:=(aag uu (S151_3step uu) (H,(),(0:Int),o)).bind λz=>sumE (λh=>some h.1 ) (λI=>some (-1:Int) ) z
def S151_3l:LoopE:=⟨3,⟨[1,2,5],bx23,.str::(.con (.ref 0 [] 26))::sv42⟩,[(.ret,⟨[4],bx23,sv42⟩),(.exit 0,⟨[],bx23,[.data 26]⟩)],S151_3step uu⟩
def F151C:Cfg:=cfg Tryz.prog 22 0 [] [S151_3l uu] uu
def F151c:CallE:=⟨151,⟨2,[],sv2⟩,⟨1,[],[.int .i64]⟩,λx=>F151 uu x.1 x.2,0⟩
theorem F151k:aam (F151C uu):=aad q0 p0
theorem S151_3ok:LoopOk (F151C uu) (lp (aaj Tryz.f151) 0):=okL (F151k uu) uu (S151_3l uu) L0
theorem F151ok:okP (F151c uu):=okE Tryz.f151 (F151k uu) (L1 (S151_3ok uu))
abbrev S140_3x:=Unit×Unit×Unit×Int×(List PV)×PV×PV
abbrev S140_3y:=(Bool×(List PV)×PV×PV)⊕((List PV)×PV×PV)
def S140_3 (Z:Unit) (a2:Unit) (a3:Unit) (I:Int) (z:List PV) (J:PV) (H:PV):Option (S140_3x⊕S140_3y):=bif (decide (I<((H.fld 1).asList.length:Int))) then let M:=(H.fld 1).asList;bif aaa I M.length then let h:=M.getD I.toNat .bad;bif (bif ((h.fld 2).asInt != 1) then true else ((((h.fld 4).fld 0).asInt) != 10)) then some (.inl ((),(),(),(IntKind.wrap .i64 (I+1)),z,J,H)) else (F151 uu J (((h.fld 4).fld 1).asStr)).bind λo=>let O:=decide (o>=0);bif imp O (aaa o z.length) then bif (bif O then (!(z.getD o.toNat .bad).asBool) else false) then some (.inr (.inl (true,z,J,H))) else some (.inl ((),(),(),(IntKind.wrap .i64 (I+1)),z,J,H)) else none else none else some (.inr (.inr (z,J,H)))
def S140_3step (x:S140_3x):Option (S140_3x⊕S140_3y):=S140_3 uu x.1 x.2.1 x.2.2.1 x.2.2.2.1 x.2.2.2.2.1 x.2.2.2.2.2.1 x.2.2.2.2.2.2
def F140 (H:PV) (I:PV) (M:Unit) (J:List PV):Option (Bool×(List PV)):=(aag uu (S140_3step uu) ((),(),(),(0:Int),J,H,I)).bind λz=>sumE (λh=>some (h.1,h.2.1) ) (λo=>some (false,o.1) ) z
def S140_3l:LoopE:=⟨3,⟨[2,3,4,7],bx24,(.con (.arr 0 0 4))::(.con (.ref 1 [] 26))::(.con (.ref 2 [] 63))::(.int .i64)::sv43⟩,[(.ret,⟨[6],bx24,.bool::sv43⟩),(.exit 0,⟨[],bx24,sv43⟩)],S140_3step uu⟩
def F140C:Cfg:=cfg Tryz.prog 45 1 [F151c uu] [S140_3l uu] uu
def F140c:CallE:=⟨140,⟨3,[.arr 4 0],[.data 26,.data 63,(.con (.arr 0 0 4)),.slice 4]⟩,⟨1,[.arr 4 0],[.bool,.slice 4]⟩,λx=>F140 uu x.1 x.2.1 x.2.2.1 x.2.2.2,(false,[])⟩
theorem F140k:aam (F140C uu):=aad (qc (F151ok uu)<|q0) p0
theorem S140_3ok:LoopOk (F140C uu) (lp (aaj Tryz.f140) 0):=okL (F140k uu) uu (S140_3l uu) L0
theorem F140ok:okP (F140c uu):=okE Tryz.f140 (F140k uu) (L1 (S140_3ok uu))
abbrev S78_9x:=Unit×Unit×Bool×Int×Int×PV×(List PV)
abbrev S78_9y:=(Unit×Unit×Bool×Int×PV×(List PV))
def S78_9 (Z:Unit) (aa:Unit) (M:Bool) (H:Int) (h:Int) (o:PV) (z:List PV):Option (S78_9x⊕S78_9y):=bif (decide (h<((o.fld 0).asList.length:Int))) then bif aaa h z.length then let I:=!((z.getD h.toNat .bad).asBool);let O:=(o.fld 0).asList;bif imp I (aaa h O.length) then bif I then (F140 uu o (O.getD h.toNat .bad) () z).bind λJ=>bif (bif I then (!J.1) else false) then bif aaa h J.2.length then some (.inl ((),(),true,H,(IntKind.wrap .i64 (h+1)),o,(J.2.set h.toNat (PV.bool true)))) else none else some (.inl ((),(),M,H,(IntKind.wrap .i64 (h+1)),o,J.2)) else bif (bif I then true else false) then bif aaa h z.length then some (.inl ((),(),true,H,(IntKind.wrap .i64 (h+1)),o,(z.set h.toNat (PV.bool true)))) else none else some (.inl ((),(),M,H,(IntKind.wrap .i64 (h+1)),o,z)) else none else none else some (.inr ((),(),M,H,o,z))
def S78_9step (x:S78_9x):Option (S78_9x⊕S78_9y):=S78_9 uu x.1 x.2.1 x.2.2.1 x.2.2.2.1 x.2.2.2.2.1 x.2.2.2.2.2.1 x.2.2.2.2.2.2
abbrev S78_5x:=Unit×Unit×Bool×Int×PV×(List PV)
abbrev S78_5y:=(Unit×PV×(List PV))
def S78_5 (J:Unit) (M:Unit) (I:Bool) (z:Int) (o:PV) (H:List PV):Option (S78_5x⊕S78_5y):=bif (bif (decide (z<((o.fld 0).asList.length:Int))) then I else false) then (aag uu (S78_9step uu) ((),(),false,z,(0:Int),o,H)).bind λh=>some (.inl ((),(),h.2.2.1,(IntKind.wrap .i64 (h.2.2.2.1+1)),h.2.2.2.2.1,h.2.2.2.2.2)) else some (.inr ((),o,H))
def S78_5step (x:S78_5x):Option (S78_5x⊕S78_5y):=S78_5 uu x.1 x.2.1 x.2.2.1 x.2.2.2.1 x.2.2.2.2.1 x.2.2.2.2.2
def F78 (z:PV):Option ((List PV)):=let h:=((z.fld 0).asList.length:Int);bif decide (0<=h/\h<=h/\h<=aae) then (aag uu (S78_5step uu) ((),(),true,(0:Int),z,(List.replicate h.toNat (PV.bool false)))).bind λo=>some o.2.2 else none
def S78_9l:LoopE:=⟨9,⟨[1,3,4,5,6],bx25,(.con (.ref 0 [] 26))::(.con (.arr 1 0 4))::.bool::(.int .i64)::sv44⟩,[(.exit 2,⟨[1,3,4,5],bx25,(.con (.ref 0 [] 26))::(.con (.arr 1 0 4))::.bool::sv44⟩)],S78_9step uu⟩
def S78_5l:LoopE:=⟨5,⟨[1,3,4,5],bx25,(.con (.ref 0 [] 26))::(.con (.arr 1 0 4))::.bool::sv44⟩,[(.exit 0,⟨[3],bx25,(.con (.arr 1 0 4))::sv45⟩)],S78_5step uu⟩
def F78C:Cfg:=cfg Tryz.prog 48 0 [F140c uu] [S78_9l uu,S78_5l uu] uu
def F78c:CallE:=⟨78,⟨1,[],[.data 26]⟩,⟨1,[],[.slice 4]⟩,λx=>F78 uu x,[]⟩
theorem F78k:aam (F78C uu):=aad (qc (F140ok uu)<|q0) p0
theorem S78_9ok:LoopOk (F78C uu) (lp (lp (aaj Tryz.f78) 0) 0):=okL (F78k uu) uu (S78_9l uu) L0
theorem S78_5ok:LoopOk (F78C uu) (lp (aaj Tryz.f78) 0):=okL (F78k uu) uu (S78_5l uu) (L1 (S78_9ok uu))
theorem F78ok:okP (F78c uu):=okE Tryz.f78 (F78k uu) (L1 (S78_5ok uu))
end
end Go.Ab
