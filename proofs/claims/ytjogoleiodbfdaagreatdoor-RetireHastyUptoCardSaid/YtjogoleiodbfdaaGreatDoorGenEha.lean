/- A part of the proof: lemmas on how the program runs over plain data. -/
import Derived.Test.YtjogoleiodbfdaaGreatDoorAbFmtE
set_option linter.unusedVariables false
set_option linter.unusedSimpArgs false
set_option linter.unnecessarySimpa false
namespace Go.Ab
open Go Go.Proofs
set_option maxRecDepth 100000
noncomputable section
abbrev okP (c:CallE):Prop:=c.Ok Tryz.prog
variable (uu:Nat)
abbrev bx0:List BSh:=[.box 296 .leaf,.acc]
abbrev bx1:List BSh:=[.box 9 .leaf]
abbrev bx2:List BSh:=[.box 9 .leaf,.box 55 .leaf]
abbrev bx3:List BSh:=[.box 3 .leaf]
abbrev bx4:List BSh:=[.box 3 .leaf,.box 50 .leaf]
abbrev bx5:List BSh:=[.box 9 .leaf,.box 85 .leaf]
abbrev bx6:List BSh:=[.box 117 (.agg 117 [.leaf,.leaf]),.map 162 3]
abbrev bx7:List BSh:=[.box 117 (.agg 117 [.leaf,.leaf]),.map 162 3,.box 45 .leaf,.box 55 .leaf]
abbrev bx8:List BSh:=[.box 117 (.agg 117 [.leaf,.leaf]),.map 162 3,.box 50 .leaf,.box 45 .leaf]
abbrev bx9:List BSh:=[.box 117 (.agg 117 [.leaf,.leaf]),.map 162 3,.box 38 .leaf,.box 45 .leaf,.box 85 .leaf]
abbrev bx10:List BSh:=[.box 67 .leaf,.box 64 .leaf]
abbrev bx11:List BSh:=[.box 26 .leaf,.acc]
abbrev bx12:List BSh:=[.box 124 (.agg 124 [.leaf,.leaf]),.acc]
abbrev bx13:List BSh:=[.box 26 .leaf]
abbrev bx14:List BSh:=[.arr 4 0,.box 26 .leaf,.box 55 .leaf]
abbrev bx15:List BSh:=[.box 26 .leaf,.arr 4 0]
abbrev bx16:List BSh:=[.box 55 .leaf,.box 50 .leaf]
abbrev bx17:List BSh:=[.box 26 .leaf,.box 50 .leaf,.box 45 .leaf]
abbrev bx18:List BSh:=[.box 26 .leaf,.box 55 .leaf]
abbrev bx19:List BSh:=[.box 26 .leaf,.box 55 .leaf,.box 124 (.agg 124 [.leaf,.leaf]),.acc,.box 50 .leaf]
abbrev bx20:List BSh:=[.box 26 .leaf,.box 55 .leaf,.box 124 (.agg 124 [.leaf,.leaf]),.acc]
abbrev bx21:List BSh:=[.box 85 .leaf,.box 124 (.agg 124 [.leaf,.leaf]),.acc,.box 98 .leaf]
abbrev bx22:List BSh:=[.box 85 .leaf,.box 124 (.agg 124 [.leaf,.leaf]),.acc]
abbrev bx23:List BSh:=[.box 26 .leaf,.box 90 .leaf,.box 124 (.agg 124 [.leaf,.leaf]),.acc]
abbrev bx24:List BSh:=[.box 26 .leaf,.box 124 (.agg 124 [.leaf,.leaf]),.acc]
abbrev bx25:List BSh:=[.box 78 (.agg 78 [.leaf]),.acc]
abbrev bx26:List BSh:=[.box 78 (.agg 78 [.leaf]),.acc,.box 55 .leaf,.box 55 .leaf]
abbrev bx27:List BSh:=[.box 3 .leaf,.box 98 .leaf]
abbrev bx28:List BSh:=[.box 78 (.agg 78 [.leaf]),.acc,.box 85 .leaf,.box 85 .leaf]
abbrev bx29:List BSh:=[.box 9 .leaf,.box 90 .leaf]
abbrev bx30:List BSh:=[.box 90 .leaf,.box 102 .leaf]
abbrev bx31:List BSh:=[.box 78 (.agg 78 [.leaf]),.acc,.box 90 .leaf,.box 90 .leaf]
abbrev bx32:List BSh:=[.box 78 (.agg 78 [.leaf]),.acc,.box 26 .leaf,.box 26 .leaf]
abbrev bx33:List BSh:=[.arr 34 0]
abbrev bx34:List BSh:=[.box 26 .leaf,.box 26 .leaf,.box 78 (.agg 78 [.leaf]),.acc]
abbrev bx35:List BSh:=[.box 9 .leaf,.box 102 .leaf]
abbrev bx36:List BSh:=[.box 26 .leaf,.box 26 .leaf,.acc]
abbrev bx37:List BSh:=[.box 55 .leaf,.box 55 .leaf]
abbrev bx38:List BSh:=[.box 26 .leaf,.box 85 .leaf]
abbrev bx39:List BSh:=[.box 85 .leaf,.box 98 .leaf]
abbrev bx40:List BSh:=[.box 85 .leaf,.box 85 .leaf]
abbrev bx41:List BSh:=[.box 26 .leaf,.box 90 .leaf]
abbrev bx42:List BSh:=[.box 90 .leaf,.box 90 .leaf]
abbrev bx43:List BSh:=[.box 26 .leaf,.box 26 .leaf,.acc,.acc]
abbrev bx44:List BSh:=[.box 26 .leaf,.box 26 .leaf,.acc,.acc,.acc]
abbrev bx45:List BSh:=[.box 26 .leaf,.box 34 .leaf,.box 55 .leaf,.box 85 .leaf]
abbrev sv0:List Shape:=[(.con (.ref 0 [] 9)),.str]
abbrev sv1:List Shape:=[.str,.data 55]
abbrev sv2:List Shape:=[.data 26,.str]
abbrev sv3:List Shape:=[.int .i64,.str]
abbrev sv4:List Shape:=[.slice 47,.str]
abbrev sv5:List Shape:=[.bool,.int .i64]
abbrev sv6:List Shape:=[.int .i64,.data 50]
abbrev sv7:List Shape:=[.data 55,.int .i64]
abbrev sv8:List Shape:=[.str,.data 85]
abbrev sv13:List Shape:=[.data 67,.data 64]
abbrev sv14:List Shape:=[.str,.int .i64]
abbrev sv15:List Shape:=[.int .i64,.int .i64]
abbrev sv17:List Shape:=[.acc 1 9,.data 26]
abbrev sv19:List Shape:=[.str,.acc 1 168]
abbrev sv20:List Shape:=[.int .i64,.data 26]
abbrev sv23:List Shape:=[.data 26,.slice 4]
abbrev sv25:List Shape:=[.data 55,.data 50]
abbrev sv29:List Shape:=[.data 26,.data 55]
abbrev sv31:List Shape:=[.str,.acc 2 168]
abbrev sv32:List Shape:=[.str,.acc 3 168]
abbrev sv33:List Shape:=[.data 26,.data 90]
abbrev sv39:List Shape:=[.int .i64,.data 98]
abbrev sv40:List Shape:=[.data 85,.int .i64]
abbrev sv42:List Shape:=[.str,.data 90]
abbrev sv43:List Shape:=[.data 90,.data 102]
abbrev sv44:List Shape:=[.data 102,.bool]
abbrev sv57:List Shape:=[(.con (.fn 62 0 [])),.slice 34]
abbrev sv60:List Shape:=[.data 26,.data 26]
abbrev sv61:List Shape:=[.str,.data 102]
abbrev sv64:List Shape:=[.data 55,.data 55]
abbrev sv66:List Shape:=[.data 26,.data 85]
abbrev sv67:List Shape:=[.data 85,.data 98]
abbrev sv69:List Shape:=[.data 85,.data 85]
abbrev sv71:List Shape:=[.data 90,.data 90]
abbrev sv10:List Shape:=[.data 26,(.con (.mref 1)),.map 162 3]
abbrev sv21:List Shape:=(.slice 4)::sv29
abbrev sv22:List Shape:=(.int .i64)::sv23
abbrev sv24:List Shape:=.str::sv14
abbrev sv26:List Shape:=.bool::sv25
abbrev sv27:List Shape:=[.data 26,.data 50,.data 45]
abbrev sv38:List Shape:=(.acc 1 34)::sv64
abbrev sv41:List Shape:=(.acc 1 34)::sv69
abbrev sv45:List Shape:=(.acc 1 34)::sv71
abbrev sv47:List Shape:=(.acc 1 34)::sv60
abbrev sv56:List Shape:=(.int .i64)::sv57
abbrev sv72:List Shape:=(.acc 3 9)::sv60
abbrev sv74:List Shape:=(.acc 4 34)::sv60
abbrev sv79:List Shape:=(.int .i64)::sv60
abbrev sv9:List Shape:=(.data 45)::sv10
abbrev sv12:List Shape:=(.int .i64)::(.int .i64)::sv13
abbrev sv18:List Shape:=(.int .i64)::(.int .i64)::sv19
abbrev sv30:List Shape:=(.data 26)::(.data 55)::sv32
abbrev sv36:List Shape:=(.int .i64)::(.data 26)::sv31
abbrev sv37:List Shape:=(.con (.ref 1 [] 124))::(.data 26)::sv31
abbrev sv49:List Shape:=[.int .i64,(.con (.fn 62 0 [])),.int .i64,.slice 34]
abbrev sv50:List Shape:=(.int .i64)::sv56
abbrev sv51:List Shape:=[.int .i64,.int .i64,.int .i64,.slice 34]
abbrev sv54:List Shape:=[(.con (.arr 0 0 34)),.int .i64,.int .i64,.slice 34]
abbrev sv59:List Shape:=[(.con (.ref 2 [] 78)),.data 26,.data 26,.acc 3 34]
abbrev sv62:List Shape:=(.int .i64)::sv79
abbrev sv63:List Shape:=(.int .i64)::(.int .i64)::sv64
abbrev sv65:List Shape:=(.con (.ref 1 [] 85))::(.int .i64)::sv66
abbrev sv68:List Shape:=(.int .i64)::(.int .i64)::sv69
abbrev sv70:List Shape:=(.int .i64)::(.int .i64)::sv71
abbrev sv75:List Shape:=(.con (.ref 1 [] 55))::(.int .i64)::sv29
abbrev sv78:List Shape:=[.data 26,.data 34,.data 55,.data 85]
abbrev sv11:List Shape:=[.data 26,(.con (.mref 1)),.map 162 3,.data 50,.data 45]
abbrev sv16:List Shape:=(.int .i64)::(.con (.ref 0 [] 26))::(.acc 1 9)::sv20
abbrev sv28:List Shape:=(.con (.ref 0 [] 26))::sv75
abbrev sv35:List Shape:=(.con (.ref 0 [] 26))::sv37
abbrev sv46:List Shape:=(.int .i64)::(.int .i64)::sv47
abbrev sv48:List Shape:=[.int .i64,(.con (.fn 62 0 [])),.int .i64,.int .i64,.slice 34]
abbrev sv58:List Shape:=[.int .i64,.int .i64,.data 26,.data 26,.acc 3 34]
abbrev sv76:List Shape:=(.int .i64)::sv78
abbrev sv77:List Shape:=.bool::sv78
abbrev sv34:List Shape:=(.con (.ref 0 [] 26))::(.con (.ref 1 [] 124))::sv36
abbrev sv52:List Shape:=(.con (.arr 0 0 34))::(.int .i64)::sv50
abbrev sv53:List Shape:=(.con (.arr 0 0 34))::sv48
abbrev sv55:List Shape:=(.int .i64)::(.con (.fn 62 0 []))::sv51
abbrev sv73:List Shape:=(.acc 4 34)::(.slice 9)::sv62
def F261 (uu:Nat) (h:Int):Option Bool:=some ((agw .and .i64 h (IntKind.wrap .i64 (h-1)))==0)
def F261c:CallE:=⟨261,⟨1,[],[.int .i64]⟩,⟨1,[],[.bool]⟩,λx=>F261 uu x,false⟩
theorem F261ok:okP (F261c uu):=okJ Tryz.f261 8 0 uu [] [] false q0 p0 L0
abbrev S252_12x:=(List PV)×Int×Bool×Bool×(List PV)×Bt×Unit×Int×Int×Int×Int×PV
abbrev S252_12y:=((List PV)×Int×Bool×Bool×(List PV)×Bt×Unit×Int×PV)
def S252_12 (uu:Nat) (I:List PV) (h:Int) (J:Bool) (M:Bool) (O:List PV) (Z:Bt) (ah:Unit) (aa:Int) (o:Int) (ab:Int) (ad:Int) (ae:PV):Option (S252_12x⊕S252_12y):=bif (decide (h>=ab)) then let H:=IntKind.wrap .i64 (aa-1);let af:=agw .and .u64 h ad;bif aaa af (([48,49,50,51,52,53,54,55,56,57,97,98,99,100,101,102,103,104,105,106,107,108,109,110,111,112,113,114,115,116,117,118,119,120,121,122]:Bt).length) then let ag:=((([48,49,50,51,52,53,54,55,56,57,97,98,99,100,101,102,103,104,105,106,107,108,109,110,111,112,113,114,115,116,117,118,119,120,121,122]:Bt).getD af.toNat 0).toNat:Int);bif aaa H 65 then bif decide (0<=o) then some (.inl (I,(h.fdiv (2^(min o.toNat (IntKind.bits .u64)))),J,M,O,Z,(),H,o,ab,ad,(PV.agg (ae.parts.set H.toNat (PV.int ag))))) else none else none else none else some (.inr (I,h,J,M,O,Z,(),aa,ae))
def S252_12step (x:S252_12x):Option (S252_12x⊕S252_12y):=S252_12 uu x.1 x.2.1 x.2.2.1 x.2.2.2.1 x.2.2.2.2.1 x.2.2.2.2.2.1 x.2.2.2.2.2.2.1 x.2.2.2.2.2.2.2.1 x.2.2.2.2.2.2.2.2.1 x.2.2.2.2.2.2.2.2.2.1 x.2.2.2.2.2.2.2.2.2.2.1 x.2.2.2.2.2.2.2.2.2.2.2
abbrev S252_19x:=(List PV)×Int×Bool×Bool×(List PV)×Bt×Unit×Int×Int×PV
abbrev S252_19y:=((List PV)×Int×Bool×Bool×(List PV)×Bt×Unit×Int×PV)
def S252_19 (uu:Nat) (I:List PV) (o:Int) (J:Bool) (M:Bool) (O:List PV) (Z:Bt) (ag:Unit) (aa:Int) (h:Int) (ab:PV):Option (S252_19x⊕S252_19y):=bif (decide (o>=h)) then let H:=IntKind.wrap .i64 (aa-1);bif !(decide (h=0)) then let ad:=IntKind.wrap .u64 (o.tdiv h);let ae:=IntKind.wrap .u64 (o-(IntKind.wrap .u64 (ad*h)));bif aaa ae (([48,49,50,51,52,53,54,55,56,57,97,98,99,100,101,102,103,104,105,106,107,108,109,110,111,112,113,114,115,116,117,118,119,120,121,122]:Bt).length) then let af:=((([48,49,50,51,52,53,54,55,56,57,97,98,99,100,101,102,103,104,105,106,107,108,109,110,111,112,113,114,115,116,117,118,119,120,121,122]:Bt).getD ae.toNat 0).toNat:Int);bif aaa H 65 then some (.inl (I,ad,J,M,O,Z,(),H,h,(PV.agg (ab.parts.set H.toNat (PV.int af))))) else none else none else none else some (.inr (I,o,J,M,O,Z,(),aa,ab))
def S252_19step (x:S252_19x):Option (S252_19x⊕S252_19y):=S252_19 uu x.1 x.2.1 x.2.2.1 x.2.2.2.1 x.2.2.2.2.1 x.2.2.2.2.2.1 x.2.2.2.2.2.2.1 x.2.2.2.2.2.2.2.1 x.2.2.2.2.2.2.2.2.1 x.2.2.2.2.2.2.2.2.2
def F252 (a0:List PV) (a1:Int) (a2:Int) (a3:Bool) (a4:Bool):Option ((List PV)×Bt):=bif (bif (bif (decide (a2<2)) then true else (a2==10)) then true else (decide (a2>36))) then none else bif a3 then let x6:=IntKind.wrap .u64 (0-a1);(F261 uu a2).bind λy7=>bif y7 then (Ltz uu (IntKind.wrap .u64 a2)).bind λy9=>(aag uu (S252_12step uu) (a0,x6,a3,a4,[],([]:Bt),(),(65:Int),(IntKind.wrap .u64 y9),(IntKind.wrap .u64 a2),(IntKind.wrap .u64 ((IntKind.wrap .u64 a2)-1)),(PV.agg (List.replicate 65 (PV.int (0:Int)))))).bind λaa=>let o:=IntKind.wrap .i64 (aa.2.2.2.2.2.2.2.1-1);let ah:=aa.2.1;bif aaa ah (([48,49,50,51,52,53,54,55,56,57,97,98,99,100,101,102,103,104,105,106,107,108,109,110,111,112,113,114,115,116,117,118,119,120,121,122]:Bt).length) then let ai:=((([48,49,50,51,52,53,54,55,56,57,97,98,99,100,101,102,103,104,105,106,107,108,109,110,111,112,113,114,115,116,117,118,119,120,121,122]:Bt).getD ah.toNat 0).toNat:Int);bif aaa o 65 then bif aa.2.2.1 then let M:=IntKind.wrap .i64 (o-1);bif aaa M 65 then bif aa.2.2.2.1 then bif decide (0<=M/\M<65/\M<=65/\(65:Int)<=65) then none else none else bif decide (0<=M/\M<65/\M<=65/\(65:Int)<=65) then let ap:=(((PV.agg ((PV.agg (aa.2.2.2.2.2.2.2.2.parts.set o.toNat (PV.int ai))).parts.set M.toNat (PV.int (45:Int)))).parts.drop M.toNat).take ((65:Int).toNat-M.toNat)).map aa0;some (aa.2.2.2.2.1,ap) else none else none else bif aa.2.2.2.1 then bif decide (0<=o/\o<65/\o<=65/\(65:Int)<=65) then none else none else bif decide (0<=o/\o<65/\o<=65/\(65:Int)<=65) then let aq:=(((PV.agg (aa.2.2.2.2.2.2.2.2.parts.set o.toNat (PV.int ai))).parts.drop o.toNat).take ((65:Int).toNat-o.toNat)).map aa0;some (aa.2.2.2.2.1,aq) else none else none else none else (aag uu (S252_19step uu) (a0,x6,a3,a4,[],([]:Bt),(),(65:Int),(IntKind.wrap .u64 a2),(PV.agg (List.replicate 65 (PV.int (0:Int)))))).bind λab=>let H:=IntKind.wrap .i64 (ab.2.2.2.2.2.2.2.1-1);let aj:=ab.2.1;bif aaa aj (([48,49,50,51,52,53,54,55,56,57,97,98,99,100,101,102,103,104,105,106,107,108,109,110,111,112,113,114,115,116,117,118,119,120,121,122]:Bt).length) then let ak:=((([48,49,50,51,52,53,54,55,56,57,97,98,99,100,101,102,103,104,105,106,107,108,109,110,111,112,113,114,115,116,117,118,119,120,121,122]:Bt).getD aj.toNat 0).toNat:Int);bif aaa H 65 then bif ab.2.2.1 then let O:=IntKind.wrap .i64 (H-1);bif aaa O 65 then bif ab.2.2.2.1 then bif decide (0<=O/\O<65/\O<=65/\(65:Int)<=65) then none else none else bif decide (0<=O/\O<65/\O<=65/\(65:Int)<=65) then let ar:=(((PV.agg ((PV.agg (ab.2.2.2.2.2.2.2.2.parts.set H.toNat (PV.int ak))).parts.set O.toNat (PV.int (45:Int)))).parts.drop O.toNat).take ((65:Int).toNat-O.toNat)).map aa0;some (ab.2.2.2.2.1,ar) else none else none else bif ab.2.2.2.1 then bif decide (0<=H/\H<65/\H<=65/\(65:Int)<=65) then none else none else bif decide (0<=H/\H<65/\H<=65/\(65:Int)<=65) then let au:=(((PV.agg (ab.2.2.2.2.2.2.2.2.parts.set H.toNat (PV.int ak))).parts.drop H.toNat).take ((65:Int).toNat-H.toNat)).map aa0;some (ab.2.2.2.2.1,au) else none else none else none else (F261 uu a2).bind λax=>bif ax then (Ltz uu (IntKind.wrap .u64 a2)).bind λay=>(aag uu (S252_12step uu) (a0,a1,a3,a4,[],([]:Bt),(),(65:Int),(IntKind.wrap .u64 ay),(IntKind.wrap .u64 a2),(IntKind.wrap .u64 ((IntKind.wrap .u64 a2)-1)),(PV.agg (List.replicate 65 (PV.int (0:Int)))))).bind λad=>let I:=IntKind.wrap .i64 (ad.2.2.2.2.2.2.2.1-1);let al:=ad.2.1;bif aaa al (([48,49,50,51,52,53,54,55,56,57,97,98,99,100,101,102,103,104,105,106,107,108,109,110,111,112,113,114,115,116,117,118,119,120,121,122]:Bt).length) then let am:=((([48,49,50,51,52,53,54,55,56,57,97,98,99,100,101,102,103,104,105,106,107,108,109,110,111,112,113,114,115,116,117,118,119,120,121,122]:Bt).getD al.toNat 0).toNat:Int);bif aaa I 65 then bif ad.2.2.1 then let Z:=IntKind.wrap .i64 (I-1);bif aaa Z 65 then bif ad.2.2.2.1 then bif decide (0<=Z/\Z<65/\Z<=65/\(65:Int)<=65) then none else none else bif decide (0<=Z/\Z<65/\Z<=65/\(65:Int)<=65) then let av:=(((PV.agg ((PV.agg (ad.2.2.2.2.2.2.2.2.parts.set I.toNat (PV.int am))).parts.set Z.toNat (PV.int (45:Int)))).parts.drop Z.toNat).take ((65:Int).toNat-Z.toNat)).map aa0;some (ad.2.2.2.2.1,av) else none else none else bif ad.2.2.2.1 then bif decide (0<=I/\I<65/\I<=65/\(65:Int)<=65) then none else none else bif decide (0<=I/\I<65/\I<=65/\(65:Int)<=65) then let aw:=(((PV.agg (ad.2.2.2.2.2.2.2.2.parts.set I.toNat (PV.int am))).parts.drop I.toNat).take ((65:Int).toNat-I.toNat)).map aa0;some (ad.2.2.2.2.1,aw) else none else none else none else (aag uu (S252_19step uu) (a0,a1,a3,a4,[],([]:Bt),(),(65:Int),(IntKind.wrap .u64 a2),(PV.agg (List.replicate 65 (PV.int (0:Int)))))).bind λae=>let J:=IntKind.wrap .i64 (ae.2.2.2.2.2.2.2.1-1);let an:=ae.2.1;bif aaa an (([48,49,50,51,52,53,54,55,56,57,97,98,99,100,101,102,103,104,105,106,107,108,109,110,111,112,113,114,115,116,117,118,119,120,121,122]:Bt).length) then let ao:=((([48,49,50,51,52,53,54,55,56,57,97,98,99,100,101,102,103,104,105,106,107,108,109,110,111,112,113,114,115,116,117,118,119,120,121,122]:Bt).getD an.toNat 0).toNat:Int);bif aaa J 65 then bif ae.2.2.1 then let h:=IntKind.wrap .i64 (J-1);bif aaa h 65 then bif ae.2.2.2.1 then bif decide (0<=h/\h<65/\h<=65/\(65:Int)<=65) then none else none else bif decide (0<=h/\h<65/\h<=65/\(65:Int)<=65) then let af:=(((PV.agg ((PV.agg (ae.2.2.2.2.2.2.2.2.parts.set J.toNat (PV.int ao))).parts.set h.toNat (PV.int (45:Int)))).parts.drop h.toNat).take ((65:Int).toNat-h.toNat)).map aa0;some (ae.2.2.2.2.1,af) else none else none else bif ae.2.2.2.1 then bif decide (0<=J/\J<65/\J<=65/\(65:Int)<=65) then none else none else bif decide (0<=J/\J<65/\J<=65/\(65:Int)<=65) then let ag:=(((PV.agg (ae.2.2.2.2.2.2.2.2.parts.set J.toNat (PV.int ao))).parts.drop J.toNat).take ((65:Int).toNat-J.toNat)).map aa0;some (ae.2.2.2.2.1,ag) else none else none else none
def S252_12l:LoopE:=⟨12,⟨[0,1,3,4,10,11,12,13,14,15,16],bx0,[.slice 5,.int .u64,.bool,.bool,.acc 1 5,.str,(.con (.ref 0 [] 296)),.int .i64,.int .u64,.int .u64,.int .u64,.data 296]⟩,[(.exit 0,⟨[0,1,3,4,10,11,12,13],bx0,[.slice 5,.int .u64,.bool,.bool,.acc 1 5,.str,(.con (.ref 0 [] 296)),.int .i64,.data 296]⟩)],S252_12step uu⟩
def S252_19l:LoopE:=⟨19,⟨[0,1,3,4,10,11,12,13,17],bx0,[.slice 5,.int .u64,.bool,.bool,.acc 1 5,.str,(.con (.ref 0 [] 296)),.int .i64,.int .u64,.data 296]⟩,[(.exit 2,⟨[0,1,3,4,10,11,12,13],bx0,[.slice 5,.int .u64,.bool,.bool,.acc 1 5,.str,(.con (.ref 0 [] 296)),.int .i64,.data 296]⟩)],S252_19step uu⟩
def F252C:Cfg:=cfg Tryz.prog 102 0 [F261c uu,Ltzc uu] [S252_12l uu,S252_19l uu] uu
def F252c:CallE:=⟨252,⟨5,[],[.slice 5,.int .u64,.int .i64,.bool,.bool]⟩,⟨2,[],[.slice 5,.str]⟩,λx=>F252 uu x.1 x.2.1 x.2.2.1 x.2.2.2.1 x.2.2.2.2,([],[])⟩
theorem F252k:aak (F252C uu):=aad (qc (F261ok uu)<|qc (Ltzok uu)<|q0) p0
theorem S252_12ok:LoopOk (F252C uu) (lp (aaj Tryz.f252) 0):=okL (F252k uu) uu (S252_12l uu) L0
theorem S252_19ok:LoopOk (F252C uu) (lp (aaj Tryz.f252) 1):=okL (F252k uu) uu (S252_19l uu) L0
theorem F252ok:okP (F252c uu):=okE Tryz.f252 (F252k uu) (L2 (S252_12ok uu) (S252_19ok uu))
def F239 (h:Int) (o:Int):Option Bt:=bif (o==10) then bif (decide (h<100)) then none else none else (F252 uu [] h o false false).bind λH=>some H.2
def F239c:CallE:=⟨239,⟨2,[],[.int .u64,.int .i64]⟩,⟨1,[],[.str]⟩,λx=>F239 uu x.1 x.2,[]⟩
theorem F239ok:okP (F239c uu):=okJ Tryz.f239 32 0 uu _ [] false (qc (F252ok uu)<|q0) p0 L0
def Lfmt (u base:Int):Option Bt:=bif decide (base=10) then aw1 uu u base else F239 uu u base
def a9t:CallE:={ f:=239,A:=⟨2,[],[.int .u64,.int .i64]⟩,R:=⟨1,[],[.str]⟩,F:=λx=>Lfmt uu x.1 x.2,dflt:=[] }
theorem a9u:(a9t uu).Ok Tryz.prog:=by
 intro x y h
 have h:Lfmt uu x.1 x.2=some y:=h
 unfold Lfmt at h
 cases o:decide (x.2=10) with
 | true=>rw [o] at h;exact a7g uu x y h
 | false=>rw [o] at h;exact F239ok uu x y h
def F55 (uu:Nat) (o:PV) (H:Unit) (h:Bt):Option (Bool×Bt):=some (((o.fld 0).asStr==h),h)
def F55c:CallE:=⟨55,⟨2,bx1,(.data 55)::sv0⟩,⟨1,bx1,[.bool,.str]⟩,λx=>F55 uu x.1 x.2.1 x.2.2,(false,[])⟩
theorem F55ok:okP (F55c uu):=okJ Tryz.f55 8 1 uu [] [] false q0 p0 L0
abbrev S54_3x:=Unit×Unit×(List PV)×Int×Int×Bt×PV
abbrev S54_3y:=(Unit×Bool×Bt×PV)⊕(Unit×Bt×PV)
def S54_3 (Z:Unit) (a3:Unit) (I:List PV) (J:Int) (H:Int) (M:Bt) (O:PV):Option (S54_3x⊕S54_3y):=bif (decide (H<J)) then bif aaa H I.length then let o:=I.getD H.toNat .bad;(F55 uu o () M).bind λh=>bif h.1 then some (.inr (.inl ((),true,h.2,o))) else some (.inl ((),(),I,J,(IntKind.wrap .i64 (H+1)),h.2,O)) else none else some (.inr (.inr ((),M,O)))
def S54_3step (x:S54_3x):Option (S54_3x⊕S54_3y):=S54_3 uu x.1 x.2.1 x.2.2.1 x.2.2.2.1 x.2.2.2.2.1 x.2.2.2.2.2.1 x.2.2.2.2.2.2
def F54 (H:List PV) (J:Unit) (I:Bt):Option (PV×Bool×Bt):=(aag uu (S54_3step uu) ((),(),H,(H.length:Int),(0:Int),I,(PV.agg [(PV.str ([]:Bt)),(PV.slice []),(PV.slice []),(PV.slice []),(PV.slice [])]))).bind λz=>sumE (λh=>some (h.2.2.2,h.2.1,h.2.2.1) ) (λo=>some ((PV.agg [(PV.str ([]:Bt)),(PV.slice []),(PV.slice []),(PV.slice []),(PV.slice [])]),false,o.2.1) ) z
def S54_3l:LoopE:=⟨3,⟨[1,4,9,10,11],bx2,(.con (.fn 55 0 [(.ref 0 [] 9)]))::(.con (.ref 1 [] 55))::(.slice 55)::(.int .i64)::(.int .i64)::sv1⟩,[(.ret,⟨[4,5],bx2,(.con (.ref 1 [] 55))::.bool::sv1⟩),(.exit 0,⟨[4],bx2,(.con (.ref 1 [] 55))::sv1⟩)],S54_3step uu⟩
def F54C:Cfg:=cfg Tryz.prog 21 1 [F55c uu] [S54_3l uu] uu
def F54c:CallE:=⟨54,⟨2,bx1,[.slice 55,(.con (.fn 55 0 [(.ref 0 [] 9)])),.str]⟩,⟨2,bx1,[.data 55,.bool,.str]⟩,λx=>F54 uu x.1 x.2.1 x.2.2,(PV.bad,false,[])⟩
theorem F54k:aak (F54C uu):=aad (qc (F55ok uu)<|q0) p0
theorem S54_3ok:LoopOk (F54C uu) (lp (aaj Tryz.f54) 0):=okL (F54k uu) uu (S54_3l uu) L0
theorem F54ok:okP (F54c uu):=okE Tryz.f54 (F54k uu) (L1 (S54_3ok uu))
def F20 (o:PV) (H:Bt):Option (PV×Bool):=(F54 uu (o.fld 0).asList () H).bind λh=>some (h.1,h.2.1)
def F20c:CallE:=⟨20,⟨2,[],sv2⟩,⟨2,[],[.data 55,.bool]⟩,λx=>F20 uu x.1 x.2,(PV.bad,false)⟩
theorem F20ok:okP (F20c uu):=okJ Tryz.f20 12 0 uu _ [] false (qc (F54ok uu)<|q0) p0 L0
def F139 (uu:Nat) (o:PV) (H:Unit) (h:Bt):Option (Bool×Bt):=some (((o.fld 0).asStr==h),h)
def F139c:CallE:=⟨139,⟨2,bx1,(.data 47)::sv0⟩,⟨1,bx1,[.bool,.str]⟩,λx=>F139 uu x.1 x.2.1 x.2.2,(false,[])⟩
theorem F139ok:okP (F139c uu):=okJ Tryz.f139 8 1 uu [] [] false q0 p0 L0
abbrev S138_3x:=(List PV)×Unit×Int×Int×Bt
abbrev S138_3y:=(Int×Bt)⊕(Bt)
def S138_3 (o:List PV) (M:Unit) (I:Int) (h:Int) (J:Bt):Option (S138_3x⊕S138_3y):=bif (decide (h<I)) then bif aaa h o.length then (F139 uu (o.getD h.toNat .bad) () J).bind λH=>bif H.1 then some (.inr (.inl (h,H.2))) else some (.inl (o,(),I,(IntKind.wrap .i64 (h+1)),H.2)) else none else some (.inr (.inr J))
def S138_3step (x:S138_3x):Option (S138_3x⊕S138_3y):=S138_3 uu x.1 x.2.1 x.2.2.1 x.2.2.2.1 x.2.2.2.2
def F138 (H:List PV) (J:Unit) (I:Bt):Option (Int×Bt):=(aag uu (S138_3step uu) (H,(),(H.length:Int),(0:Int),I)).bind λz=>sumE (λh=>some (h.1,h.2) ) (λo=>some ((-1:Int),o) ) z
def S138_3l:LoopE:=⟨3,⟨[0,1,7,8],bx1,(.slice 47)::(.con (.fn 139 0 [(.ref 0 [] 9)]))::(.int .i64)::sv3⟩,[(.ret,⟨[4],bx1,sv3⟩),(.exit 0,⟨[],bx1,[.str]⟩)],S138_3step uu⟩
def F138C:Cfg:=cfg Tryz.prog 19 1 [F139c uu] [S138_3l uu] uu
def F138c:CallE:=⟨138,⟨2,bx1,[.slice 47,(.con (.fn 139 0 [(.ref 0 [] 9)])),.str]⟩,⟨1,bx1,sv3⟩,λx=>F138 uu x.1 x.2.1 x.2.2,(0,[])⟩
theorem F138k:aak (F138C uu):=aad (qc (F139ok uu)<|q0) p0
theorem S138_3ok:LoopOk (F138C uu) (lp (aaj Tryz.f138) 0):=okL (F138k uu) uu (S138_3l uu) L0
theorem F138ok:okP (F138c uu):=okE Tryz.f138 (F138k uu) (L1 (S138_3ok uu))
def F107 (h:List PV) (o:Bt):Option Int:=(F138 uu h () o).bind λH=>some H.1
def F107c:CallE:=⟨107,⟨2,[],sv4⟩,⟨1,[],[.int .i64]⟩,λx=>F107 uu x.1 x.2,0⟩
theorem F107ok:okP (F107c uu):=okJ Tryz.f107 8 0 uu _ [] false (qc (F138ok uu)<|q0) p0 L0
def F63 (h:List PV) (H:Bt):Option (PV×Bool):=(F107 uu h H).bind λo=>bif (decide (o<0)) then some ((PV.agg [(PV.int (0:Int)),(PV.int (0:Int)),(PV.str ([]:Bt)),(PV.slice []),(PV.slice []),(PV.slice []),(PV.slice [])]),false) else bif aaa o h.length then some (((h.getD o.toNat .bad).fld 1),true) else none
def F63c:CallE:=⟨63,⟨2,[],sv4⟩,⟨2,[],[.data 45,.bool]⟩,λx=>F63 uu x.1 x.2,(PV.bad,false)⟩
theorem F63ok:okP (F63c uu):=okJ Tryz.f63 18 0 uu _ [] false (qc (F107ok uu)<|q0) p0 L0
def F25 (H:List PV) (I:Bt):Option Bool:=(F63 uu H I).bind λo=>let h:=o.1;some (bif (bif o.2 then ((h.fld 0).asInt==1) else false) then ((h.fld 1).asInt==1) else false)
def F25c:CallE:=⟨25,⟨2,[],sv4⟩,⟨1,[],[.bool]⟩,λx=>F25 uu x.1 x.2,false⟩
theorem F25ok:okP (F25c uu):=okJ Tryz.f25 24 0 uu _ [] false (qc (F63ok uu)<|q0) p0 L0
def F65 (uu:Nat) (o:PV) (H:Unit) (h:Int):Option (Bool×Int):=some (((o.fld 0).asInt==h),h)
def F65c:CallE:=⟨65,⟨2,bx3,[.data 50,(.con (.ref 0 [] 3)),.int .i64]⟩,⟨1,bx3,sv5⟩,λx=>F65 uu x.1 x.2.1 x.2.2,(false,0)⟩
theorem F65ok:okP (F65c uu):=okJ Tryz.f65 8 1 uu [] [] false q0 p0 L0
abbrev S64_3x:=Unit×Unit×(List PV)×Int×Int×Int×PV
abbrev S64_3y:=(Unit×Bool×Int×PV)⊕(Unit×Int×PV)
def S64_3 (Z:Unit) (a3:Unit) (I:List PV) (J:Int) (H:Int) (M:Int) (O:PV):Option (S64_3x⊕S64_3y):=bif (decide (H<J)) then bif aaa H I.length then let o:=I.getD H.toNat .bad;(F65 uu o () M).bind λh=>bif h.1 then some (.inr (.inl ((),true,h.2,o))) else some (.inl ((),(),I,J,(IntKind.wrap .i64 (H+1)),h.2,O)) else none else some (.inr (.inr ((),M,O)))
def S64_3step (x:S64_3x):Option (S64_3x⊕S64_3y):=S64_3 uu x.1 x.2.1 x.2.2.1 x.2.2.2.1 x.2.2.2.2.1 x.2.2.2.2.2.1 x.2.2.2.2.2.2
def F64 (H:List PV) (J:Unit) (I:Int):Option (PV×Bool×Int):=(aag uu (S64_3step uu) ((),(),H,(H.length:Int),(0:Int),I,(PV.agg [(PV.int (0:Int)),(PV.str ([]:Bt)),(PV.int (0:Int)),(PV.int (0:Int)),(PV.agg [(PV.int (0:Int)),(PV.str ([]:Bt))]),(PV.str ([]:Bt)),(PV.bool false),(PV.agg [(PV.int (0:Int)),(PV.int (0:Int)),(PV.str ([]:Bt)),(PV.slice []),(PV.slice []),(PV.slice []),(PV.slice [])]),(PV.slice [])]))).bind λz=>sumE (λh=>some (h.2.2.2,h.2.1,h.2.2.1) ) (λo=>some ((PV.agg [(PV.int (0:Int)),(PV.str ([]:Bt)),(PV.int (0:Int)),(PV.int (0:Int)),(PV.agg [(PV.int (0:Int)),(PV.str ([]:Bt))]),(PV.str ([]:Bt)),(PV.bool false),(PV.agg [(PV.int (0:Int)),(PV.int (0:Int)),(PV.str ([]:Bt)),(PV.slice []),(PV.slice []),(PV.slice []),(PV.slice [])]),(PV.slice [])]),false,o.2.1) ) z
def S64_3l:LoopE:=⟨3,⟨[1,4,9,10,11],bx4,(.con (.fn 65 0 [(.ref 0 [] 3)]))::(.con (.ref 1 [] 50))::(.slice 50)::(.int .i64)::(.int .i64)::sv6⟩,[(.ret,⟨[4,5],bx4,(.con (.ref 1 [] 50))::.bool::sv6⟩),(.exit 0,⟨[4],bx4,(.con (.ref 1 [] 50))::sv6⟩)],S64_3step uu⟩
def F64C:Cfg:=cfg Tryz.prog 21 1 [F65c uu] [S64_3l uu] uu
def F64c:CallE:=⟨64,⟨2,bx3,[.slice 50,(.con (.fn 65 0 [(.ref 0 [] 3)])),.int .i64]⟩,⟨2,bx3,(.data 50)::sv5⟩,λx=>F64 uu x.1 x.2.1 x.2.2,(PV.bad,false,0)⟩
theorem F64k:aak (F64C uu):=aad (qc (F65ok uu)<|q0) p0
theorem S64_3ok:LoopOk (F64C uu) (lp (aaj Tryz.f64) 0):=okL (F64k uu) uu (S64_3l uu) L0
theorem F64ok:okP (F64c uu):=okE Tryz.f64 (F64k uu) (L1 (S64_3ok uu))
def F26 (o:PV) (H:Int):Option (PV×Bool):=(F64 uu (o.fld 1).asList () H).bind λh=>some (h.1,h.2.1)
def F26c:CallE:=⟨26,⟨2,[],sv7⟩,⟨2,[],[.data 50,.bool]⟩,λx=>F26 uu x.1 x.2,(PV.bad,false)⟩
theorem F26ok:okP (F26c uu):=okJ Tryz.f26 12 0 uu _ [] false (qc (F64ok uu)<|q0) p0 L0
def F57 (uu:Nat) (o:PV) (H:Unit) (h:Bt):Option (Bool×Bt):=some (((o.fld 0).asStr==h),h)
def F57c:CallE:=⟨57,⟨2,bx1,(.data 85)::sv0⟩,⟨1,bx1,[.bool,.str]⟩,λx=>F57 uu x.1 x.2.1 x.2.2,(false,[])⟩
theorem F57ok:okP (F57c uu):=okJ Tryz.f57 8 1 uu [] [] false q0 p0 L0
abbrev S56_3x:=Unit×Unit×(List PV)×Int×Int×Bt×PV
abbrev S56_3y:=(Unit×Bool×Bt×PV)⊕(Unit×Bt×PV)
def S56_3 (Z:Unit) (a3:Unit) (I:List PV) (J:Int) (H:Int) (M:Bt) (O:PV):Option (S56_3x⊕S56_3y):=bif (decide (H<J)) then bif aaa H I.length then let o:=I.getD H.toNat .bad;(F57 uu o () M).bind λh=>bif h.1 then some (.inr (.inl ((),true,h.2,o))) else some (.inl ((),(),I,J,(IntKind.wrap .i64 (H+1)),h.2,O)) else none else some (.inr (.inr ((),M,O)))
def S56_3step (x:S56_3x):Option (S56_3x⊕S56_3y):=S56_3 uu x.1 x.2.1 x.2.2.1 x.2.2.2.1 x.2.2.2.2.1 x.2.2.2.2.2.1 x.2.2.2.2.2.2
def F56 (H:List PV) (J:Unit) (I:Bt):Option (PV×Bool×Bt):=(aag uu (S56_3step uu) ((),(),H,(H.length:Int),(0:Int),I,(PV.agg [(PV.str ([]:Bt)),(PV.bool false),(PV.slice []),(PV.slice []),(PV.slice [])]))).bind λz=>sumE (λh=>some (h.2.2.2,h.2.1,h.2.2.1) ) (λo=>some ((PV.agg [(PV.str ([]:Bt)),(PV.bool false),(PV.slice []),(PV.slice []),(PV.slice [])]),false,o.2.1) ) z
def S56_3l:LoopE:=⟨3,⟨[1,4,9,10,11],bx5,(.con (.fn 57 0 [(.ref 0 [] 9)]))::(.con (.ref 1 [] 85))::(.slice 85)::(.int .i64)::(.int .i64)::sv8⟩,[(.ret,⟨[4,5],bx5,(.con (.ref 1 [] 85))::.bool::sv8⟩),(.exit 0,⟨[4],bx5,(.con (.ref 1 [] 85))::sv8⟩)],S56_3step uu⟩
def F56C:Cfg:=cfg Tryz.prog 21 1 [F57c uu] [S56_3l uu] uu
def F56c:CallE:=⟨56,⟨2,bx1,[.slice 85,(.con (.fn 57 0 [(.ref 0 [] 9)])),.str]⟩,⟨2,bx1,[.data 85,.bool,.str]⟩,λx=>F56 uu x.1 x.2.1 x.2.2,(PV.bad,false,[])⟩
theorem F56k:aak (F56C uu):=aad (qc (F57ok uu)<|q0) p0
theorem S56_3ok:LoopOk (F56C uu) (lp (aaj Tryz.f56) 0):=okL (F56k uu) uu (S56_3l uu) L0
theorem F56ok:okP (F56c uu):=okE Tryz.f56 (F56k uu) (L1 (S56_3ok uu))
def F22 (o:PV) (H:Bt):Option (PV×Bool):=(F56 uu (o.fld 1).asList () H).bind λh=>some (h.1,h.2.1)
def F22c:CallE:=⟨22,⟨2,[],sv2⟩,⟨2,[],[.data 85,.bool]⟩,λx=>F22 uu x.1 x.2,(PV.bad,false)⟩
theorem F22ok:okP (F22c uu):=okJ Tryz.f22 12 0 uu _ [] false (qc (F56ok uu)<|q0) p0 L0
def B39c (r:(Unit×Bt×PV×PV×Unit×(List (PV×PV)))->Option (PV×Unit×(List (PV×PV)))):CallE:=⟨39,⟨3,bx6,(.con (.ref 0 [] 117))::.str::sv9⟩,⟨0,bx6,sv10⟩,r,(PV.bad,(),[])⟩
def B79c (r:(Unit×PV×PV×PV×Unit×(List (PV×PV)))->Option (PV×Unit×(List (PV×PV)))):CallE:=⟨79,⟨3,bx6,(.con (.ref 0 [] 117))::(.data 50)::sv9⟩,⟨0,bx6,sv10⟩,r,(PV.bad,(),[])⟩
def B114c (r:(Unit×PV×PV×PV×Unit×(List (PV×PV)))->Option (PV×Unit×(List (PV×PV)))):CallE:=⟨114,⟨3,bx6,(.con (.ref 0 [] 117))::(.data 38)::sv9⟩,⟨0,bx6,sv10⟩,r,(PV.bad,(),[])⟩
abbrev B39_7x:=Unit×Bt×Unit×(List PV)×Int×Int×PV×Unit×(List (PV×PV))×PV×PV
abbrev B39_7y:=(PV×Unit×(List (PV×PV))×PV×PV)
def B39_7 (r0:(Unit×Bt×PV×PV×Unit×(List (PV×PV)))->Option (PV×Unit×(List (PV×PV)))) (r1:(Unit×PV×PV×PV×Unit×(List (PV×PV)))->Option (PV×Unit×(List (PV×PV)))) (r2:(Unit×PV×PV×PV×Unit×(List (PV×PV)))->Option (PV×Unit×(List (PV×PV)))) (ak:Unit) (h:Bt) (al:Unit) (J:List PV) (O:Int) (H:Int) (Z:PV) (am:Unit) (o:List (PV×PV)) (aa:PV) (M:PV):Option (B39_7x⊕B39_7y):=bif (decide (H<O)) then bif aaa H J.length then let ad:=J.getD H.toNat .bad;(F26 uu M (ad.fld 0).asInt).bind λaf=>let ab:=af.1;bif (!af.2) then some (.inl ((),h,(),J,O,(IntKind.wrap .i64 (H+1)),Z,(),o,aa,M)) else (F25 uu (ab.fld 8).asList ([100,101,112,114,101,99,97,116,101,100]:Bt)).bind λaj=>bif aj then let I:=(ab.fld 0).asInt;let ai:=((PV.mget o (PV.agg [(PV.str h),(PV.int I)])).getD (PV.int (0:Int))).asInt;let ae:=((PV.midx o (PV.agg [(PV.str h),(PV.int I)]):Nat):Int);bif aaa ae ((PV.mput o (PV.agg [(PV.str h),(PV.int I)]) ((PV.mget o (PV.agg [(PV.str h),(PV.int I)])).getD (PV.int (0:Int)))).length) then (r1 ((),ab,(ad.fld 1),Z,(),PV.mset (PV.mput o (PV.agg [(PV.str h),(PV.int I)]) ((PV.mget o (PV.agg [(PV.str h),(PV.int I)])).getD (PV.int (0:Int)))) ae.toNat (PV.int (IntKind.wrap .i64 (ai+1))))).bind λag=>some (.inl ((),h,(),J,O,(IntKind.wrap .i64 (H+1)),ag.1,(),ag.2.2,aa,M)) else none else (r1 ((),ab,(ad.fld 1),Z,(),o)).bind λah=>some (.inl ((),h,(),J,O,(IntKind.wrap .i64 (H+1)),ah.1,(),ah.2.2,aa,M)) else none else some (.inr (Z,(),o,aa,M))
def B39_7step (r0:(Unit×Bt×PV×PV×Unit×(List (PV×PV)))->Option (PV×Unit×(List (PV×PV)))) (h:(Unit×PV×PV×PV×Unit×(List (PV×PV)))->Option (PV×Unit×(List (PV×PV)))) (o:(Unit×PV×PV×PV×Unit×(List (PV×PV)))->Option (PV×Unit×(List (PV×PV)))) (x:B39_7x):Option (B39_7x⊕B39_7y):=B39_7 uu r0 h o x.1 x.2.1 x.2.2.1 x.2.2.2.1 x.2.2.2.2.1 x.2.2.2.2.2.1 x.2.2.2.2.2.2.1 x.2.2.2.2.2.2.2.1 x.2.2.2.2.2.2.2.2.1 x.2.2.2.2.2.2.2.2.2.1 x.2.2.2.2.2.2.2.2.2.2
def B39 (r0:(Unit×Bt×PV×PV×Unit×(List (PV×PV)))->Option (PV×Unit×(List (PV×PV)))) (r1:(Unit×PV×PV×PV×Unit×(List (PV×PV)))->Option (PV×Unit×(List (PV×PV)))) (r2:(Unit×PV×PV×PV×Unit×(List (PV×PV)))->Option (PV×Unit×(List (PV×PV)))) (a0:Unit) (h:Bt) (O:PV) (Z:PV) (a4:Unit) (o:List (PV×PV)):Option (PV×Unit×(List (PV×PV))):=(F20 uu Z h).bind λy1=>let x2:=y1.1;bif (!y1.2) then some (Z,(),o) else (F25 uu (x2.fld 4).asList ([100,101,112,114,101,99,97,116,101,100]:Bt)).bind λy6=>bif y6 then let x7:=((PV.mget o (PV.agg [(PV.str h),(PV.int (-1:Int))])).getD (PV.int (0:Int))).asInt;let x9:=((PV.midx o (PV.agg [(PV.str h),(PV.int (-1:Int))]):Nat):Int);bif aaa x9 ((PV.mput o (PV.agg [(PV.str h),(PV.int (-1:Int))]) ((PV.mget o (PV.agg [(PV.str h),(PV.int (-1:Int))])).getD (PV.int (0:Int)))).length) then let H:=(O.fld 5).asList;(aag uu (B39_7step uu r0 r1 r2) ((),h,(),H,(H.length:Int),(0:Int),Z,(),PV.mset (PV.mput o (PV.agg [(PV.str h),(PV.int (-1:Int))]) ((PV.mget o (PV.agg [(PV.str h),(PV.int (-1:Int))])).getD (PV.int (0:Int)))) x9.toNat (PV.int (IntKind.wrap .i64 (x7+1))),O,x2)).bind λJ=>some (J.1,(),J.2.2.1) else none else let I:=(O.fld 5).asList;(aag uu (B39_7step uu r0 r1 r2) ((),h,(),I,(I.length:Int),(0:Int),Z,(),o,O,x2)).bind λM=>some (M.1,(),M.2.2.1)
def B39_7l (r0:(Unit×Bt×PV×PV×Unit×(List (PV×PV)))->Option (PV×Unit×(List (PV×PV)))) (h:(Unit×PV×PV×PV×Unit×(List (PV×PV)))->Option (PV×Unit×(List (PV×PV)))) (o:(Unit×PV×PV×PV×Unit×(List (PV×PV)))->Option (PV×Unit×(List (PV×PV)))):LoopE:=⟨7,⟨[0,1,6,37,38,39],bx7,[(.con (.ref 0 [] 117)),.str,(.con (.ref 3 [] 55)),.slice 59,.int .i64,.int .i64,.data 26,(.con (.mref 1)),.map 162 3,.data 45,.data 55]⟩,[(.exit 0,⟨[],bx7,[.data 26,(.con (.mref 1)),.map 162 3,.data 45,.data 55]⟩)],B39_7step uu r0 h o⟩
def B39C (r0:(Unit×Bt×PV×PV×Unit×(List (PV×PV)))->Option (PV×Unit×(List (PV×PV)))) (h:(Unit×PV×PV×PV×Unit×(List (PV×PV)))->Option (PV×Unit×(List (PV×PV)))) (o:(Unit×PV×PV×PV×Unit×(List (PV×PV)))->Option (PV×Unit×(List (PV×PV)))):Cfg:=cfg Tryz.prog 73 2 [F20c uu,F25c uu,F26c uu,B79c h] [B39_7l uu r0 h o] uu
theorem B39k (r0:(Unit×Bt×PV×PV×Unit×(List (PV×PV)))->Option (PV×Unit×(List (PV×PV)))) (h:(Unit×PV×PV×PV×Unit×(List (PV×PV)))->Option (PV×Unit×(List (PV×PV)))) (o:(Unit×PV×PV×PV×Unit×(List (PV×PV)))->Option (PV×Unit×(List (PV×PV)))) (I:(B39c r0).Ok Tryz.prog) (H:(B79c h).Ok Tryz.prog) (J:(B114c o).Ok Tryz.prog):aak (B39C uu r0 h o):=aad (qc (F20ok uu)<|qc (F25ok uu)<|qc (F26ok uu)<|qc H<|q0) p0
theorem B39_7ok (r0:(Unit×Bt×PV×PV×Unit×(List (PV×PV)))->Option (PV×Unit×(List (PV×PV)))) (h:(Unit×PV×PV×PV×Unit×(List (PV×PV)))->Option (PV×Unit×(List (PV×PV)))) (o:(Unit×PV×PV×PV×Unit×(List (PV×PV)))->Option (PV×Unit×(List (PV×PV)))) (H:(B39c r0).Ok Tryz.prog) (I:(B79c h).Ok Tryz.prog) (J:(B114c o).Ok Tryz.prog):LoopOk (B39C uu r0 h o) (lp (aaj Tryz.f39) 0):=okL (B39k uu r0 h o H I J) uu (B39_7l uu r0 h o) L0
theorem B39ok (r0:(Unit×Bt×PV×PV×Unit×(List (PV×PV)))->Option (PV×Unit×(List (PV×PV)))) (h:(Unit×PV×PV×PV×Unit×(List (PV×PV)))->Option (PV×Unit×(List (PV×PV)))) (o:(Unit×PV×PV×PV×Unit×(List (PV×PV)))->Option (PV×Unit×(List (PV×PV)))) (H:(B39c r0).Ok Tryz.prog) (I:(B79c h).Ok Tryz.prog) (J:(B114c o).Ok Tryz.prog):(B39c (λx=>B39 uu r0 h o x.1 x.2.1 x.2.2.1 x.2.2.2.1 x.2.2.2.2.1 x.2.2.2.2.2)).Ok Tryz.prog:=okE Tryz.f39 (B39k uu r0 h o H I J) (L1 (B39_7ok uu r0 h o H I J))
abbrev B79_6x:=Unit×Unit×(List PV)×Int×Int×PV×Unit×(List (PV×PV))×PV×PV
abbrev B79_6y:=(PV×Unit×(List (PV×PV))×PV×PV)
def B79_6 (uu:Nat) (r0:(Unit×Bt×PV×PV×Unit×(List (PV×PV)))->Option (PV×Unit×(List (PV×PV)))) (r1:(Unit×PV×PV×PV×Unit×(List (PV×PV)))->Option (PV×Unit×(List (PV×PV)))) (r2:(Unit×PV×PV×PV×Unit×(List (PV×PV)))->Option (PV×Unit×(List (PV×PV)))) (a5:Unit) (a6:Unit) (O:List PV) (Z:Int) (M:Int) (o:PV) (aa:Unit) (H:List (PV×PV)) (h:PV) (I:PV):Option (B79_6x⊕B79_6y):=bif (decide (M<Z)) then bif aaa M O.length then (r2 ((),(h.fld 4),(O.getD M.toNat .bad),o,(),H)).bind λJ=>some (.inl ((),(),O,Z,(IntKind.wrap .i64 (M+1)),J.1,(),J.2.2,h,I)) else none else some (.inr (o,(),H,h,I))
def B79_6step (r0:(Unit×Bt×PV×PV×Unit×(List (PV×PV)))->Option (PV×Unit×(List (PV×PV)))) (h:(Unit×PV×PV×PV×Unit×(List (PV×PV)))->Option (PV×Unit×(List (PV×PV)))) (o:(Unit×PV×PV×PV×Unit×(List (PV×PV)))->Option (PV×Unit×(List (PV×PV)))) (x:B79_6x):Option (B79_6x⊕B79_6y):=B79_6 uu r0 h o x.1 x.2.1 x.2.2.1 x.2.2.2.1 x.2.2.2.2.1 x.2.2.2.2.2.1 x.2.2.2.2.2.2.1 x.2.2.2.2.2.2.2.1 x.2.2.2.2.2.2.2.2.1 x.2.2.2.2.2.2.2.2.2
abbrev B79_12x:=Unit×Unit×(List PV)×Int×Int×PV×Unit×(List (PV×PV))×PV×PV
abbrev B79_12y:=(PV×Unit×(List (PV×PV))×PV×PV)
def B79_12 (uu:Nat) (r0:(Unit×Bt×PV×PV×Unit×(List (PV×PV)))->Option (PV×Unit×(List (PV×PV)))) (r1:(Unit×PV×PV×PV×Unit×(List (PV×PV)))->Option (PV×Unit×(List (PV×PV)))) (r2:(Unit×PV×PV×PV×Unit×(List (PV×PV)))->Option (PV×Unit×(List (PV×PV)))) (aa:Unit) (ab:Unit) (o:List PV) (I:Int) (h:Int) (J:PV) (ad:Unit) (M:List (PV×PV)) (H:PV) (O:PV):Option (B79_12x⊕B79_12y):=bif (decide (h<I)) then bif aaa h o.length then (r2 ((),(H.fld 4),((o.getD h.toNat .bad).fld 1),J,(),M)).bind λZ=>some (.inl ((),(),o,I,(IntKind.wrap .i64 (h+1)),Z.1,(),Z.2.2,H,O)) else none else some (.inr (J,(),M,H,O))
def B79_12step (r0:(Unit×Bt×PV×PV×Unit×(List (PV×PV)))->Option (PV×Unit×(List (PV×PV)))) (h:(Unit×PV×PV×PV×Unit×(List (PV×PV)))->Option (PV×Unit×(List (PV×PV)))) (o:(Unit×PV×PV×PV×Unit×(List (PV×PV)))->Option (PV×Unit×(List (PV×PV)))) (x:B79_12x):Option (B79_12x⊕B79_12y):=B79_12 uu r0 h o x.1 x.2.1 x.2.2.1 x.2.2.2.1 x.2.2.2.2.1 x.2.2.2.2.2.1 x.2.2.2.2.2.2.1 x.2.2.2.2.2.2.2.1 x.2.2.2.2.2.2.2.2.1 x.2.2.2.2.2.2.2.2.2
def B79 (r0:(Unit×Bt×PV×PV×Unit×(List (PV×PV)))->Option (PV×Unit×(List (PV×PV)))) (r1:(Unit×PV×PV×PV×Unit×(List (PV×PV)))->Option (PV×Unit×(List (PV×PV)))) (r2:(Unit×PV×PV×PV×Unit×(List (PV×PV)))->Option (PV×Unit×(List (PV×PV)))) (a0:Unit) (M:PV) (h:PV) (O:PV) (a4:Unit) (Z:List (PV×PV)):Option (PV×Unit×(List (PV×PV))):=let x1:=(M.fld 2).asInt;bif (x1==4) then let x3:=(h.fld 3).asList;(aag uu (B79_6step uu r0 r1 r2) ((),(),x3,(x3.length:Int),(0:Int),O,(),Z,M,h)).bind λH=>some (H.1,(),H.2.2.1) else bif (x1==5) then let o:=(h.fld 4).asList;(aag uu (B79_12step uu r0 r1 r2) ((),(),o,(o.length:Int),(0:Int),O,(),Z,M,h)).bind λI=>some (I.1,(),I.2.2.1) else (r2 ((),(M.fld 4),h,O,(),Z)).bind λJ=>some (J.1,(),J.2.2)
def B79_6l (r0:(Unit×Bt×PV×PV×Unit×(List (PV×PV)))->Option (PV×Unit×(List (PV×PV)))) (h:(Unit×PV×PV×PV×Unit×(List (PV×PV)))->Option (PV×Unit×(List (PV×PV)))) (o:(Unit×PV×PV×PV×Unit×(List (PV×PV)))->Option (PV×Unit×(List (PV×PV)))):LoopE:=⟨6,⟨[0,4,20,21,22],bx8,(.con (.ref 0 [] 117))::(.con (.ref 2 [] 50))::(.slice 45)::(.int .i64)::(.int .i64)::sv11⟩,[(.exit 1,⟨[],bx8,sv11⟩)],B79_6step uu r0 h o⟩
def B79_12l (r0:(Unit×Bt×PV×PV×Unit×(List (PV×PV)))->Option (PV×Unit×(List (PV×PV)))) (h:(Unit×PV×PV×PV×Unit×(List (PV×PV)))->Option (PV×Unit×(List (PV×PV)))) (o:(Unit×PV×PV×PV×Unit×(List (PV×PV)))->Option (PV×Unit×(List (PV×PV)))):LoopE:=⟨12,⟨[0,4,35,36,37],bx8,(.con (.ref 0 [] 117))::(.con (.ref 2 [] 50))::(.slice 193)::(.int .i64)::(.int .i64)::sv11⟩,[(.exit 3,⟨[],bx8,sv11⟩)],B79_12step uu r0 h o⟩
def B79C (r0:(Unit×Bt×PV×PV×Unit×(List (PV×PV)))->Option (PV×Unit×(List (PV×PV)))) (o:(Unit×PV×PV×PV×Unit×(List (PV×PV)))->Option (PV×Unit×(List (PV×PV)))) (h:(Unit×PV×PV×PV×Unit×(List (PV×PV)))->Option (PV×Unit×(List (PV×PV)))):Cfg:=cfg Tryz.prog 48 2 [B114c h] [B79_6l uu r0 o h,B79_12l uu r0 o h] uu
theorem B79k (r0:(Unit×Bt×PV×PV×Unit×(List (PV×PV)))->Option (PV×Unit×(List (PV×PV)))) (h:(Unit×PV×PV×PV×Unit×(List (PV×PV)))->Option (PV×Unit×(List (PV×PV)))) (o:(Unit×PV×PV×PV×Unit×(List (PV×PV)))->Option (PV×Unit×(List (PV×PV)))) (I:(B39c r0).Ok Tryz.prog) (J:(B79c h).Ok Tryz.prog) (H:(B114c o).Ok Tryz.prog):aak (B79C uu r0 h o):=aad (qc H<|q0) p0
theorem B79_6ok (r0:(Unit×Bt×PV×PV×Unit×(List (PV×PV)))->Option (PV×Unit×(List (PV×PV)))) (h:(Unit×PV×PV×PV×Unit×(List (PV×PV)))->Option (PV×Unit×(List (PV×PV)))) (o:(Unit×PV×PV×PV×Unit×(List (PV×PV)))->Option (PV×Unit×(List (PV×PV)))) (H:(B39c r0).Ok Tryz.prog) (I:(B79c h).Ok Tryz.prog) (J:(B114c o).Ok Tryz.prog):LoopOk (B79C uu r0 h o) (lp (aaj Tryz.f79) 0):=okL (B79k uu r0 h o H I J) uu (B79_6l uu r0 h o) L0
theorem B79_12ok (r0:(Unit×Bt×PV×PV×Unit×(List (PV×PV)))->Option (PV×Unit×(List (PV×PV)))) (h:(Unit×PV×PV×PV×Unit×(List (PV×PV)))->Option (PV×Unit×(List (PV×PV)))) (o:(Unit×PV×PV×PV×Unit×(List (PV×PV)))->Option (PV×Unit×(List (PV×PV)))) (H:(B39c r0).Ok Tryz.prog) (I:(B79c h).Ok Tryz.prog) (J:(B114c o).Ok Tryz.prog):LoopOk (B79C uu r0 h o) (lp (aaj Tryz.f79) 1):=okL (B79k uu r0 h o H I J) uu (B79_12l uu r0 h o) L0
theorem B79ok (r0:(Unit×Bt×PV×PV×Unit×(List (PV×PV)))->Option (PV×Unit×(List (PV×PV)))) (h:(Unit×PV×PV×PV×Unit×(List (PV×PV)))->Option (PV×Unit×(List (PV×PV)))) (o:(Unit×PV×PV×PV×Unit×(List (PV×PV)))->Option (PV×Unit×(List (PV×PV)))) (H:(B39c r0).Ok Tryz.prog) (I:(B79c h).Ok Tryz.prog) (J:(B114c o).Ok Tryz.prog):(B79c (λx=>B79 uu r0 h o x.1 x.2.1 x.2.2.1 x.2.2.2.1 x.2.2.2.2.1 x.2.2.2.2.2)).Ok Tryz.prog:=okE Tryz.f79 (B79k uu r0 h o H I J) (L2 (B79_6ok uu r0 h o H I J) (B79_12ok uu r0 h o H I J))
abbrev B114_11x:=Unit×Unit×Unit×(List PV)×Int×Int×PV×Unit×(List (PV×PV))×PV×PV×PV
abbrev B114_11y:=(PV×Unit×(List (PV×PV))×PV×PV×PV)
def B114_11 (r0:(Unit×Bt×PV×PV×Unit×(List (PV×PV)))->Option (PV×Unit×(List (PV×PV)))) (r1:(Unit×PV×PV×PV×Unit×(List (PV×PV)))->Option (PV×Unit×(List (PV×PV)))) (r2:(Unit×PV×PV×PV×Unit×(List (PV×PV)))->Option (PV×Unit×(List (PV×PV)))) (ai:Unit) (aj:Unit) (ak:Unit) (J:List PV) (aa:Int) (I:Int) (ab:PV) (al:Unit) (h:List (PV×PV)) (M:PV) (O:PV) (ad:PV):Option (B114_11x⊕B114_11y):=bif (decide (I<aa)) then bif aaa I J.length then let Z:=J.getD I.toNat .bad;let ae:=bif (decide (((Z.fld 1).asInt)>=0)) then ((IntKind.wrap .u64 (Z.fld 1).asInt)==(O.fld 1).asInt) else false;(bif ae then F25 uu (Z.fld 2).asList ([100,101,112,114,101,99,97,116,101,100]:Bt) else some false).bind λah=>bif (bif ae then ah else false) then let o:=(M.fld 1).asStr;let H:=(Z.fld 1).asInt;let ag:=((PV.mget h (PV.agg [(PV.str o),(PV.int H)])).getD (PV.int (0:Int))).asInt;let af:=((PV.midx h (PV.agg [(PV.str o),(PV.int H)]):Nat):Int);bif aaa af ((PV.mput h (PV.agg [(PV.str o),(PV.int H)]) ((PV.mget h (PV.agg [(PV.str o),(PV.int H)])).getD (PV.int (0:Int)))).length) then some (.inl ((),(),(),J,aa,(IntKind.wrap .i64 (I+1)),ab,(),PV.mset (PV.mput h (PV.agg [(PV.str o),(PV.int H)]) ((PV.mget h (PV.agg [(PV.str o),(PV.int H)])).getD (PV.int (0:Int)))) af.toNat (PV.int (IntKind.wrap .i64 (ag+1))),M,O,ad)) else none else some (.inl ((),(),(),J,aa,(IntKind.wrap .i64 (I+1)),ab,(),h,M,O,ad)) else none else some (.inr (ab,(),h,M,O,ad))
def B114_11step (r0:(Unit×Bt×PV×PV×Unit×(List (PV×PV)))->Option (PV×Unit×(List (PV×PV)))) (h:(Unit×PV×PV×PV×Unit×(List (PV×PV)))->Option (PV×Unit×(List (PV×PV)))) (o:(Unit×PV×PV×PV×Unit×(List (PV×PV)))->Option (PV×Unit×(List (PV×PV)))) (x:B114_11x):Option (B114_11x⊕B114_11y):=B114_11 uu r0 h o x.1 x.2.1 x.2.2.1 x.2.2.2.1 x.2.2.2.2.1 x.2.2.2.2.2.1 x.2.2.2.2.2.2.1 x.2.2.2.2.2.2.2.1 x.2.2.2.2.2.2.2.2.1 x.2.2.2.2.2.2.2.2.2.1 x.2.2.2.2.2.2.2.2.2.2.1 x.2.2.2.2.2.2.2.2.2.2.2
def B114 (r0:(Unit×Bt×PV×PV×Unit×(List (PV×PV)))->Option (PV×Unit×(List (PV×PV)))) (r1:(Unit×PV×PV×PV×Unit×(List (PV×PV)))->Option (PV×Unit×(List (PV×PV)))) (r2:(Unit×PV×PV×PV×Unit×(List (PV×PV)))->Option (PV×Unit×(List (PV×PV)))) (a0:Unit) (H:PV) (a2:PV) (I:PV) (a4:Unit) (o:List (PV×PV)):Option (PV×Unit×(List (PV×PV))):=let x1:=(H.fld 0).asInt;bif (x1==10) then (r0 ((),(H.fld 1).asStr,a2,I,(),o)).bind λy4=>some (y4.1,(),y4.2.2) else bif (x1==9) then (F22 uu I (H.fld 1).asStr).bind λy7=>let Z:=y7.1;bif (!y7.2) then some (I,(),o) else (F25 uu (Z.fld 4).asList ([100,101,112,114,101,99,97,116,101,100]:Bt)).bind λae=>bif ae then let h:=(H.fld 1).asStr;let ad:=((PV.mget o (PV.agg [(PV.str h),(PV.int (-1:Int))])).getD (PV.int (0:Int))).asInt;let J:=((PV.midx o (PV.agg [(PV.str h),(PV.int (-1:Int))]):Nat):Int);bif aaa J ((PV.mput o (PV.agg [(PV.str h),(PV.int (-1:Int))]) ((PV.mget o (PV.agg [(PV.str h),(PV.int (-1:Int))])).getD (PV.int (0:Int)))).length) then let M:=(Z.fld 2).asList;(aag uu (B114_11step uu r0 r1 r2) ((),(),(),M,(M.length:Int),(0:Int),I,(),PV.mset (PV.mput o (PV.agg [(PV.str h),(PV.int (-1:Int))]) ((PV.mget o (PV.agg [(PV.str h),(PV.int (-1:Int))])).getD (PV.int (0:Int)))) J.toNat (PV.int (IntKind.wrap .i64 (ad+1))),H,a2,Z)).bind λaa=>some (aa.1,(),aa.2.2.1) else none else let O:=(Z.fld 2).asList;(aag uu (B114_11step uu r0 r1 r2) ((),(),(),O,(O.length:Int),(0:Int),I,(),o,H,a2,Z)).bind λab=>some (ab.1,(),ab.2.2.1) else some (I,(),o)
def B114_11l (r0:(Unit×Bt×PV×PV×Unit×(List (PV×PV)))->Option (PV×Unit×(List (PV×PV)))) (h:(Unit×PV×PV×PV×Unit×(List (PV×PV)))->Option (PV×Unit×(List (PV×PV)))) (o:(Unit×PV×PV×PV×Unit×(List (PV×PV)))->Option (PV×Unit×(List (PV×PV)))):LoopE:=⟨11,⟨[0,4,5,48,49,50],bx9,[(.con (.ref 0 [] 117)),(.con (.ref 2 [] 38)),(.con (.ref 3 [] 45)),.slice 98,.int .i64,.int .i64,.data 26,(.con (.mref 1)),.map 162 3,.data 38,.data 45,.data 85]⟩,[(.exit 1,⟨[],bx9,[.data 26,(.con (.mref 1)),.map 162 3,.data 38,.data 45,.data 85]⟩)],B114_11step uu r0 h o⟩
def B114C (r0:(Unit×Bt×PV×PV×Unit×(List (PV×PV)))->Option (PV×Unit×(List (PV×PV)))) (h:(Unit×PV×PV×PV×Unit×(List (PV×PV)))->Option (PV×Unit×(List (PV×PV)))) (o:(Unit×PV×PV×PV×Unit×(List (PV×PV)))->Option (PV×Unit×(List (PV×PV)))):Cfg:=cfg Tryz.prog 84 2 [B39c r0,F22c uu,F25c uu] [B114_11l uu r0 h o] uu
theorem B114k (r0:(Unit×Bt×PV×PV×Unit×(List (PV×PV)))->Option (PV×Unit×(List (PV×PV)))) (h:(Unit×PV×PV×PV×Unit×(List (PV×PV)))->Option (PV×Unit×(List (PV×PV)))) (o:(Unit×PV×PV×PV×Unit×(List (PV×PV)))->Option (PV×Unit×(List (PV×PV)))) (H:(B39c r0).Ok Tryz.prog) (I:(B79c h).Ok Tryz.prog) (J:(B114c o).Ok Tryz.prog):aak (B114C uu r0 h o):=aad (qc H<|qc (F22ok uu)<|qc (F25ok uu)<|q0) p0
theorem B114_11ok (r0:(Unit×Bt×PV×PV×Unit×(List (PV×PV)))->Option (PV×Unit×(List (PV×PV)))) (h:(Unit×PV×PV×PV×Unit×(List (PV×PV)))->Option (PV×Unit×(List (PV×PV)))) (o:(Unit×PV×PV×PV×Unit×(List (PV×PV)))->Option (PV×Unit×(List (PV×PV)))) (H:(B39c r0).Ok Tryz.prog) (I:(B79c h).Ok Tryz.prog) (J:(B114c o).Ok Tryz.prog):LoopOk (B114C uu r0 h o) (lp (aaj Tryz.f114) 0):=okL (B114k uu r0 h o H I J) uu (B114_11l uu r0 h o) L0
theorem B114ok (r0:(Unit×Bt×PV×PV×Unit×(List (PV×PV)))->Option (PV×Unit×(List (PV×PV)))) (h:(Unit×PV×PV×PV×Unit×(List (PV×PV)))->Option (PV×Unit×(List (PV×PV)))) (o:(Unit×PV×PV×PV×Unit×(List (PV×PV)))->Option (PV×Unit×(List (PV×PV)))) (H:(B39c r0).Ok Tryz.prog) (I:(B79c h).Ok Tryz.prog) (J:(B114c o).Ok Tryz.prog):(B114c (λx=>B114 uu r0 h o x.1 x.2.1 x.2.2.1 x.2.2.2.1 x.2.2.2.2.1 x.2.2.2.2.2)).Ok Tryz.prog:=okE Tryz.f114 (B114k uu r0 h o H I J) (L1 (B114_11ok uu r0 h o H I J))
def G39 (uu:Nat):Nat->((Unit×Bt×PV×PV×Unit×(List (PV×PV)))->Option (PV×Unit×(List (PV×PV))))×((Unit×PV×PV×PV×Unit×(List (PV×PV)))->Option (PV×Unit×(List (PV×PV))))×((Unit×PV×PV×PV×Unit×(List (PV×PV)))->Option (PV×Unit×(List (PV×PV)))) | 0=>(λ_=>none,λ_=>none,λ_=>none) | d+1=>(λx=>B39 uu ((G39 uu d).1) ((G39 uu d).2.1) ((G39 uu d).2.2) x.1 x.2.1 x.2.2.1 x.2.2.2.1 x.2.2.2.2.1 x.2.2.2.2.2,λx=>B79 uu ((G39 uu d).1) ((G39 uu d).2.1) ((G39 uu d).2.2) x.1 x.2.1 x.2.2.1 x.2.2.2.1 x.2.2.2.2.1 x.2.2.2.2.2,λx=>B114 uu ((G39 uu d).1) ((G39 uu d).2.1) ((G39 uu d).2.2) x.1 x.2.1 x.2.2.1 x.2.2.2.1 x.2.2.2.2.1 x.2.2.2.2.2)
theorem G39ok (uu:Nat):∀ d,(B39c ((G39 uu d).1)).Ok Tryz.prog/\(B79c ((G39 uu d).2.1)).Ok Tryz.prog/\(B114c ((G39 uu d).2.2)).Ok Tryz.prog
 | 0=>⟨awp,awp,awp⟩
 | d+1=>⟨B39ok uu ((G39 uu d).1) ((G39 uu d).2.1) ((G39 uu d).2.2) (G39ok uu d).1 (G39ok uu d).2.1 (G39ok uu d).2.2,B79ok uu ((G39 uu d).1) ((G39 uu d).2.1) ((G39 uu d).2.2) (G39ok uu d).1 (G39ok uu d).2.1 (G39ok uu d).2.2,B114ok uu ((G39 uu d).1) ((G39 uu d).2.1) ((G39 uu d).2.2) (G39ok uu d).1 (G39ok uu d).2.1 (G39ok uu d).2.2⟩
def F39 (h:Unit) (o:Bt) (H:PV) (I:PV) (J:Unit) (M:List (PV×PV)):Option (PV×Unit×(List (PV×PV))):=limQ uu (λd=>(G39 uu d).1) (h,o,H,I,J,M)
def F39c:CallE:=⟨39,⟨3,bx6,(.con (.ref 0 [] 117))::.str::sv9⟩,⟨0,bx6,sv10⟩,λx=>F39 uu x.1 x.2.1 x.2.2.1 x.2.2.2.1 x.2.2.2.2.1 x.2.2.2.2.2,(PV.bad,(),[])⟩
theorem F39ok:okP (F39c uu):=ba0 (F39c uu) (G:=(λd=>(G39 uu d).1)) (λx=>rfl) (λd=>(G39ok uu d).1)
def S40_4rem (x:Unit×Unit×(List PV)×(List (PV×PV))):List (PV×PV):=x.2.2.2
def S40_4 (uu:Nat) (e:PV×PV) (es:List (PV×PV)) (M:Unit) (O:Unit) (h:List PV) (Z:List (PV×PV)):Option ((Unit×Unit×(List PV)×(List (PV×PV)))⊕((Unit×(List PV)×(List (PV×PV))))):=let o:=e.1;let H:=e.2.asInt;let I:=(o.fld 0).asStr;let J:=(o.fld 1).asInt;bif decide (h.length+[(PV.agg [(PV.str I),(PV.int J),(PV.int H)])].length<=aaf) then some (.inl ((),(),(h++[(PV.agg [(PV.str I),(PV.int J),(PV.int H)])]),es)) else none
def S40_4go (e:PV×PV) (es:List (PV×PV)) (x:Unit×Unit×(List PV)×(List (PV×PV))):Option ((Unit×Unit×(List PV)×(List (PV×PV)))⊕((Unit×(List PV)×(List (PV×PV))))):=S40_4 uu e es x.1 x.2.1 x.2.2.1 x.2.2.2
def S40_4f (uu:Nat) (o:Unit) (H:Unit) (h:List PV) (I:List (PV×PV)):Option ((Unit×Unit×(List PV)×(List (PV×PV)))⊕((Unit×(List PV)×(List (PV×PV))))):=some (.inr ((),h,[]))
def S40_4fin (x:Unit×Unit×(List PV)×(List (PV×PV))):Option ((Unit×Unit×(List PV)×(List (PV×PV)))⊕((Unit×(List PV)×(List (PV×PV))))):=S40_4f uu x.1 x.2.1 x.2.2.1 x.2.2.2
def F40 (H:List (PV×PV)):Option ((List PV)):=a07 uu S40_4rem (S40_4go uu) (S40_4fin uu) ((),(),[],H) λh=>(ay3 uu h.2.1 h.2.1).bind λo=>some o
def S40_4l:LoopM:=⟨4,⟨[3,7],[.box 56 .leaf,.mit 162 3,.acc],[(.con (.ref 0 [] 56)),(.con (.mitr 1)),.acc 2 72,.map 162 3]⟩,[(.exit 0,⟨[3],[.box 56 .leaf,.mit 162 3,.acc],[(.con (.ref 0 [] 56)),.acc 2 72,.map 162 3]⟩)],S40_4rem,S40_4go uu,S40_4fin uu⟩
def F40C:Cfg:=mcfg (cfg Tryz.prog 27 0 [ay4 uu] [] uu) uu [S40_4l uu]
def F40c:CallE:=⟨40,⟨1,[],[.map 162 3]⟩,⟨1,[],[.slice 72]⟩,λx=>F40 uu x,[]⟩
theorem F40k:aak (F40C uu):=aue (aad (qc (a3a uu)<|q0) p0)
theorem S40_4ok:LoopOk (F40C uu) (lp (aaj Tryz.f40) 0):=okM (F40k uu) uu 8 7 1 162 3 (S40_4l uu) L0
theorem F40ok:okP (F40c uu):=okE Tryz.f40 (F40k uu) (L1 (S40_4ok uu))
def F15 (h:PV) (o:Bt) (H:PV):Option ((List PV)):=(F39 uu () o H h () []).bind λI=>(F40 uu I.2.2).bind λJ=>some J
def F15C:Cfg:=fcfg (cfg Tryz.prog 21 0 [F39c uu,F40c uu] [] uu) 40
def F15c:CallE:=⟨15,⟨3,[],[.data 26,.str,.data 45]⟩,⟨1,[],[.slice 72]⟩,λx=>F15 uu x.1 x.2.1 x.2.2,[]⟩
theorem F15k:aak (F15C uu):=atw (aad (qc (F39ok uu)<|qc (F40ok uu)<|q0) p0)
theorem F15ok:okP (F15c uu):=okE Tryz.f15 (F15k uu) L0
abbrev S41_7x:=Int×Int×(List PV)×Int×Int×PV×PV
abbrev S41_7y:=(Int×Int×Bool×PV×PV)⊕(PV×PV)
def S41_7 (uu:Nat) (J:Int) (M:Int) (o:List PV) (O:Int) (h:Int) (H:PV) (I:PV):Option (S41_7x⊕S41_7y):=bif (decide (h<O)) then bif aaa h o.length then bif ((((o.getD h.toNat .bad).fld 0).asInt)==J) then some (.inr (.inl (M,h,true,H,I))) else some (.inl (J,M,o,O,(IntKind.wrap .i64 (h+1)),H,I)) else none else some (.inr (.inr (H,I)))
def S41_7step (x:S41_7x):Option (S41_7x⊕S41_7y):=S41_7 uu x.1 x.2.1 x.2.2.1 x.2.2.2.1 x.2.2.2.2.1 x.2.2.2.2.2.1 x.2.2.2.2.2.2
abbrev S41_3x:=Bt×Int×(List PV)×Int×Int×PV
abbrev S41_3y:=(Int×Int×Bool×PV)⊕(PV)
def S41_3 (Z:Bt) (a4:Int) (J:List PV) (a6:Int) (H:Int) (M:PV):Option (S41_3x⊕S41_3y):=bif (decide (H<a6)) then bif aaa H J.length then let o:=J.getD H.toNat .bad;bif (!((o.fld 0).asStr==Z)) then some (.inl (Z,a4,J,a6,(IntKind.wrap .i64 (H+1)),M)) else let I:=(o.fld 4).asList;(aag uu (S41_7step uu) (a4,H,I,(I.length:Int),(0:Int),M,o)).bind λz=>sumE (λh=>some (.inr (.inl (h.1,h.2.1,h.2.2.1,h.2.2.2.1))) ) (λO=>some (.inr (.inl ((0:Int),(0:Int),false,O.1))) ) z else none else some (.inr (.inr M))
def S41_3step (x:S41_3x):Option (S41_3x⊕S41_3y):=S41_3 uu x.1 x.2.1 x.2.2.1 x.2.2.2.1 x.2.2.2.2.1 x.2.2.2.2.2
def F41 (o:PV) (H:Bt) (I:Int):Option (Int×Int×Bool):=let x1:=(o.fld 1).asList;(aag uu (S41_3step uu) (H,I,x1,(x1.length:Int),(0:Int),o)).bind λz=>sumE (λh=>some (h.1,h.2.1,h.2.2.1) ) (λJ=>some ((0:Int),(0:Int),false) ) z
def S41_7l:LoopE:=⟨7,⟨[2,9,26,27,28],bx10,(.int .i64)::(.int .i64)::(.slice 61)::sv12⟩,[(.ret,⟨[6,7,8],bx10,(.int .i64)::(.int .i64)::.bool::sv13⟩),(.exit 2,⟨[],bx10,sv13⟩)],S41_7step uu⟩
def S41_3l:LoopE:=⟨3,⟨[1,2,14,15,16],[.box 67 .leaf],[.str,.int .i64,.slice 64,.int .i64,.int .i64,.data 67]⟩,[(.ret,⟨[6,7,8],[.box 67 .leaf],[.int .i64,.int .i64,.bool,.data 67]⟩),(.exit 0,⟨[],[.box 67 .leaf],[.data 67]⟩)],S41_3step uu⟩
def F41C:Cfg:=cfg Tryz.prog 41 0 [] [S41_7l uu,S41_3l uu] uu
def F41c:CallE:=⟨41,⟨3,[],(.data 67)::sv14⟩,⟨3,[],[.int .i64,.int .i64,.bool]⟩,λx=>F41 uu x.1 x.2.1 x.2.2,(0,0,false)⟩
theorem F41k:aak (F41C uu):=aad q0 p0
theorem S41_7ok:LoopOk (F41C uu) (lp (lp (aaj Tryz.f41) 0) 0):=okL (F41k uu) uu (S41_7l uu) L0
theorem S41_3ok:LoopOk (F41C uu) (lp (aaj Tryz.f41) 0):=okL (F41k uu) uu (S41_3l uu) (L1 (S41_7ok uu))
theorem F41ok:okP (F41c uu):=okE Tryz.f41 (F41k uu) (L1 (S41_3ok uu))
def F42 (uu:Nat) (M:PV) (H:Int) (I:Int) (O:Int) (Z:Int):Option PV:=let x1:=(M.fld 1).asList;bif decide (x1.length<=aaf) then bif aaa H x1.length then let h:=x1.getD H.toNat .bad;let o:=(h.fld 4).asList;bif decide (o.length<=aaf) then bif aaa I o.length then let J:=o.getD I.toNat .bad;bif aaa I o.length then let x8:=o.set I.toNat (PV.agg [(PV.int (J.fld 0).asInt),(J.fld 1),(PV.int (J.fld 2).asInt),(PV.int O),(PV.int Z)]);bif aaa H x1.length then let x9:=x1.set H.toNat (PV.agg [(PV.str (h.fld 0).asStr),(PV.str (h.fld 1).asStr),(PV.int (h.fld 2).asInt),(PV.int (h.fld 3).asInt),(PV.slice x8)]);some (PV.agg [(PV.int (M.fld 0).asInt),(PV.slice x9)]) else none else none else none else none else none else none
def F42c:CallE:=⟨42,⟨5,[],(.data 67)::(.int .i64)::(.int .i64)::sv15⟩,⟨1,[],[.data 67]⟩,λx=>F42 uu x.1 x.2.1 x.2.2.1 x.2.2.2.1 x.2.2.2.2,PV.bad⟩
theorem F42ok:okP (F42c uu):=okJ Tryz.f42 48 0 uu [] [] false q0 p0 L0
def F16 (h:PV) (a1:Bt) (a2:Int):Option (PV×Int):=(F41 uu h a1 a2).bind λJ=>let H:=J.1;let I:=J.2.1;bif (!J.2.2) then some (h,(10:Int)) else let O:=(h.fld 1).asList;bif aaa H O.length then let Z:=((O.getD H.toNat .bad).fld 4).asList;bif aaa I Z.length then let o:=Z.getD I.toNat .bad;bif (bif ((o.fld 3).asInt != 2) then true else (decide ((h.fld 0).asInt<(o.fld 4).asInt))) then some (h,(20:Int)) else (F42 uu h H I (3:Int) (0:Int)).bind λM=>some (M,(0:Int)) else none else none
def F16c:CallE:=⟨16,⟨3,[],(.data 67)::sv14⟩,⟨2,[],[.data 67,.int .i64]⟩,λx=>F16 uu x.1 x.2.1 x.2.2,(PV.bad,0)⟩
theorem F16ok:okP (F16c uu):=okJ Tryz.f16 47 0 uu _ [] false (qc (F41ok uu)<|qc (F42ok uu)<|q0) p0 L0
abbrev S17_7x:=Unit×(List PV)×Unit×(List PV)×Int×Int×(List PV)×Int×Int×PV×PV
abbrev S17_7y:=(Unit×(List PV)×(List PV)×Int×Int×PV×PV)
def S17_7 (uu:Nat) (ag:Unit) (o:List PV) (ah:Unit) (M:List PV) (O:Int) (Z:Int) (H:List PV) (aa:Int) (h:Int) (I:PV) (J:PV):Option (S17_7x⊕S17_7y):=bif (decide (h<aa)) then bif aaa h H.length then let ab:=H.getD h.toNat .bad;bif (bif ((ab.fld 3).asInt==2) then (decide ((ab.fld 4).asInt<=(I.fld 0).asInt)) else false) then let ad:=(J.fld 0).asStr;let ae:=(ab.fld 0).asInt;bif decide (o.length+[(PV.agg [(PV.str ad),(PV.int ae),(PV.int (0:Int))])].length<=aaf) then let af:=o++[(PV.agg [(PV.str ad),(PV.int ae),(PV.int (0:Int))])];some (.inl ((),af,(),M,O,Z,H,aa,(IntKind.wrap .i64 (h+1)),I,J)) else none else some (.inl ((),o,(),M,O,Z,H,aa,(IntKind.wrap .i64 (h+1)),I,J)) else none else some (.inr ((),o,M,O,Z,I,J))
def S17_7step (x:S17_7x):Option (S17_7x⊕S17_7y):=S17_7 uu x.1 x.2.1 x.2.2.1 x.2.2.2.1 x.2.2.2.2.1 x.2.2.2.2.2.1 x.2.2.2.2.2.2.1 x.2.2.2.2.2.2.2.1 x.2.2.2.2.2.2.2.2.1 x.2.2.2.2.2.2.2.2.2.1 x.2.2.2.2.2.2.2.2.2.2
abbrev S17_4x:=Unit×(List PV)×(List PV)×Int×Int×PV
abbrev S17_4y:=((List PV)×PV)
def S17_4 (a3:Unit) (M:List PV) (J:List PV) (O:Int) (I:Int) (Z:PV):Option (S17_4x⊕S17_4y):=bif (decide (I<O)) then bif aaa I J.length then let o:=J.getD I.toNat .bad;let H:=(o.fld 4).asList;(aag uu (S17_7step uu) ((),M,(),J,O,I,H,(H.length:Int),(0:Int),Z,o)).bind λh=>some (.inl ((),h.2.1,h.2.2.1,h.2.2.2.1,(IntKind.wrap .i64 (h.2.2.2.2.1+1)),h.2.2.2.2.2.1)) else none else some (.inr (M,Z))
def S17_4step (x:S17_4x):Option (S17_4x⊕S17_4y):=S17_4 uu x.1 x.2.1 x.2.2.1 x.2.2.2.1 x.2.2.2.2.1 x.2.2.2.2.2
def F17 (o:PV):Option ((List PV)):=let x1:=(o.fld 1).asList;(aag uu (S17_4step uu) ((),[],x1,(x1.length:Int),(0:Int),o)).bind λh=>some h.1
def S17_7l:LoopE:=⟨7,⟨[1,3,5,9,10,11,16,17,18],[.box 67 .leaf,.acc,.box 64 .leaf],(.con (.ref 0 [] 67))::(.acc 1 72)::(.con (.ref 2 [] 64))::(.slice 64)::(.int .i64)::(.int .i64)::(.slice 61)::sv12⟩,[(.exit 2,⟨[1,3,9,10,11],[.box 67 .leaf,.acc,.box 64 .leaf],(.con (.ref 0 [] 67))::(.acc 1 72)::(.slice 64)::sv12⟩)],S17_7step uu⟩
def S17_4l:LoopE:=⟨4,⟨[1,3,9,10,11],[.box 67 .leaf,.acc],[(.con (.ref 0 [] 67)),.acc 1 72,.slice 64,.int .i64,.int .i64,.data 67]⟩,[(.exit 0,⟨[3],[.box 67 .leaf,.acc],[.acc 1 72,.data 67]⟩)],S17_4step uu⟩
def F17C:Cfg:=cfg Tryz.prog 43 0 [] [S17_7l uu,S17_4l uu] uu
def F17c:CallE:=⟨17,⟨1,[],[.data 67]⟩,⟨1,[],[.slice 72]⟩,λx=>F17 uu x,[]⟩
theorem F17k:aak (F17C uu):=aad q0 p0
theorem S17_7ok:LoopOk (F17C uu) (lp (lp (aaj Tryz.f17) 0) 0):=okL (F17k uu) uu (S17_7l uu) L0
theorem S17_4ok:LoopOk (F17C uu) (lp (aaj Tryz.f17) 0):=okL (F17k uu) uu (S17_4l uu) (L1 (S17_7ok uu))
theorem F17ok:okP (F17c uu):=okE Tryz.f17 (F17k uu) (L1 (S17_4ok uu))
def F8 :Option Bool:=(F15 uu (PV.agg [(PV.slice [(PV.agg [(PV.str ([77]:Bt)),(PV.slice [(PV.agg [(PV.int (1:Int)),(PV.str ([120]:Bt)),(PV.int (2:Int)),(PV.int (0:Int)),(PV.agg [(PV.int (1:Int)),(PV.str ([]:Bt))]),(PV.str ([]:Bt)),(PV.bool false),(PV.agg [(PV.int (0:Int)),(PV.int (0:Int)),(PV.str ([]:Bt)),(PV.slice []),(PV.slice []),(PV.slice []),(PV.slice [])]),(PV.slice [(PV.agg [(PV.str ([100,101,112,114,101,99,97,116,101,100]:Bt)),(PV.agg [(PV.int (1:Int)),(PV.int (1:Int)),(PV.str ([]:Bt)),(PV.slice []),(PV.slice []),(PV.slice []),(PV.slice [])])])])])]),(PV.slice []),(PV.slice []),(PV.slice [])])]),(PV.slice []),(PV.slice [])]) ([77]:Bt) (PV.agg [(PV.int (10:Int)),(PV.int (0:Int)),(PV.str ([]:Bt)),(PV.slice []),(PV.slice []),(PV.slice [(PV.agg [(PV.int (1:Int)),(PV.agg [(PV.int (1:Int)),(PV.int (0:Int)),(PV.str ([]:Bt)),(PV.slice []),(PV.slice []),(PV.slice []),(PV.slice [])])])]),(PV.slice [])])).bind λM=>(F16 uu (PV.agg [(PV.int (5:Int)),(PV.slice [(PV.agg [(PV.str ([97]:Bt)),(PV.str ([]:Bt)),(PV.int (0:Int)),(PV.int (0:Int)),(PV.slice [(PV.agg [(PV.int (1:Int)),(PV.agg [(PV.slice []),(PV.slice []),(PV.slice [])]),(PV.int (0:Int)),(PV.int (2:Int)),(PV.int (5:Int))])])])])]) ([97]:Bt) (1:Int)).bind λy2=>let Z:=(M.length:Int)==1;bif imp Z (aaa (0:Int) M.length) then let J:=M.getD (0:Int).toNat .bad;let x8:=bif (J.fld 0).asStr==([77]:Bt) then (bif (J.fld 1).asInt==1 then (bif (J.fld 2).asInt==1 then true else false) else false) else false;let h:=bif (bif Z then x8 else false) then (y2.2==0) else false;let o:=(y2.1.fld 1).asList;bif imp h (aaa (0:Int) o.length) then let H:=((o.getD (0:Int).toNat .bad).fld 4).asList;bif imp h (aaa (0:Int) H.length) then let I:=bif h then (((H.getD (0:Int).toNat .bad).fld 3).asInt==(3:Int)) else false;(bif I then F17 uu (PV.agg [(PV.int (5:Int)),(PV.slice [(PV.agg [(PV.str ([97]:Bt)),(PV.str ([]:Bt)),(PV.int (0:Int)),(PV.int (0:Int)),(PV.slice [(PV.agg [(PV.int (1:Int)),(PV.agg [(PV.slice []),(PV.slice []),(PV.slice [])]),(PV.int (0:Int)),(PV.int (2:Int)),(PV.int (5:Int))])])])])]) else some []).bind λO=>some (bif I then ((O.length:Int)==1) else false) else none else none else none
def F8c:CallE:=⟨8,⟨0,[],[]⟩,⟨1,[],[.bool]⟩,λx=>F8 uu ,false⟩
theorem F8ok:okP (F8c uu):=okJ Tryz.f8 64 0 uu _ [] false (qc (F15ok uu)<|qc (F16ok uu)<|qc (F17ok uu)<|q0) p0 L0
theorem awake40_run:F8 1000=some true:=a4q (by kernel_rfl)
def apa (uu:Nat):Option Bool:=some true
def aqy:CallE:={ f:=8,A:=⟨0,[],[]⟩,R:=⟨1,[],[.bool]⟩,F:=λx=>apa uu,dflt:=false }
theorem ate:(F8c uu).F=λ_=>F8 uu:=rfl
theorem aw0:(aqy uu).Ok Tryz.prog:=λx y h=>F8ok 1000 () y ((congrFun (ate 1000) ()).trans (awake40_run.trans h))
abbrev S43_4x:=Int×Unit×(List PV)×Int×PV
abbrev S43_4y:=(Int×Unit×(List PV)×PV)
def S43_4 (uu:Nat) (J:Int) (O:Unit) (M:List PV) (H:Int) (I:PV):Option (S43_4x⊕S43_4y):=bif (bif (J==1) then (decide (H<((I.fld 0).asList.length:Int))) else false) then let h:=(I.fld 0).asList;bif aaa H h.length then let o:=((h.getD H.toNat .bad).fld 0).asStr;bif decide (M.length+[(PV.str o)].length<=aaf) then some (.inl (J,(),(M++[(PV.str o)]),(IntKind.wrap .i64 (H+1)),I)) else none else none else some (.inr (J,(),M,I))
def S43_4step (x:S43_4x):Option (S43_4x⊕S43_4y):=S43_4 uu x.1 x.2.1 x.2.2.1 x.2.2.2.1 x.2.2.2.2
abbrev S43_8x:=Int×Unit×(List PV)×Int×PV
abbrev S43_8y:=(Int×Unit×(List PV)×PV)
def S43_8 (uu:Nat) (H:Int) (O:Unit) (I:List PV) (h:Int) (o:PV):Option (S43_8x⊕S43_8y):=bif (bif (H==2) then (decide (h<((o.fld 1).asList.length:Int))) else false) then let J:=(o.fld 1).asList;bif aaa h J.length then let M:=((J.getD h.toNat .bad).fld 0).asStr;bif decide (I.length+[(PV.str M)].length<=aaf) then some (.inl (H,(),(I++[(PV.str M)]),(IntKind.wrap .i64 (h+1)),o)) else none else none else some (.inr (H,(),I,o))
def S43_8step (x:S43_8x):Option (S43_8x⊕S43_8y):=S43_8 uu x.1 x.2.1 x.2.2.1 x.2.2.2.1 x.2.2.2.2
abbrev S43_12x:=Int×Unit×(List PV)×Int×PV
abbrev S43_12y:=((List PV)×PV)
def S43_12 (uu:Nat) (I:Int) (O:Unit) (H:List PV) (h:Int) (o:PV):Option (S43_12x⊕S43_12y):=bif (bif (I==3) then (decide (h<((o.fld 2).asList.length:Int))) else false) then let J:=(o.fld 2).asList;bif aaa h J.length then let M:=((J.getD h.toNat .bad).fld 0).asStr;bif decide (H.length+[(PV.str M)].length<=aaf) then some (.inl (I,(),(H++[(PV.str M)]),(IntKind.wrap .i64 (h+1)),o)) else none else none else some (.inr (H,o))
def S43_12step (x:S43_12x):Option (S43_12x⊕S43_12y):=S43_12 uu x.1 x.2.1 x.2.2.1 x.2.2.2.1 x.2.2.2.2
def F43 (I:PV) (J:Int):Option ((List PV)):=(aag uu (S43_4step uu) (J,(),[],(0:Int),I)).bind λh=>(aag uu (S43_8step uu) (h.1,(),h.2.2.1,(0:Int),h.2.2.2)).bind λo=>(aag uu (S43_12step uu) (o.1,(),o.2.2.1,(0:Int),o.2.2.2)).bind λH=>some H.1
def S43_4l:LoopE:=⟨4,⟨[1,2,5,6],bx11,sv16⟩,[(.exit 0,⟨[1,2,5],bx11,(.int .i64)::(.con (.ref 0 [] 26))::sv17⟩)],S43_4step uu⟩
def S43_8l:LoopE:=⟨8,⟨[1,2,5,7],bx11,sv16⟩,[(.exit 2,⟨[1,2,5],bx11,(.int .i64)::(.con (.ref 0 [] 26))::sv17⟩)],S43_8step uu⟩
def S43_12l:LoopE:=⟨12,⟨[1,2,5,8],bx11,sv16⟩,[(.exit 4,⟨[5],bx11,sv17⟩)],S43_12step uu⟩
def F43C:Cfg:=cfg Tryz.prog 70 0 [] [S43_4l uu,S43_8l uu,S43_12l uu] uu
def F43c:CallE:=⟨43,⟨2,[],[.data 26,.int .i64]⟩,⟨1,[],[.slice 9]⟩,λx=>F43 uu x.1 x.2,[]⟩
theorem F43k:aak (F43C uu):=aad q0 p0
theorem S43_4ok:LoopOk (F43C uu) (lp (aaj Tryz.f43) 0):=okL (F43k uu) uu (S43_4l uu) L0
theorem S43_8ok:LoopOk (F43C uu) (lp (aaj Tryz.f43) 1):=okL (F43k uu) uu (S43_8l uu) L0
theorem S43_12ok:LoopOk (F43C uu) (lp (aaj Tryz.f43) 2):=okL (F43k uu) uu (S43_12l uu) L0
theorem F43ok:okP (F43c uu):=okE Tryz.f43 (F43k uu) (L3 (S43_4ok uu) (S43_8ok uu) (S43_12ok uu))
def F44 (uu:Nat) (M:Unit) (J:Bool) (H:Int) (I:Int) (h:Bt) (o:List PV):Option (Bt×(List PV)):=bif J then bif decide (o.length+[(PV.agg [(PV.str h),(PV.int H),(PV.int I)])].length<=aaf) then some (h,(o++[(PV.agg [(PV.str h),(PV.int H),(PV.int I)])])) else none else some (h,o)
def F44c:CallE:=⟨44,⟨4,bx12,(.con (.ref 0 [] 124))::.bool::sv18⟩,⟨0,bx12,sv19⟩,λx=>F44 uu x.1 x.2.1 x.2.2.1 x.2.2.2.1 x.2.2.2.2.1 x.2.2.2.2.2,([],[])⟩
theorem F44ok:okP (F44c uu):=okJ Tryz.f44 25 2 uu [] [] false q0 p0 L0
def S45_3 (uu:Nat) (h:List PV) (o:Int):Option (((List PV)×Int)⊕((Bool)⊕(Unit))):=bif (decide (o<(h.length:Int))) then bif aaa o h.length then let H:=(h.getD o.toNat .bad).asStr;let I:=IntKind.wrap .i64 (o-1);bif aaa I h.length then let J:=(h.getD I.toNat .bad).asStr;bif (Op.bytesLess H J||H==J) then some (.inr (.inl false)) else some (.inl (h,(IntKind.wrap .i64 (o+1)))) else none else none else some (.inr (.inr ()))
def S45_3step (x:(List PV)×Int):Option (((List PV)×Int)⊕((Bool)⊕(Unit))):=S45_3 uu x.1 x.2
def F45 (o:List PV):Option Bool:=(aag uu (S45_3step uu) (o,(1:Int))).bind λz=>sumE (λh=>some h ) (λH=>some true ) z
def S45_3l:LoopE:=⟨3,⟨[0,3],[],[.slice 9,.int .i64]⟩,[(.ret,⟨[2],[],[.bool]⟩),(.exit 0,⟨[],[],[]⟩)],S45_3step uu⟩
def F45C:Cfg:=cfg Tryz.prog 20 0 [] [S45_3l uu] uu
def F45c:CallE:=⟨45,⟨1,[],[.slice 9]⟩,⟨1,[],[.bool]⟩,λx=>F45 uu x,false⟩
theorem F45k:aak (F45C uu):=aad q0 p0
theorem S45_3ok:LoopOk (F45C uu) (lp (aaj Tryz.f45) 0):=okL (F45k uu) uu (S45_3l uu) L0
theorem F45ok:okP (F45c uu):=okE Tryz.f45 (F45k uu) (L1 (S45_3ok uu))
abbrev S82_3x:=(List PV)×Bt×Int
abbrev S82_3y:=(Bool)⊕(Unit)
def S82_3 (uu:Nat) (h:List PV) (H:Bt) (o:Int):Option (S82_3x⊕S82_3y):=bif (decide (o<(h.length:Int))) then bif aaa o h.length then bif ((h.getD o.toNat .bad).asStr==H) then some (.inr (.inl true)) else some (.inl (h,H,(IntKind.wrap .i64 (o+1)))) else none else some (.inr (.inr ()))
def S82_3step (x:S82_3x):Option (S82_3x⊕S82_3y):=S82_3 uu x.1 x.2.1 x.2.2
def F82 (o:List PV) (H:Bt):Option Bool:=(aag uu (S82_3step uu) (o,H,(0:Int))).bind λz=>sumE (λh=>some h ) (λI=>some false ) z
def S82_3l:LoopE:=⟨3,⟨[0,1,5],[],(.slice 9)::sv14⟩,[(.ret,⟨[4],[],[.bool]⟩),(.exit 0,⟨[],[],[]⟩)],S82_3step uu⟩
def F82C:Cfg:=cfg Tryz.prog 18 0 [] [S82_3l uu] uu
def F82c:CallE:=⟨82,⟨2,[],[.slice 9,.str]⟩,⟨1,[],[.bool]⟩,λx=>F82 uu x.1 x.2,false⟩
theorem F82k:aak (F82C uu):=aad q0 p0
theorem S82_3ok:LoopOk (F82C uu) (lp (aaj Tryz.f82) 0):=okL (F82k uu) uu (S82_3l uu) L0
theorem F82ok:okP (F82c uu):=okE Tryz.f82 (F82k uu) (L1 (S82_3ok uu))
abbrev S46_3x:=(List PV)×(List PV)×Int
abbrev S46_3y:=(Bool)⊕(Unit)
def S46_3 (h:List PV) (H:List PV) (o:Int):Option (S46_3x⊕S46_3y):=bif (decide (o<(h.length:Int))) then bif aaa o h.length then (F82 uu H (h.getD o.toNat .bad).asStr).bind λI=>bif I then some (.inr (.inl true)) else some (.inl (h,H,(IntKind.wrap .i64 (o+1)))) else none else some (.inr (.inr ()))
def S46_3step (x:S46_3x):Option (S46_3x⊕S46_3y):=S46_3 uu x.1 x.2.1 x.2.2
def F46 (o:List PV) (H:List PV):Option Bool:=(aag uu (S46_3step uu) (o,H,(0:Int))).bind λz=>sumE (λh=>some h ) (λI=>some false ) z
def S46_3l:LoopE:=⟨3,⟨[0,1,5],[],[.slice 9,.slice 9,.int .i64]⟩,[(.ret,⟨[4],[],[.bool]⟩),(.exit 0,⟨[],[],[]⟩)],S46_3step uu⟩
def F46C:Cfg:=cfg Tryz.prog 18 0 [F82c uu] [S46_3l uu] uu
def F46c:CallE:=⟨46,⟨2,[],[.slice 9,.slice 9]⟩,⟨1,[],[.bool]⟩,λx=>F46 uu x.1 x.2,false⟩
theorem F46k:aak (F46C uu):=aad (qc (F82ok uu)<|q0) p0
theorem S46_3ok:LoopOk (F46C uu) (lp (aaj Tryz.f46) 0):=okL (F46k uu) uu (S46_3l uu) L0
theorem F46ok:okP (F46c uu):=okE Tryz.f46 (F46k uu) (L1 (S46_3ok uu))
abbrev S94_3x:=Bt×Unit×Int×PV
abbrev S94_3y:=(Int×PV)⊕(PV)
def S94_3 (uu:Nat) (H:Bt) (J:Unit) (h:Int) (o:PV):Option (S94_3x⊕S94_3y):=bif (decide (h<((o.fld 0).asList.length:Int))) then let I:=(o.fld 0).asList;bif aaa h I.length then bif (((I.getD h.toNat .bad).fld 0).asStr==H) then some (.inr (.inl (h,o))) else some (.inl (H,(),(IntKind.wrap .i64 (h+1)),o)) else none else some (.inr (.inr o))
def S94_3step (x:S94_3x):Option (S94_3x⊕S94_3y):=S94_3 uu x.1 x.2.1 x.2.2.1 x.2.2.2
def F94 (o:PV) (H:Bt):Option Int:=(aag uu (S94_3step uu) (H,(),(0:Int),o)).bind λz=>sumE (λh=>some h.1 ) (λI=>some (-1:Int) ) z
def S94_3l:LoopE:=⟨3,⟨[1,2,5],bx13,.str::(.con (.ref 0 [] 26))::sv20⟩,[(.ret,⟨[4],bx13,sv20⟩),(.exit 0,⟨[],bx13,[.data 26]⟩)],S94_3step uu⟩
def F94C:Cfg:=cfg Tryz.prog 22 0 [] [S94_3l uu] uu
def F94c:CallE:=⟨94,⟨2,[],sv2⟩,⟨1,[],[.int .i64]⟩,λx=>F94 uu x.1 x.2,0⟩
theorem F94k:aak (F94C uu):=aad q0 p0
theorem S94_3ok:LoopOk (F94C uu) (lp (aaj Tryz.f94) 0):=okL (F94k uu) uu (S94_3l uu) L0
theorem F94ok:okP (F94c uu):=okE Tryz.f94 (F94k uu) (L1 (S94_3ok uu))
abbrev S83_3x:=Unit×Unit×Unit×Int×(List PV)×PV×PV
abbrev S83_3y:=(Bool×(List PV)×PV×PV)⊕((List PV)×PV×PV)
def S83_3 (a1:Unit) (a2:Unit) (a3:Unit) (J:Int) (H:List PV) (M:PV) (I:PV):Option (S83_3x⊕S83_3y):=bif (decide (J<((I.fld 1).asList.length:Int))) then let O:=(I.fld 1).asList;bif aaa J O.length then let h:=O.getD J.toNat .bad;bif (bif ((h.fld 2).asInt != 1) then true else ((((h.fld 4).fld 0).asInt) != 10)) then some (.inl ((),(),(),(IntKind.wrap .i64 (J+1)),H,M,I)) else (F94 uu M (((h.fld 4).fld 1).asStr)).bind λo=>let Z:=decide (o>=0);bif imp Z (aaa o H.length) then bif (bif Z then (!(H.getD o.toNat .bad).asBool) else false) then some (.inr (.inl (true,H,M,I))) else some (.inl ((),(),(),(IntKind.wrap .i64 (J+1)),H,M,I)) else none else none else some (.inr (.inr (H,M,I)))
def S83_3step (x:S83_3x):Option (S83_3x⊕S83_3y):=S83_3 uu x.1 x.2.1 x.2.2.1 x.2.2.2.1 x.2.2.2.2.1 x.2.2.2.2.2.1 x.2.2.2.2.2.2
def F83 (H:PV) (I:PV) (M:Unit) (J:List PV):Option (Bool×(List PV)):=(aag uu (S83_3step uu) ((),(),(),(0:Int),J,H,I)).bind λz=>sumE (λh=>some (h.1,h.2.1) ) (λo=>some (false,o.1) ) z
def S83_3l:LoopE:=⟨3,⟨[2,3,4,7],bx14,(.con (.arr 0 0 4))::(.con (.ref 1 [] 26))::(.con (.ref 2 [] 55))::(.int .i64)::sv21⟩,[(.ret,⟨[6],bx14,.bool::sv21⟩),(.exit 0,⟨[],bx14,sv21⟩)],S83_3step uu⟩
def F83C:Cfg:=cfg Tryz.prog 45 1 [F94c uu] [S83_3l uu] uu
def F83c:CallE:=⟨83,⟨3,[.arr 4 0],[.data 26,.data 55,(.con (.arr 0 0 4)),.slice 4]⟩,⟨1,[.arr 4 0],[.bool,.slice 4]⟩,λx=>F83 uu x.1 x.2.1 x.2.2.1 x.2.2.2,(false,[])⟩
theorem F83k:aak (F83C uu):=aad (qc (F94ok uu)<|q0) p0
theorem S83_3ok:LoopOk (F83C uu) (lp (aaj Tryz.f83) 0):=okL (F83k uu) uu (S83_3l uu) L0
theorem F83ok:okP (F83c uu):=okE Tryz.f83 (F83k uu) (L1 (S83_3ok uu))
abbrev S47_9x:=Unit×Unit×Bool×Int×Int×PV×(List PV)
abbrev S47_9y:=(Unit×Unit×Bool×Int×PV×(List PV))
def S47_9 (aa:Unit) (ab:Unit) (O:Bool) (I:Int) (h:Int) (o:PV) (H:List PV):Option (S47_9x⊕S47_9y):=bif (decide (h<((o.fld 0).asList.length:Int))) then bif aaa h H.length then let J:=!((H.getD h.toNat .bad).asBool);let Z:=(o.fld 0).asList;bif imp J (aaa h Z.length) then bif J then (F83 uu o (Z.getD h.toNat .bad) () H).bind λM=>bif (bif J then (!M.1) else false) then bif aaa h M.2.length then some (.inl ((),(),true,I,(IntKind.wrap .i64 (h+1)),o,(M.2.set h.toNat (PV.bool true)))) else none else some (.inl ((),(),O,I,(IntKind.wrap .i64 (h+1)),o,M.2)) else bif (bif J then true else false) then bif aaa h H.length then some (.inl ((),(),true,I,(IntKind.wrap .i64 (h+1)),o,(H.set h.toNat (PV.bool true)))) else none else some (.inl ((),(),O,I,(IntKind.wrap .i64 (h+1)),o,H)) else none else none else some (.inr ((),(),O,I,o,H))
def S47_9step (x:S47_9x):Option (S47_9x⊕S47_9y):=S47_9 uu x.1 x.2.1 x.2.2.1 x.2.2.2.1 x.2.2.2.2.1 x.2.2.2.2.2.1 x.2.2.2.2.2.2
abbrev S47_5x:=Unit×Unit×Bool×Int×PV×(List PV)
abbrev S47_5y:=(Unit×PV×(List PV))
def S47_5 (M:Unit) (O:Unit) (J:Bool) (H:Int) (o:PV) (I:List PV):Option (S47_5x⊕S47_5y):=bif (bif (decide (H<((o.fld 0).asList.length:Int))) then J else false) then (aag uu (S47_9step uu) ((),(),false,H,(0:Int),o,I)).bind λh=>some (.inl ((),(),h.2.2.1,(IntKind.wrap .i64 (h.2.2.2.1+1)),h.2.2.2.2.1,h.2.2.2.2.2)) else some (.inr ((),o,I))
def S47_5step (x:S47_5x):Option (S47_5x⊕S47_5y):=S47_5 uu x.1 x.2.1 x.2.2.1 x.2.2.2.1 x.2.2.2.2.1 x.2.2.2.2.2
def F47 (H:PV):Option ((List PV)):=let h:=((H.fld 0).asList.length:Int);bif decide (0<=h/\h<=h/\h<=aaf) then (aag uu (S47_5step uu) ((),(),true,(0:Int),H,(List.replicate h.toNat (PV.bool false)))).bind λo=>some o.2.2 else none
def S47_9l:LoopE:=⟨9,⟨[1,3,4,5,6],bx15,(.con (.ref 0 [] 26))::(.con (.arr 1 0 4))::.bool::(.int .i64)::sv22⟩,[(.exit 2,⟨[1,3,4,5],bx15,(.con (.ref 0 [] 26))::(.con (.arr 1 0 4))::.bool::sv22⟩)],S47_9step uu⟩
def S47_5l:LoopE:=⟨5,⟨[1,3,4,5],bx15,(.con (.ref 0 [] 26))::(.con (.arr 1 0 4))::.bool::sv22⟩,[(.exit 0,⟨[3],bx15,(.con (.arr 1 0 4))::sv23⟩)],S47_5step uu⟩
def F47C:Cfg:=cfg Tryz.prog 48 0 [F83c uu] [S47_9l uu,S47_5l uu] uu
def F47c:CallE:=⟨47,⟨1,[],[.data 26]⟩,⟨1,[],[.slice 4]⟩,λx=>F47 uu x,[]⟩
theorem F47k:aak (F47C uu):=aad (qc (F83ok uu)<|q0) p0
theorem S47_9ok:LoopOk (F47C uu) (lp (lp (aaj Tryz.f47) 0) 0):=okL (F47k uu) uu (S47_9l uu) L0
theorem S47_5ok:LoopOk (F47C uu) (lp (aaj Tryz.f47) 0):=okL (F47k uu) uu (S47_5l uu) (L1 (S47_9ok uu))
theorem F47ok:okP (F47c uu):=okE Tryz.f47 (F47k uu) (L1 (S47_5ok uu))
def F165 (uu:Nat) (h:Int):Option Bool:=some (bif (decide (h>=97)) then (decide (h<=122)) else false)
def F165c:CallE:=⟨165,⟨1,[],[.int .u8]⟩,⟨1,[],[.bool]⟩,λx=>F165 uu x,false⟩
theorem F165ok:okP (F165c uu):=okJ Tryz.f165 9 0 uu [] [] false q0 p0 L0
def F166 (uu:Nat) (h:Int):Option Bool:=some (bif (decide (h>=65)) then (decide (h<=90)) else false)
def F166c:CallE:=⟨166,⟨1,[],[.int .u8]⟩,⟨1,[],[.bool]⟩,λx=>F166 uu x,false⟩
theorem F166ok:okP (F166c uu):=okJ Tryz.f166 9 0 uu [] [] false q0 p0 L0
def S123_5 (h:Bt) (o:Int):Option ((Bt×Int)⊕((Bool)⊕(Unit))):=bif (decide (o<(h.length:Int))) then bif aaa o h.length then (F165 uu ((h.getD o.toNat 0).toNat:Int)).bind λO=>let H:=!O;bif imp H (aaa o h.length) then (bif H then F166 uu ((h.getD o.toNat 0).toNat:Int) else some false).bind λZ=>let J:=bif H then (!Z) else false;bif imp J (aaa o h.length) then let I:=bif J then (((h.getD o.toNat 0).toNat:Int) != 95) else false;bif imp I (aaa o h.length) then let M:=decide (((h.getD o.toNat 0).toNat:Int)<48);bif imp (bif !M then I else false) (aaa o h.length) then bif (bif I then (bif M then true else (decide (((h.getD o.toNat 0).toNat:Int)>57))) else false) then some (.inr (.inl false)) else some (.inl (h,(IntKind.wrap .i64 (o+1)))) else none else none else none else none else none else some (.inr (.inr ()))
def S123_5step (x:Bt×Int):Option ((Bt×Int)⊕((Bool)⊕(Unit))):=S123_5 uu x.1 x.2
def F123 (h:Bt):Option Bool:=let o:=bif ((h.length:Int)==0) then true else (decide ((h.length:Int)>40));bif imp (!o) (aaa (0:Int) h.length) then (bif !o then F165 uu ((h.getD (0:Int).toNat 0).toNat:Int) else some false).bind λO=>let H:=!O;bif imp (bif H then !o else false) (aaa (0:Int) h.length) then (bif bif H then !o else false then F166 uu ((h.getD (0:Int).toNat 0).toNat:Int) else some false).bind λI=>bif (bif o then true else (bif H then (!I) else false)) then some false else (aag uu (S123_5step uu) (h,(1:Int))).bind λz=>sumE (λJ=>some J ) (λM=>some true ) z else none else none
def S123_5l:LoopE:=⟨5,⟨[0,3],[],sv14⟩,[(.ret,⟨[2],[],[.bool]⟩),(.exit 0,⟨[],[],[]⟩)],S123_5step uu⟩
def F123C:Cfg:=cfg Tryz.prog 60 0 [F165c uu,F166c uu] [S123_5l uu] uu
def F123c:CallE:=⟨123,⟨1,[],[.str]⟩,⟨1,[],[.bool]⟩,λx=>F123 uu x,false⟩
theorem F123k:aak (F123C uu):=aad (qc (F165ok uu)<|qc (F166ok uu)<|q0) p0
theorem S123_5ok:LoopOk (F123C uu) (lp (aaj Tryz.f123) 0):=okL (F123k uu) uu (S123_5l uu) L0
theorem F123ok:okP (F123c uu):=okE Tryz.f123 (F123k uu) (L1 (S123_5ok uu))
abbrev S120_6x:=Bt×Bt×Int
abbrev S120_6y:=(Bool)⊕(Bt)
def S120_6 (o:Bt) (J:Bt) (h:Int):Option (S120_6x⊕S120_6y):=bif (decide (h<(o.length:Int))) then bif aaa h o.length then bif (((o.getD h.toNat 0).toNat:Int) != 46) then let H:=IntKind.wrap .i64 (h+1);bif decide (0<=h/\h<=H/\H<=(o.length:Int)) then let I:=(o.take H.toNat).drop h.toNat;bif decide (J.length+I.length<=aao) then some (.inl (o,(J++I),(IntKind.wrap .i64 (h+1)))) else none else none else (F123 uu J).bind λM=>bif (!M) then some (.inr (.inl false)) else some (.inl (o,([]:Bt),(IntKind.wrap .i64 (h+1)))) else none else some (.inr (.inr J))
def S120_6step (x:S120_6x):Option (S120_6x⊕S120_6y):=S120_6 uu x.1 x.2.1 x.2.2
def F120 (I:Bt):Option Bool:=bif (decide ((I.length:Int)>120)) then some false else (aag uu (S120_6step uu) (I,([]:Bt),(0:Int))).bind λz=>sumE (λh=>some h ) (λo=>(F123 uu o).bind λH=>some H ) z
def S120_6l:LoopE:=⟨6,⟨[0,3,4],[],sv24⟩,[(.ret,⟨[2],[],[.bool]⟩),(.exit 0,⟨[3],[],[.str]⟩)],S120_6step uu⟩
def F120C:Cfg:=cfg Tryz.prog 30 0 [F123c uu] [S120_6l uu] uu
def F120c:CallE:=⟨120,⟨1,[],[.str]⟩,⟨1,[],[.bool]⟩,λx=>F120 uu x,false⟩
theorem F120k:aak (F120C uu):=aad (qc (F123ok uu)<|q0) p0
theorem S120_6ok:LoopOk (F120C uu) (lp (aaj Tryz.f120) 0):=okL (F120k uu) uu (S120_6l uu) L0
theorem F120ok:okP (F120c uu):=okE Tryz.f120 (F120k uu) (L1 (S120_6ok uu))
def S121_3 (uu:Nat) (h:Bt) (o:Int):Option ((Bt×Int)⊕((Bt×Bt)⊕(Bt))):=bif (decide (o>=0)) then bif aaa o h.length then bif (((h.getD o.toNat 0).toNat:Int)==46) then bif decide (0<=(0:Int)/\(0:Int)<=o/\o<=(h.length:Int)) then let H:=IntKind.wrap .i64 (o+1);bif decide (0<=H/\H<=(h.length:Int)/\(h.length:Int)<=(h.length:Int)) then some (.inr (.inl (((h.take o.toNat).drop (0:Int).toNat),((h.take (h.length:Int).toNat).drop H.toNat)))) else none else none else some (.inl (h,(IntKind.wrap .i64 (o-1)))) else none else some (.inr (.inr h))
def S121_3step (x:Bt×Int):Option ((Bt×Int)⊕((Bt×Bt)⊕(Bt))):=S121_3 uu x.1 x.2
def F121 (H:Bt):Option (Bt×Bt):=(aag uu (S121_3step uu) (H,(IntKind.wrap .i64 ((H.length:Int)-1)))).bind λz=>sumE (λh=>some (h.1,h.2) ) (λo=>some (([]:Bt),o) ) z
def S121_3l:LoopE:=⟨3,⟨[0,4],[],sv14⟩,[(.ret,⟨[2,3],[],[.str,.str]⟩),(.exit 0,⟨[0],[],[.str]⟩)],S121_3step uu⟩
def F121C:Cfg:=cfg Tryz.prog 24 0 [] [S121_3l uu] uu
def F121c:CallE:=⟨121,⟨1,[],[.str]⟩,⟨2,[],[.str,.str]⟩,λx=>F121 uu x,([],[])⟩
theorem F121k:aak (F121C uu):=aad q0 p0
theorem S121_3ok:LoopOk (F121C uu) (lp (aaj Tryz.f121) 0):=okL (F121k uu) uu (S121_3l uu) L0
theorem F121ok:okP (F121c uu):=okE Tryz.f121 (F121k uu) (L1 (S121_3ok uu))
def F122 (uu:Nat) (h:Bt):Option Bool:=bif (h==([109,101,115,115,97,103,101]:Bt)) then some true else bif (h==([101,110,117,109]:Bt)) then some true else bif (h==([115,101,114,118,105,99,101]:Bt)) then some true else bif (h==([117,110,105,111,110]:Bt)) then some true else bif (h==([109,97,112]:Bt)) then some true else bif (h==([108,105,115,116]:Bt)) then some true else let H:=h==([114,101,113,117,105,114,101,100]:Bt);bif H then some true else let I:=h==([111,112,116,105,111,110,97,108]:Bt);bif I then some true else bif (h==([112,108,97,105,110]:Bt)) then some true else bif (h==([100,101,102,97,117,108,116]:Bt)) then some true else let o:=h==([114,101,115,101,114,118,101,100]:Bt);bif o then some true else bif (h==([105,109,112,111,114,116]:Bt)) then some true else bif (h==([115,112,97,99,101]:Bt)) then some true else bif (h==([114,112,99]:Bt)) then some true else bif (h==([115,116,114,101,97,109]:Bt)) then some true else bif (h==([114,101,116,117,114,110,115]:Bt)) then some true else bif (h==([111,112,101,110]:Bt)) then some true else bif (h==([116,114,117,101]:Bt)) then some true else bif (h==([102,97,108,115,101]:Bt)) then some true else bif (h==([110,97,110]:Bt)) then some true else bif (h==([105,110,102]:Bt)) then some true else some false
def F122c:CallE:=⟨122,⟨1,[],[.str]⟩,⟨1,[],[.bool]⟩,λx=>F122 uu x,false⟩
theorem F122ok:okP (F122c uu):=okJ Tryz.f122 26 0 uu [] [] false q0 p0 L0
def S84_5 (o:Bt) (H:Int):Option ((Bt×Int)⊕((Bool)⊕(Unit))):=bif (bif (decide (H<120)) then (!(o==([]:Bt))) else false) then (F121 uu o).bind λI=>(F122 uu I.2).bind λh=>bif h then some (.inr (.inl false)) else some (.inl (I.1,(IntKind.wrap .i64 (H+1)))) else some (.inr (.inr ()))
def S84_5step (x:Bt×Int):Option ((Bt×Int)⊕((Bool)⊕(Unit))):=S84_5 uu x.1 x.2
def F84 (o:Bt):Option Bool:=(F120 uu o).bind λH=>bif (!H) then some false else (aag uu (S84_5step uu) (o,(0:Int))).bind λz=>sumE (λh=>some h ) (λI=>some true ) z
def S84_5l:LoopE:=⟨5,⟨[0,3],[],sv14⟩,[(.ret,⟨[2],[],[.bool]⟩),(.exit 0,⟨[],[],[]⟩)],S84_5step uu⟩
def F84C:Cfg:=cfg Tryz.prog 25 0 [F120c uu,F121c uu,F122c uu] [S84_5l uu] uu
def F84c:CallE:=⟨84,⟨1,[],[.str]⟩,⟨1,[],[.bool]⟩,λx=>F84 uu x,false⟩
theorem F84k:aak (F84C uu):=aad (qc (F120ok uu)<|qc (F121ok uu)<|qc (F122ok uu)<|q0) p0
theorem S84_5ok:LoopOk (F84C uu) (lp (aaj Tryz.f84) 0):=okL (F84k uu) uu (S84_5l uu) L0
theorem F84ok:okP (F84c uu):=okE Tryz.f84 (F84k uu) (L1 (S84_5ok uu))
def F85 (h:Bt):Option Bool:=(F123 uu h).bind λo=>(bif o then F122 uu h else some false).bind λH=>some (bif o then (!H) else false)
def F85c:CallE:=⟨85,⟨1,[],[.str]⟩,⟨1,[],[.bool]⟩,λx=>F85 uu x,false⟩
theorem F85ok:okP (F85c uu):=okJ Tryz.f85 10 0 uu _ [] false (qc (F123ok uu)<|qc (F122ok uu)<|q0) p0 L0
def S86_3 (uu:Nat) (h:List PV) (H:Int) (o:Int):Option (((List PV)×Int×Int)⊕((Bool)⊕(Unit))):=bif (decide (o<(h.length:Int))) then bif aaa o h.length then let I:=decide (((h.getD o.toNat .bad).fld 0).asInt<=H);bif imp I (aaa o h.length) then bif (bif I then (decide (H<=((h.getD o.toNat .bad).fld 1).asInt)) else false) then some (.inr (.inl true)) else some (.inl (h,H,(IntKind.wrap .i64 (o+1)))) else none else none else some (.inr (.inr ()))
def S86_3step (x:(List PV)×Int×Int):Option (((List PV)×Int×Int)⊕((Bool)⊕(Unit))):=S86_3 uu x.1 x.2.1 x.2.2
def F86 (o:List PV) (H:Int):Option Bool:=(aag uu (S86_3step uu) (o,H,(0:Int))).bind λz=>sumE (λh=>some h ) (λI=>some false ) z
def S86_3l:LoopE:=⟨3,⟨[0,1,5],[],(.slice 210)::sv15⟩,[(.ret,⟨[4],[],[.bool]⟩),(.exit 0,⟨[],[],[]⟩)],S86_3step uu⟩
def F86C:Cfg:=cfg Tryz.prog 28 0 [] [S86_3l uu] uu
def F86c:CallE:=⟨86,⟨2,[],[.slice 210,.int .i64]⟩,⟨1,[],[.bool]⟩,λx=>F86 uu x.1 x.2,false⟩
theorem F86k:aak (F86C uu):=aad q0 p0
theorem S86_3ok:LoopOk (F86C uu) (lp (aaj Tryz.f86) 0):=okL (F86k uu) uu (S86_3l uu) L0
theorem F86ok:okP (F86c uu):=okE Tryz.f86 (F86k uu) (L1 (S86_3ok uu))
def F87 (uu:Nat) (o:PV):Option Bool:=bif ((o.fld 2).asInt != 5) then some (bif (bif (decide (((o.fld 2).asInt)>=1)) then (decide ((o.fld 2).asInt<=4)) else false) then ((o.fld 3).asInt==0) else false) else let h:=(o.fld 3).asInt;bif (h==1) then some true else bif (h==2) then some true else bif (h==3) then some true else bif (h==4) then some true else bif (h==5) then some true else bif (h==7) then some true else some false
def F87c:CallE:=⟨87,⟨1,[],[.data 50]⟩,⟨1,[],[.bool]⟩,λx=>F87 uu x,false⟩
theorem F87ok:okP (F87c uu):=okJ Tryz.f87 28 0 uu [] [] false q0 p0 L0
abbrev S124_3x:=Bt×Unit×Int×PV
abbrev S124_3y:=(Int×PV)⊕(PV)
def S124_3 (uu:Nat) (H:Bt) (J:Unit) (h:Int) (o:PV):Option (S124_3x⊕S124_3y):=bif (decide (h<((o.fld 1).asList.length:Int))) then let I:=(o.fld 1).asList;bif aaa h I.length then bif (((I.getD h.toNat .bad).fld 0).asStr==H) then some (.inr (.inl (h,o))) else some (.inl (H,(),(IntKind.wrap .i64 (h+1)),o)) else none else some (.inr (.inr o))
def S124_3step (x:S124_3x):Option (S124_3x⊕S124_3y):=S124_3 uu x.1 x.2.1 x.2.2.1 x.2.2.2
def F124 (o:PV) (H:Bt):Option Int:=(aag uu (S124_3step uu) (H,(),(0:Int),o)).bind λz=>sumE (λh=>some h.1 ) (λI=>some (-1:Int) ) z
def S124_3l:LoopE:=⟨3,⟨[1,2,5],bx13,.str::(.con (.ref 0 [] 26))::sv20⟩,[(.ret,⟨[4],bx13,sv20⟩),(.exit 0,⟨[],bx13,[.data 26]⟩)],S124_3step uu⟩
def F124C:Cfg:=cfg Tryz.prog 22 0 [] [S124_3l uu] uu
def F124c:CallE:=⟨124,⟨2,[],sv2⟩,⟨1,[],[.int .i64]⟩,λx=>F124 uu x.1 x.2,0⟩
theorem F124k:aak (F124C uu):=aad q0 p0
theorem S124_3ok:LoopOk (F124C uu) (lp (aaj Tryz.f124) 0):=okL (F124k uu) uu (S124_3l uu) L0
theorem F124ok:okP (F124c uu):=okE Tryz.f124 (F124k uu) (L1 (S124_3ok uu))
def F88 (o:PV) (h:PV):Option Bool:=let x1:=((h.fld 4).fld 0).asInt;bif (x1==9) then (F124 uu o (((h.fld 4).fld 1).asStr)).bind λH=>some (decide (H>=0)) else bif (x1==10) then (F94 uu o (((h.fld 4).fld 1).asStr)).bind λI=>some (bif (decide (I>=0)) then ((h.fld 2).asInt != 3) else false) else some (bif (bif (decide ((((h.fld 4).fld 0).asInt)>=1)) then (decide ((((h.fld 4).fld 0).asInt)<=8)) else false) then ((((h.fld 4).fld 1).asStr)==([]:Bt)) else false)
def F88c:CallE:=⟨88,⟨2,[],[.data 26,.data 50]⟩,⟨1,[],[.bool]⟩,λx=>F88 uu x.1 x.2,false⟩
theorem F88ok:okP (F88c uu):=okJ Tryz.f88 45 0 uu _ [] false (qc (F124ok uu)<|qc (F94ok uu)<|q0) p0 L0
abbrev S89_9x:=Int×Unit×Unit×Bool×Int×PV×PV
abbrev S89_9y:=(Bool×PV×PV)⊕(Int×Unit×Unit×Bool×PV×PV)
def S89_9 (uu:Nat) (I:Int) (aa:Unit) (ab:Unit) (J:Bool) (h:Int) (o:PV) (H:PV):Option (S89_9x⊕S89_9y):=bif (decide (h<((o.fld 1).asList.length:Int))) then let M:=(o.fld 1).asList;bif aaa h M.length then bif (((M.getD h.toNat .bad).fld 1).asStr==(H.fld 5).asStr) then some (.inr (.inl (false,o,H))) else let O:=decide (h<I);let Z:=(o.fld 1).asList;bif imp O (aaa h Z.length) then bif (bif O then (((Z.getD h.toNat .bad).fld 5).asStr==(H.fld 5).asStr) else false) then some (.inl (I,(),(),true,(IntKind.wrap .i64 (h+1)),o,H)) else some (.inl (I,(),(),J,(IntKind.wrap .i64 (h+1)),o,H)) else none else none else some (.inr (.inr (I,(),(),J,o,H)))
def S89_9step (x:S89_9x):Option (S89_9x⊕S89_9y):=S89_9 uu x.1 x.2.1 x.2.2.1 x.2.2.2.1 x.2.2.2.2.1 x.2.2.2.2.2.1 x.2.2.2.2.2.2
def F89 (Z:PV) (M:Int):Option Bool:=let x1:=(Z.fld 1).asList;bif aaa M x1.length then let J:=x1.getD M.toNat .bad;bif ((J.fld 5).asStr==([]:Bt)) then some true else let x6:=(J.fld 2).asInt != 2;(bif !x6 then F85 uu (J.fld 5).asStr else some false).bind λy8=>bif (bif x6 then true else (!y8)) then some false else (aag uu (S89_9step uu) (M,(),(),false,(0:Int),Z,J)).bind λz=>sumE (λO=>some O.1 ) (λh=>let o:=!h.2.2.2.1;let H:=(h.2.2.2.2.1.fld 1).asList;let I:=IntKind.wrap .i64 (h.1-1);bif imp (!o) (aaa I H.length) then some (bif o then true else (((H.getD I.toNat .bad).fld 5).asStr==(h.2.2.2.2.2.fld 5).asStr)) else none ) z else none
def S89_9l:LoopE:=⟨9,⟨[1,2,5,6,7],bx16,(.int .i64)::(.con (.ref 0 [] 55))::(.con (.ref 1 [] 50))::.bool::(.int .i64)::sv25⟩,[(.ret,⟨[4],bx16,sv26⟩),(.exit 0,⟨[1,2,5,6],bx16,(.int .i64)::(.con (.ref 0 [] 55))::(.con (.ref 1 [] 50))::sv26⟩)],S89_9step uu⟩
def F89C:Cfg:=cfg Tryz.prog 69 0 [F85c uu] [S89_9l uu] uu
def F89c:CallE:=⟨89,⟨2,[],sv7⟩,⟨1,[],[.bool]⟩,λx=>F89 uu x.1 x.2,false⟩
theorem F89k:aak (F89C uu):=aad (qc (F85ok uu)<|q0) p0
theorem S89_9ok:LoopOk (F89C uu) (lp (aaj Tryz.f89) 0):=okL (F89k uu) uu (S89_9l uu) L0
theorem F89ok:okP (F89c uu):=okE Tryz.f89 (F89k uu) (L1 (S89_9ok uu))
def F125 (uu:Nat) (h:PV) (o:PV):Option Bool:=some (bif (bif (bif ((h.fld 0).asInt==(o.fld 0).asInt) then ((h.fld 1).asInt==(o.fld 1).asInt) else false) then ((h.fld 2).asStr==(o.fld 2).asStr) else false) then ((IntKind.wrap .i64 ((IntKind.wrap .i64 ((IntKind.wrap .i64 ((IntKind.wrap .i64 ((IntKind.wrap .i64 ((IntKind.wrap .i64 ((IntKind.wrap .i64 (((h.fld 3).asList.length:Int)+((h.fld 4).asList.length:Int)))+((h.fld 5).asList.length:Int)))+((h.fld 6).asList.length:Int)))+((o.fld 3).asList.length:Int)))+((o.fld 4).asList.length:Int)))+((o.fld 5).asList.length:Int)))+((o.fld 6).asList.length:Int)))==0) else false)
def F125c:CallE:=⟨125,⟨2,[],[.data 45,.data 45]⟩,⟨1,[],[.bool]⟩,λx=>F125 uu x.1 x.2,false⟩
theorem F125ok:okP (F125c uu):=okJ Tryz.f125 58 0 uu [] [] false q0 p0 L0
def F167 (uu:Nat) (h:Int):Option Bool:=some (bif (decide (h>=1)) then (decide (h<=9)) else false)
def F167c:CallE:=⟨167,⟨1,[],[.int .i64]⟩,⟨1,[],[.bool]⟩,λx=>F167 uu x,false⟩
theorem F167ok:okP (F167c uu):=okJ Tryz.f167 9 0 uu [] [] false q0 p0 L0
def F168 (uu:Nat) (h:PV):Option Bool:=some (bif (bif (bif (((h.fld 3).asList.length:Int)==0) then (((h.fld 4).asList.length:Int)==0) else false) then (((h.fld 5).asList.length:Int)==0) else false) then (((h.fld 6).asList.length:Int)==0) else false)
def F168c:CallE:=⟨168,⟨1,[],[.data 45]⟩,⟨1,[],[.bool]⟩,λx=>F168 uu x,false⟩
theorem F168ok:okP (F168c uu):=okJ Tryz.f168 25 0 uu [] [] false q0 p0 L0
def F169 (uu:Nat) (h:Int):Option Bool:=some (bif (h==7) then true else (h==8))
def F169c:CallE:=⟨169,⟨1,[],[.int .i64]⟩,⟨1,[],[.bool]⟩,λx=>F169 uu x,false⟩
theorem F169ok:okP (F169c uu):=okJ Tryz.f169 9 0 uu [] [] false q0 p0 L0
def F193 (uu:Nat) (h:Bt) (o:Int) (J:Int) (M:Int):Option Bool:=let H:=decide (o<(h.length:Int));bif imp H (aaa o h.length) then let I:=bif H then (decide (((h.getD o.toNat 0).toNat:Int)>=J)) else false;bif imp I (aaa o h.length) then some (bif I then (decide (((h.getD o.toNat 0).toNat:Int)<=M)) else false) else none else none
def F193c:CallE:=⟨193,⟨4,[],[.str,.int .i64,.int .u8,.int .u8]⟩,⟨1,[],[.bool]⟩,λx=>F193 uu x.1 x.2.1 x.2.2.1 x.2.2.2,false⟩
theorem F193ok:okP (F193c uu):=okJ Tryz.f193 27 0 uu [] [] false q0 p0 L0
abbrev S192_3x:=Bt×Int×Int×Int
abbrev S192_3y:=(Bool)⊕(Unit)
def S192_3 (o:Bt) (H:Int) (I:Int) (h:Int):Option (S192_3x⊕S192_3y):=bif (decide (h<I)) then (F193 uu o (IntKind.wrap .i64 (H+h)) (128:Int) (191:Int)).bind λJ=>bif (!J) then some (.inr (.inl false)) else some (.inl (o,H,I,(IntKind.wrap .i64 (h+1)))) else some (.inr (.inr ()))
def S192_3step (x:S192_3x):Option (S192_3x⊕S192_3y):=S192_3 uu x.1 x.2.1 x.2.2.1 x.2.2.2
def F192 (o:Bt) (H:Int) (I:Int):Option Bool:=(aag uu (S192_3step uu) (o,H,I,(0:Int))).bind λz=>sumE (λh=>some h ) (λJ=>some true ) z
def S192_3l:LoopE:=⟨3,⟨[0,1,2,7],[],.str::(.int .i64)::sv15⟩,[(.ret,⟨[6],[],[.bool]⟩),(.exit 0,⟨[],[],[]⟩)],S192_3step uu⟩
def F192C:Cfg:=cfg Tryz.prog 19 0 [F193c uu] [S192_3l uu] uu
def F192c:CallE:=⟨192,⟨3,[],.str::sv15⟩,⟨1,[],[.bool]⟩,λx=>F192 uu x.1 x.2.1 x.2.2,false⟩
theorem F192k:aak (F192C uu):=aad (qc (F193ok uu)<|q0) p0
theorem S192_3ok:LoopOk (F192C uu) (lp (aaj Tryz.f192) 0):=okL (F192k uu) uu (S192_3l uu) L0
theorem F192ok:okP (F192c uu):=okE Tryz.f192 (F192k uu) (L1 (S192_3ok uu))
def F174 (h:Bt) (o:Int):Option Int:=bif aaa o h.length then let x1:=((h.getD o.toNat 0).toNat:Int);bif (decide (x1<128)) then some (1:Int) else let x5:=bif (decide (x1>=194)) then (decide (x1<=223)) else false;(bif x5 then F192 uu h (IntKind.wrap .i64 (o+1)) (1:Int) else some false).bind λy7=>bif (bif x5 then y7 else false) then some (2:Int) else let x9:=x1==224;(bif x9 then F193 uu h (IntKind.wrap .i64 (o+1)) (160:Int) (191:Int) else some false).bind λae=>let H:=bif x9 then ae else false;(bif H then F192 uu h (IntKind.wrap .i64 (o+2)) (1:Int) else some false).bind λaf=>bif (bif H then af else false) then some (3:Int) else let I:=x1==237;(bif I then F193 uu h (IntKind.wrap .i64 (o+1)) (128:Int) (159:Int) else some false).bind λag=>let J:=bif I then ag else false;(bif J then F192 uu h (IntKind.wrap .i64 (o+2)) (1:Int) else some false).bind λah=>bif (bif J then ah else false) then some (3:Int) else let M:=bif (bif (decide (x1>=225)) then (decide (x1<=239)) else false) then (x1 != 237) else false;(bif M then F192 uu h (IntKind.wrap .i64 (o+1)) (2:Int) else some false).bind λai=>bif (bif M then ai else false) then some (3:Int) else let O:=x1==240;(bif O then F193 uu h (IntKind.wrap .i64 (o+1)) (144:Int) (191:Int) else some false).bind λaj=>let Z:=bif O then aj else false;(bif Z then F192 uu h (IntKind.wrap .i64 (o+2)) (2:Int) else some false).bind λak=>bif (bif Z then ak else false) then some (4:Int) else let aa:=bif (decide (x1>=241)) then (decide (x1<=243)) else false;(bif aa then F192 uu h (IntKind.wrap .i64 (o+1)) (3:Int) else some false).bind λal=>bif (bif aa then al else false) then some (4:Int) else let ab:=x1==244;(bif ab then F193 uu h (IntKind.wrap .i64 (o+1)) (128:Int) (143:Int) else some false).bind λam=>let ad:=bif ab then am else false;(bif ad then F192 uu h (IntKind.wrap .i64 (o+2)) (2:Int) else some false).bind λan=>bif (bif ad then an else false) then some (4:Int) else some (0:Int) else none
def F174c:CallE:=⟨174,⟨2,[],sv14⟩,⟨1,[],[.int .i64]⟩,λx=>F174 uu x.1 x.2,0⟩
theorem F174ok:okP (F174c uu):=okJ Tryz.f174 115 0 uu _ [] false (qc (F192ok uu)<|qc (F193ok uu)<|q0) p0 L0
def S129_3 (o:Bt) (h:Int):Option ((Bt×Int)⊕((Int)⊕(Unit))):=bif (decide (h<(o.length:Int))) then (F174 uu o h).bind λH=>bif (H==0) then some (.inr (.inl h)) else some (.inl (o,(IntKind.wrap .i64 (h+H)))) else some (.inr (.inr ()))
def S129_3step (x:Bt×Int):Option ((Bt×Int)⊕((Int)⊕(Unit))):=S129_3 uu x.1 x.2
def F129 (h:Bt):Option Int:=(aag uu (S129_3step uu) (h,(0:Int))).bind λz=>sumE (λo=>some o ) (λH=>some (-1:Int) ) z
def S129_3l:LoopE:=⟨3,⟨[0,3],[],sv14⟩,[(.ret,⟨[2],[],[.int .i64]⟩),(.exit 0,⟨[],[],[]⟩)],S129_3step uu⟩
def F129C:Cfg:=cfg Tryz.prog 18 0 [F174c uu] [S129_3l uu] uu
def F129c:CallE:=⟨129,⟨1,[],[.str]⟩,⟨1,[],[.int .i64]⟩,λx=>F129 uu x,0⟩
theorem F129k:aak (F129C uu):=aad (qc (F174ok uu)<|q0) p0
theorem S129_3ok:LoopOk (F129C uu) (lp (aaj Tryz.f129) 0):=okL (F129k uu) uu (S129_3l uu) L0
theorem F129ok:okP (F129c uu):=okE Tryz.f129 (F129k uu) (L1 (S129_3ok uu))
def F93 (h:Bt):Option Bool:=(F129 uu h).bind λo=>some (decide (o<0))
def F93c:CallE:=⟨93,⟨1,[],[.str]⟩,⟨1,[],[.bool]⟩,λx=>F93 uu x,false⟩
theorem F93ok:okP (F93c uu):=okJ Tryz.f93 6 0 uu _ [] false (qc (F129ok uu)<|q0) p0 L0
def F126 (o:Int) (h:PV):Option Bool:=(F167 uu o).bind λZ=>let O:=bif (!Z) then true else ((h.fld 0).asInt != o);(bif !O then F168 uu h else some false).bind λy6=>bif (bif O then true else (!y6)) then some false else (F169 uu o).bind λy9=>bif y9 then let H:=bif ((h.fld 1).asInt==0) then (decide (((h.fld 2).asStr.length:Int)<=4096)) else false;let I:=o==8;(bif bif !I then H else false then F93 uu (h.fld 2).asStr else some false).bind λM=>some (bif H then (bif I then true else M) else false) else bif (!((h.fld 2).asStr==([]:Bt))) then some false else bif (o==1) then some (decide ((h.fld 1).asInt<=1)) else bif (o==2) then let J:=IntKind.wrap .i64 ((h.fld 1).asInt);some (bif (decide (J>=(-2147483648:Int))) then (decide (J<=2147483647)) else false) else bif (o==4) then some (decide ((h.fld 1).asInt<4294967296)) else bif (o==9) then some (decide ((h.fld 1).asInt<2147483648)) else some true
def F126c:CallE:=⟨126,⟨2,[],[.int .i64,.data 45]⟩,⟨1,[],[.bool]⟩,λx=>F126 uu x.1 x.2,false⟩
theorem F126ok:okP (F126c uu):=okJ Tryz.f126 70 0 uu _ [] false (qc (F167ok uu)<|qc (F168ok uu)<|qc (F169ok uu)<|qc (F93ok uu)<|q0) p0 L0
def F170 (uu:Nat) (h:Int):Option Int:=let x1:=h.tmod (9223372036854775808:Int);bif (decide (x1>9218868437227405312)) then some (0:Int) else bif (x1==9218868437227405312) then some (1:Int) else bif (x1==0) then some (2:Int) else bif (decide (x1<4503599627370496)) then some (3:Int) else some (4:Int)
def F170c:CallE:=⟨170,⟨1,[],[.int .u64]⟩,⟨1,[],[.int .i64]⟩,λx=>F170 uu x,0⟩
theorem F170ok:okP (F170c uu):=okJ Tryz.f170 18 0 uu [] [] false q0 p0 L0
def F127 (h:PV):Option PV:=let o:=(h.fld 0).asInt==6;(bif o then F170 uu (h.fld 1).asInt else some 0).bind λH=>bif (bif o then (H==0) else false) then some (PV.agg [(PV.int (h.fld 0).asInt),(PV.int (9221120237041090560:Int)),(PV.str (h.fld 2).asStr),(PV.slice (h.fld 3).asList),(PV.slice (h.fld 4).asList),(PV.slice (h.fld 5).asList),(PV.slice (h.fld 6).asList)]) else some h
def F127c:CallE:=⟨127,⟨1,[],[.data 45]⟩,⟨1,[],[.data 45]⟩,λx=>F127 uu x,PV.bad⟩
theorem F127ok:okP (F127c uu):=okJ Tryz.f127 14 0 uu _ [] false (qc (F170ok uu)<|q0) p0 L0
abbrev S90_13x:=Unit×Unit×Int×Int×PV×PV×PV
abbrev S90_13y:=(Bool×PV×PV×PV)⊕(PV×PV×PV)
def S90_13 (uu:Nat) (aa:Unit) (ab:Unit) (h:Int) (H:Int) (o:PV) (J:PV) (I:PV):Option (S90_13x⊕S90_13y):=let M:=(o.fld 1).asList;bif aaa h M.length then bif (decide (H<(((M.getD h.toNat .bad).fld 2).asList.length:Int))) then let O:=(o.fld 1).asList;bif aaa h O.length then let Z:=((O.getD h.toNat .bad).fld 2).asList;bif aaa H Z.length then bif ((IntKind.wrap .u64 ((Z.getD H.toNat .bad).fld 1).asInt)==(I.fld 1).asInt) then some (.inr (.inl (true,o,J,I))) else some (.inl ((),(),h,(IntKind.wrap .i64 (H+1)),o,J,I)) else none else none else some (.inr (.inr (o,J,I))) else none
def S90_13step (x:S90_13x):Option (S90_13x⊕S90_13y):=S90_13 uu x.1 x.2.1 x.2.2.1 x.2.2.2.1 x.2.2.2.2.1 x.2.2.2.2.2.1 x.2.2.2.2.2.2
def F90 (Z:PV) (h:PV):Option Bool:=let x1:=h.fld 7;bif (!(h.fld 6).asBool) then (F125 uu x1 (PV.agg [(PV.int (0:Int)),(PV.int (0:Int)),(PV.str ([]:Bt)),(PV.slice []),(PV.slice []),(PV.slice []),(PV.slice [])])).bind λy4=>some y4 else let x9:=bif ((h.fld 2).asInt != 2) then true else (!((h.fld 5).asStr==([]:Bt)));(bif !x9 then F126 uu (((h.fld 4).fld 0).asInt) x1 else some false).bind λI=>let o:=bif x9 then true else (!I);(bif !o then F127 uu x1 else some PV.bad).bind λJ=>(bif !o then F125 uu x1 J else some false).bind λM=>bif (bif o then true else (!M)) then some false else (F124 uu Z (((h.fld 4).fld 1).asStr)).bind λH=>bif ((((h.fld 4).fld 0).asInt) != 9) then some true else bif (decide (H<0)) then some false else (aag uu (S90_13step uu) ((),(),H,(0:Int),Z,h,x1)).bind λz=>sumE (λO=>some O.1 ) (λaa=>some false ) z
def S90_13l:LoopE:=⟨13,⟨[2,5,6,7],bx17,(.con (.ref 0 [] 26))::(.con (.ref 2 [] 45))::(.int .i64)::(.int .i64)::sv27⟩,[(.ret,⟨[4],bx17,.bool::sv27⟩),(.exit 0,⟨[],bx17,sv27⟩)],S90_13step uu⟩
def F90C:Cfg:=cfg Tryz.prog 75 0 [F125c uu,F126c uu,F127c uu,F124c uu] [S90_13l uu] uu
def F90c:CallE:=⟨90,⟨2,[],[.data 26,.data 50]⟩,⟨1,[],[.bool]⟩,λx=>F90 uu x.1 x.2,false⟩
theorem F90k:aak (F90C uu):=aad (qc (F125ok uu)<|qc (F126ok uu)<|qc (F127ok uu)<|qc (F124ok uu)<|q0) p0
theorem S90_13ok:LoopOk (F90C uu) (lp (aaj Tryz.f90) 0):=okL (F90k uu) uu (S90_13l uu) L0
theorem F90ok:okP (F90c uu):=okE Tryz.f90 (F90k uu) (L1 (S90_13ok uu))
def F171 (uu:Nat) (h:Bt):Option Int:=let x1:=h==([100,101,112,114,101,99,97,116,101,100]:Bt);bif x1 then some (1:Int) else bif (h==([115,101,99,114,101,116]:Bt)) then some (1:Int) else let o:=h==([105,100,101,109,112,111,116,101,110,116]:Bt);bif o then some (1:Int) else bif (h==([100,111,99]:Bt)) then some (7:Int) else bif (h==([97,108,105,97,115]:Bt)) then some (7:Int) else bif (h==([114,111,117,116,101]:Bt)) then some (7:Int) else bif (h==([111,119,110,101,114]:Bt)) then some (7:Int) else bif (h==([115,105,110,99,101]:Bt)) then some (4:Int) else bif (h==([117,110,116,105,108]:Bt)) then some (4:Int) else bif (h==([108,101,110,103,116,104]:Bt)) then some (4:Int) else bif (h==([116,105,109,101,111,117,116]:Bt)) then some (4:Int) else bif (h==([109,105,110]:Bt)) then some (3:Int) else bif (h==([109,97,120]:Bt)) then some (3:Int) else some (0:Int)
def F171c:CallE:=⟨171,⟨1,[],[.str]⟩,⟨1,[],[.int .i64]⟩,λx=>F171 uu x,0⟩
theorem F171ok:okP (F171c uu):=okJ Tryz.f171 21 0 uu [] [] false q0 p0 L0
def F172 (uu:Nat) (o:Bt) (h:Int):Option Bool:=let x1:=o==([100,101,112,114,101,99,97,116,101,100]:Bt);bif x1 then some (bif (decide (h>=1)) then (decide (h<=6)) else false) else bif (o==([100,111,99]:Bt)) then some (bif (decide (h>=1)) then (decide (h<=6)) else false) else bif (o==([97,108,105,97,115]:Bt)) then some (bif (bif (h==2) then true else (h==4)) then true else (h==6)) else bif (o==([115,105,110,99,101]:Bt)) then some (bif (bif (h==2) then true else (h==4)) then true else (h==6)) else bif (o==([117,110,116,105,108]:Bt)) then some (bif (bif (h==2) then true else (h==4)) then true else (h==6)) else bif (o==([109,105,110]:Bt)) then some (h==2) else bif (o==([109,97,120]:Bt)) then some (h==2) else bif (o==([108,101,110,103,116,104]:Bt)) then some (h==2) else bif (o==([115,101,99,114,101,116]:Bt)) then some (h==2) else let H:=o==([105,100,101,109,112,111,116,101,110,116]:Bt);bif H then some (h==6) else bif (o==([116,105,109,101,111,117,116]:Bt)) then some (h==6) else bif (o==([114,111,117,116,101]:Bt)) then some (h==6) else some (bif (h==1) then true else (h==5))
def F172c:CallE:=⟨172,⟨2,[],sv14⟩,⟨1,[],[.bool]⟩,λx=>F172 uu x.1 x.2,false⟩
theorem F172ok:okP (F172c uu):=okJ Tryz.f172 48 0 uu [] [] false q0 p0 L0
def F173 (h:PV):Option Bool:=(F171 uu (h.fld 0).asStr).bind λo=>let H:=bif (o != 0) then ((((h.fld 1).fld 0).asInt)==o) else false;(bif H then F126 uu o (h.fld 1) else some false).bind λI=>some (bif H then I else false)
def F173c:CallE:=⟨173,⟨1,[],[.data 47]⟩,⟨1,[],[.bool]⟩,λx=>F173 uu x,false⟩
theorem F173ok:okP (F173c uu):=okJ Tryz.f173 22 0 uu _ [] false (qc (F171ok uu)<|qc (F126ok uu)<|q0) p0 L0
def S128_5 (h:List PV) (a4:Int) (o:Int):Option (((List PV)×Int×Int)⊕((Int)⊕(Unit))):=bif (decide (o<(h.length:Int))) then bif aaa o h.length then (F171 uu ((h.getD o.toNat .bad).fld 0).asStr).bind λO=>bif (O==0) then some (.inr (.inl (8:Int))) else bif aaa o h.length then (F172 uu ((h.getD o.toNat .bad).fld 0).asStr a4).bind λZ=>bif (!Z) then some (.inr (.inl (1:Int))) else bif aaa o h.length then (F173 uu (h.getD o.toNat .bad)).bind λaa=>bif (!aa) then some (.inr (.inl (12:Int))) else let H:=decide (o>0);bif imp H (aaa o h.length) then let J:=IntKind.wrap .i64 (o-1);bif imp H (aaa J h.length) then bif (bif H then (Op.bytesLess ((h.getD o.toNat .bad).fld 0).asStr ((h.getD J.toNat .bad).fld 0).asStr) else false) then some (.inr (.inl (11:Int))) else let I:=decide (o>0);bif imp I (aaa o h.length) then let M:=IntKind.wrap .i64 (o-1);bif imp I (aaa M h.length) then bif (bif I then (((h.getD o.toNat .bad).fld 0).asStr==((h.getD M.toNat .bad).fld 0).asStr) else false) then some (.inr (.inl (9:Int))) else some (.inl (h,a4,(IntKind.wrap .i64 (o+1)))) else none else none else none else none else none else none else none else some (.inr (.inr ()))
def S128_5step (x:(List PV)×Int×Int):Option (((List PV)×Int×Int)⊕((Int)⊕(Unit))):=S128_5 uu x.1 x.2.1 x.2.2
def F128 (o:List PV) (H:Int):Option Int:=bif (decide ((o.length:Int)>8)) then some (3:Int) else (aag uu (S128_5step uu) (o,H,(0:Int))).bind λz=>sumE (λh=>some h ) (λI=>some (0:Int) ) z
def S128_5l:LoopE:=⟨5,⟨[0,1,5],[],(.slice 47)::sv15⟩,[(.ret,⟨[4],[],[.int .i64]⟩),(.exit 0,⟨[],[],[]⟩)],S128_5step uu⟩
def F128C:Cfg:=cfg Tryz.prog 68 0 [F171c uu,F172c uu,F173c uu] [S128_5l uu] uu
def F128c:CallE:=⟨128,⟨2,[],[.slice 47,.int .i64]⟩,⟨1,[],[.int .i64]⟩,λx=>F128 uu x.1 x.2,0⟩
theorem F128k:aak (F128C uu):=aad (qc (F171ok uu)<|qc (F172ok uu)<|qc (F173ok uu)<|q0) p0
theorem S128_5ok:LoopOk (F128C uu) (lp (aaj Tryz.f128) 0):=okL (F128k uu) uu (S128_5l uu) L0
theorem F128ok:okP (F128c uu):=okE Tryz.f128 (F128k uu) (L1 (S128_5ok uu))
def F91 (Z:Unit) (H:List PV) (I:Int) (J:Int) (M:Bt) (O:List PV):Option (Bt×(List PV)):=(F128 uu H I).bind λh=>(F44 uu () (h != 0) J h M O).bind λo=>some (o.1,o.2)
def F91c:CallE:=⟨91,⟨4,bx12,(.con (.ref 0 [] 124))::(.slice 47)::sv18⟩,⟨0,bx12,sv19⟩,λx=>F91 uu x.1 x.2.1 x.2.2.1 x.2.2.2.1 x.2.2.2.2.1 x.2.2.2.2.2,([],[])⟩
theorem F91ok:okP (F91c uu):=okJ Tryz.f91 18 2 uu _ [] false (qc (F128ok uu)<|qc (F44ok uu)<|q0) p0 L0
abbrev S92_2x:=Unit×(List PV)×Int×Int×Int×Bt×(List PV)
abbrev S92_2y:=(Bt×(List PV))
def S92_2 (a1:Unit) (h:List PV) (a3:Int) (a4:Int) (o:Int) (a6:Bt) (a7:List PV):Option (S92_2x⊕S92_2y):=bif (decide (o<(h.length:Int))) then bif aaa o h.length then let J:=decide (((h.getD o.toNat .bad).fld 0).asInt<a3);bif imp (!J) (aaa o h.length) then let H:=bif J then true else (decide (((h.getD o.toNat .bad).fld 1).asInt>a4));bif imp (!H) (aaa o h.length) then bif imp (!H) (aaa o h.length) then (F44 uu () (bif H then true else (decide (((h.getD o.toNat .bad).fld 0).asInt>((h.getD o.toNat .bad).fld 1).asInt))) (-1:Int) (6:Int) a6 a7).bind λO=>let I:=decide (o>0);bif imp I (aaa o h.length) then let M:=IntKind.wrap .i64 (o-1);bif imp I (aaa M h.length) then (F44 uu () (bif I then (decide (((h.getD o.toNat .bad).fld 0).asInt<=((h.getD M.toNat .bad).fld 1).asInt)) else false) (-1:Int) (11:Int) O.1 O.2).bind λZ=>some (.inl ((),h,a3,a4,(IntKind.wrap .i64 (o+1)),Z.1,Z.2)) else none else none else none else none else none else none else some (.inr (a6,a7))
def S92_2step (x:S92_2x):Option (S92_2x⊕S92_2y):=S92_2 uu x.1 x.2.1 x.2.2.1 x.2.2.2.1 x.2.2.2.2.1 x.2.2.2.2.2.1 x.2.2.2.2.2.2
def F92 (O:Unit) (o:List PV) (H:Int) (I:Int) (J:Bt) (M:List PV):Option (Bt×(List PV)):=(aag uu (S92_2step uu) ((),o,H,I,(0:Int),J,M)).bind λh=>some (h.1,h.2)
def S92_2l:LoopE:=⟨2,⟨[0,1,2,3,8],bx12,(.con (.ref 0 [] 124))::(.slice 210)::(.int .i64)::sv18⟩,[(.exit 0,⟨[],bx12,sv19⟩)],S92_2step uu⟩
def F92C:Cfg:=cfg Tryz.prog 64 2 [F44c uu] [S92_2l uu] uu
def F92c:CallE:=⟨92,⟨4,bx12,(.con (.ref 0 [] 124))::(.slice 210)::sv18⟩,⟨0,bx12,sv19⟩,λx=>F92 uu x.1 x.2.1 x.2.2.1 x.2.2.2.1 x.2.2.2.2.1 x.2.2.2.2.2,([],[])⟩
theorem F92k:aak (F92C uu):=aad (qc (F44ok uu)<|q0) p0
theorem S92_2ok:LoopOk (F92C uu) (lp (aaj Tryz.f92) 0):=okL (F92k uu) uu (S92_2l uu) L0
theorem F92ok:okP (F92c uu):=okE Tryz.f92 (F92k uu) (L1 (S92_2ok uu))
abbrev S83_v1_3x:=(List PV)×Unit×Unit×Int×PV×PV
abbrev S83_v1_3y:=(Bool×PV×PV)⊕(PV×PV)
def S83_v1_3 (Z:List PV) (a2:Unit) (a3:Unit) (I:Int) (J:PV) (H:PV):Option (S83_v1_3x⊕S83_v1_3y):=bif (decide (I<((H.fld 1).asList.length:Int))) then let M:=(H.fld 1).asList;bif aaa I M.length then let h:=M.getD I.toNat .bad;bif (bif ((h.fld 2).asInt != 1) then true else ((((h.fld 4).fld 0).asInt) != 10)) then some (.inl (Z,(),(),(IntKind.wrap .i64 (I+1)),J,H)) else (F94 uu J (((h.fld 4).fld 1).asStr)).bind λo=>let O:=decide (o>=0);bif imp O (aaa o Z.length) then bif (bif O then (!(Z.getD o.toNat .bad).asBool) else false) then some (.inr (.inl (true,J,H))) else some (.inl (Z,(),(),(IntKind.wrap .i64 (I+1)),J,H)) else none else none else some (.inr (.inr (J,H)))
def S83_v1_3step (x:S83_v1_3x):Option (S83_v1_3x⊕S83_v1_3y):=S83_v1_3 uu x.1 x.2.1 x.2.2.1 x.2.2.2.1 x.2.2.2.2.1 x.2.2.2.2.2
def F83_v1 (o:PV) (H:PV) (I:List PV):Option Bool:=(aag uu (S83_v1_3step uu) (I,(),(),(0:Int),o,H)).bind λz=>sumE (λh=>some h.1 ) (λJ=>some false ) z
def S83_v1_3l:LoopE:=⟨3,⟨[2,3,4,7],bx18,(.slice 4)::sv28⟩,[(.ret,⟨[6],bx18,.bool::sv29⟩),(.exit 0,⟨[],bx18,sv29⟩)],S83_v1_3step uu⟩
def F83_v1C:Cfg:=cfg Tryz.prog 45 0 [F94c uu] [S83_v1_3l uu] uu
def F83_v1c:CallE:=⟨83,⟨3,[],[.data 26,.data 55,.slice 4]⟩,⟨1,[],[.bool]⟩,λx=>F83_v1 uu x.1 x.2.1 x.2.2,false⟩
theorem F83_v1k:aak (F83_v1C uu):=aad (qc (F94ok uu)<|q0) p0
theorem S83_v1_3ok:LoopOk (F83_v1C uu) (lp (aaj Tryz.f83) 0):=okL (F83_v1k uu) uu (S83_v1_3l uu) L0
theorem F83_v1ok:okP (F83_v1c uu):=okE Tryz.f83 (F83_v1k uu) (L1 (S83_v1_3ok uu))
abbrev S48_11x:=(List PV)×Unit×Unit×Unit×Int×Unit×Bool×Int×PV×PV×Bt×(List PV)×PV
abbrev S48_11y:=((List PV)×Unit×Unit×Unit×Int×Unit×Bool×PV×PV×Bt×(List PV)×PV)
def S48_11 (uu:Nat) (J:List PV) (ad:Unit) (ae:Unit) (af:Unit) (o:Int) (ag:Unit) (aa:Bool) (h:Int) (M:PV) (H:PV) (O:Bt) (Z:List PV) (I:PV):Option (S48_11x⊕S48_11y):=bif (decide (h<o)) then let ab:=(H.fld 1).asList;bif aaa h ab.length then bif (((ab.getD h.toNat .bad).fld 1).asStr==(I.fld 1).asStr) then some (.inl (J,(),(),(),o,(),true,(IntKind.wrap .i64 (h+1)),M,H,O,Z,I)) else some (.inl (J,(),(),(),o,(),aa,(IntKind.wrap .i64 (h+1)),M,H,O,Z,I)) else none else some (.inr (J,(),(),(),o,(),aa,M,H,O,Z,I))
def S48_11step (x:S48_11x):Option (S48_11x⊕S48_11y):=S48_11 uu x.1 x.2.1 x.2.2.1 x.2.2.2.1 x.2.2.2.2.1 x.2.2.2.2.2.1 x.2.2.2.2.2.2.1 x.2.2.2.2.2.2.2.1 x.2.2.2.2.2.2.2.2.1 x.2.2.2.2.2.2.2.2.2.1 x.2.2.2.2.2.2.2.2.2.2.1 x.2.2.2.2.2.2.2.2.2.2.2.1 x.2.2.2.2.2.2.2.2.2.2.2.2
abbrev S48_6x:=(List PV)×Unit×Unit×Unit×Int×PV×PV×Bt×(List PV)
abbrev S48_6y:=((List PV)×Unit×Unit×Unit×PV×PV×Bt×(List PV))
def S48_6 (Z:List PV) (ax:Unit) (ay:Unit) (az:Unit) (o:Int) (aa:PV) (H:PV) (ab:Bt) (ad:List PV):Option (S48_6x⊕S48_6y):=bif (decide (o<((H.fld 1).asList.length:Int))) then let ae:=(H.fld 1).asList;bif aaa o ae.length then (aag uu (S48_11step uu) (Z,(),(),(),o,(),false,(0:Int),aa,H,ab,ad,(ae.getD o.toNat .bad))).bind λh=>(F44 uu () (bif (decide ((h.2.2.2.2.2.2.2.2.2.2.2.fld 0).asInt<1)) then true else (decide ((h.2.2.2.2.2.2.2.2.2.2.2.fld 0).asInt>65535))) (h.2.2.2.2.2.2.2.2.2.2.2.fld 0).asInt (6:Int) h.2.2.2.2.2.2.2.2.2.1 h.2.2.2.2.2.2.2.2.2.2.1).bind λak=>let af:=decide (h.2.2.2.2.1>0);let ag:=(h.2.2.2.2.2.2.2.2.1.fld 1).asList;let ah:=IntKind.wrap .i64 (h.2.2.2.2.1-1);bif imp af (aaa ah ag.length) then (F44 uu () (bif af then (decide ((h.2.2.2.2.2.2.2.2.2.2.2.fld 0).asInt<=((ag.getD ah.toNat .bad).fld 0).asInt)) else false) (h.2.2.2.2.2.2.2.2.2.2.2.fld 0).asInt (11:Int) ak.1 ak.2).bind λal=>(F85 uu (h.2.2.2.2.2.2.2.2.2.2.2.fld 1).asStr).bind λar=>(F44 uu () (!ar) (h.2.2.2.2.2.2.2.2.2.2.2.fld 0).asInt (8:Int) al.1 al.2).bind λam=>(F44 uu () h.2.2.2.2.2.2.1 (h.2.2.2.2.2.2.2.2.2.2.2.fld 0).asInt (9:Int) am.1 am.2).bind λan=>(F86 uu (h.2.2.2.2.2.2.2.2.1.fld 2).asList (h.2.2.2.2.2.2.2.2.2.2.2.fld 0).asInt).bind λao=>(bif !ao then F82 uu (h.2.2.2.2.2.2.2.2.1.fld 3).asList (h.2.2.2.2.2.2.2.2.2.2.2.fld 1).asStr else some false).bind λau=>(F44 uu () (bif ao then true else au) (h.2.2.2.2.2.2.2.2.2.2.2.fld 0).asInt (21:Int) an.1 an.2).bind λap=>(F87 uu h.2.2.2.2.2.2.2.2.2.2.2).bind λav=>(F44 uu () (!av) (h.2.2.2.2.2.2.2.2.2.2.2.fld 0).asInt (1:Int) ap.1 ap.2).bind λaq=>(F88 uu h.2.2.2.2.2.2.2.1 h.2.2.2.2.2.2.2.2.2.2.2).bind λaw=>(F44 uu () (!aw) (h.2.2.2.2.2.2.2.2.2.2.2.fld 0).asInt (12:Int) aq.1 aq.2).bind λI=>(F89 uu h.2.2.2.2.2.2.2.2.1 h.2.2.2.2.1).bind λai=>(F44 uu () (!ai) (h.2.2.2.2.2.2.2.2.2.2.2.fld 0).asInt (15:Int) I.1 I.2).bind λJ=>(F90 uu h.2.2.2.2.2.2.2.1 h.2.2.2.2.2.2.2.2.2.2.2).bind λaj=>(F44 uu () (!aj) (h.2.2.2.2.2.2.2.2.2.2.2.fld 0).asInt (1:Int) J.1 J.2).bind λM=>(F91 uu () (h.2.2.2.2.2.2.2.2.2.2.2.fld 8).asList (2:Int) (h.2.2.2.2.2.2.2.2.2.2.2.fld 0).asInt M.1 M.2).bind λO=>some (.inl (h.1,(),(),(),(IntKind.wrap .i64 (h.2.2.2.2.1+1)),h.2.2.2.2.2.2.2.1,h.2.2.2.2.2.2.2.2.1,O.1,O.2)) else none else none else some (.inr (Z,(),(),(),aa,H,ab,ad))
def S48_6step (x:S48_6x):Option (S48_6x⊕S48_6y):=S48_6 uu x.1 x.2.1 x.2.2.1 x.2.2.2.1 x.2.2.2.2.1 x.2.2.2.2.2.1 x.2.2.2.2.2.2.1 x.2.2.2.2.2.2.2.1 x.2.2.2.2.2.2.2.2
abbrev S48_27x:=(List PV)×Unit×Unit×Unit×Int×PV×PV×Bt×(List PV)
abbrev S48_27y:=((List PV)×Unit×Unit×Unit×PV×PV×Bt×(List PV))
def S48_27 (H:List PV) (ab:Unit) (ad:Unit) (ae:Unit) (h:Int) (I:PV) (o:PV) (J:Bt) (M:List PV):Option (S48_27x⊕S48_27y):=bif (decide (h<((o.fld 3).asList.length:Int))) then let O:=(o.fld 3).asList;bif aaa h O.length then (F93 uu (O.getD h.toNat .bad).asStr).bind λaa=>(F44 uu () (!aa) (-1:Int) (7:Int) J M).bind λZ=>some (.inl (H,(),(),(),(IntKind.wrap .i64 (h+1)),I,o,Z.1,Z.2)) else none else some (.inr (H,(),(),(),I,o,J,M))
def S48_27step (x:S48_27x):Option (S48_27x⊕S48_27y):=S48_27 uu x.1 x.2.1 x.2.2.1 x.2.2.2.1 x.2.2.2.2.1 x.2.2.2.2.2.1 x.2.2.2.2.2.2.1 x.2.2.2.2.2.2.2.1 x.2.2.2.2.2.2.2.2
def F48 (a0:PV) (J:PV) (a2:List PV):Option ((List PV)):=(F84 uu (J.fld 0).asStr).bind λy3=>(F44 uu () (!y3) (-1:Int) (8:Int) (J.fld 0).asStr []).bind λy5=>(F44 uu () (bif (bif (decide (((J.fld 1).asList.length:Int)>64)) then true else (decide (((J.fld 2).asList.length:Int)>16))) then true else (decide (((J.fld 3).asList.length:Int)>16))) (-1:Int) (3:Int) y5.1 y5.2).bind λZ=>(aag uu (S48_6step uu) (a2,(),(),(),(0:Int),a0,J,Z.1,Z.2)).bind λh=>(F92 uu () (h.2.2.2.2.2.1.fld 2).asList (1:Int) (65535:Int) h.2.2.2.2.2.2.1 h.2.2.2.2.2.2.2).bind λH=>(aag uu (S48_27step uu) (h.1,(),(),(),(0:Int),h.2.2.2.2.1,h.2.2.2.2.2.1,H.1,H.2)).bind λo=>(F91 uu () (o.2.2.2.2.2.1.fld 4).asList (1:Int) (-1:Int) o.2.2.2.2.2.2.1 o.2.2.2.2.2.2.2).bind λI=>(F83_v1 uu o.2.2.2.2.1 o.2.2.2.2.2.1 o.1).bind λM=>(F44 uu () M (-1:Int) (19:Int) I.1 I.2).bind λO=>some O.2
def S48_11l:LoopE:=⟨11,⟨[2,3,4,7,8,9,10,11],bx19,[.slice 4,(.con (.ref 0 [] 26)),(.con (.ref 1 [] 55)),(.con (.ref 2 [] 124)),.int .i64,(.con (.ref 4 [] 50)),.bool,.int .i64,.data 26,.data 55,.str,.acc 3 168,.data 50]⟩,[(.exit 2,⟨[2,3,4,7,8,9,10],bx19,[.slice 4,(.con (.ref 0 [] 26)),(.con (.ref 1 [] 55)),(.con (.ref 2 [] 124)),.int .i64,(.con (.ref 4 [] 50)),.bool,.data 26,.data 55,.str,.acc 3 168,.data 50]⟩)],S48_11step uu⟩
def S48_6l:LoopE:=⟨6,⟨[2,3,4,7,8],bx20,(.slice 4)::(.con (.ref 0 [] 26))::(.con (.ref 1 [] 55))::(.con (.ref 2 [] 124))::(.int .i64)::sv30⟩,[(.exit 0,⟨[2,3,4,7],bx20,(.slice 4)::(.con (.ref 0 [] 26))::(.con (.ref 1 [] 55))::(.con (.ref 2 [] 124))::sv30⟩)],S48_6step uu⟩
def S48_27l:LoopE:=⟨27,⟨[2,3,4,7,12],bx20,(.slice 4)::(.con (.ref 0 [] 26))::(.con (.ref 1 [] 55))::(.con (.ref 2 [] 124))::(.int .i64)::sv30⟩,[(.exit 4,⟨[2,3,4,7],bx20,(.slice 4)::(.con (.ref 0 [] 26))::(.con (.ref 1 [] 55))::(.con (.ref 2 [] 124))::sv30⟩)],S48_27step uu⟩
def F48C:Cfg:=cfg Tryz.prog 178 0 [F84c uu,F44c uu,F85c uu,F86c uu,F82c uu,F87c uu,F88c uu,F89c uu,F90c uu,F91c uu,F92c uu,F93c uu,F83_v1c uu] [S48_11l uu,S48_6l uu,S48_27l uu] uu
def F48c:CallE:=⟨48,⟨3,[],[.data 26,.data 55,.slice 4]⟩,⟨1,[],[.slice 168]⟩,λx=>F48 uu x.1 x.2.1 x.2.2,[]⟩
theorem F48k:aak (F48C uu):=aad (qc (F84ok uu)<|qc (F44ok uu)<|qc (F85ok uu)<|qc (F86ok uu)<|qc (F82ok uu)<|qc (F87ok uu)<|qc (F88ok uu)<|qc (F89ok uu)<|qc (F90ok uu)<|qc (F91ok uu)<|qc (F92ok uu)<|qc (F93ok uu)<|qc (F83_v1ok uu)<|q0) p0
theorem S48_11ok:LoopOk (F48C uu) (lp (lp (aaj Tryz.f48) 0) 0):=okL (F48k uu) uu (S48_11l uu) L0
theorem S48_6ok:LoopOk (F48C uu) (lp (aaj Tryz.f48) 0):=okL (F48k uu) uu (S48_6l uu) (L1 (S48_11ok uu))
theorem S48_27ok:LoopOk (F48C uu) (lp (aaj Tryz.f48) 1):=okL (F48k uu) uu (S48_27l uu) L0
theorem F48ok:okP (F48c uu):=okE Tryz.f48 (F48k uu) (L2 (S48_6ok uu) (S48_27ok uu))
abbrev S49_12x:=Unit×Unit×Int×Unit×Bool×Int×PV×Bt×(List PV)×PV
abbrev S49_12y:=(Unit×Unit×Int×Unit×Bool×PV×Bt×(List PV)×PV)
def S49_12 (uu:Nat) (aa:Unit) (ab:Unit) (o:Int) (ad:Unit) (O:Bool) (h:Int) (H:PV) (J:Bt) (M:List PV) (I:PV):Option (S49_12x⊕S49_12y):=bif (decide (h<o)) then let Z:=(H.fld 2).asList;bif aaa h Z.length then bif (((Z.getD h.toNat .bad).fld 0).asStr==(I.fld 0).asStr) then some (.inl ((),(),o,(),true,(IntKind.wrap .i64 (h+1)),H,J,M,I)) else some (.inl ((),(),o,(),O,(IntKind.wrap .i64 (h+1)),H,J,M,I)) else none else some (.inr ((),(),o,(),O,H,J,M,I))
def S49_12step (x:S49_12x):Option (S49_12x⊕S49_12y):=S49_12 uu x.1 x.2.1 x.2.2.1 x.2.2.2.1 x.2.2.2.2.1 x.2.2.2.2.2.1 x.2.2.2.2.2.2.1 x.2.2.2.2.2.2.2.1 x.2.2.2.2.2.2.2.2.1 x.2.2.2.2.2.2.2.2.2
abbrev S49_7x:=Unit×Unit×Int×PV×Bt×(List PV)
abbrev S49_7y:=(Unit×Unit×PV×Bt×(List PV))
def S49_7 (ak:Unit) (al:Unit) (o:Int) (H:PV) (I:Bt) (J:List PV):Option (S49_7x⊕S49_7y):=bif (decide (o<((H.fld 2).asList.length:Int))) then let M:=(H.fld 2).asList;bif aaa o M.length then (aag uu (S49_12step uu) ((),(),o,(),false,(0:Int),H,I,J,(M.getD o.toNat .bad))).bind λh=>(F44 uu () (bif (decide ((h.2.2.2.2.2.2.2.2.fld 1).asInt<0)) then true else (decide ((h.2.2.2.2.2.2.2.2.fld 1).asInt>2147483647))) (h.2.2.2.2.2.2.2.2.fld 1).asInt (6:Int) h.2.2.2.2.2.2.1 h.2.2.2.2.2.2.2.1).bind λab=>let O:=decide (h.2.2.1>0);let Z:=(h.2.2.2.2.2.1.fld 2).asList;let aa:=IntKind.wrap .i64 (h.2.2.1-1);bif imp O (aaa aa Z.length) then (F44 uu () (bif O then (decide ((h.2.2.2.2.2.2.2.2.fld 1).asInt<=((Z.getD aa.toNat .bad).fld 1).asInt)) else false) (h.2.2.2.2.2.2.2.2.fld 1).asInt (11:Int) ab.1 ab.2).bind λad=>(F85 uu (h.2.2.2.2.2.2.2.2.fld 0).asStr).bind λai=>(F44 uu () (!ai) (h.2.2.2.2.2.2.2.2.fld 1).asInt (8:Int) ad.1 ad.2).bind λae=>(F44 uu () h.2.2.2.2.1 (h.2.2.2.2.2.2.2.2.fld 1).asInt (9:Int) ae.1 ae.2).bind λaf=>(F86 uu (h.2.2.2.2.2.1.fld 3).asList (h.2.2.2.2.2.2.2.2.fld 1).asInt).bind λaj=>(F44 uu () aj (h.2.2.2.2.2.2.2.2.fld 1).asInt (21:Int) af.1 af.2).bind λag=>(F91 uu () (h.2.2.2.2.2.2.2.2.fld 2).asList (4:Int) (h.2.2.2.2.2.2.2.2.fld 1).asInt ag.1 ag.2).bind λah=>some (.inl ((),(),(IntKind.wrap .i64 (h.2.2.1+1)),h.2.2.2.2.2.1,ah.1,ah.2)) else none else none else some (.inr ((),(),H,I,J))
def S49_7step (x:S49_7x):Option (S49_7x⊕S49_7y):=S49_7 uu x.1 x.2.1 x.2.2.1 x.2.2.2.1 x.2.2.2.2.1 x.2.2.2.2.2
def F49 (o:PV):Option ((List PV)):=(F84 uu (o.fld 0).asStr).bind λy3=>(F44 uu () (!y3) (-1:Int) (8:Int) (o.fld 0).asStr []).bind λy5=>(F44 uu () (bif (bif (decide (((o.fld 2).asList.length:Int)<1)) then true else (decide (((o.fld 2).asList.length:Int)>64))) then true else (decide (((o.fld 3).asList.length:Int)>16))) (-1:Int) (3:Int) y5.1 y5.2).bind λM=>let H:=decide (((o.fld 2).asList.length:Int)>0);let I:=(o.fld 2).asList;bif imp H (aaa (0:Int) I.length) then (F44 uu () (bif H then (((I.getD (0:Int).toNat .bad).fld 1).asInt != (0:Int)) else false) (-1:Int) (14:Int) M.1 M.2).bind λO=>(aag uu (S49_7step uu) ((),(),(0:Int),o,O.1,O.2)).bind λh=>(F92 uu () (h.2.2.1.fld 3).asList (0:Int) (2147483647:Int) h.2.2.2.1 h.2.2.2.2).bind λZ=>(F91 uu () (h.2.2.1.fld 4).asList (3:Int) (-1:Int) Z.1 Z.2).bind λJ=>some J.2 else none
def S49_12l:LoopE:=⟨12,⟨[1,3,4,5,6,7],bx21,[(.con (.ref 0 [] 85)),(.con (.ref 1 [] 124)),.int .i64,(.con (.ref 3 [] 98)),.bool,.int .i64,.data 85,.str,.acc 2 168,.data 98]⟩,[(.exit 2,⟨[1,3,4,5,6],bx21,[(.con (.ref 0 [] 85)),(.con (.ref 1 [] 124)),.int .i64,(.con (.ref 3 [] 98)),.bool,.data 85,.str,.acc 2 168,.data 98]⟩)],S49_12step uu⟩
def S49_7l:LoopE:=⟨7,⟨[1,3,4],bx22,(.con (.ref 0 [] 85))::(.con (.ref 1 [] 124))::(.int .i64)::(.data 85)::sv31⟩,[(.exit 0,⟨[1,3],bx22,(.con (.ref 0 [] 85))::(.con (.ref 1 [] 124))::(.data 85)::sv31⟩)],S49_7step uu⟩
def F49C:Cfg:=cfg Tryz.prog 132 0 [F84c uu,F44c uu,F85c uu,F86c uu,F91c uu,F92c uu] [S49_12l uu,S49_7l uu] uu
def F49c:CallE:=⟨49,⟨1,[],[.data 85]⟩,⟨1,[],[.slice 168]⟩,λx=>F49 uu x,[]⟩
theorem F49k:aak (F49C uu):=aad (qc (F84ok uu)<|qc (F44ok uu)<|qc (F85ok uu)<|qc (F86ok uu)<|qc (F91ok uu)<|qc (F92ok uu)<|q0) p0
theorem S49_12ok:LoopOk (F49C uu) (lp (lp (aaj Tryz.f49) 0) 0):=okL (F49k uu) uu (S49_12l uu) L0
theorem S49_7ok:LoopOk (F49C uu) (lp (aaj Tryz.f49) 0):=okL (F49k uu) uu (S49_7l uu) (L1 (S49_12ok uu))
theorem F49ok:okP (F49c uu):=okE Tryz.f49 (F49k uu) (L1 (S49_7ok uu))
abbrev S50_6x:=Unit×Unit×Unit×Int×PV×PV×Bt×(List PV)
abbrev S50_6y:=(Unit×Unit×PV×PV×Bt×(List PV))
def S50_6 (ao:Unit) (ap:Unit) (aq:Unit) (h:Int) (I:PV) (H:PV) (J:Bt) (M:List PV):Option (S50_6x⊕S50_6y):=bif (decide (h<((H.fld 1).asList.length:Int))) then let O:=(H.fld 1).asList;bif aaa h O.length then let o:=O.getD h.toNat .bad;(F85 uu (o.fld 0).asStr).bind λal=>(F44 uu () (!al) h (8:Int) J M).bind λag=>let Z:=decide (h>0);let aa:=(o.fld 0).asStr;let ab:=(H.fld 1).asList;let ad:=IntKind.wrap .i64 (h-1);bif imp Z (aaa ad ab.length) then let ae:=((ab.getD ad.toNat .bad).fld 0).asStr;(F44 uu () (bif Z then (Op.bytesLess aa ae||aa==ae) else false) h (11:Int) ag.1 ag.2).bind λah=>(F94 uu I (o.fld 1).asStr).bind λam=>let af:=decide (am<0);(bif !af then F94 uu I (o.fld 2).asStr else some 0).bind λan=>(F44 uu () (bif af then true else (decide (an<0))) h (12:Int) ah.1 ah.2).bind λai=>(F44 uu () (bif (decide ((o.fld 3).asInt<1)) then true else (decide ((o.fld 3).asInt>4))) h (1:Int) ai.1 ai.2).bind λaj=>(F91 uu () (o.fld 4).asList (6:Int) h aj.1 aj.2).bind λak=>some (.inl ((),(),(),(IntKind.wrap .i64 (h+1)),I,H,ak.1,ak.2)) else none else none else some (.inr ((),(),I,H,J,M))
def S50_6step (x:S50_6x):Option (S50_6x⊕S50_6y):=S50_6 uu x.1 x.2.1 x.2.2.1 x.2.2.2.1 x.2.2.2.2.1 x.2.2.2.2.2.1 x.2.2.2.2.2.2.1 x.2.2.2.2.2.2.2
def F50 (M:PV) (o:PV):Option ((List PV)):=(F84 uu (o.fld 0).asStr).bind λO=>(F44 uu () (!O) (-1:Int) (8:Int) (o.fld 0).asStr []).bind λI=>(F44 uu () (decide (((o.fld 1).asList.length:Int)>64)) (-1:Int) (3:Int) I.1 I.2).bind λJ=>(aag uu (S50_6step uu) ((),(),(),(0:Int),M,o,J.1,J.2)).bind λh=>(F91 uu () (h.2.2.2.1.fld 2).asList (5:Int) (-1:Int) h.2.2.2.2.1 h.2.2.2.2.2).bind λH=>some H.2
def S50_6l:LoopE:=⟨6,⟨[2,3,5,6],bx23,(.con (.ref 0 [] 26))::(.con (.ref 1 [] 90))::(.con (.ref 2 [] 124))::(.int .i64)::(.data 26)::(.data 90)::sv32⟩,[(.exit 0,⟨[3,5],bx23,(.con (.ref 1 [] 90))::(.con (.ref 2 [] 124))::(.data 26)::(.data 90)::sv32⟩)],S50_6step uu⟩
def F50C:Cfg:=cfg Tryz.prog 88 0 [F84c uu,F44c uu,F85c uu,F94c uu,F91c uu] [S50_6l uu] uu
def F50c:CallE:=⟨50,⟨2,[],sv33⟩,⟨1,[],[.slice 168]⟩,λx=>F50 uu x.1 x.2,[]⟩
theorem F50k:aak (F50C uu):=aad (qc (F84ok uu)<|qc (F44ok uu)<|qc (F85ok uu)<|qc (F94ok uu)<|qc (F91ok uu)<|q0) p0
theorem S50_6ok:LoopOk (F50C uu) (lp (aaj Tryz.f50) 0):=okL (F50k uu) uu (S50_6l uu) L0
theorem F50ok:okP (F50c uu):=okE Tryz.f50 (F50k uu) (L1 (S50_6ok uu))
abbrev S18_4x:=Unit×Unit×Int×PV×Bt×(List PV)
abbrev S18_4y:=(Unit×Unit×PV×Bt×(List PV))
def S18_4 (a1:Unit) (a2:Unit) (H:Int) (I:PV) (M:Bt) (O:List PV):Option (S18_4x⊕S18_4y):=bif (decide (H<=3)) then (F43 uu I H).bind λZ=>(F44 uu () (decide ((Z.length:Int)>64)) (-1:Int) (3:Int) M O).bind λh=>(F45 uu Z).bind λJ=>(F44 uu () (!J) (-1:Int) (11:Int) h.1 h.2).bind λo=>some (.inl ((),(),(IntKind.wrap .i64 (H+1)),I,o.1,o.2)) else some (.inr ((),(),I,M,O))
def S18_4step (x:S18_4x):Option (S18_4x⊕S18_4y):=S18_4 uu x.1 x.2.1 x.2.2.1 x.2.2.2.1 x.2.2.2.2.1 x.2.2.2.2.2
abbrev S18_15x:=Unit×Unit×(List PV)×Int×PV×Bt×(List PV)
abbrev S18_15y:=(Unit×Unit×PV×Bt×(List PV))
def S18_15 (Z:Unit) (aa:Unit) (I:List PV) (o:Int) (h:PV) (J:Bt) (H:List PV):Option (S18_15x⊕S18_15y):=bif (decide (o<((h.fld 0).asList.length:Int))) then let M:=(h.fld 0).asList;bif aaa o M.length then (F48 uu h (M.getD o.toNat .bad) I).bind λO=>bif decide (H.length+O.length<=aaf) then some (.inl ((),(),I,(IntKind.wrap .i64 (o+1)),h,J,(H++O))) else none else none else some (.inr ((),(),h,J,H))
def S18_15step (x:S18_15x):Option (S18_15x⊕S18_15y):=S18_15 uu x.1 x.2.1 x.2.2.1 x.2.2.2.1 x.2.2.2.2.1 x.2.2.2.2.2.1 x.2.2.2.2.2.2
abbrev S18_19x:=Unit×Unit×Int×PV×Bt×(List PV)
abbrev S18_19y:=(Unit×Unit×PV×Bt×(List PV))
def S18_19 (O:Unit) (Z:Unit) (h:Int) (o:PV) (I:Bt) (H:List PV):Option (S18_19x⊕S18_19y):=bif (decide (h<((o.fld 1).asList.length:Int))) then let J:=(o.fld 1).asList;bif aaa h J.length then (F49 uu (J.getD h.toNat .bad)).bind λM=>bif decide (H.length+M.length<=aaf) then some (.inl ((),(),(IntKind.wrap .i64 (h+1)),o,I,(H++M))) else none else none else some (.inr ((),(),o,I,H))
def S18_19step (x:S18_19x):Option (S18_19x⊕S18_19y):=S18_19 uu x.1 x.2.1 x.2.2.1 x.2.2.2.1 x.2.2.2.2.1 x.2.2.2.2.2
abbrev S18_23x:=Unit×Unit×Int×PV×Bt×(List PV)
abbrev S18_23y:=(Unit×PV×Bt×(List PV))
def S18_23 (O:Unit) (Z:Unit) (o:Int) (h:PV) (I:Bt) (H:List PV):Option (S18_23x⊕S18_23y):=bif (decide (o<((h.fld 2).asList.length:Int))) then let J:=(h.fld 2).asList;bif aaa o J.length then (F50 uu h (J.getD o.toNat .bad)).bind λM=>bif decide (H.length+M.length<=aaf) then some (.inl ((),(),(IntKind.wrap .i64 (o+1)),h,I,(H++M))) else none else none else some (.inr ((),h,I,H))
def S18_23step (x:S18_23x):Option (S18_23x⊕S18_23y):=S18_23 uu x.1 x.2.1 x.2.2.1 x.2.2.2.1 x.2.2.2.2.1 x.2.2.2.2.2
def F18 (a0:PV):Option ((List PV)):=(aag uu (S18_4step uu) ((),(),(1:Int),a0,([]:Bt),[])).bind λh=>(F43 uu h.2.2.1 (1:Int)).bind λJ=>(F43 uu h.2.2.1 (2:Int)).bind λM=>(F43 uu h.2.2.1 (3:Int)).bind λO=>(F46 uu J M).bind λZ=>(bif !Z then F46 uu J O else some false).bind λab=>let I:=bif Z then true else ab;(bif !I then F46 uu M O else some false).bind λad=>(F44 uu () (bif I then true else ad) (-1:Int) (9:Int) h.2.2.2.1 h.2.2.2.2).bind λaa=>(F47 uu h.2.2.1).bind λae=>(aag uu (S18_15step uu) ((),(),ae,(0:Int),h.2.2.1,aa.1,aa.2)).bind λo=>(aag uu (S18_19step uu) ((),(),(0:Int),o.2.2.1,o.2.2.2.1,o.2.2.2.2)).bind λH=>(aag uu (S18_23step uu) ((),(),(0:Int),H.2.2.1,H.2.2.2.1,H.2.2.2.2)).bind λaf=>some af.2.2.2
def S18_4l:LoopE:=⟨4,⟨[1,3,4],bx24,sv34⟩,[(.exit 0,⟨[1,3],bx24,sv35⟩)],S18_4step uu⟩
def S18_15l:LoopE:=⟨15,⟨[1,3,9,10],bx24,(.con (.ref 0 [] 26))::(.con (.ref 1 [] 124))::(.slice 4)::sv36⟩,[(.exit 2,⟨[1,3],bx24,sv35⟩)],S18_15step uu⟩
def S18_19l:LoopE:=⟨19,⟨[1,3,11],bx24,sv34⟩,[(.exit 4,⟨[1,3],bx24,sv35⟩)],S18_19step uu⟩
def S18_23l:LoopE:=⟨23,⟨[1,3,12],bx24,sv34⟩,[(.exit 6,⟨[3],bx24,sv37⟩)],S18_23step uu⟩
def F18C:Cfg:=cfg Tryz.prog 107 0 [F43c uu,F44c uu,F45c uu,F46c uu,F47c uu,F48c uu,F49c uu,F50c uu] [S18_4l uu,S18_15l uu,S18_19l uu,S18_23l uu] uu
def F18c:CallE:=⟨18,⟨1,[],[.data 26]⟩,⟨1,[],[.slice 168]⟩,λx=>F18 uu x,[]⟩
theorem F18k:aak (F18C uu):=aad (qc (F43ok uu)<|qc (F44ok uu)<|qc (F45ok uu)<|qc (F46ok uu)<|qc (F47ok uu)<|qc (F48ok uu)<|qc (F49ok uu)<|qc (F50ok uu)<|q0) p0
theorem S18_4ok:LoopOk (F18C uu) (lp (aaj Tryz.f18) 0):=okL (F18k uu) uu (S18_4l uu) L0
theorem S18_15ok:LoopOk (F18C uu) (lp (aaj Tryz.f18) 1):=okL (F18k uu) uu (S18_15l uu) L0
theorem S18_19ok:LoopOk (F18C uu) (lp (aaj Tryz.f18) 2):=okL (F18k uu) uu (S18_19l uu) L0
theorem S18_23ok:LoopOk (F18C uu) (lp (aaj Tryz.f18) 3):=okL (F18k uu) uu (S18_23l uu) L0
theorem F18ok:okP (F18c uu):=okE Tryz.f18 (F18k uu) (L4 (S18_4ok uu) (S18_15ok uu) (S18_19ok uu) (S18_23ok uu))
def F9 (h:PV):Option Bool:=(F18 uu h).bind λo=>some ((o.length:Int)==0)
def F9c:CallE:=⟨9,⟨1,[],[.data 26]⟩,⟨1,[],[.bool]⟩,λx=>F9 uu x,false⟩
theorem F9ok:okP (F9c uu):=okJ Tryz.f9 7 0 uu _ [] false (qc (F18ok uu)<|q0) p0 L0
def F4 (o:PV):Option Bool:=let h:=bif (bif (decide (((o.fld 0).asList.length:Int)<=8)) then (decide (((o.fld 1).asList.length:Int)<=8)) else false) then (decide (((o.fld 2).asList.length:Int)<=8)) else false;(bif h then F9 uu o else some false).bind λH=>some (bif h then H else false)
def F4c:CallE:=⟨4,⟨1,[],[.data 26]⟩,⟨1,[],[.bool]⟩,λx=>F4 uu x,false⟩
theorem F4ok:okP (F4c uu):=okJ Tryz.f4 23 0 uu _ [] false (qc (F9ok uu)<|q0) p0 L0
def F21 (uu:Nat) (H:Unit) (h:List PV) (o:List PV):Option ((List PV)):=bif decide (o.length+h.length<=aaf) then some (o++h) else none
def F21c:CallE:=⟨21,⟨2,bx25,[(.con (.ref 0 [] 78)),.slice 34,.acc 1 34]⟩,⟨0,bx25,[.acc 1 34]⟩,λx=>F21 uu x.1 x.2.1 x.2.2,[]⟩
theorem F21ok:okP (F21c uu):=okJ Tryz.f21 13 2 uu [] [] false q0 p0 L0
def F96 (a0:Unit) (o:Int) (H:Bt) (I:Int) (J:Bt) (M:Bt) (O:Bool) (h:List PV):Option ((List PV)):=bif O then (F21 uu () [(PV.agg [(PV.int o),(PV.str H),(PV.int I),(PV.str J),(PV.str M)])] h).bind λZ=>some Z else some h
def F96c:CallE:=⟨96,⟨7,bx25,[(.con (.ref 0 [] 78)),.int .i64,.str,.int .i64,.str,.str,.bool,.acc 1 34]⟩,⟨0,bx25,[.acc 1 34]⟩,λx=>F96 uu x.1 x.2.1 x.2.2.1 x.2.2.2.1 x.2.2.2.2.1 x.2.2.2.2.2.1 x.2.2.2.2.2.2.1 x.2.2.2.2.2.2.2,[]⟩
theorem F96ok:okP (F96c uu):=okJ Tryz.f96 24 2 uu _ [] false (qc (F21ok uu)<|q0) p0 L0
def F175 (uu:Nat) (h:Int):Option Bool:=some (bif (decide (h>=1)) then (decide (h<=8)) else false)
def F175c:CallE:=⟨175,⟨1,[],[.int .i64]⟩,⟨1,[],[.bool]⟩,λx=>F175 uu x,false⟩
theorem F175ok:okP (F175c uu):=okJ Tryz.f175 9 0 uu [] [] false q0 p0 L0
def F177 (uu:Nat) :Option PV:=let x1:=(PV.agg [(PV.str ([98,111,111,108]:Bt)),(PV.str ([105,51,50]:Bt)),(PV.str ([105,54,52]:Bt)),(PV.str ([117,51,50]:Bt)),(PV.str ([117,54,52]:Bt)),(PV.str ([100,111,117,98,108,101]:Bt)),(PV.str ([116,101,120,116]:Bt)),(PV.str ([98,121,116,101,115]:Bt))]);some x1
def F177c:CallE:=⟨177,⟨0,[],[]⟩,⟨1,[],[.data 240]⟩,λx=>F177 uu ,PV.bad⟩
theorem F177ok:okP (F177c uu):=okJ Tryz.f177 2 0 uu [] [] false q0 p0 L0
def F132 (h:Int):Option Bt:=bif (bif (decide (h<1)) then true else (decide (h>8))) then some ([]:Bt) else (F177 uu).bind λH=>let o:=IntKind.wrap .i64 (h-1);bif aaa o 8 then some (H.fld o.toNat).asStr else none
def F132c:CallE:=⟨132,⟨1,[],[.int .i64]⟩,⟨1,[],[.str]⟩,λx=>F132 uu x,[]⟩
theorem F132ok:okP (F132c uu):=okJ Tryz.f132 13 0 uu _ [] false (qc (F177ok uu)<|q0) p0 L0
def F228 (uu:Nat) (h:Bt) (o:Bt):Option Bool:=let I:=decide ((h.length:Int)>=(o.length:Int));let H:=(o.length:Int);bif imp I (decide (0<=(0:Int)/\(0:Int)<=H/\H<=(h.length:Int))) then some (bif I then (((h.take H.toNat).drop (0:Int).toNat)==o) else false) else none
def F228c:CallE:=⟨228,⟨2,[],[.str,.str]⟩,⟨1,[],[.bool]⟩,λx=>F228 uu x.1 x.2,false⟩
theorem F228ok:okP (F228c uu):=okJ Tryz.f228 18 0 uu [] [] false q0 p0 L0
def F212 (h:Bt) (H:Bt):Option Bt:=(F228 uu h H).bind λI=>bif I then let o:=(H.length:Int);bif decide (0<=o/\o<=(h.length:Int)/\(h.length:Int)<=(h.length:Int)) then some ((h.take (h.length:Int).toNat).drop o.toNat) else none else some h
def F212c:CallE:=⟨212,⟨2,[],[.str,.str]⟩,⟨1,[],[.str]⟩,λx=>F212 uu x.1 x.2,[]⟩
theorem F212ok:okP (F212c uu):=okJ Tryz.f212 13 0 uu _ [] false (qc (F228ok uu)<|q0) p0 L0
def F195 (h:Bt) (o:Bt):Option Bt:=(F212 uu h o).bind λH=>some H
def F195c:CallE:=⟨195,⟨2,[],[.str,.str]⟩,⟨1,[],[.str]⟩,λx=>F195 uu x.1 x.2,[]⟩
theorem F195ok:okP (F195c uu):=okJ Tryz.f195 8 0 uu _ [] false (qc (F212ok uu)<|q0) p0 L0
def F227 (uu:Nat) (h:Int):Option Int:=bif (bif (decide (h>=97)) then (decide (h<=122)) else false) then some (1:Int) else bif (bif (decide (h>=65)) then (decide (h<=90)) else false) then some (2:Int) else bif (bif (decide (h>=48)) then (decide (h<=57)) else false) then some (3:Int) else bif (h==95) then some (4:Int) else some (0:Int)
def F227c:CallE:=⟨227,⟨1,[],[.int .i32]⟩,⟨1,[],[.int .i64]⟩,λx=>F227 uu x,0⟩
theorem F227ok:okP (F227c uu):=okJ Tryz.f227 27 0 uu [] [] false q0 p0 L0
abbrev S211_3x:=Bt×Unit×Bt×Int
abbrev S211_3y:=(Bool×Bt×Int)⊕(Bt×Bt×Int)
def S211_3 (I:Bt) (J:Unit) (o:Bt) (h:Int):Option (S211_3x⊕S211_3y):=bif (decide (h.toNat<o.length)) then bif decide (h.toNat<o.length) then bif decide (h.toNat<o.length) then (F227 uu ((Utf8.decode ⟨o.toArray⟩ h.toNat).1:Int)).bind λH=>bif (bif (H==0) then true else (bif (bif ((h.toNat:Int)==0) then (H != 1) else false) then (H != 2) else false)) then some (.inr (.inl (false,o,((bif decide (h.toNat<o.length) then h.toNat+(Utf8.decode ⟨o.toArray⟩ h.toNat).2 else h.toNat:Nat):Int)))) else some (.inl (I,(),o,((bif decide (h.toNat<o.length) then h.toNat+(Utf8.decode ⟨o.toArray⟩ h.toNat).2 else h.toNat:Nat):Int))) else none else none else some (.inr (.inr (I,o,((bif decide (h.toNat<o.length) then h.toNat+(Utf8.decode ⟨o.toArray⟩ h.toNat).2 else h.toNat:Nat):Int))))
def S211_3step (x:S211_3x):Option (S211_3x⊕S211_3y):=S211_3 uu x.1 x.2.1 x.2.2.1 x.2.2.2
def F211 (H:Bt):Option Bool:=(aag uu (S211_3step uu) (H,(),H,((0:Nat):Int))).bind λz=>sumE (λo=>some o.1 ) (λh=>some (bif (decide ((h.1.length:Int)>=1)) then (decide ((h.1.length:Int)<=40)) else false) ) z
def S211_3l:LoopE:=⟨3,⟨[0,7],[.iter],.str::(.con (.iref 0))::sv14⟩,[(.ret,⟨[2],[.iter],.bool::sv14⟩),(.exit 0,⟨[0],[.iter],sv24⟩)],S211_3step uu⟩
def F211C:Cfg:=cfg Tryz.prog 36 0 [F227c uu] [S211_3l uu] uu
def F211c:CallE:=⟨211,⟨1,[],[.str]⟩,⟨1,[],[.bool]⟩,λx=>F211 uu x,false⟩
theorem F211k:aak (F211C uu):=aad (qc (F227ok uu)<|q0) p0
theorem S211_3ok:LoopOk (F211C uu) (lp (aaj Tryz.f211) 0):=okL (F211k uu) uu (S211_3l uu) L0
theorem F211ok:okP (F211c uu):=okE Tryz.f211 (F211k uu) (L1 (S211_3ok uu))
abbrev S194_3x:=Bt×(List PV)×Int×Int
abbrev S194_3y:=(Bool)⊕(Bt)
def S194_3 (I:Bt) (o:List PV) (J:Int) (h:Int):Option (S194_3x⊕S194_3y):=bif (decide (h<J)) then bif aaa h o.length then (F211 uu (o.getD h.toNat .bad).asStr).bind λH=>bif (!H) then some (.inr (.inl false)) else some (.inl (I,o,J,(IntKind.wrap .i64 (h+1)))) else none else some (.inr (.inr I))
def S194_3step (x:S194_3x):Option (S194_3x⊕S194_3y):=S194_3 uu x.1 x.2.1 x.2.2.1 x.2.2.2
def F194 (H:Bt):Option Bool:=(aoh uu H ([46]:Bt)).bind λI=>(aag uu (S194_3step uu) (H,I,(I.length:Int),(0:Int))).bind λz=>sumE (λh=>some h ) (λo=>some (decide ((o.length:Int)<=120)) ) z
def S194_3l:LoopE:=⟨3,⟨[0,6,7,8],[],.str::(.slice 9)::sv15⟩,[(.ret,⟨[2],[],[.bool]⟩),(.exit 0,⟨[0],[],[.str]⟩)],S194_3step uu⟩
def F194C:Cfg:=cfg Tryz.prog 19 0 [ay5 uu,F211c uu] [S194_3l uu] uu
def F194c:CallE:=⟨194,⟨1,[],[.str]⟩,⟨1,[],[.bool]⟩,λx=>F194 uu x,false⟩
theorem F194k:aak (F194C uu):=aad (qc (a3b uu)<|qc (F211ok uu)<|q0) p0
theorem S194_3ok:LoopOk (F194C uu) (lp (aaj Tryz.f194) 0):=okL (F194k uu) uu (S194_3l uu) L0
theorem F194ok:okP (F194c uu):=okE Tryz.f194 (F194k uu) (L1 (S194_3ok uu))
def F176 (h:Bt):Option Bool:=(F195 uu h ([46]:Bt)).bind λo=>(F194 uu o).bind λH=>some H
def F176c:CallE:=⟨176,⟨1,[],[.str]⟩,⟨1,[],[.bool]⟩,λx=>F176 uu x,false⟩
theorem F176ok:okP (F176c uu):=okJ Tryz.f176 6 0 uu _ [] false (qc (F195ok uu)<|qc (F194ok uu)<|q0) p0 L0
def F130 (h:PV):Option Bt:=(F175 uu (h.fld 0).asInt).bind λI=>bif (bif I then ((h.fld 1).asStr==([]:Bt)) else false) then (F132 uu (h.fld 0).asInt).bind λJ=>some J else let o:=bif (bif ((h.fld 0).asInt==0) then true else ((h.fld 0).asInt==9)) then true else ((h.fld 0).asInt==10);(bif o then F176 uu (h.fld 1).asStr else some false).bind λH=>bif (bif o then H else false) then some (h.fld 1).asStr else some ([]:Bt)
def F130c:CallE:=⟨130,⟨1,[],[.data 38]⟩,⟨1,[],[.str]⟩,λx=>F130 uu x,[]⟩
theorem F130ok:okP (F130c uu):=okJ Tryz.f130 36 0 uu _ [] false (qc (F175ok uu)<|qc (F132ok uu)<|qc (F176ok uu)<|q0) p0 L0
def F131 (uu:Nat) (h:Int):Option Bt:=bif (h==1) then some ([114,101,113,117,105,114,101,100]:Bt) else bif (h==2) then some ([111,112,116,105,111,110,97,108]:Bt) else bif (h==3) then some ([112,108,97,105,110]:Bt) else bif (h==4) then some ([108,105,115,116]:Bt) else bif (h==5) then some ([109,97,112]:Bt) else some ([]:Bt)
def F131c:CallE:=⟨131,⟨1,[],[.int .i64]⟩,⟨1,[],[.str]⟩,λx=>F131 uu x,[]⟩
theorem F131ok:okP (F131c uu):=okJ Tryz.f131 14 0 uu [] [] false q0 p0 L0
def F229 (uu:Nat) (h:Bt):Option Bool:=bif (h==([109,101,115,115,97,103,101]:Bt)) then some true else bif (h==([101,110,117,109]:Bt)) then some true else bif (h==([115,101,114,118,105,99,101]:Bt)) then some true else bif (h==([117,110,105,111,110]:Bt)) then some true else bif (h==([109,97,112]:Bt)) then some true else bif (h==([108,105,115,116]:Bt)) then some true else let H:=h==([114,101,113,117,105,114,101,100]:Bt);bif H then some true else let I:=h==([111,112,116,105,111,110,97,108]:Bt);bif I then some true else bif (h==([112,108,97,105,110]:Bt)) then some true else bif (h==([100,101,102,97,117,108,116]:Bt)) then some true else let o:=h==([114,101,115,101,114,118,101,100]:Bt);bif o then some true else bif (h==([105,109,112,111,114,116]:Bt)) then some true else bif (h==([115,112,97,99,101]:Bt)) then some true else bif (h==([114,112,99]:Bt)) then some true else bif (h==([115,116,114,101,97,109]:Bt)) then some true else bif (h==([114,101,116,117,114,110,115]:Bt)) then some true else bif (h==([111,112,101,110]:Bt)) then some true else bif (h==([116,114,117,101]:Bt)) then some true else bif (h==([102,97,108,115,101]:Bt)) then some true else bif (h==([110,97,110]:Bt)) then some true else bif (h==([105,110,102]:Bt)) then some true else some false
def F229c:CallE:=⟨229,⟨1,[],[.str]⟩,⟨1,[],[.bool]⟩,λx=>F229 uu x,false⟩
theorem F229ok:okP (F229c uu):=okJ Tryz.f229 27 0 uu [] [] false q0 p0 L0
def F213 (h:Bt):Option Bool:=(F211 uu h).bind λo=>(bif o then F229 uu h else some false).bind λH=>some (bif o then (!H) else false)
def F213c:CallE:=⟨213,⟨1,[],[.str]⟩,⟨1,[],[.bool]⟩,λx=>F213 uu x,false⟩
theorem F213ok:okP (F213c uu):=okJ Tryz.f213 10 0 uu _ [] false (qc (F211ok uu)<|qc (F229ok uu)<|q0) p0 L0
def F196 (h:PV):Option Bool:=let o:=(h.fld 0).asInt==9;(bif o then F213 uu (h.fld 2).asStr else some false).bind λH=>some (bif (bif (bif o then H else false) then ((h.fld 1).asInt==0) else false) then ((IntKind.wrap .i64 ((IntKind.wrap .i64 ((IntKind.wrap .i64 (((h.fld 3).asList.length:Int)+((h.fld 4).asList.length:Int)))+((h.fld 5).asList.length:Int)))+((h.fld 6).asList.length:Int)))==0) else false)
def F196c:CallE:=⟨196,⟨1,[],[.data 45]⟩,⟨1,[],[.bool]⟩,λx=>F196 uu x,false⟩
theorem F196ok:okP (F196c uu):=okJ Tryz.f196 34 0 uu _ [] false (qc (F213ok uu)<|q0) p0 L0
def F214 (uu:Nat) (h:Int):Option Bool:=some (bif (decide (h>=1)) then (decide (h<=9)) else false)
def F214c:CallE:=⟨214,⟨1,[],[.int .i64]⟩,⟨1,[],[.bool]⟩,λx=>F214 uu x,false⟩
theorem F214ok:okP (F214c uu):=okJ Tryz.f214 9 0 uu [] [] false q0 p0 L0
def F230 (uu:Nat) (h:Int):Option Bool:=some (bif (h==7) then true else (h==8))
def F230c:CallE:=⟨230,⟨1,[],[.int .i64]⟩,⟨1,[],[.bool]⟩,λx=>F230 uu x,false⟩
theorem F230ok:okP (F230c uu):=okJ Tryz.f230 9 0 uu [] [] false q0 p0 L0
def F215 (h:PV):Option Bool:=bif (decide ((IntKind.wrap .i64 ((IntKind.wrap .i64 ((IntKind.wrap .i64 (((h.fld 3).asList.length:Int)+((h.fld 4).asList.length:Int)))+((h.fld 5).asList.length:Int)))+((h.fld 6).asList.length:Int)))>0)) then some false else (F230 uu (h.fld 0).asInt).bind λo=>bif o then some ((h.fld 1).asInt==0) else some ((h.fld 2).asStr==([]:Bt))
def F215c:CallE:=⟨215,⟨1,[],[.data 45]⟩,⟨1,[],[.bool]⟩,λx=>F215 uu x,false⟩
theorem F215ok:okP (F215c uu):=okJ Tryz.f215 28 0 uu _ [] false (qc (F230ok uu)<|q0) p0 L0
def F216 (uu:Nat) (o:Int) (h:Int):Option Bool:=bif (o==1) then some (decide (h<=1)) else bif (o==2) then some (bif (decide ((IntKind.wrap .i64 h)>=(-2147483648:Int))) then (decide ((IntKind.wrap .i64 h)<=2147483647)) else false) else bif (o==9) then some (decide (h<=2147483647)) else bif (o==4) then some (decide (h<=4294967295)) else some true
def F216c:CallE:=⟨216,⟨2,[],[.int .i64,.int .u64]⟩,⟨1,[],[.bool]⟩,λx=>F216 uu x.1 x.2,false⟩
theorem F216ok:okP (F216c uu):=okJ Tryz.f216 28 0 uu [] [] false q0 p0 L0
def F244 (h:Bt) (o:Bt):Option Bool:=(F228 uu h o).bind λH=>some H
def F244c:CallE:=⟨244,⟨2,[],[.str,.str]⟩,⟨1,[],[.bool]⟩,λx=>F244 uu x.1 x.2,false⟩
theorem F244ok:okP (F244c uu):=okJ Tryz.f244 8 0 uu _ [] false (qc (F228ok uu)<|q0) p0 L0
def F233 (h:Bt) (o:Int) (H:Int):Option Bool:=let x1:=H==65533;bif imp x1 (decide (0<=o/\o<=(h.length:Int)/\(h.length:Int)<=(h.length:Int))) then (bif x1 then F244 uu ((h.take (h.length:Int).toNat).drop o.toNat) ([239,191,189]:Bt) else some false).bind λI=>some (bif x1 then (!I) else false) else none
def F233c:CallE:=⟨233,⟨3,[],[.str,.int .i64,.int .i32]⟩,⟨1,[],[.bool]⟩,λx=>F233 uu x.1 x.2.1 x.2.2,false⟩
theorem F233ok:okP (F233c uu):=okJ Tryz.f233 16 0 uu _ [] false (qc (F244ok uu)<|q0) p0 L0
abbrev S231_3x:=Bt×Unit×Bt×Int
abbrev S231_3y:=(Int×Bt×Int)⊕(Bt×Int)
def S231_3 (H:Bt) (M:Unit) (o:Bt) (h:Int):Option (S231_3x⊕S231_3y):=bif (decide (h.toNat<o.length)) then bif decide (h.toNat<o.length) then let I:=(h.toNat:Int);bif decide (h.toNat<o.length) then (F233 uu H I ((Utf8.decode ⟨o.toArray⟩ h.toNat).1:Int)).bind λJ=>bif J then some (.inr (.inl (I,o,((bif decide (h.toNat<o.length) then h.toNat+(Utf8.decode ⟨o.toArray⟩ h.toNat).2 else h.toNat:Nat):Int)))) else some (.inl (H,(),o,((bif decide (h.toNat<o.length) then h.toNat+(Utf8.decode ⟨o.toArray⟩ h.toNat).2 else h.toNat:Nat):Int))) else none else none else some (.inr (.inr (o,((bif decide (h.toNat<o.length) then h.toNat+(Utf8.decode ⟨o.toArray⟩ h.toNat).2 else h.toNat:Nat):Int))))
def S231_3step (x:S231_3x):Option (S231_3x⊕S231_3y):=S231_3 uu x.1 x.2.1 x.2.2.1 x.2.2.2
def F231 (h:Bt):Option Int:=(aag uu (S231_3step uu) (h,(),h,((0:Nat):Int))).bind λz=>sumE (λH=>some H.1 ) (λo=>some (-1:Int) ) z
def S231_3l:LoopE:=⟨3,⟨[0,6],[.iter],.str::(.con (.iref 0))::sv14⟩,[(.ret,⟨[2],[.iter],(.int .i64)::sv14⟩),(.exit 0,⟨[],[.iter],sv14⟩)],S231_3step uu⟩
def F231C:Cfg:=cfg Tryz.prog 16 0 [F233c uu] [S231_3l uu] uu
def F231c:CallE:=⟨231,⟨1,[],[.str]⟩,⟨1,[],[.int .i64]⟩,λx=>F231 uu x,0⟩
theorem F231k:aak (F231C uu):=aad (qc (F233ok uu)<|q0) p0
theorem S231_3ok:LoopOk (F231C uu) (lp (aaj Tryz.f231) 0):=okL (F231k uu) uu (S231_3l uu) L0
theorem F231ok:okP (F231c uu):=okE Tryz.f231 (F231k uu) (L1 (S231_3ok uu))
def F217 (h:Bt):Option Bool:=(F231 uu h).bind λo=>some (decide (o<0))
def F217c:CallE:=⟨217,⟨1,[],[.str]⟩,⟨1,[],[.bool]⟩,λx=>F217 uu x,false⟩
theorem F217ok:okP (F217c uu):=okJ Tryz.f217 6 0 uu _ [] false (qc (F231ok uu)<|q0) p0 L0
def F197 (H:Int) (h:PV):Option Bool:=(F214 uu H).bind λZ=>let M:=bif (!Z) then true else ((h.fld 0).asInt != H);(bif !M then F215 uu h else some false).bind λy6=>let O:=bif M then true else (!y6);(bif !O then F216 uu H (h.fld 1).asInt else some false).bind λI=>bif (bif (bif O then true else (!I)) then true else (decide (((h.fld 2).asStr.length:Int)>4096))) then some false else let o:=H != 7;(bif !o then F217 uu (h.fld 2).asStr else some false).bind λJ=>some (bif o then true else J)
def F197c:CallE:=⟨197,⟨2,[],[.int .i64,.data 45]⟩,⟨1,[],[.bool]⟩,λx=>F197 uu x.1 x.2,false⟩
theorem F197ok:okP (F197c uu):=okJ Tryz.f197 39 0 uu _ [] false (qc (F214ok uu)<|qc (F215ok uu)<|qc (F216ok uu)<|qc (F217ok uu)<|q0) p0 L0
def F235 (uu:Nat) (h:Bool):Option Bt:=bif h then some ([116,114,117,101]:Bt) else some ([102,97,108,115,101]:Bt)
def F235c:CallE:=⟨235,⟨1,[],[.bool]⟩,⟨1,[],[.str]⟩,λx=>F235 uu x,[]⟩
theorem F235ok:okP (F235c uu):=okJ Tryz.f235 4 0 uu [] [] false q0 p0 L0
def F221 (h:Bool):Option Bt:=(F235 uu h).bind λo=>some o
def F221c:CallE:=⟨221,⟨1,[],[.bool]⟩,⟨1,[],[.str]⟩,λx=>F221 uu x,[]⟩
theorem F221ok:okP (F221c uu):=okJ Tryz.f221 5 0 uu _ [] false (qc (F235ok uu)<|q0) p0 L0
def F237 (uu:Nat) (h:Int):Option Int:=let x1:=agw .and .u64 h (9218868437227405312:Int);let o:=agw .and .u64 h (4503599627370495:Int);bif (bif (x1==9218868437227405312) then (o != 0) else false) then some (0:Int) else bif (x1==9218868437227405312) then some (1:Int) else bif (bif (x1==0) then (o==0) else false) then some (2:Int) else bif (x1==0) then some (3:Int) else some (4:Int)
def F237c:CallE:=⟨237,⟨1,[],[.int .u64]⟩,⟨1,[],[.int .i64]⟩,λx=>F237 uu x,0⟩
theorem F237ok:okP (F237c uu):=okJ Tryz.f237 29 0 uu [] [] false q0 p0 L0
def F225 (h:Int) (o:Int):Option Bt:=(Lfmt uu h o).bind λH=>some H
def F225c:CallE:=⟨225,⟨2,[],[.int .u64,.int .i64]⟩,⟨1,[],[.str]⟩,λx=>F225 uu x.1 x.2,[]⟩
theorem F225ok:okP (F225c uu):=okJ Tryz.f225 8 0 uu _ [] false (qc (a9u uu)<|q0) p0 L0
def F223 (o:Int):Option Bt:=(F237 uu o).bind λH=>bif (H==0) then some ([110,97,110]:Bt) else bif (bif (H==1) then ((agw .and .u64 o (9223372036854775808:Int)) != 0) else false) then some ([45,105,110,102]:Bt) else bif (H==1) then some ([105,110,102]:Bt) else (F225 uu o (16:Int)).bind λI=>(aj6 uu ([48]:Bt) (IntKind.wrap .i64 ((16:Int)-(I.length:Int)))).bind λh=>bif decide (([48,120]:Bt).length+h.length<=aao) then bif decide ((([48,120]:Bt)++h).length+I.length<=aao) then some ((([48,120]:Bt)++h)++I) else none else none
def F223c:CallE:=⟨223,⟨1,[],[.int .u64]⟩,⟨1,[],[.str]⟩,λx=>F223 uu x,[]⟩
theorem F223ok:okP (F223c uu):=okJ Tryz.f223 30 0 uu _ [] false (qc (F237ok uu)<|qc (F225ok uu)<|qc (ay2 uu)<|q0) p0 L0
def F234 (uu:Nat) (h:Int):Option Bt:=let x1:=h.fdiv (2^(min (4:Int).toNat (IntKind.bits .u8)));let o:=IntKind.wrap .u8 ((h.fdiv (2^(min (4:Int).toNat (IntKind.bits .u8))))+1);bif decide (0<=x1/\x1<=o/\o<=(([48,49,50,51,52,53,54,55,56,57,97,98,99,100,101,102]:Bt).length:Int)) then let H:=(([48,49,50,51,52,53,54,55,56,57,97,98,99,100,101,102]:Bt).take o.toNat).drop x1.toNat;bif decide (([92,120]:Bt).length+H.length<=aao) then let I:=agw .and .u8 h (15:Int);let J:=IntKind.wrap .u8 ((agw .and .u8 h (15:Int))+1);bif decide (0<=I/\I<=J/\J<=(([48,49,50,51,52,53,54,55,56,57,97,98,99,100,101,102]:Bt).length:Int)) then let M:=(([48,49,50,51,52,53,54,55,56,57,97,98,99,100,101,102]:Bt).take J.toNat).drop I.toNat;bif decide ((([92,120]:Bt)++H).length+M.length<=aao) then some ((([92,120]:Bt)++H)++M) else none else none else none else none
def F234c:CallE:=⟨234,⟨1,[],[.int .u8]⟩,⟨1,[],[.str]⟩,λx=>F234 uu x,[]⟩
theorem F234ok:okP (F234c uu):=okJ Tryz.f234 17 0 uu [] [] false q0 p0 L0
def F219 (o:Bt) (H:Int) (h:Int):Option Bt:=bif (h==34) then some ([92,34]:Bt) else bif (h==92) then some ([92,92]:Bt) else bif (h==10) then some ([92,110]:Bt) else bif (h==9) then some ([92,116]:Bt) else bif (h==13) then some ([92,114]:Bt) else let J:=bif (decide (h<32)) then true else (h==127);(bif !J then F233 uu o H h else some false).bind λM=>bif (bif J then true else M) then bif aaa H o.length then (F234 uu ((o.getD H.toNat 0).toNat:Int)).bind λI=>some I else none else some ((Utf8.encode h).data.toList)
def F219c:CallE:=⟨219,⟨3,[],[.str,.int .i64,.int .i32]⟩,⟨1,[],[.str]⟩,λx=>F219 uu x.1 x.2.1 x.2.2,[]⟩
theorem F219ok:okP (F219c uu):=okJ Tryz.f219 41 0 uu _ [] false (qc (F233ok uu)<|qc (F234ok uu)<|q0) p0 L0
abbrev S198_5x:=Bt×Unit×Unit×Bt×Bt×Int
abbrev S198_5y:=(Unit×Bt×Bt×Int)
def S198_5 (J:Bt) (O:Unit) (Z:Unit) (M:Bt) (o:Bt) (h:Int):Option (S198_5x⊕S198_5y):=bif (decide (h.toNat<o.length)) then bif decide (h.toNat<o.length) then bif decide (h.toNat<o.length) then (F219 uu J (h.toNat:Int) ((Utf8.decode ⟨o.toArray⟩ h.toNat).1:Int)).bind λH=>(abw uu H M).bind λI=>some (.inl (J,(),(),I.2.2,o,((bif decide (h.toNat<o.length) then h.toNat+(Utf8.decode ⟨o.toArray⟩ h.toNat).2 else h.toNat:Nat):Int))) else none else none else some (.inr ((),M,o,((bif decide (h.toNat<o.length) then h.toNat+(Utf8.decode ⟨o.toArray⟩ h.toNat).2 else h.toNat:Nat):Int)))
def S198_5step (x:S198_5x):Option (S198_5x⊕S198_5y):=S198_5 uu x.1 x.2.1 x.2.2.1 x.2.2.2.1 x.2.2.2.2.1 x.2.2.2.2.2
def F198 (I:Bt):Option Bt:=(abw uu ([34]:Bt) []).bind λJ=>(aag uu (S198_5step uu) (I,(),(),J.2.2,I,((0:Nat):Int))).bind λh=>(abw uu ([34]:Bt) h.2.1).bind λo=>(atb uu o.2.2).bind λH=>some H.1
def S198_5l:LoopE:=⟨5,⟨[0,3,8],[.bld 265,.iter],.str::(.con (.bref 0 265))::(.con (.iref 1))::sv24⟩,[(.exit 0,⟨[3],[.bld 265,.iter],(.con (.bref 0 265))::sv24⟩)],S198_5step uu⟩
def F198C:Cfg:=cfg Tryz.prog 20 0 [afd uu,F219c uu,ak6 uu] [S198_5l uu] uu
def F198c:CallE:=⟨198,⟨1,[],[.str]⟩,⟨1,[],[.str]⟩,λx=>F198 uu x,[]⟩
theorem F198k:aak (F198C uu):=aad (qc (ai8 uu)<|qc (F219ok uu)<|qc (apc uu)<|q0) p0
theorem S198_5ok:LoopOk (F198C uu) (lp (aaj Tryz.f198) 0):=okL (F198k uu) uu (S198_5l uu) L0
theorem F198ok:okP (F198c uu):=okE Tryz.f198 (F198k uu) (L1 (S198_5ok uu))
abbrev S224_4x:=Bt×(List PV)×Int×Int
abbrev S224_4y:=((List PV))
def S224_4 (uu:Nat) (o:Bt) (O:List PV) (Z:Int) (h:Int):Option (S224_4x⊕S224_4y):=bif (decide (h<Z)) then bif aaa h o.length then let H:=((o.getD h.toNat 0).toNat:Int).fdiv (2^(min (4:Int).toNat (IntKind.bits .u8)));bif aaa H (([48,49,50,51,52,53,54,55,56,57,97,98,99,100,101,102]:Bt).length) then let I:=((([48,49,50,51,52,53,54,55,56,57,97,98,99,100,101,102]:Bt).getD H.toNat 0).toNat:Int);bif aaa h o.length then let J:=agw .and .u8 ((o.getD h.toNat 0).toNat:Int) (15:Int);bif aaa J (([48,49,50,51,52,53,54,55,56,57,97,98,99,100,101,102]:Bt).length) then let M:=((([48,49,50,51,52,53,54,55,56,57,97,98,99,100,101,102]:Bt).getD J.toNat 0).toNat:Int);bif decide (O.length+[(PV.int I),(PV.int M)].length<=aaf) then some (.inl (o,(O++[(PV.int I),(PV.int M)]),Z,(IntKind.wrap .i64 (h+1)))) else none else none else none else none else none else some (.inr O)
def S224_4step (x:S224_4x):Option (S224_4x⊕S224_4y):=S224_4 uu x.1 x.2.1 x.2.2.1 x.2.2.2
def F224 (h:Bt):Option Bt:=let H:=IntKind.wrap .i64 ((2:Int)*(h.length:Int));bif decide (0<=H/\H<=aaf) then (aag uu (S224_4step uu) (h,[],(h.length:Int),(0:Int))).bind λo=>some (o.map aa0) else none
def S224_4l:LoopE:=⟨4,⟨[0,3,10,11],[.acc],.str::(.acc 0 5)::sv15⟩,[(.exit 0,⟨[3],[.acc],[.acc 0 5]⟩)],S224_4step uu⟩
def F224C:Cfg:=cfg Tryz.prog 30 0 [] [S224_4l uu] uu
def F224c:CallE:=⟨224,⟨1,[],[.str]⟩,⟨1,[],[.str]⟩,λx=>F224 uu x,[]⟩
theorem F224k:aak (F224C uu):=aad q0 p0
theorem S224_4ok:LoopOk (F224C uu) (lp (aaj Tryz.f224) 0):=okL (F224k uu) uu (S224_4l uu) L0
theorem F224ok:okP (F224c uu):=okE Tryz.f224 (F224k uu) (L1 (S224_4ok uu))
def F199 (h:PV):Option Bt:=(F197 uu (h.fld 0).asInt h).bind λy2=>bif (!y2) then some ([]:Bt) else let o:=(h.fld 0).asInt;bif (o==1) then (F221 uu ((h.fld 1).asInt==1)).bind λy8=>some y8 else bif (o==2) then (ata uu (IntKind.wrap .i64 (h.fld 1).asInt)).bind λI=>some I else bif (o==3) then (ata uu (IntKind.wrap .i64 (h.fld 1).asInt)).bind λJ=>some J else bif (o==6) then (F223 uu (h.fld 1).asInt).bind λM=>some M else bif (o==7) then (F198 uu (h.fld 2).asStr).bind λO=>some O else bif (o==8) then (F224 uu (h.fld 2).asStr).bind λZ=>(F198 uu Z).bind λH=>bif decide (([120]:Bt).length+H.length<=aao) then some (([120]:Bt)++H) else none else (F225 uu (h.fld 1).asInt (10:Int)).bind λaa=>some aa
def F199c:CallE:=⟨199,⟨1,[],[.data 45]⟩,⟨1,[],[.str]⟩,λx=>F199 uu x,[]⟩
theorem F199ok:okP (F199c uu):=okJ Tryz.f199 43 0 uu _ [] false (qc (F197ok uu)<|qc (F221ok uu)<|qc (a7h uu)<|qc (F223ok uu)<|qc (F198ok uu)<|qc (F224ok uu)<|qc (F225ok uu)<|q0) p0 L0
def F178 (h:PV):Option Bt:=(F196 uu h).bind λJ=>bif J then some (h.fld 2).asStr else (F197 uu (h.fld 0).asInt h).bind λM=>bif (!M) then some ([]:Bt) else bif (bif ((h.fld 0).asInt==6) then true else ((h.fld 0).asInt==8)) then (F199 uu h).bind λo=>(F198 uu o).bind λH=>some H else (F199 uu h).bind λI=>some I
def F178c:CallE:=⟨178,⟨1,[],[.data 45]⟩,⟨1,[],[.str]⟩,λx=>F178 uu x,[]⟩
theorem F178ok:okP (F178c uu):=okJ Tryz.f178 28 0 uu _ [] false (qc (F196ok uu)<|qc (F197ok uu)<|qc (F199ok uu)<|qc (F198ok uu)<|q0) p0 L0
def F133 (h:PV):Option Bt:=bif (!(h.fld 6).asBool) then some ([]:Bt) else (F178 uu (h.fld 7)).bind λo=>some o
def F133c:CallE:=⟨133,⟨1,[],[.data 50]⟩,⟨1,[],[.str]⟩,λx=>F133 uu x,[]⟩
theorem F133ok:okP (F133c uu):=okJ Tryz.f133 9 0 uu _ [] false (qc (F178ok uu)<|q0) p0 L0
def F95 (a0:Unit) (J:Bt) (h:PV) (o:PV) (a4:List PV):Option ((List PV)):=(F96 uu () (5:Int) J (h.fld 0).asInt (h.fld 1).asStr (o.fld 1).asStr (!((h.fld 1).asStr==(o.fld 1).asStr)) a4).bind λy7=>(F130 uu (h.fld 4)).bind λM=>(F130 uu (o.fld 4)).bind λO=>(F96 uu () (6:Int) J (h.fld 0).asInt M O (bif ((((h.fld 4).fld 0).asInt) != (((o.fld 4).fld 0).asInt)) then true else (!((((h.fld 4).fld 1).asStr)==(((o.fld 4).fld 1).asStr)))) y7).bind λZ=>(F131 uu (h.fld 2).asInt).bind λaa=>(F131 uu (o.fld 2).asInt).bind λab=>(F96 uu () (7:Int) J (h.fld 0).asInt aa ab ((h.fld 2).asInt != (o.fld 2).asInt) Z).bind λad=>(F132 uu (h.fld 3).asInt).bind λae=>(F132 uu (o.fld 3).asInt).bind λaf=>(F96 uu () (8:Int) J (h.fld 0).asInt ae af ((h.fld 3).asInt != (o.fld 3).asInt) ad).bind λag=>(F96 uu () (9:Int) J (h.fld 0).asInt (h.fld 5).asStr (o.fld 5).asStr (!((h.fld 5).asStr==(o.fld 5).asStr)) ag).bind λah=>let H:=h.fld 7;let I:=o.fld 7;(F133 uu h).bind λai=>(F133 uu o).bind λaj=>(F96 uu () (10:Int) J (h.fld 0).asInt ai aj (bif (bif (bif (!((h.fld 6).asBool==(o.fld 6).asBool)) then true else ((H.fld 0).asInt != (I.fld 0).asInt)) then true else ((H.fld 1).asInt != (I.fld 1).asInt)) then true else (!((H.fld 2).asStr==(I.fld 2).asStr))) ah).bind λak=>some ak
def F95c:CallE:=⟨95,⟨4,bx25,[(.con (.ref 0 [] 78)),.str,.data 50,.data 50,.acc 1 34]⟩,⟨0,bx25,[.acc 1 34]⟩,λx=>F95 uu x.1 x.2.1 x.2.2.1 x.2.2.2.1 x.2.2.2.2,[]⟩
theorem F95ok:okP (F95c uu):=okJ Tryz.f95 136 2 uu _ [] false (qc (F96ok uu)<|qc (F130ok uu)<|qc (F131ok uu)<|qc (F132ok uu)<|qc (F133ok uu)<|q0) p0 L0
abbrev S51_3x:=Unit×Unit×Unit×(List PV)×Int×Int×(List PV)×PV×PV
abbrev S51_3y:=(Unit×Unit×Unit×(List PV)×PV×PV)
def S51_3 (a3:Unit) (a4:Unit) (a5:Unit) (M:List PV) (O:Int) (I:Int) (Z:List PV) (h:PV) (o:PV):Option (S51_3x⊕S51_3y):=bif (decide (I<O)) then bif aaa I M.length then let H:=M.getD I.toNat .bad;(F26 uu o (H.fld 0).asInt).bind λJ=>bif J.2 then (F95 uu () (h.fld 0).asStr H J.1 Z).bind λaa=>some (.inl ((),(),(),M,O,(IntKind.wrap .i64 (I+1)),aa,h,o)) else (F21 uu () [(PV.agg [(PV.int (3:Int)),(PV.str (h.fld 0).asStr),(PV.int (H.fld 0).asInt),(PV.str (H.fld 1).asStr),(PV.str ([]:Bt))])] Z).bind λab=>some (.inl ((),(),(),M,O,(IntKind.wrap .i64 (I+1)),ab,h,o)) else none else some (.inr ((),(),(),Z,h,o))
def S51_3step (x:S51_3x):Option (S51_3x⊕S51_3y):=S51_3 uu x.1 x.2.1 x.2.2.1 x.2.2.2.1 x.2.2.2.2.1 x.2.2.2.2.2.1 x.2.2.2.2.2.2.1 x.2.2.2.2.2.2.2.1 x.2.2.2.2.2.2.2.2
abbrev S51_11x:=Unit×Unit×(List PV)×Int×Int×(List PV)×PV×PV
abbrev S51_11y:=((List PV)×PV×PV)
def S51_11 (ab:Unit) (ad:Unit) (H:List PV) (I:Int) (h:Int) (J:List PV) (o:PV) (M:PV):Option (S51_11x⊕S51_11y):=bif (decide (h<I)) then bif aaa h H.length then let O:=H.getD h.toNat .bad;(F26 uu o (O.fld 0).asInt).bind λZ=>bif (!Z.2) then (F21 uu () [(PV.agg [(PV.int (4:Int)),(PV.str (o.fld 0).asStr),(PV.int (O.fld 0).asInt),(PV.str ([]:Bt)),(PV.str (O.fld 1).asStr)])] J).bind λaa=>some (.inl ((),(),H,I,(IntKind.wrap .i64 (h+1)),aa,o,M)) else some (.inl ((),(),H,I,(IntKind.wrap .i64 (h+1)),J,o,M)) else none else some (.inr (J,o,M))
def S51_11step (x:S51_11x):Option (S51_11x⊕S51_11y):=S51_11 uu x.1 x.2.1 x.2.2.1 x.2.2.2.1 x.2.2.2.2.1 x.2.2.2.2.2.1 x.2.2.2.2.2.2.1 x.2.2.2.2.2.2.2
def F51 (O:Unit) (I:PV) (J:PV) (M:List PV):Option ((List PV)):=let x1:=(I.fld 1).asList;(aag uu (S51_3step uu) ((),(),(),x1,(x1.length:Int),(0:Int),M,I,J)).bind λh=>let o:=(h.2.2.2.2.2.fld 1).asList;(aag uu (S51_11step uu) ((),(),o,(o.length:Int),(0:Int),h.2.2.2.1,h.2.2.2.2.1,h.2.2.2.2.2)).bind λH=>some H.1
def S51_3l:LoopE:=⟨3,⟨[0,4,5,15,16,17],bx26,(.con (.ref 0 [] 78))::(.con (.ref 2 [] 55))::(.con (.ref 3 [] 55))::(.slice 50)::(.int .i64)::(.int .i64)::sv38⟩,[(.exit 0,⟨[0,4,5],bx26,(.con (.ref 0 [] 78))::(.con (.ref 2 [] 55))::(.con (.ref 3 [] 55))::sv38⟩)],S51_3step uu⟩
def S51_11l:LoopE:=⟨11,⟨[0,4,47,48,49],bx26,(.con (.ref 0 [] 78))::(.con (.ref 2 [] 55))::(.slice 50)::(.int .i64)::(.int .i64)::sv38⟩,[(.exit 2,⟨[],bx26,sv38⟩)],S51_11step uu⟩
def F51C:Cfg:=cfg Tryz.prog 73 2 [F26c uu,F95c uu,F21c uu] [S51_3l uu,S51_11l uu] uu
def F51c:CallE:=⟨51,⟨3,bx25,[(.con (.ref 0 [] 78)),.data 55,.data 55,.acc 1 34]⟩,⟨0,bx25,[.acc 1 34]⟩,λx=>F51 uu x.1 x.2.1 x.2.2.1 x.2.2.2,[]⟩
theorem F51k:aak (F51C uu):=aad (qc (F26ok uu)<|qc (F95ok uu)<|qc (F21ok uu)<|q0) p0
theorem S51_3ok:LoopOk (F51C uu) (lp (aaj Tryz.f51) 0):=okL (F51k uu) uu (S51_3l uu) L0
theorem S51_11ok:LoopOk (F51C uu) (lp (aaj Tryz.f51) 1):=okL (F51k uu) uu (S51_11l uu) L0
theorem F51ok:okP (F51c uu):=okE Tryz.f51 (F51k uu) (L2 (S51_3ok uu) (S51_11ok uu))
def F97 (uu:Nat) (h:Bool):Option Bt:=bif h then some ([111,112,101,110]:Bt) else some ([99,108,111,115,101,100]:Bt)
def F97c:CallE:=⟨97,⟨1,[],[.bool]⟩,⟨1,[],[.str]⟩,λx=>F97 uu x,[]⟩
theorem F97ok:okP (F97c uu):=okJ Tryz.f97 4 0 uu [] [] false q0 p0 L0
def F67 (uu:Nat) (o:PV) (H:Unit) (h:Int):Option (Bool×Int):=some (((o.fld 1).asInt==h),h)
def F67c:CallE:=⟨67,⟨2,bx3,[.data 98,(.con (.ref 0 [] 3)),.int .i64]⟩,⟨1,bx3,sv5⟩,λx=>F67 uu x.1 x.2.1 x.2.2,(false,0)⟩
theorem F67ok:okP (F67c uu):=okJ Tryz.f67 8 1 uu [] [] false q0 p0 L0
abbrev S66_3x:=Unit×Unit×(List PV)×Int×Int×Int×PV
abbrev S66_3y:=(Unit×Bool×Int×PV)⊕(Unit×Int×PV)
def S66_3 (Z:Unit) (a3:Unit) (I:List PV) (J:Int) (H:Int) (M:Int) (O:PV):Option (S66_3x⊕S66_3y):=bif (decide (H<J)) then bif aaa H I.length then let o:=I.getD H.toNat .bad;(F67 uu o () M).bind λh=>bif h.1 then some (.inr (.inl ((),true,h.2,o))) else some (.inl ((),(),I,J,(IntKind.wrap .i64 (H+1)),h.2,O)) else none else some (.inr (.inr ((),M,O)))
def S66_3step (x:S66_3x):Option (S66_3x⊕S66_3y):=S66_3 uu x.1 x.2.1 x.2.2.1 x.2.2.2.1 x.2.2.2.2.1 x.2.2.2.2.2.1 x.2.2.2.2.2.2
def F66 (H:List PV) (J:Unit) (I:Int):Option (PV×Bool×Int):=(aag uu (S66_3step uu) ((),(),H,(H.length:Int),(0:Int),I,(PV.agg [(PV.str ([]:Bt)),(PV.int (0:Int)),(PV.slice [])]))).bind λz=>sumE (λh=>some (h.2.2.2,h.2.1,h.2.2.1) ) (λo=>some ((PV.agg [(PV.str ([]:Bt)),(PV.int (0:Int)),(PV.slice [])]),false,o.2.1) ) z
def S66_3l:LoopE:=⟨3,⟨[1,4,9,10,11],bx27,(.con (.fn 67 0 [(.ref 0 [] 3)]))::(.con (.ref 1 [] 98))::(.slice 98)::(.int .i64)::(.int .i64)::sv39⟩,[(.ret,⟨[4,5],bx27,(.con (.ref 1 [] 98))::.bool::sv39⟩),(.exit 0,⟨[4],bx27,(.con (.ref 1 [] 98))::sv39⟩)],S66_3step uu⟩
def F66C:Cfg:=cfg Tryz.prog 21 1 [F67c uu] [S66_3l uu] uu
def F66c:CallE:=⟨66,⟨2,bx3,[.slice 98,(.con (.fn 67 0 [(.ref 0 [] 3)])),.int .i64]⟩,⟨2,bx3,(.data 98)::sv5⟩,λx=>F66 uu x.1 x.2.1 x.2.2,(PV.bad,false,0)⟩
theorem F66k:aak (F66C uu):=aad (qc (F67ok uu)<|q0) p0
theorem S66_3ok:LoopOk (F66C uu) (lp (aaj Tryz.f66) 0):=okL (F66k uu) uu (S66_3l uu) L0
theorem F66ok:okP (F66c uu):=okE Tryz.f66 (F66k uu) (L1 (S66_3ok uu))
def F27 (o:PV) (H:Int):Option (PV×Bool):=(F66 uu (o.fld 2).asList () H).bind λh=>some (h.1,h.2.1)
def F27c:CallE:=⟨27,⟨2,[],sv40⟩,⟨2,[],[.data 98,.bool]⟩,λx=>F27 uu x.1 x.2,(PV.bad,false)⟩
theorem F27ok:okP (F27c uu):=okJ Tryz.f27 12 0 uu _ [] false (qc (F66ok uu)<|q0) p0 L0
abbrev S52_4x:=Unit×Unit×Unit×(List PV)×Int×Int×(List PV)×PV×PV
abbrev S52_4y:=(Unit×Unit×Unit×(List PV)×PV×PV)
def S52_4 (ae:Unit) (af:Unit) (ag:Unit) (I:List PV) (M:Int) (o:Int) (O:List PV) (H:PV) (J:PV):Option (S52_4x⊕S52_4y):=bif (decide (o<M)) then bif aaa o I.length then let h:=I.getD o.toNat .bad;(F27 uu J (h.fld 1).asInt).bind λaa=>let Z:=aa.1;bif aa.2 then (F96 uu () (16:Int) (H.fld 0).asStr (h.fld 1).asInt (h.fld 0).asStr (Z.fld 0).asStr (!((h.fld 0).asStr==(Z.fld 0).asStr)) O).bind λab=>some (.inl ((),(),(),I,M,(IntKind.wrap .i64 (o+1)),ab,H,J)) else (F21 uu () [(PV.agg [(PV.int (14:Int)),(PV.str (H.fld 0).asStr),(PV.int (h.fld 1).asInt),(PV.str (h.fld 0).asStr),(PV.str ([]:Bt))])] O).bind λad=>some (.inl ((),(),(),I,M,(IntKind.wrap .i64 (o+1)),ad,H,J)) else none else some (.inr ((),(),(),O,H,J))
def S52_4step (x:S52_4x):Option (S52_4x⊕S52_4y):=S52_4 uu x.1 x.2.1 x.2.2.1 x.2.2.2.1 x.2.2.2.2.1 x.2.2.2.2.2.1 x.2.2.2.2.2.2.1 x.2.2.2.2.2.2.2.1 x.2.2.2.2.2.2.2.2
abbrev S52_12x:=Unit×Unit×(List PV)×Int×Int×(List PV)×PV×PV
abbrev S52_12y:=((List PV)×PV×PV)
def S52_12 (ab:Unit) (ad:Unit) (H:List PV) (I:Int) (h:Int) (J:List PV) (o:PV) (M:PV):Option (S52_12x⊕S52_12y):=bif (decide (h<I)) then bif aaa h H.length then let O:=H.getD h.toNat .bad;(F27 uu o (O.fld 1).asInt).bind λZ=>bif (!Z.2) then (F21 uu () [(PV.agg [(PV.int (15:Int)),(PV.str (o.fld 0).asStr),(PV.int (O.fld 1).asInt),(PV.str ([]:Bt)),(PV.str (O.fld 0).asStr)])] J).bind λaa=>some (.inl ((),(),H,I,(IntKind.wrap .i64 (h+1)),aa,o,M)) else some (.inl ((),(),H,I,(IntKind.wrap .i64 (h+1)),J,o,M)) else none else some (.inr (J,o,M))
def S52_12step (x:S52_12x):Option (S52_12x⊕S52_12y):=S52_12 uu x.1 x.2.1 x.2.2.1 x.2.2.2.1 x.2.2.2.2.1 x.2.2.2.2.2.1 x.2.2.2.2.2.2.1 x.2.2.2.2.2.2.2
def F52 (a0:Unit) (o:PV) (J:PV) (O:List PV):Option ((List PV)):=(F97 uu (o.fld 1).asBool).bind λZ=>(F97 uu (J.fld 1).asBool).bind λy5=>(F96 uu () (13:Int) (o.fld 0).asStr (-1:Int) Z y5 (!((o.fld 1).asBool==(J.fld 1).asBool)) O).bind λy9=>let H:=(o.fld 2).asList;(aag uu (S52_4step uu) ((),(),(),H,(H.length:Int),(0:Int),y9,o,J)).bind λh=>let I:=(h.2.2.2.2.2.fld 2).asList;(aag uu (S52_12step uu) ((),(),I,(I.length:Int),(0:Int),h.2.2.2.1,h.2.2.2.2.1,h.2.2.2.2.2)).bind λM=>some M.1
def S52_4l:LoopE:=⟨4,⟨[0,4,5,30,31,32],bx28,(.con (.ref 0 [] 78))::(.con (.ref 2 [] 85))::(.con (.ref 3 [] 85))::(.slice 98)::(.int .i64)::(.int .i64)::sv41⟩,[(.exit 0,⟨[0,4,5],bx28,(.con (.ref 0 [] 78))::(.con (.ref 2 [] 85))::(.con (.ref 3 [] 85))::sv41⟩)],S52_4step uu⟩
def S52_12l:LoopE:=⟨12,⟨[0,4,71,72,73],bx28,(.con (.ref 0 [] 78))::(.con (.ref 2 [] 85))::(.slice 98)::(.int .i64)::(.int .i64)::sv41⟩,[(.exit 2,⟨[],bx28,sv41⟩)],S52_12step uu⟩
def F52C:Cfg:=cfg Tryz.prog 97 2 [F97c uu,F96c uu,F27c uu,F21c uu] [S52_4l uu,S52_12l uu] uu
def F52c:CallE:=⟨52,⟨3,bx25,[(.con (.ref 0 [] 78)),.data 85,.data 85,.acc 1 34]⟩,⟨0,bx25,[.acc 1 34]⟩,λx=>F52 uu x.1 x.2.1 x.2.2.1 x.2.2.2,[]⟩
theorem F52k:aak (F52C uu):=aad (qc (F97ok uu)<|qc (F96ok uu)<|qc (F27ok uu)<|qc (F21ok uu)<|q0) p0
theorem S52_4ok:LoopOk (F52C uu) (lp (aaj Tryz.f52) 0):=okL (F52k uu) uu (S52_4l uu) L0
theorem S52_12ok:LoopOk (F52C uu) (lp (aaj Tryz.f52) 1):=okL (F52k uu) uu (S52_12l uu) L0
theorem F52ok:okP (F52c uu):=okE Tryz.f52 (F52k uu) (L2 (S52_4ok uu) (S52_12ok uu))
def F59 (uu:Nat) (o:PV) (H:Unit) (h:Bt):Option (Bool×Bt):=some (((o.fld 0).asStr==h),h)
def F59c:CallE:=⟨59,⟨2,bx1,(.data 90)::sv0⟩,⟨1,bx1,[.bool,.str]⟩,λx=>F59 uu x.1 x.2.1 x.2.2,(false,[])⟩
theorem F59ok:okP (F59c uu):=okJ Tryz.f59 8 1 uu [] [] false q0 p0 L0
abbrev S58_3x:=Unit×Unit×(List PV)×Int×Int×Bt×PV
abbrev S58_3y:=(Unit×Bool×Bt×PV)⊕(Unit×Bt×PV)
def S58_3 (Z:Unit) (a3:Unit) (I:List PV) (J:Int) (H:Int) (M:Bt) (O:PV):Option (S58_3x⊕S58_3y):=bif (decide (H<J)) then bif aaa H I.length then let o:=I.getD H.toNat .bad;(F59 uu o () M).bind λh=>bif h.1 then some (.inr (.inl ((),true,h.2,o))) else some (.inl ((),(),I,J,(IntKind.wrap .i64 (H+1)),h.2,O)) else none else some (.inr (.inr ((),M,O)))
def S58_3step (x:S58_3x):Option (S58_3x⊕S58_3y):=S58_3 uu x.1 x.2.1 x.2.2.1 x.2.2.2.1 x.2.2.2.2.1 x.2.2.2.2.2.1 x.2.2.2.2.2.2
def F58 (H:List PV) (J:Unit) (I:Bt):Option (PV×Bool×Bt):=(aag uu (S58_3step uu) ((),(),H,(H.length:Int),(0:Int),I,(PV.agg [(PV.str ([]:Bt)),(PV.slice []),(PV.slice [])]))).bind λz=>sumE (λh=>some (h.2.2.2,h.2.1,h.2.2.1) ) (λo=>some ((PV.agg [(PV.str ([]:Bt)),(PV.slice []),(PV.slice [])]),false,o.2.1) ) z
def S58_3l:LoopE:=⟨3,⟨[1,4,9,10,11],bx29,(.con (.fn 59 0 [(.ref 0 [] 9)]))::(.con (.ref 1 [] 90))::(.slice 90)::(.int .i64)::(.int .i64)::sv42⟩,[(.ret,⟨[4,5],bx29,(.con (.ref 1 [] 90))::.bool::sv42⟩),(.exit 0,⟨[4],bx29,(.con (.ref 1 [] 90))::sv42⟩)],S58_3step uu⟩
def F58C:Cfg:=cfg Tryz.prog 21 1 [F59c uu] [S58_3l uu] uu
def F58c:CallE:=⟨58,⟨2,bx1,[.slice 90,(.con (.fn 59 0 [(.ref 0 [] 9)])),.str]⟩,⟨2,bx1,[.data 90,.bool,.str]⟩,λx=>F58 uu x.1 x.2.1 x.2.2,(PV.bad,false,[])⟩
theorem F58k:aak (F58C uu):=aad (qc (F59ok uu)<|q0) p0
theorem S58_3ok:LoopOk (F58C uu) (lp (aaj Tryz.f58) 0):=okL (F58k uu) uu (S58_3l uu) L0
theorem F58ok:okP (F58c uu):=okE Tryz.f58 (F58k uu) (L1 (S58_3ok uu))
def F23 (o:PV) (H:Bt):Option (PV×Bool):=(F58 uu (o.fld 2).asList () H).bind λh=>some (h.1,h.2.1)
def F23c:CallE:=⟨23,⟨2,[],sv2⟩,⟨2,[],[.data 90,.bool]⟩,λx=>F23 uu x.1 x.2,(PV.bad,false)⟩
theorem F23ok:okP (F23c uu):=okJ Tryz.f23 12 0 uu _ [] false (qc (F58ok uu)<|q0) p0 L0
abbrev S98_3x:=Bt×Unit×(List PV)×Int×Int×PV×PV
abbrev S98_3y:=(Unit×Bool×PV×PV)⊕(Unit×PV×PV)
def S98_3 (uu:Nat) (J:Bt) (Z:Unit) (H:List PV) (M:Int) (o:Int) (I:PV) (O:PV):Option (S98_3x⊕S98_3y):=bif (decide (o<M)) then bif aaa o H.length then let h:=H.getD o.toNat .bad;bif ((h.fld 0).asStr==J) then some (.inr (.inl ((),true,I,h))) else some (.inl (J,(),H,M,(IntKind.wrap .i64 (o+1)),I,O)) else none else some (.inr (.inr ((),I,O)))
def S98_3step (x:S98_3x):Option (S98_3x⊕S98_3y):=S98_3 uu x.1 x.2.1 x.2.2.1 x.2.2.2.1 x.2.2.2.2.1 x.2.2.2.2.2.1 x.2.2.2.2.2.2
def F98 (o:PV) (H:Bt):Option (PV×Bool):=let x1:=(o.fld 1).asList;(aag uu (S98_3step uu) (H,(),x1,(x1.length:Int),(0:Int),o,(PV.agg [(PV.str ([]:Bt)),(PV.str ([]:Bt)),(PV.str ([]:Bt)),(PV.int (0:Int)),(PV.slice [])]))).bind λz=>sumE (λh=>some (h.2.2.2,h.2.1) ) (λI=>some ((PV.agg [(PV.str ([]:Bt)),(PV.str ([]:Bt)),(PV.str ([]:Bt)),(PV.int (0:Int)),(PV.slice [])]),false) ) z
def S98_3l:LoopE:=⟨3,⟨[1,4,9,10,11],bx30,.str::(.con (.ref 1 [] 102))::(.slice 102)::(.int .i64)::(.int .i64)::sv43⟩,[(.ret,⟨[4,5],bx30,(.con (.ref 1 [] 102))::.bool::sv43⟩),(.exit 0,⟨[4],bx30,(.con (.ref 1 [] 102))::sv43⟩)],S98_3step uu⟩
def F98C:Cfg:=cfg Tryz.prog 22 0 [] [S98_3l uu] uu
def F98c:CallE:=⟨98,⟨2,[],[.data 90,.str]⟩,⟨2,[],sv44⟩,λx=>F98 uu x.1 x.2,(PV.bad,false)⟩
theorem F98k:aak (F98C uu):=aad q0 p0
theorem S98_3ok:LoopOk (F98C uu) (lp (aaj Tryz.f98) 0):=okL (F98k uu) uu (S98_3l uu) L0
theorem F98ok:okP (F98c uu):=okE Tryz.f98 (F98k uu) (L1 (S98_3ok uu))
end
end Go.Ab
