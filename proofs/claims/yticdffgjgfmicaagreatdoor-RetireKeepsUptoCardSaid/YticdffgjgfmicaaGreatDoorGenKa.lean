/- A part of the proof: lemmas on how the program runs over plain data. -/
import Derived.Test.YticdffgjgfmicaaGreatDoorAbAwK
set_option linter.unusedVariables false
set_option linter.unusedSimpArgs false
set_option linter.unnecessarySimpa false
namespace Go.Ab
open Go Go.Proofs
set_option maxRecDepth 100000
noncomputable section
def Y2{A0 A1 R:Type}(f:A0->A1->R)(x:A0×A1):R:=f x.1 x.2
def Y3{A0 A1 A2 R:Type}(f:A0->A1->A2->R)(x:A0×A1×A2):R:=f x.1 x.2.1 x.2.2
def Y4{A0 A1 A2 A3 R:Type}(f:A0->A1->A2->A3->R)(x:A0×A1×A2×A3):R:=f x.1 x.2.1 x.2.2.1 x.2.2.2
def Y5{A0 A1 A2 A3 A4 R:Type}(f:A0->A1->A2->A3->A4->R)(x:A0×A1×A2×A3×A4):R:=f x.1 x.2.1 x.2.2.1 x.2.2.2.1 x.2.2.2.2
def Y6{A0 A1 A2 A3 A4 A5 R:Type}(f:A0->A1->A2->A3->A4->A5->R)(x:A0×A1×A2×A3×A4×A5):R:=f x.1 x.2.1 x.2.2.1 x.2.2.2.1 x.2.2.2.2.1 x.2.2.2.2.2
def Y7{A0 A1 A2 A3 A4 A5 A6 R:Type}(f:A0->A1->A2->A3->A4->A5->A6->R)(x:A0×A1×A2×A3×A4×A5×A6):R:=f x.1 x.2.1 x.2.2.1 x.2.2.2.1 x.2.2.2.2.1 x.2.2.2.2.2.1 x.2.2.2.2.2.2
def Y8{A0 A1 A2 A3 A4 A5 A6 A7 R:Type}(f:A0->A1->A2->A3->A4->A5->A6->A7->R)(x:A0×A1×A2×A3×A4×A5×A6×A7):R:=f x.1 x.2.1 x.2.2.1 x.2.2.2.1 x.2.2.2.2.1 x.2.2.2.2.2.1 x.2.2.2.2.2.2.1 x.2.2.2.2.2.2.2
def Y9{A0 A1 A2 A3 A4 A5 A6 A7 A8 R:Type}(f:A0->A1->A2->A3->A4->A5->A6->A7->A8->R)(x:A0×A1×A2×A3×A4×A5×A6×A7×A8):R:=f x.1 x.2.1 x.2.2.1 x.2.2.2.1 x.2.2.2.2.1 x.2.2.2.2.2.1 x.2.2.2.2.2.2.1 x.2.2.2.2.2.2.2.1 x.2.2.2.2.2.2.2.2
def Y10{A0 A1 A2 A3 A4 A5 A6 A7 A8 A9 R:Type}(f:A0->A1->A2->A3->A4->A5->A6->A7->A8->A9->R)(x:A0×A1×A2×A3×A4×A5×A6×A7×A8×A9):R:=f x.1 x.2.1 x.2.2.1 x.2.2.2.1 x.2.2.2.2.1 x.2.2.2.2.2.1 x.2.2.2.2.2.2.1 x.2.2.2.2.2.2.2.1 x.2.2.2.2.2.2.2.2.1 x.2.2.2.2.2.2.2.2.2
def Y11{A0 A1 A2 A3 A4 A5 A6 A7 A8 A9 A10 R:Type}(f:A0->A1->A2->A3->A4->A5->A6->A7->A8->A9->A10->R)(x:A0×A1×A2×A3×A4×A5×A6×A7×A8×A9×A10):R:=f x.1 x.2.1 x.2.2.1 x.2.2.2.1 x.2.2.2.2.1 x.2.2.2.2.2.1 x.2.2.2.2.2.2.1 x.2.2.2.2.2.2.2.1 x.2.2.2.2.2.2.2.2.1 x.2.2.2.2.2.2.2.2.2.1 x.2.2.2.2.2.2.2.2.2.2
def Y12{A0 A1 A2 A3 A4 A5 A6 A7 A8 A9 A10 A11 R:Type}(f:A0->A1->A2->A3->A4->A5->A6->A7->A8->A9->A10->A11->R)(x:A0×A1×A2×A3×A4×A5×A6×A7×A8×A9×A10×A11):R:=f x.1 x.2.1 x.2.2.1 x.2.2.2.1 x.2.2.2.2.1 x.2.2.2.2.2.1 x.2.2.2.2.2.2.1 x.2.2.2.2.2.2.2.1 x.2.2.2.2.2.2.2.2.1 x.2.2.2.2.2.2.2.2.2.1 x.2.2.2.2.2.2.2.2.2.2.1 x.2.2.2.2.2.2.2.2.2.2.2
def Y13{A0 A1 A2 A3 A4 A5 A6 A7 A8 A9 A10 A11 A12 R:Type}(f:A0->A1->A2->A3->A4->A5->A6->A7->A8->A9->A10->A11->A12->R)(x:A0×A1×A2×A3×A4×A5×A6×A7×A8×A9×A10×A11×A12):R:=f x.1 x.2.1 x.2.2.1 x.2.2.2.1 x.2.2.2.2.1 x.2.2.2.2.2.1 x.2.2.2.2.2.2.1 x.2.2.2.2.2.2.2.1 x.2.2.2.2.2.2.2.2.1 x.2.2.2.2.2.2.2.2.2.1 x.2.2.2.2.2.2.2.2.2.2.1 x.2.2.2.2.2.2.2.2.2.2.2.1 x.2.2.2.2.2.2.2.2.2.2.2.2
abbrev okP(c:CallE):Prop:=c.Ok Tryz.prog
variable(uu:Nat)
abbrev bx0:List BSh:=[.box 379 .leaf,.acc]
abbrev bx1:List BSh:=[.box 24 .leaf]
abbrev bx2:List BSh:=[.box 37 .leaf]
abbrev bx3:List BSh:=[.box 42 .leaf,.box 74 .leaf]
abbrev bx4:List BSh:=[.box 42 .leaf,.acc]
abbrev bx5:List BSh:=[.box 195 (.agg 195 [.leaf,.leaf]),.acc]
abbrev bx6:List BSh:=[.box 42 .leaf]
abbrev bx7:List BSh:=[.arr 4 0,.box 42 .leaf,.box 74 .leaf]
abbrev bx8:List BSh:=[.box 42 .leaf,.arr 4 0]
abbrev bx9:List BSh:=[.box 74 .leaf,.box 69 .leaf]
abbrev bx10:List BSh:=[.box 42 .leaf,.box 69 .leaf,.box 64 .leaf]
abbrev bx11:List BSh:=[.box 42 .leaf,.box 74 .leaf,.box 195 (.agg 195 [.leaf,.leaf]),.acc,.box 69 .leaf]
abbrev bx12:List BSh:=[.box 42 .leaf,.box 74 .leaf,.box 195 (.agg 195 [.leaf,.leaf]),.acc]
abbrev bx13:List BSh:=[.box 121 .leaf,.box 195 (.agg 195 [.leaf,.leaf]),.acc,.box 124 .leaf]
abbrev bx14:List BSh:=[.box 121 .leaf,.box 195 (.agg 195 [.leaf,.leaf]),.acc]
abbrev bx15:List BSh:=[.box 42 .leaf,.box 127 .leaf,.box 195 (.agg 195 [.leaf,.leaf]),.acc]
abbrev bx16:List BSh:=[.box 42 .leaf,.box 195 (.agg 195 [.leaf,.leaf]),.acc]
abbrev bx17:List BSh:=[.box 74 .leaf,.box 74 .leaf,.box 74 (.agg 74 [.leaf,.leaf,.leaf,.leaf,.leaf]),.acc]
abbrev bx18:List BSh:=[.box 121 .leaf,.box 121 .leaf,.box 121 (.agg 121 [.leaf,.leaf,.leaf,.leaf,.leaf]),.acc]
abbrev bx19:List BSh:=[.box 127 .leaf,.box 127 .leaf,.box 127 (.agg 127 [.leaf,.leaf,.leaf]),.acc]
abbrev bx20:List BSh:=[.box 42 .leaf,.box 42 .leaf,.box 42 (.agg 42 [.leaf,.leaf,.leaf]),.acc,.acc,.acc]
abbrev bx21:List BSh:=[.box 42 .leaf,.box 112 .leaf,.box 112 (.agg 112 [.leaf,.leaf,.leaf,.leaf,.leaf,.leaf]),.acc,.acc,.box 74 .leaf,.box 74 (.agg 74 [.leaf,.leaf,.leaf,.leaf,.leaf]),.acc]
abbrev bx22:List BSh:=[.box 42 .leaf,.box 112 .leaf,.box 112 (.agg 112 [.leaf,.leaf,.leaf,.leaf,.leaf,.leaf]),.acc,.acc]
abbrev bx23:List BSh:=[.box 42 .leaf,.box 112 .leaf,.box 112 (.agg 112 [.leaf,.leaf,.leaf,.leaf,.leaf,.leaf]),.acc,.acc,.box 127 .leaf,.box 127 (.agg 127 [.leaf,.leaf,.leaf]),.acc]
abbrev bx24:List BSh:=[.box 112 .leaf,.box 74 .leaf]
abbrev bx25:List BSh:=[.box 112 .leaf]
abbrev bx26:List BSh:=[.box 64 .leaf,.box 64 .leaf]
abbrev bx27:List BSh:=[.box 74 .leaf,.box 74 .leaf]
abbrev bx28:List BSh:=[.box 121 .leaf,.box 121 .leaf]
abbrev bx29:List BSh:=[.box 127 .leaf,.box 127 .leaf]
abbrev bx30:List BSh:=[.box 42 .leaf,.box 42 .leaf]
abbrev bx31:List BSh:=[.box 24 .leaf,.box 37 .leaf]
abbrev bx32:List BSh:=[.box 47 .leaf]
abbrev bx33:List BSh:=[.box 9 .leaf]
abbrev bx34:List BSh:=[.box 56 .leaf,.box 37 .leaf]
abbrev bx35:List BSh:=[.box 56 .leaf]
abbrev bx36:List BSh:=[.box 47 .leaf,.box 56 .leaf]
abbrev bx37:List BSh:=[.box 42 .leaf,.box 150 .leaf,.box 150 (.agg 150 [.leaf,.leaf,.leaf]),.acc,.acc,.acc]
abbrev bx38:List BSh:=[.box 149 (.agg 149 [.leaf,.leaf,.leaf]),.acc]
abbrev bx39:List BSh:=[.box 150 .leaf]
abbrev bx40:List BSh:=[.box 42 .leaf,.box 155 .leaf,.map 9 4]
abbrev bx41:List BSh:=[.box 42 .leaf,.map 9 4,.box 155 .leaf]
abbrev bx42:List BSh:=[.box 281 .leaf,.box 70 .leaf,.box 3 .leaf]
abbrev bx43:List BSh:=[.box 69 .leaf]
abbrev bx44:List BSh:=[.box 42 .leaf,.box 74 .leaf,.box 149 (.agg 149 [.leaf,.leaf,.leaf]),.acc]
abbrev bx45:List BSh:=[.box 214 .leaf,.box 119 .leaf,.box 3 .leaf]
abbrev bx46:List BSh:=[.box 121 .leaf,.box 149 (.agg 149 [.leaf,.leaf,.leaf]),.acc]
abbrev bx47:List BSh:=[.box 42 .leaf,.box 127 .leaf,.box 149 (.agg 149 [.leaf,.leaf,.leaf]),.acc]
abbrev bx48:List BSh:=[.box 42 .leaf,.box 149 (.agg 149 [.leaf,.leaf,.leaf]),.box 150 .leaf,.acc]
abbrev bx49:List BSh:=[.box 42 .leaf,.box 42 .leaf,.box 42 (.agg 42 [.leaf,.leaf,.leaf]),.acc,.acc,.acc,.box 74 (.agg 74 [.leaf,.leaf,.leaf,.leaf,.leaf]),.arr 69 0]
abbrev bx50:List BSh:=[.box 42 .leaf,.box 42 .leaf,.box 42 (.agg 42 [.leaf,.leaf,.leaf]),.acc,.acc,.acc,.box 121 (.agg 121 [.leaf,.leaf,.leaf,.leaf,.leaf]),.arr 124 0]
abbrev bx51:List BSh:=[.box 42 .leaf,.box 42 .leaf,.box 42 (.agg 42 [.leaf,.leaf,.leaf]),.acc,.acc,.acc,.box 127 (.agg 127 [.leaf,.leaf,.leaf]),.arr 130 0]
abbrev bx52:List BSh:=[.box 42 .leaf,.box 121 .leaf]
abbrev bx53:List BSh:=[.box 42 .leaf,.box 112 .leaf,.box 112 (.agg 112 [.leaf,.leaf,.leaf,.leaf,.leaf,.leaf]),.acc,.acc,.box 74 (.agg 74 [.leaf,.leaf,.leaf,.leaf,.leaf]),.arr 69 0]
abbrev bx54:List BSh:=[.box 42 .leaf,.box 112 .leaf,.box 112 (.agg 112 [.leaf,.leaf,.leaf,.leaf,.leaf,.leaf]),.acc,.acc,.box 127 (.agg 127 [.leaf,.leaf,.leaf]),.arr 130 0]
abbrev bx55:List BSh:=[.box 177 .leaf]
abbrev bx56:List BSh:=[.box 106 .leaf]
abbrev bx57:List BSh:=[.box 283 .leaf]
abbrev bx58:List BSh:=[.box 292 .leaf]
abbrev bx59:List BSh:=[.box 295 .leaf]
abbrev bx60:List BSh:=[.box 296 .leaf]
abbrev bx61:List BSh:=[.box 112 .leaf,.acc]
abbrev bx62:List BSh:=[.bld 237]
abbrev sv77:List Shape:=[(.con (.fn 26 0 []))]
abbrev sv101:List Shape:=[(.con (.fn 27 0 []))]
abbrev sv102:List Shape:=[(.con (.fn 28 0 []))]
abbrev sv0:List Shape:=[.int .u64,.int .i64]
abbrev sv1:List Shape:=[.int .i64,.data 24]
abbrev sv2:List Shape:=[.bool,.data 24]
abbrev sv5:List Shape:=[.str,.int .i64]
abbrev sv7:List Shape:=[.int .i64,.data 37]
abbrev sv8:List Shape:=[.bool,.data 37]
abbrev sv9:List Shape:=[.data 42,.data 74]
abbrev sv10:List Shape:=[.data 42,.str]
abbrev sv12:List Shape:=[.acc 1 9,.data 42]
abbrev sv14:List Shape:=[.str,.acc 1 205]
abbrev sv15:List Shape:=[.slice 9,.int .i64]
abbrev sv16:List Shape:=[.slice 9,.str]
abbrev sv17:List Shape:=[.slice 9,.slice 9]
abbrev sv19:List Shape:=[.int .i64,.data 42]
abbrev sv22:List Shape:=[.data 42,.slice 4]
abbrev sv24:List Shape:=[.slice 117,.int .i64]
abbrev sv25:List Shape:=[.data 42,.data 69]
abbrev sv26:List Shape:=[.data 74,.data 69]
abbrev sv27:List Shape:=[.data 64,.data 64]
abbrev sv32:List Shape:=[.slice 66,.int .i64]
abbrev sv34:List Shape:=[.str,.acc 2 205]
abbrev sv35:List Shape:=[.str,.acc 3 205]
abbrev sv44:List Shape:=[.str,.data 42]
abbrev sv51:List Shape:=[.bool,.data 112]
abbrev sv53:List Shape:=[.slice 69,.int .i64]
abbrev sv54:List Shape:=[.int .i64,.int .i64]
abbrev sv57:List Shape:=[.int .i64,.data 112]
abbrev sv58:List Shape:=[.str,.data 74]
abbrev sv59:List Shape:=[.str,.data 121]
abbrev sv60:List Shape:=[.str,.data 127]
abbrev sv63:List Shape:=[.str,.data 112]
abbrev sv67:List Shape:=[.data 74,.data 74]
abbrev sv68:List Shape:=[.data 121,.data 121]
abbrev sv69:List Shape:=[.data 127,.data 127]
abbrev sv72:List Shape:=[.data 42,.data 42]
abbrev sv73:List Shape:=[.data 24,.int .i64]
abbrev sv74:List Shape:=[.data 24,.data 37]
abbrev sv75:List Shape:=[(.con (.ref 0 [] 9)),.str]
abbrev sv76:List Shape:=[.data 37,.data 45]
abbrev sv82:List Shape:=[.int .i64,.data 150]
abbrev sv85:List Shape:=[(.con (.ref 0 [] 69)),.data 69]
abbrev sv86:List Shape:=[.bool,.data 69]
abbrev sv93:List Shape:=[.int .i64,.slice 66]
abbrev sv96:List Shape:=[.slice 66,.slice 130]
abbrev sv97:List Shape:=[.data 42,.data 121]
abbrev sv99:List Shape:=[.acc 1 229,.data 112]
abbrev sv3:List Shape:=(.con (.ref 0 [] 24))::sv1
abbrev sv4:List Shape:=(.int .i64)::sv1
abbrev sv6:List Shape:=.str::sv5
abbrev sv18:List Shape:=(.con (.ref 0 [] 42))::sv19
abbrev sv20:List Shape:=(.slice 4)::sv9
abbrev sv21:List Shape:=(.int .i64)::sv22
abbrev sv23:List Shape:=(.slice 117)::sv54
abbrev sv28:List Shape:=(.int .i64)::sv54
abbrev sv29:List Shape:=.str::sv54
abbrev sv30:List Shape:=[.data 42,.data 69,.data 64]
abbrev sv31:List Shape:=(.slice 66)::sv54
abbrev sv40:List Shape:=[.slice 117,.slice 9,.slice 66]
abbrev sv47:List Shape:=[.int .i64,.data 112,.data 74]
abbrev sv49:List Shape:=(.con (.ref 0 [] 112))::sv51
abbrev sv52:List Shape:=(.slice 69)::sv54
abbrev sv62:List Shape:=(.con (.ref 0 [] 112))::sv63
abbrev sv65:List Shape:=.bool::sv27
abbrev sv71:List Shape:=.bool::sv72
abbrev sv81:List Shape:=[.str,.int .i64,.acc 1 205]
abbrev sv84:List Shape:=[.data 42,.map 9 4,(.con (.mref 1))]
abbrev sv88:List Shape:=[.str,.int .i64,.acc 3 205]
abbrev sv98:List Shape:=(.int .i64)::sv57
abbrev sv100:List Shape:=[.int .i64,.int .i64,.str]
abbrev sv13:List Shape:=(.int .i64)::(.int .i64)::sv14
abbrev sv33:List Shape:=(.data 42)::(.data 74)::sv35
abbrev sv38:List Shape:=(.int .i64)::(.data 42)::sv34
abbrev sv39:List Shape:=(.con (.ref 1 [] 195))::(.data 42)::sv34
abbrev sv48:List Shape:=(.con (.ref 0 [] 112))::.bool::sv57
abbrev sv56:List Shape:=(.con (.ref 0 [] 112))::sv98
abbrev sv61:List Shape:=(.con (.ref 0 [] 112))::.str::sv57
abbrev sv66:List Shape:=(.con (.ref 0 [] 64))::(.con (.ref 1 [] 64))::sv27
abbrev sv80:List Shape:=(.int .i64)::sv81
abbrev sv94:List Shape:=[.slice 117,.slice 9,.slice 66,.slice 69]
abbrev sv11:List Shape:=(.int .i64)::(.con (.ref 0 [] 42))::(.acc 1 9)::sv19
abbrev sv37:List Shape:=(.con (.ref 0 [] 42))::sv39
abbrev sv50:List Shape:=(.con (.ref 0 [] 112))::.bool::sv98
abbrev sv55:List Shape:=(.con (.ref 0 [] 112))::(.int .i64)::sv98
abbrev sv64:List Shape:=(.con (.ref 0 [] 64))::(.con (.ref 1 [] 64))::(.int .i64)::sv27
abbrev sv70:List Shape:=(.con (.ref 0 [] 42))::(.con (.ref 1 [] 42))::(.int .i64)::sv72
abbrev sv83:List Shape:=(.int .i64)::(.int .i64)::sv84
abbrev sv87:List Shape:=(.data 42)::(.data 74)::sv88
abbrev sv90:List Shape:=[.data 42,.str,.int .i64,.acc 3 205,.data 150]
abbrev sv36:List Shape:=(.con (.ref 0 [] 42))::(.con (.ref 1 [] 195))::sv38
abbrev sv89:List Shape:=(.int .i64)::sv90
abbrev sv92:List Shape:=(.con (.ref 1 [] 149))::sv90
abbrev sv43:List Shape:=[(.con (.ref 1 [] 42)),(.con (.ref 2 [] 42)),.data 42,.data 42,.acc 3 74,.acc 4 121,.acc 5 127]
abbrev sv78:List Shape:=[.int .i64,.int .i64,.data 42,.data 150,.acc 3 9,.acc 4 9,.acc 5 9]
abbrev sv79:List Shape:=[(.con (.ref 1 [] 150)),(.con (.ref 2 [] 150)),.data 42,.data 150,.acc 3 9,.acc 4 9,.acc 5 9]
abbrev sv91:List Shape:=(.int .i64)::sv89
abbrev sv95:List Shape:=[.int .i64,.int .i64,.data 42,.data 42,.acc 3 74,.acc 4 121,.acc 5 127]
abbrev sv42:List Shape:=(.con (.ref 0 [] 42))::sv43
abbrev sv41:List Shape:=[(.con (.ref 0 [] 42)),(.con (.ref 1 [] 42)),(.con (.ref 2 [] 42)),.int .i64,.data 42,.data 42,.acc 3 74,.acc 4 121,.acc 5 127]
abbrev sv45:List Shape:=[.int .i64,.data 42,.data 112,.str,.str,.slice 9,.acc 3 74,.slice 121,.acc 4 127]
abbrev sv46:List Shape:=[(.con (.ref 1 [] 112)),(.con (.ref 2 [] 112)),.data 42,.data 112,.str,.str,.slice 9,.acc 3 74,.slice 121,.acc 4 127]
abbrev T0a:=Unit×Unit×Unit×(List PV)×Int×Int×PV×PV×(List PV)×(List PV)×(List PV)
abbrev T1a:=Unit×Unit×Int×PV×PV
abbrev T2a:=Unit×Bool×Int×PV
abbrev T3a:=Unit×Unit×Unit×Unit×(List PV)×Int×Int×Unit×Int×Int×PV×PV×Bn×Bn×(List PV)×(List PV)×(List PV)×(List PV)×Bn×Unit×(List PV)×(List PV)×(List PV)×(List PV)
abbrev T4a:=Unit×Unit×Unit×Int×PV×PV×Bn×Bn×(List PV)×(List PV)×(List PV)×(List PV)
abbrev T5a:=Unit×Unit×Unit×Int×PV×PV×(List PV)×(List PV)×(List PV)
abbrev T6a:=Unit×Unit×Unit×Int×Unit×Unit×Int×PV×PV×Bn×Bn×(List PV)×(List PV)×(List PV)×(List PV)×PV×Bn×(List PV)×(List PV)×(List PV)×(List PV)
abbrev T7a:=Unit×Unit×Int×PV×Bn×(List PV)
abbrev T8a:=Unit×Unit×Unit×PV×PV×(List PV)×(List PV)×(List PV)
abbrev T9a:=Unit×Unit×Unit×(List PV)×Int×Int×Int×Int×PV×PV×Bn×Bn×(List PV)×(List PV)×(List PV)×(List PV)×Bn×Unit×(List PV)×(List PV)
abbrev T10a:=Unit×Bn×Int×PV
abbrev T11a:=Unit×Unit×Unit×Unit×(List PV)×Int×Int×Int×Int×PV×PV×(List PV)×(List PV)×(List PV)×Bn×Unit×(List PV)×(List PV)×(List PV)×(List PV)
abbrev T12a:=Unit×Unit×Unit×Int×Unit×Unit×Int×PV×PV×Bn×Bn×(List PV)×(List PV)×(List PV)×(List PV)×PV×Bn×(List PV)×(List PV)
abbrev T13a:=Unit×Unit×Unit×Unit×(List PV)×Int×Int×Int×Int×PV×PV×(List PV)×(List PV)×(List PV)×Bn×Bool×Unit×(List PV)×(List PV)×(List PV)
abbrev T14a:=Unit×Unit×(List PV)×Int×Int×PV×PV×(List PV)×(List PV)×(List PV)
abbrev T15a:=Unit×Unit×(List PV)×Int×Int×PV×Bn×Int×(List PV)×PV
abbrev T16a:=Unit×Int×PV
abbrev T17a:=Unit×Unit×(List PV)×Int×Int×Bn
abbrev T18a:=Unit×(List PV)×(List PV)×Int×Int×(List PV)×Int×Int×PV×PV
abbrev T19a:=(List PV)×Unit×Unit×Unit×Int×PV×PV×Bn×(List PV)
abbrev T20a:=Unit×Unit×Unit×(List PV)×Int×Int×Int×Int×PV×PV×(List PV)×(List PV)×(List PV)×Bn×Unit×(List PV)×(List PV)
abbrev T21a:=(Bool)⊕(Unit)
abbrev T22a:=(List PV)×(List PV)×Int
abbrev T23a:=Unit×Unit×Unit×(List PV)×Int×Int×PV×PV×Bn×Bn×(List PV)×(List PV)×(List PV)×(List PV)
abbrev T24a:=Unit×Unit×(List PV)×Int×Int×PV×PV×Bn×Bn×(List PV)×(List PV)×(List PV)×(List PV)
abbrev T25a:=(List PV)×Bn×Int
abbrev T26a:=Unit×Int×Int×PV
abbrev T27a:=Unit×Bool×Int×Int×PV
abbrev T28a:=Unit×Unit×Unit×PV×PV×Bn×Bn×(List PV)×(List PV)×(List PV)×(List PV)
abbrev T29a:=(List PV)×Int×Int
abbrev T30a:=(Bool×PV×PV)⊕(Unit×Unit×PV×PV)
abbrev T31a:=(List (PV×PV))×Unit×Unit×Unit×(List PV)×Int×Int×PV×PV×Bn×Int×(List PV)
abbrev T32a:=Bn×Bn×Int
abbrev T33a:=Int×Unit×(List PV)×Int×PV
abbrev T34a:=(List PV)×(List PV)×Int×Int
abbrev T35a:=Unit×Unit×PV×PV×Bn×Bn×(List PV)×(List PV)×(List PV)×(List PV)
abbrev T36a:=(List PV)×Unit×Unit×Unit×Int×Unit×Bool×Int×PV×PV×Bn×(List PV)×PV
abbrev T37a:=Unit×Unit×Unit×Int×PV×PV×Bn×(List PV)×(List PV)×(List PV)×(List PV)
abbrev T38a:=Unit×Unit×(List (PV×PV))×(List PV)×Int×Int×PV×Bn×Int×(List PV)×PV
abbrev T39a:=Bn×Int×(List PV)×Int×Int×PV
abbrev T40a:=(List PV)×Int×Bool×Bool×(List PV)×Bn×Unit×Int×Int×Int×Int×PV
abbrev T41a:=Unit×Unit×Unit×Int×PV×PV×Bn×Bool×(List PV)×(List PV)×(List PV)
abbrev T42a:=(List (PV×PV))×Unit×Unit×Unit×Int×Int×PV×PV×Bn×Int×(List PV)
abbrev T43a:=Unit×(List PV)×(List PV)×Int×Int×PV
abbrev T44a:=Unit×Unit×PV×Bn×(List PV)
abbrev T45a:=Unit×Unit×PV×PV×(List PV)×(List PV)×(List PV)
abbrev T46a:=Unit×(List PV)×Int×Int×(List PV)×Int×Int×Bn×Int×(List PV)
abbrev T47a:=Unit×Unit×Unit×(List PV)×Int×Int×PV×PV×Bn×Int×(List PV)
abbrev T48a:=(Bool×PV×PV)⊕(PV×PV)
abbrev T49a:=Bn×Int×Unit×(List PV)×Int×Int×(List PV)×Int×Int×PV×PV
abbrev T50a:=Unit×Int×Int×Int×PV
abbrev T51a:=Unit×Unit×Int×Int×PV×(List (PV×PV))×Unit
abbrev T52a:=(List PV)×Int×Bool×Bool×(List PV)×Bn×Unit×Int×Int×PV
abbrev T53a:=Unit×Bool×Int×Unit×Int×PV×PV
abbrev T54a:=Bn×Unit×Bn×Int
abbrev T55a:=(List (PV×PV))×Unit×Unit×Unit×PV×PV×Bn×Int×(List PV)
abbrev T56a:=Unit×Unit×Int×Int×(List PV)×Int×Int×PV×(List (PV×PV))×Unit
abbrev T57a:=(List PV)×(List PV)×Int×Int×PV
abbrev T58a:=(List PV)×Int
abbrev T59a:=Unit×Unit×Int×Unit×Bool×Int×PV×Bn×(List PV)×PV
abbrev T60a:=(List PV)×Int×Bool×Bool×(List PV)×Bn×Unit×Int×PV
abbrev T61a:=Unit×Unit×Unit×Int×PV×PV×Bn×(List PV)×(List PV)
abbrev T62a:=Unit×Unit×(List PV)×Int×Int×PV×Bn×Int×(List PV)
abbrev T63a:=Bn×Int
abbrev T64a:=Bn×(List PV)×Int×Int
abbrev T65a:=Unit×Unit×Unit×PV×Int×PV×Bn×Int×(List PV)×PV
abbrev T66a:=Unit×Unit×Int×Int×(List PV)
abbrev T67a:=Unit×Unit×Bn×(List PV)×Int×Int×Bn×PV
abbrev T68a:=(List PV)×(List PV)×Int×Int×(List PV)×Int×Int×PV×PV
abbrev T69a:=(List PV)×Unit×Unit×Unit×PV×PV×Bn×(List PV)
abbrev T70a:=Unit×(List PV)×Int×Int×PV
abbrev T71a:=(Bool×PV)⊕(PV)
abbrev T72a:=Bn×Unit×Unit×Bn×Bn×Int
abbrev T73a:=Unit×Unit×Bool×Int×PV×(List PV)
abbrev T74a:=Unit×(List PV)×Int×Int×Int×Bn×(List PV)
abbrev T75a:=Unit×Unit×Unit×Int×PV×PV×Bn×(List PV)
abbrev T76a:=Unit×Unit×(List PV)×Int×PV×Bn×(List PV)
abbrev T77a:=Bn×Unit×Int×PV
abbrev T78a:=Bn×Int×Int×Int
abbrev T79a:=Unit×(List PV)×(List PV)×Int×Int×Bn×PV
abbrev T80a:=Unit×Bn×PV
abbrev T81a:=Unit×Bool×PV
abbrev T82a:=Unit×(List PV)×(List PV)×Int×Int×Bn
abbrev T83a:=Unit×Unit×(List PV)×Int×Int×Bn×PV
abbrev T84a:=Unit×Unit×(List PV)×Int×Int×PV×Bn
abbrev T85a:=Unit×Unit×PV×Bn×Int×(List PV)×PV
abbrev T86a:=Bn
abbrev T87a:=Unit×(List PV)×(List PV)×Int×Int×PV×PV
abbrev T88a:=Unit×(List PV)×Int×Int×Bn×PV
abbrev T89a:=Unit×Unit×Bool×Int×Int×PV×(List PV)
abbrev T90a:=(Bool×PV)⊕(Unit×Int×PV)
abbrev T91a:=Unit×Unit×Unit×Int×(List PV)×PV×PV
abbrev T92a:=Unit×Bn×Bn×Int×PV
abbrev T93a:=Int×Int×(List PV)×Int×Int×PV×PV
abbrev T94a:=Bn×Unit×Unit×Int×PV×PV
abbrev T95a:=Bn×Int×Unit×Int×Int×PV
abbrev T96a:=Int×Bn×(List PV)×Int×Int
abbrev T97a:=Int×Unit×Unit×Bool×Int×PV×PV
abbrev T98a:=(List PV)×Unit×Unit×Int×PV×PV
abbrev T99a:=(List PV)×Int×Int×Int×Int×Int
abbrev T100a:=Unit×Unit×Int×Int×PV×PV×PV
abbrev T101a:=Bn×Int×Unit×Int×PV
abbrev T102a:=(List PV)×Bn×Int×Int
abbrev T103a:=(Int×PV)⊕(Unit×PV)
abbrev T104a:=(Int)⊕(Unit)
abbrev T105a:=Unit×Int×(List PV)×Int×PV
abbrev T106a:=Unit×Int×Int×Int×Int×PV
abbrev T107a:=Int×Unit×Int×Int×PV
abbrev T108a:=Int×Unit×(List PV)×PV
abbrev T109a:=Unit×Bool×Int×PV×PV
abbrev T110a:=(List PV)×Int×Int×PV
abbrev T111a:=(Bn×PV)⊕(PV)
abbrev T112a:=(Int×PV)⊕(PV)
abbrev T113a:=(Bool×PV)⊕(Unit×PV)
abbrev T114a:=Bn×Int×Int
abbrev T115a:=(Bool)⊕(Bn)
abbrev T116a:=(List PV)×PV
abbrev KT:=KC Tryz.prog
abbrev f0:AFrame:=⟨1,[],[.bool]⟩
abbrev f4:AFrame:=⟨1,[],[.str]⟩
abbrev f5:AFrame:=⟨1,[],[.int .i64]⟩
abbrev f7:AFrame:=⟨1,[],[.data 112]⟩
abbrev f8:AFrame:=⟨1,[],[.data 42]⟩
abbrev f9:Frame:=⟨[],[],[]⟩
abbrev f15:AFrame:=⟨1,[],[.data 64]⟩
abbrev f16:Frame:=⟨[2],[],[.bool]⟩
abbrev f17:Frame:=⟨[0,1,3,4,10,11,12,13],bx0,[.slice 5,.int .u64,.bool,.bool,.acc 1 5,.str,(.con (.ref 0 [] 379)),.int .i64,.data 379]⟩
abbrev f18:AFrame:=⟨1,[],[.slice 9]⟩
abbrev f19:AFrame:=⟨1,[],[.data 69]⟩
abbrev f20:AFrame:=⟨1,[],[.con .nils]⟩
abbrev f21:Frame:=⟨[2,3,4,7],bx12,(.slice 4)::(.con (.ref 0 [] 42))::(.con (.ref 1 [] 74))::(.con (.ref 2 [] 195))::sv33⟩
abbrev f22:Frame:=⟨[2,3,4,7],bx44,(.map 9 4)::(.con (.ref 0 [] 42))::(.con (.ref 1 [] 74))::(.con (.ref 2 [] 149))::sv87⟩
abbrev f23:AFrame:=⟨1,[],[.int .u64]⟩
abbrev f40:AFrame:=⟨1,[],[.slice 66]⟩
abbrev f41:Frame:=⟨[1,3,4,5,6],bx24,(.con (.ref 0 [] 112))::.bool::(.int .i64)::(.con (.ref 1 [] 74))::sv47⟩
abbrev f42:AFrame:=⟨1,[],[.slice 205]⟩
abbrev f43:Frame:=⟨[4],[],[.bool]⟩
abbrev f44:AFrame:=⟨1,[],[.data 121]⟩
abbrev f45:AFrame:=⟨1,[],[.data 74]⟩
abbrev f46:AFrame:=⟨1,[.arr 66 1],[(.con (.arr 0 1 66)),.slice 66]⟩
abbrev f47:Frame:=⟨[1,3,4,5],bx8,(.con (.ref 0 [] 42))::(.con (.arr 1 0 4))::.bool::sv21⟩
abbrev f48:Frame:=⟨[1,3,13,14],bx41,(.con (.ref 0 [] 42))::(.con (.ref 2 [] 155))::sv83⟩
abbrev f49:AFrame:=⟨2,[.arr 66 0],[(.con (.arr 0 0 66)),(.con (.fn 110 0 [])),.slice 66]⟩
abbrev f50:Frame:=⟨[1,3],bx25,sv49⟩
abbrev f51:Frame:=⟨[2,3],bx30,(.con (.ref 0 [] 42))::(.con (.ref 1 [] 42))::sv72⟩
abbrev f52:Frame:=⟨[3],[],[.str]⟩
abbrev f53:AFrame:=⟨2,[],[.str,.str]⟩
abbrev f54:AFrame:=⟨1,[],[.data 127]⟩
abbrev f55:AFrame:=⟨2,[.box 3 .leaf],[.data 117,(.con (.ref 0 [] 3)),.int .i64]⟩
abbrev f56:AFrame:=⟨1,[],[.data 24]⟩
abbrev f57:AFrame:=⟨1,[],[.data 37]⟩
abbrev f58:AFrame:=⟨1,[.box 3 .leaf],[.bool,.int .i64]⟩
abbrev f59:Frame:=⟨[1,2,5],bx4,(.int .i64)::(.con (.ref 0 [] 42))::sv12⟩
abbrev f60:Frame:=⟨[],bx1,[.data 24]⟩
abbrev f61:AFrame:=⟨1,[],[.slice 117]⟩
abbrev f62:Frame:=⟨[1,3],bx1,sv3⟩
abbrev f63:AFrame:=⟨1,[.arr 124 1],[(.con (.arr 0 1 124)),.slice 124]⟩
abbrev f64:AFrame:=⟨1,[.arr 130 1],[(.con (.arr 0 1 130)),.slice 130]⟩
abbrev f65:Frame:=⟨[1,3,4],bx24,(.con (.ref 0 [] 112))::.bool::sv47⟩
abbrev f66:AFrame:=⟨1,[.arr 69 1],[(.con (.arr 0 1 69)),.slice 69]⟩
abbrev f67:Frame:=⟨[1,3,10],bx25,sv48⟩
abbrev f68:AFrame:=⟨0,bx62,[.str]⟩
abbrev f69:Frame:=⟨[],bx6,[.data 42]⟩
abbrev f70:Frame:=⟨[1,2,3],bx20,sv42⟩
abbrev f71:Frame:=⟨[1,2,3],bx22,(.con (.ref 0 [] 42))::sv46⟩
abbrev f72:Frame:=⟨[1,3,4],bx25,sv48⟩
abbrev f73:Frame:=⟨[1],bx1,[(.con (.ref 0 [] 24)),.data 24]⟩
abbrev f74:Frame:=⟨[1,2,3],bx37,(.con (.ref 0 [] 42))::sv79⟩
abbrev f75:AFrame:=⟨2,[],sv10⟩
abbrev f76:Frame:=⟨[1,3],bx25,(.con (.ref 0 [] 112))::sv57⟩
abbrev f77:Frame:=⟨[1,5],bx39,(.con (.ref 0 [] 150))::sv82⟩
abbrev f78:Frame:=⟨[1,3],bx61,(.con (.ref 0 [] 112))::sv99⟩
abbrev f79:Frame:=⟨[1,3],bx48,(.con (.ref 0 [] 42))::sv92⟩
abbrev f80:Frame:=⟨[1,2,3,7],bx6,.str::(.int .u64)::sv18⟩
abbrev f81:Frame:=⟨[2],bx1,sv2⟩
abbrev f82:AFrame:=⟨1,[],[.int .u8]⟩
abbrev f83:Frame:=⟨[1,3],bx2,(.con (.ref 0 [] 37))::sv7⟩
abbrev f84:AFrame:=⟨1,[],[.data 58]⟩
abbrev f85:AFrame:=⟨3,[],[.data 42,.data 74,.slice 4]⟩
abbrev f86:AFrame:=⟨3,[],[.data 42,.data 74,.map 9 4]⟩
abbrev f87:Frame:=⟨[4],bx26,sv65⟩
abbrev f88:AFrame:=⟨2,[],sv25⟩
abbrev f89:AFrame:=⟨2,[],sv73⟩
abbrev f90:AFrame:=⟨1,bx33,[.bool,.str]⟩
abbrev f91:AFrame:=⟨0,[.bld 237],[.str]⟩
abbrev f92:AFrame:=⟨3,[],[.str,.int .i64,.int .i32]⟩
abbrev f93:Frame:=⟨[4],[],[.int .i64]⟩
abbrev f94:AFrame:=⟨3,[],[.data 42,.str,.int .u64]⟩
abbrev f95:Frame:=⟨[],bx2,[.data 37]⟩
abbrev f96:AFrame:=⟨2,[],[.slice 117,.slice 117]⟩
abbrev f97:Frame:=⟨[1,2,5],bx1,(.int .i64)::sv3⟩
abbrev f98:AFrame:=⟨0,bx38,sv81⟩
abbrev f100:Frame:=⟨[0,1,5],[],(.slice 9)::sv15⟩
abbrev f101:AFrame:=⟨1,[],[.slice 69]⟩
abbrev f102:AFrame:=⟨1,[],[.data 124]⟩
abbrev f103:AFrame:=⟨2,[],[.slice 66,.slice 66]⟩
abbrev f104:Frame:=⟨[2],bx39,[.bool,.data 150]⟩
abbrev f106:AFrame:=⟨1,[],[.data 66]⟩
abbrev f107:Frame:=⟨[1,3],bx16,sv37⟩
abbrev f108:Frame:=⟨[1,3],bx25,sv62⟩
abbrev f109:Frame:=⟨[2,3],bx26,sv66⟩
abbrev f110:AFrame:=⟨2,[],[.data 74,.int .i64]⟩
abbrev f111:AFrame:=⟨2,[],[.int .i64,.data 64]⟩
abbrev f112:AFrame:=⟨2,[],[.data 42,.data 127]⟩
abbrev f113:Frame:=⟨[0,3,4],[],sv6⟩
abbrev f114:AFrame:=⟨2,[],sv24⟩
abbrev f115:AFrame:=⟨2,[],sv27⟩
abbrev f116:AFrame:=⟨2,[],[.data 69,.data 69]⟩
abbrev f117:Frame:=⟨[],bx62,[.str]⟩
abbrev f118:Frame:=⟨[0,3],[],sv15⟩
abbrev f119:Frame:=⟨[0],[],[.str]⟩
abbrev f120:Frame:=⟨[3],bx25,sv51⟩
abbrev f121:Frame:=⟨[4],bx30,sv71⟩
abbrev f122:Frame:=⟨[0,3],[],sv5⟩
abbrev f123:Frame:=⟨[6],bx6,sv44⟩
abbrev f124:Frame:=⟨[2],bx2,sv8⟩
abbrev f125:AFrame:=⟨1,bx43,sv86⟩
def F434(m:Int):Option Bool:=some ((aen .and .i64 m (IntKind.wrap .i64 (m-1)))==0)
def F434c:KT:=xj 434 f5 f0 F434 []
def S429_12(z:List PV)(m:Int)(G H:Bool)(I:List PV)(J:Bn)(Y:Unit)(M o O U:Int)(V:PV):Option (T40a⊕T60a):=cond (decide (m>=O)) (let t:=IntKind.wrap .i64 (M-1);let W:=aen .and .u64 m U;cond (aab W (([48,49,50,51,52,53,54,55,56,57,97,98,99,100,101,102,103,104,105,106,107,108,109,110,111,112,113,114,115,116,117,118,119,120,121,122]:Bn).length)) (let X:=((([48,49,50,51,52,53,54,55,56,57,97,98,99,100,101,102,103,104,105,106,107,108,109,110,111,112,113,114,115,116,117,118,119,120,121,122]:Bn).getD W.toNat 0).toNat:Int);cond (aab t 65) (cond (decide (0<=o)) (some (.inl (z,(m.fdiv (2^(min o.toNat (IntKind.bits .u64)))),G,H,I,J,(),t,o,O,U,(PV.agg (V.parts.set t.toNat (PV.int X)))))) none) none) none) (some (.inr (z,m,G,H,I,J,(),M,V)))
def S429_19(z:List PV)(o:Int)(G H:Bool)(I:List PV)(J:Bn)(X:Unit)(M m:Int)(O:PV):Option (T52a⊕T60a):=cond (decide (o>=m)) (let t:=IntKind.wrap .i64 (M-1);cond (!(decide (m=0))) (let U:=IntKind.wrap .u64 (o.tdiv m);let V:=IntKind.wrap .u64 (o-(IntKind.wrap .u64 (U*m)));cond (aab V (([48,49,50,51,52,53,54,55,56,57,97,98,99,100,101,102,103,104,105,106,107,108,109,110,111,112,113,114,115,116,117,118,119,120,121,122]:Bn).length)) (let W:=((([48,49,50,51,52,53,54,55,56,57,97,98,99,100,101,102,103,104,105,106,107,108,109,110,111,112,113,114,115,116,117,118,119,120,121,122]:Bn).getD V.toNat 0).toNat:Int);cond (aab t 65) (some (.inl (z,U,G,H,I,J,(),t,m,(PV.agg (O.parts.set t.toNat (PV.int W)))))) none) none) none) (some (.inr (z,o,G,H,I,J,(),M,O)))
def F429(a0:List PV)(a1 W:Int)(X a4:Bool):Option ((List PV)×Bn):=cond (cond (cond (decide (W<2)) true (W==10)) true (decide (W>36))) none (cond X (let x6:=IntKind.wrap .u64 (0-a1);(F434 W).bind λy7=>cond y7 ((Ltz 0 (IntKind.wrap .u64 W)).bind λy9=>(aad 0 (Y12 S429_12) (a0,x6,X,a4,[],([]:Bn),(),(65:Int),(IntKind.wrap .u64 y9),(IntKind.wrap .u64 W),(IntKind.wrap .u64 ((IntKind.wrap .u64 W)-1)),(PV.agg (List.replicate 65 (PV.int (0:Int)))))).bind λM=>let o:=IntKind.wrap .i64 (M.2.2.2.2.2.2.2.1-1);let aa:=M.2.1;cond (aab aa (([48,49,50,51,52,53,54,55,56,57,97,98,99,100,101,102,103,104,105,106,107,108,109,110,111,112,113,114,115,116,117,118,119,120,121,122]:Bn).length)) (let ab:=((([48,49,50,51,52,53,54,55,56,57,97,98,99,100,101,102,103,104,105,106,107,108,109,110,111,112,113,114,115,116,117,118,119,120,121,122]:Bn).getD aa.toNat 0).toNat:Int);cond (aab o 65) (cond M.2.2.1 (let H:=IntKind.wrap .i64 (o-1);cond (aab H 65) (cond M.2.2.2.1 (cond (decide (0<=H/\H<65/\H<=65/\(65:Int)<=65)) none none) (cond (decide (0<=H/\H<65/\H<=65/\(65:Int)<=65)) (let aj:=(((PV.agg ((PV.agg (M.2.2.2.2.2.2.2.2.parts.set o.toNat (PV.int ab))).parts.set H.toNat (PV.int (45:Int)))).parts.drop H.toNat).take ((65:Int).toNat-H.toNat)).map aa4;some (M.2.2.2.2.1,aj)) none)) none) (cond M.2.2.2.1 (cond (decide (0<=o/\o<65/\o<=65/\(65:Int)<=65)) none none) (cond (decide (0<=o/\o<65/\o<=65/\(65:Int)<=65)) (let ak:=(((PV.agg (M.2.2.2.2.2.2.2.2.parts.set o.toNat (PV.int ab))).parts.drop o.toNat).take ((65:Int).toNat-o.toNat)).map aa4;some (M.2.2.2.2.1,ak)) none))) none) none) ((aad 0 (Y10 S429_19) (a0,x6,X,a4,[],([]:Bn),(),(65:Int),(IntKind.wrap .u64 W),(PV.agg (List.replicate 65 (PV.int (0:Int)))))).bind λO=>let t:=IntKind.wrap .i64 (O.2.2.2.2.2.2.2.1-1);let ad:=O.2.1;cond (aab ad (([48,49,50,51,52,53,54,55,56,57,97,98,99,100,101,102,103,104,105,106,107,108,109,110,111,112,113,114,115,116,117,118,119,120,121,122]:Bn).length)) (let ae:=((([48,49,50,51,52,53,54,55,56,57,97,98,99,100,101,102,103,104,105,106,107,108,109,110,111,112,113,114,115,116,117,118,119,120,121,122]:Bn).getD ad.toNat 0).toNat:Int);cond (aab t 65) (cond O.2.2.1 (let I:=IntKind.wrap .i64 (t-1);cond (aab I 65) (cond O.2.2.2.1 (cond (decide (0<=I/\I<65/\I<=65/\(65:Int)<=65)) none none) (cond (decide (0<=I/\I<65/\I<=65/\(65:Int)<=65)) (let al:=(((PV.agg ((PV.agg (O.2.2.2.2.2.2.2.2.parts.set t.toNat (PV.int ae))).parts.set I.toNat (PV.int (45:Int)))).parts.drop I.toNat).take ((65:Int).toNat-I.toNat)).map aa4;some (O.2.2.2.2.1,al)) none)) none) (cond O.2.2.2.1 (cond (decide (0<=t/\t<65/\t<=65/\(65:Int)<=65)) none none) (cond (decide (0<=t/\t<65/\t<=65/\(65:Int)<=65)) (let am:=(((PV.agg (O.2.2.2.2.2.2.2.2.parts.set t.toNat (PV.int ae))).parts.drop t.toNat).take ((65:Int).toNat-t.toNat)).map aa4;some (O.2.2.2.2.1,am)) none))) none) none)) ((F434 W).bind λap=>cond ap ((Ltz 0 (IntKind.wrap .u64 W)).bind λaq=>(aad 0 (Y12 S429_12) (a0,a1,X,a4,[],([]:Bn),(),(65:Int),(IntKind.wrap .u64 aq),(IntKind.wrap .u64 W),(IntKind.wrap .u64 ((IntKind.wrap .u64 W)-1)),(PV.agg (List.replicate 65 (PV.int (0:Int)))))).bind λU=>let z:=IntKind.wrap .i64 (U.2.2.2.2.2.2.2.1-1);let af:=U.2.1;cond (aab af (([48,49,50,51,52,53,54,55,56,57,97,98,99,100,101,102,103,104,105,106,107,108,109,110,111,112,113,114,115,116,117,118,119,120,121,122]:Bn).length)) (let ag:=((([48,49,50,51,52,53,54,55,56,57,97,98,99,100,101,102,103,104,105,106,107,108,109,110,111,112,113,114,115,116,117,118,119,120,121,122]:Bn).getD af.toNat 0).toNat:Int);cond (aab z 65) (cond U.2.2.1 (let J:=IntKind.wrap .i64 (z-1);cond (aab J 65) (cond U.2.2.2.1 (cond (decide (0<=J/\J<65/\J<=65/\(65:Int)<=65)) none none) (cond (decide (0<=J/\J<65/\J<=65/\(65:Int)<=65)) (let an:=(((PV.agg ((PV.agg (U.2.2.2.2.2.2.2.2.parts.set z.toNat (PV.int ag))).parts.set J.toNat (PV.int (45:Int)))).parts.drop J.toNat).take ((65:Int).toNat-J.toNat)).map aa4;some (U.2.2.2.2.1,an)) none)) none) (cond U.2.2.2.1 (cond (decide (0<=z/\z<65/\z<=65/\(65:Int)<=65)) none none) (cond (decide (0<=z/\z<65/\z<=65/\(65:Int)<=65)) (let ao:=(((PV.agg (U.2.2.2.2.2.2.2.2.parts.set z.toNat (PV.int ag))).parts.drop z.toNat).take ((65:Int).toNat-z.toNat)).map aa4;some (U.2.2.2.2.1,ao)) none))) none) none) ((aad 0 (Y10 S429_19) (a0,a1,X,a4,[],([]:Bn),(),(65:Int),(IntKind.wrap .u64 W),(PV.agg (List.replicate 65 (PV.int (0:Int)))))).bind λV=>let G:=IntKind.wrap .i64 (V.2.2.2.2.2.2.2.1-1);let ah:=V.2.1;cond (aab ah (([48,49,50,51,52,53,54,55,56,57,97,98,99,100,101,102,103,104,105,106,107,108,109,110,111,112,113,114,115,116,117,118,119,120,121,122]:Bn).length)) (let ai:=((([48,49,50,51,52,53,54,55,56,57,97,98,99,100,101,102,103,104,105,106,107,108,109,110,111,112,113,114,115,116,117,118,119,120,121,122]:Bn).getD ah.toNat 0).toNat:Int);cond (aab G 65) (cond V.2.2.1 (let m:=IntKind.wrap .i64 (G-1);cond (aab m 65) (cond V.2.2.2.1 (cond (decide (0<=m/\m<65/\m<=65/\(65:Int)<=65)) none none) (cond (decide (0<=m/\m<65/\m<=65/\(65:Int)<=65)) (let Y:=(((PV.agg ((PV.agg (V.2.2.2.2.2.2.2.2.parts.set G.toNat (PV.int ai))).parts.set m.toNat (PV.int (45:Int)))).parts.drop m.toNat).take ((65:Int).toNat-m.toNat)).map aa4;some (V.2.2.2.2.1,Y)) none)) none) (cond V.2.2.2.1 (cond (decide (0<=G/\G<65/\G<=65/\(65:Int)<=65)) none none) (cond (decide (0<=G/\G<65/\G<=65/\(65:Int)<=65)) (let Z:=(((PV.agg (V.2.2.2.2.2.2.2.2.parts.set G.toNat (PV.int ai))).parts.drop G.toNat).take ((65:Int).toNat-G.toNat)).map aa4;some (V.2.2.2.2.1,Z)) none))) none) none)))
def S429_12l:LoopE:=⟨12,⟨[0,1,3,4,10,11,12,13,14,15,16],bx0,[.slice 5,.int .u64,.bool,.bool,.acc 1 5,.str,(.con (.ref 0 [] 379)),.int .i64,.int .u64,.int .u64,.int .u64,.data 379]⟩,[(.exit 0,f17)],(Y12 S429_12)⟩
def S429_19l:LoopE:=⟨19,⟨[0,1,3,4,10,11,12,13,17],bx0,[.slice 5,.int .u64,.bool,.bool,.acc 1 5,.str,(.con (.ref 0 [] 379)),.int .i64,.int .u64,.data 379]⟩,[(.exit 2,f17)],(Y10 S429_19)⟩
def F429c:KT:=xf 429 ⟨5,[],[.slice 5,.int .u64,.int .i64,.bool,.bool]⟩ ⟨2,[],[.slice 5,.str]⟩ (u5 F429) [F434c,⟨Ltzc 0,Ltzok 0⟩] [S429_12l,S429_19l] (L2 (xl S429_12l L0) (xl S429_19l L0))
def F431(m o:Int):Option Bn:=cond (o==10) (cond (decide (m<100)) none none) ((F429 [] m o false false).bind λt=>some t.2)
def F431c:KT:=xj 431 ⟨2,[],sv0⟩ f4 (u2 F431) [F429c]
def Lfmt(u base:Int):Option Bn:=cond (decide (base=10)) (a3a uu u base) (F431 u base)
def bib:CallE:={ f:=431,A:=⟨2,[],[.int .u64,.int .i64]⟩,R:=f4,F:=λx=>Lfmt uu x.1 x.2,dflt:=[] }
theorem bic:(bib uu).Ok Tryz.prog:=by
 intro x y h
 have h:Lfmt uu x.1 x.2=some y:=h
 unfold Lfmt at h
 cases m:decide (x.2=10)with
 |true=>rw[m]at h;exact bgc uu x y h
 |false=>rw[m]at h;exact F431c.ok x y h
def S4_11(I:Unit)(z:Int)(m:List PV)(o:Int)(t:PV):Option (T105a⊕T90a):=cond (decide (o<(m.length:Int))) (cond (aab o m.length) (let G:=decide (((((m.getD o.toNat .bad).fld 1).fld 0).asList.length:Int)>8);cond (imp (!G) (aab o m.length)) (let H:=cond G true (decide (((((m.getD o.toNat .bad).fld 1).fld 1).asList.length:Int)>8));cond (imp (!H) (aab o m.length)) (cond (cond H true (decide (((((m.getD o.toNat .bad).fld 1).fld 2).asList.length:Int)>8))) (some (.inr (.inl (false,t)))) (some (.inl ((),z,m,(IntKind.wrap .i64 (o+1)),t)))) none) none) none) (some (.inr (.inr ((),z,t))))
def S4_5(J:Unit)(I:Int)(m:PV):Option (T16a⊕T71a):=cond (decide (I<((m.fld 1).asList.length:Int))) (let o:=(m.fld 1).asList;cond (aab I o.length) (let t:=((o.getD I.toNat .bad).fld 4).asList;cond (decide ((t.length:Int)>40)) (some (.inr (.inl (false,m)))) ((aad 0 (Y5 S4_11) ((),I,t,(0:Int),m)).bind λz=>sumE (λG=>some (.inr (.inl (G.1,G.2))) ) (λH=>some (.inl ((),(IntKind.wrap .i64 (H.2.1+1)),H.2.2)) ) z)) none) (some (.inr (.inr m)))
def F4(o:PV):Option Bool:=cond (decide (((o.fld 1).asList.length:Int)>40)) (some false) ((aad 0 (Y3 S4_5) ((),(0:Int),o)).bind λz=>sumE (λm=>some m.1 ) (λt=>some true ) z)
def S4_11l:LoopE:=⟨11,⟨[1,3,4,5],bx1,(.con (.ref 0 [] 24))::(.int .i64)::(.slice 45)::sv1⟩,[(.ret,f81),(.exit 2,f62)],(Y5 S4_11)⟩
def S4_5l:LoopE:=⟨5,f62,[(.ret,f81),(.exit 0,f60)],(Y3 S4_5)⟩
def F4c:KT:=xf 4 f56 f0 F4 [] [S4_11l,S4_5l] (L1 (xl S4_5l (L1 (xl S4_11l L0))))
def S11_5(z:Unit)(t:Int)(m:PV):Option (T16a⊕T71a):=cond (decide (t<((m.fld 1).asList.length:Int))) (let o:=(m.fld 1).asList;cond (aab t o.length) (cond (decide ((((o.getD t.toNat .bad).fld 4).asList.length:Int)>32)) (some (.inr (.inl (true,m)))) (some (.inl ((),(IntKind.wrap .i64 (t+1)),m)))) none) (some (.inr (.inr m)))
def F11(o:PV):Option Bool:=cond (decide (((o.fld 1).asList.length:Int)>32)) (some true) ((aad 0 (Y3 S11_5) ((),(0:Int),o)).bind λz=>sumE (λm=>some m.1 ) (λt=>some false ) z)
def S11_5l:LoopE:=⟨5,f62,[(.ret,f81),(.exit 0,f60)],(Y3 S11_5)⟩
def F11c:KT:=xf 11 f56 f0 F11 [] [S11_5l] (L1 (xl S11_5l L0))
def S12_8(I:Unit)(m o:Int)(t:PV):Option (T26a⊕T90a):=let z:=(t.fld 1).asList;cond (aab m z.length) (cond (decide (o<(((z.getD m.toNat .bad).fld 4).asList.length:Int))) (let G:=(t.fld 1).asList;cond (aab m G.length) (let H:=((G.getD m.toNat .bad).fld 4).asList;cond (aab o H.length) (cond (((H.getD o.toNat .bad).fld 0).asInt != (IntKind.wrap .i64 (o+1))) (some (.inr (.inl (false,t)))) (some (.inl ((),m,(IntKind.wrap .i64 (o+1)),t)))) none) none) (some (.inr (.inr ((),m,t))))) none
def S12_3(V:Unit)(m:Int)(o:PV):Option (T16a⊕T71a):=cond (decide (m<((o.fld 1).asList.length:Int))) (let O:=decide (m>0);let U:=(o.fld 1).asList;cond (imp O (aab m U.length)) (let t:=((U.getD m.toNat .bad).fld 0).asStr;let G:=(o.fld 1).asList;let H:=IntKind.wrap .i64 (m-1);cond (imp O (aab H G.length)) (let I:=((G.getD H.toNat .bad).fld 0).asStr;cond (cond O (Op.bytesLess t I||t==I) false) (some (.inr (.inl (false,o)))) ((aad 0 (Y4 S12_8) ((),m,(0:Int),o)).bind λz=>sumE (λJ=>some (.inr (.inl (J.1,J.2))) ) (λM=>some (.inl ((),(IntKind.wrap .i64 (M.2.1+1)),M.2.2)) ) z)) none) none) (some (.inr (.inr o)))
def F12(o:PV):Option Bool:=(aad 0 (Y3 S12_3) ((),(0:Int),o)).bind λz=>sumE (λm=>some m.1 ) (λt=>some true ) z
def S12_8l:LoopE:=⟨8,⟨[1,3,4],bx1,(.con (.ref 0 [] 24))::sv4⟩,[(.ret,f81),(.exit 2,f62)],(Y4 S12_8)⟩
def S12_3l:LoopE:=⟨3,f62,[(.ret,f81),(.exit 0,f60)],(Y3 S12_3)⟩
def F12c:KT:=xf 12 f56 f0 F12 [] [S12_8l,S12_3l] (L1 (xl S12_3l (L1 (xl S12_8l L0))))
def F51(m:Int):Option Bool:=some (cond (decide (m>=97)) (decide (m<=122)) false)
def F51c:KT:=xj 51 f82 f0 F51 []
def F52(m:Int):Option Bool:=some (cond (decide (m>=65)) (decide (m<=90)) false)
def F52c:KT:=xj 52 f82 f0 F52 []
def S31_5(m:Bn)(o:Int):Option (T63a⊕T21a):=cond (decide (o<(m.length:Int))) (cond (aab o m.length) ((F51 ((m.getD o.toNat 0).toNat:Int)).bind λI=>let t:=!I;cond (imp t (aab o m.length)) ((cond t (F52 ((m.getD o.toNat 0).toNat:Int)) (some false)).bind λJ=>let G:=cond t (!J) false;cond (imp G (aab o m.length)) (let z:=cond G (((m.getD o.toNat 0).toNat:Int) != 95) false;cond (imp z (aab o m.length)) (let H:=decide (((m.getD o.toNat 0).toNat:Int)<48);cond (imp (cond (!H) z false) (aab o m.length)) (cond (cond z (cond H true (decide (((m.getD o.toNat 0).toNat:Int)>57))) false) (some (.inr (.inl false))) (some (.inl (m,(IntKind.wrap .i64 (o+1)))))) none) none) none) none) none) (some (.inr (.inr ())))
def F31(m:Bn):Option Bool:=let o:=cond ((m.length:Int)==0) true (decide ((m.length:Int)>40));cond (imp (!o) (aab (0:Int) m.length)) ((cond (!o) (F51 ((m.getD (0:Int).toNat 0).toNat:Int)) (some false)).bind λJ=>let t:=!J;cond (imp (cond t (!o) false) (aab (0:Int) m.length)) ((cond (cond t (!o) false) (F52 ((m.getD (0:Int).toNat 0).toNat:Int)) (some false)).bind λG=>cond (cond o true (cond t (!G) false)) (some false) ((aad 0 (Y2 S31_5) (m,(1:Int))).bind λz=>sumE (λH=>some H ) (λI=>some true ) z)) none) none
def S31_5l:LoopE:=⟨5,f122,[(.ret,f16),(.exit 0,f9)],(Y2 S31_5)⟩
def F31c:KT:=xf 31 f4 f0 F31 [F51c,F52c] [S31_5l] (L1 (xl S31_5l L0))
def S13_6(o G:Bn)(m:Int):Option (T32a⊕T115a):=cond (decide (m<(o.length:Int))) (cond (aab m o.length) (cond (((o.getD m.toNat 0).toNat:Int) != 46) (let t:=IntKind.wrap .i64 (m+1);cond (decide (0<=m/\m<=t/\t<=(o.length:Int))) (let z:=(o.take t.toNat).drop m.toNat;cond (decide (G.length+z.length<=aac)) (some (.inl (o,(G++z),(IntKind.wrap .i64 (m+1))))) none) none) ((F31 G).bind λH=>cond (!H) (some (.inr (.inl false))) (some (.inl (o,([]:Bn),(IntKind.wrap .i64 (m+1))))))) none) (some (.inr (.inr G)))
def F13(G:Bn):Option Bool:=cond (decide ((G.length:Int)>120)) (some false) ((aad 0 (Y3 S13_6) (G,([]:Bn),(0:Int))).bind λz=>sumE (λm=>some m ) (λo=>(F31 o).bind λt=>some t ) z)
def S13_6l:LoopE:=⟨6,f113,[(.ret,f16),(.exit 0,f52)],(Y3 S13_6)⟩
def F13c:KT:=xf 13 f4 f0 F13 [F31c] [S13_6l] (L1 (xl S13_6l L0))
def F32(m:Int):Option Bool:=some (cond (cond (decide (m>=0)) (decide (m<=7)) false) (m != 4) false)
def F32c:KT:=xj 32 f5 f0 F32 []
def F33(m:Int):Option Bool:=some (cond (decide (m>=1)) (decide (m<=7)) false)
def F33c:KT:=xj 33 f5 f0 F33 []
def S14_5(G:Unit)(z:Int)(o:PV):Option (T16a⊕T71a):=cond (decide (z<((o.fld 4).asList.length:Int))) (let t:=(o.fld 4).asList;cond (aab z t.length) (let m:=t.getD z.toNat .bad;cond (cond (cond (cond (decide ((m.fld 3).asInt<1)) true (decide ((m.fld 3).asInt>3))) true (cond ((m.fld 3).asInt==2) (decide ((m.fld 4).asInt<1)) false)) true (cond ((m.fld 3).asInt != 2) ((m.fld 4).asInt != 0) false)) (some (.inr (.inl (false,o)))) (some (.inl ((),(IntKind.wrap .i64 (z+1)),o)))) none) (some (.inr (.inr o)))
def F14(m:PV):Option Bool:=(F32 (m.fld 2).asInt).bind λG=>let t:=!G;(cond (!t) (F33 (m.fld 3).asInt) (some false)).bind λI=>cond (cond t true (!I)) (some false) ((aad 0 (Y3 S14_5) ((),(0:Int),m)).bind λz=>sumE (λo=>some o.1 ) (λH=>some true ) z)
def S14_5l:LoopE:=⟨5,f83,[(.ret,f124),(.exit 0,f95)],(Y3 S14_5)⟩
def F14c:KT:=xf 14 f57 f0 F14 [F32c,F33c] [S14_5l] (L1 (xl S14_5l L0))
def S53_3(G:Bn)(I J:Unit)(m:Int)(o H:PV):Option (T94a⊕((Unit×Bool×PV×PV)⊕(Unit×PV×PV))):=cond (decide (m<((o.fld 0).asList.length:Int))) (let t:=(o.fld 0).asList;cond (aab m t.length) (cond (((t.getD m.toNat .bad).fld 0).asStr==G) (let z:=(o.fld 0).asList;cond (aab m z.length) (some (.inr (.inl ((),true,o,(z.getD m.toNat .bad))))) none) (some (.inl (G,(),(),(IntKind.wrap .i64 (m+1)),o,H)))) none) (some (.inr (.inr ((),o,H))))
def F53(o:PV)(t:Bn):Option (PV×Bool):=(aad 0 (Y6 S53_3) (t,(),(),(0:Int),o,(PV.agg [.str ([]:Bn),.slice [],.slice [],.slice [],.slice []]))).bind λz=>sumE (λm=>some (m.2.2.2,m.2.1) ) (λG=>some ((PV.agg [.str ([]:Bn),.slice [],.slice [],.slice [],.slice []]),false) ) z
def S53_3l:LoopE:=⟨3,⟨[1,2,4,6],bx3,.str::(.con (.ref 0 [] 42))::(.con (.ref 1 [] 74))::(.int .i64)::sv9⟩,[(.ret,⟨[4,5],bx3,(.con (.ref 1 [] 74))::.bool::sv9⟩),(.exit 0,⟨[4],bx3,(.con (.ref 1 [] 74))::sv9⟩)],(Y6 S53_3)⟩
def F53c:KT:=xf 53 f75 ⟨2,[],[.data 74,.bool]⟩ (u2 F53) [] [S53_3l] (L1 (xl S53_3l L0))
def S126_4(G:Int)(I:Unit)(H:List PV)(t:Int)(z:PV):Option (T33a⊕T108a):=cond (cond (G==1) (decide (t<((z.fld 0).asList.length:Int))) false) (let m:=(z.fld 0).asList;cond (aab t m.length) (let o:=((m.getD t.toNat .bad).fld 0).asStr;cond (decide (H.length+[(PV.str o)].length<=accMax)) (some (.inl (G,(),(H++[(PV.str o)]),(IntKind.wrap .i64 (t+1)),z))) none) none) (some (.inr (G,(),H,z)))
def S126_8(t:Int)(I:Unit)(z:List PV)(m:Int)(o:PV):Option (T33a⊕T108a):=cond (cond (t==2) (decide (m<((o.fld 1).asList.length:Int))) false) (let G:=(o.fld 1).asList;cond (aab m G.length) (let H:=((G.getD m.toNat .bad).fld 0).asStr;cond (decide (z.length+[(PV.str H)].length<=accMax)) (some (.inl (t,(),(z++[(PV.str H)]),(IntKind.wrap .i64 (m+1)),o))) none) none) (some (.inr (t,(),z,o)))
def S126_12(z:Int)(I:Unit)(t:List PV)(m:Int)(o:PV):Option (T33a⊕T116a):=cond (cond (z==3) (decide (m<((o.fld 2).asList.length:Int))) false) (let G:=(o.fld 2).asList;cond (aab m G.length) (let H:=((G.getD m.toNat .bad).fld 0).asStr;cond (decide (t.length+[(PV.str H)].length<=accMax)) (some (.inl (z,(),(t++[(PV.str H)]),(IntKind.wrap .i64 (m+1)),o))) none) none) (some (.inr (t,o)))
def F126(z:PV)(G:Int):Option ((List PV)):=(aad 0 (Y5 S126_4) (G,(),[],(0:Int),z)).bind λm=>(aad 0 (Y5 S126_8) (m.1,(),m.2.2.1,(0:Int),m.2.2.2)).bind λo=>(aad 0 (Y5 S126_12) (o.1,(),o.2.2.1,(0:Int),o.2.2.2)).bind λt=>some t.1
def S126_4l:LoopE:=⟨4,⟨[1,2,5,6],bx4,sv11⟩,[(.exit 0,f59)],(Y5 S126_4)⟩
def S126_8l:LoopE:=⟨8,⟨[1,2,5,7],bx4,sv11⟩,[(.exit 2,f59)],(Y5 S126_8)⟩
def S126_12l:LoopE:=⟨12,⟨[1,2,5,8],bx4,sv11⟩,[(.exit 4,⟨[5],bx4,sv12⟩)],(Y5 S126_12)⟩
def F126c:KT:=xf 126 ⟨2,[],[.data 42,.int .i64]⟩ f18 (u2 F126) [] [S126_4l,S126_8l,S126_12l] (L3 (xl S126_4l L0) (xl S126_8l L0) (xl S126_12l L0))
def F127(H:Unit)(G:Bool)(t z:Int)(m:Bn)(o:List PV):Option (Bn×(List PV)):=cond G (cond (decide (o.length+[(PV.agg [.str m,.int t,.int z])].length<=accMax)) (some (m,(o++[(PV.agg [.str m,.int t,.int z])]))) none) (some (m,o))
def F127c:KT:=xj 127 ⟨4,bx5,(.con (.ref 0 [] 195))::.bool::sv13⟩ ⟨0,bx5,sv14⟩ (u6 F127) []
def S128_3(m:List PV)(o:Int):Option (T58a⊕T21a):=cond (decide (o<(m.length:Int))) (cond (aab o m.length) (let t:=(m.getD o.toNat .bad).asStr;let z:=IntKind.wrap .i64 (o-1);cond (aab z m.length) (let G:=(m.getD z.toNat .bad).asStr;cond (Op.bytesLess t G||t==G) (some (.inr (.inl false))) (some (.inl (m,(IntKind.wrap .i64 (o+1)))))) none) none) (some (.inr (.inr ())))
def F128(o:List PV):Option Bool:=(aad 0 (Y2 S128_3) (o,(1:Int))).bind λz=>sumE (λm=>some m ) (λt=>some true ) z
def S128_3l:LoopE:=⟨3,f118,[(.ret,f16),(.exit 0,f9)],(Y2 S128_3)⟩
def F128c:KT:=xf 128 f18 f0 F128 [] [S128_3l] (L1 (xl S128_3l L0))
def S207_3(m:List PV)(t:Bn)(o:Int):Option (T25a⊕T21a):=cond (decide (o<(m.length:Int))) (cond (aab o m.length) (cond ((m.getD o.toNat .bad).asStr==t) (some (.inr (.inl true))) (some (.inl (m,t,(IntKind.wrap .i64 (o+1)))))) none) (some (.inr (.inr ())))
def F207(o:List PV)(t:Bn):Option Bool:=(aad 0 (Y3 S207_3) (o,t,(0:Int))).bind λz=>sumE (λm=>some m ) (λG=>some false ) z
def S207_3l:LoopE:=⟨3,⟨[0,1,5],[],(.slice 9)::sv5⟩,[(.ret,f43),(.exit 0,f9)],(Y3 S207_3)⟩
def F207c:KT:=xf 207 ⟨2,[],sv16⟩ f0 (u2 F207) [] [S207_3l] (L1 (xl S207_3l L0))
def S129_3(m t:List PV)(o:Int):Option (T22a⊕T21a):=cond (decide (o<(m.length:Int))) (cond (aab o m.length) ((F207 t (m.getD o.toNat .bad).asStr).bind λz=>cond z (some (.inr (.inl true))) (some (.inl (m,t,(IntKind.wrap .i64 (o+1)))))) none) (some (.inr (.inr ())))
def F129(o t:List PV):Option Bool:=(aad 0 (Y3 S129_3) (o,t,(0:Int))).bind λz=>sumE (λm=>some m ) (λG=>some false ) z
def S129_3l:LoopE:=⟨3,f100,[(.ret,f43),(.exit 0,f9)],(Y3 S129_3)⟩
def F129c:KT:=xf 129 ⟨2,[],sv17⟩ f0 (u2 F129) [F207c] [S129_3l] (L1 (xl S129_3l L0))
def S219_3(t:Bn)(G:Unit)(m:Int)(o:PV):Option (T77a⊕T112a):=cond (decide (m<((o.fld 0).asList.length:Int))) (let z:=(o.fld 0).asList;cond (aab m z.length) (cond (((z.getD m.toNat .bad).fld 0).asStr==t) (some (.inr (.inl (m,o)))) (some (.inl (t,(),(IntKind.wrap .i64 (m+1)),o)))) none) (some (.inr (.inr o)))
def F219(o:PV)(t:Bn):Option Int:=(aad 0 (Y4 S219_3) (t,(),(0:Int),o)).bind λz=>sumE (λm=>some m.1 ) (λG=>some (-1:Int) ) z
def S219_3l:LoopE:=⟨3,⟨[1,2,5],bx6,.str::sv18⟩,[(.ret,⟨[4],bx6,sv19⟩),(.exit 0,f69)],(Y4 S219_3)⟩
def F219c:KT:=xf 219 f75 f5 (u2 F219) [] [S219_3l] (L1 (xl S219_3l L0))
def S208_3(M O U:Unit)(G:Int)(t:List PV)(H z:PV):Option (T91a⊕((Bool×(List PV)×PV×PV)⊕((List PV)×PV×PV))):=cond (decide (G<((z.fld 1).asList.length:Int))) (let I:=(z.fld 1).asList;cond (aab G I.length) (let m:=I.getD G.toNat .bad;cond (cond ((m.fld 2).asInt != 1) true ((((m.fld 4).fld 0).asInt) != 10)) (some (.inl ((),(),(),(IntKind.wrap .i64 (G+1)),t,H,z))) ((F219 H (((m.fld 4).fld 1).asStr)).bind λo=>let J:=decide (o>=0);cond (imp J (aab o t.length)) (cond (cond J (!(t.getD o.toNat .bad).asBool) false) (some (.inr (.inl (true,t,H,z)))) (some (.inl ((),(),(),(IntKind.wrap .i64 (G+1)),t,H,z)))) none)) none) (some (.inr (.inr (t,H,z))))
def F208(t G:PV)(I:Unit)(H:List PV):Option (Bool×(List PV)):=(aad 0 (Y7 S208_3) ((),(),(),(0:Int),H,t,G)).bind λz=>sumE (λm=>some (m.1,m.2.1) ) (λo=>some (false,o.1) ) z
def S208_3l:LoopE:=⟨3,⟨[2,3,4,7],bx7,(.con (.arr 0 0 4))::(.con (.ref 1 [] 42))::(.con (.ref 2 [] 74))::(.int .i64)::sv20⟩,[(.ret,⟨[6],bx7,.bool::sv20⟩),(.exit 0,⟨[],bx7,sv20⟩)],(Y7 S208_3)⟩
def F208c:KT:=xf 208 ⟨3,[.arr 4 0],[.data 42,.data 74,(.con (.arr 0 0 4)),.slice 4]⟩ ⟨1,[.arr 4 0],[.bool,.slice 4]⟩ (u4 F208) [F219c] [S208_3l] (L1 (xl S208_3l L0))
def S130_9(M O:Unit)(I:Bool)(z m:Int)(o:PV)(t:List PV):Option (T89a⊕T73a):=cond (decide (m<((o.fld 0).asList.length:Int))) (cond (aab m t.length) (let G:=!((t.getD m.toNat .bad).asBool);let J:=(o.fld 0).asList;cond (imp G (aab m J.length)) (cond G ((F208 o (J.getD m.toNat .bad) () t).bind λH=>cond (cond G (!H.1) false) (cond (aab m H.2.length) (some (.inl ((),(),true,z,(IntKind.wrap .i64 (m+1)),o,(H.2.set m.toNat (PV.bool true))))) none) (some (.inl ((),(),I,z,(IntKind.wrap .i64 (m+1)),o,H.2)))) (cond (cond G true false) (cond (aab m t.length) (some (.inl ((),(),true,z,(IntKind.wrap .i64 (m+1)),o,(t.set m.toNat (PV.bool true))))) none) (some (.inl ((),(),I,z,(IntKind.wrap .i64 (m+1)),o,t))))) none) none) (some (.inr ((),(),I,z,o,t)))
def S130_5(H I:Unit)(G:Bool)(t:Int)(o:PV)(z:List PV):Option (T73a⊕(Unit×PV×(List PV))):=cond (cond (decide (t<((o.fld 0).asList.length:Int))) G false) ((aad 0 (Y7 S130_9) ((),(),false,t,(0:Int),o,z)).bind λm=>some (.inl ((),(),m.2.2.1,(IntKind.wrap .i64 (m.2.2.2.1+1)),m.2.2.2.2.1,m.2.2.2.2.2))) (some (.inr ((),o,z)))
def F130(t:PV):Option ((List PV)):=let m:=((t.fld 0).asList.length:Int);cond (decide (0<=m/\m<=m/\m<=accMax)) ((aad 0 (Y6 S130_5) ((),(),true,(0:Int),t,(List.replicate m.toNat (PV.bool false)))).bind λo=>some o.2.2) none
def S130_9l:LoopE:=⟨9,⟨[1,3,4,5,6],bx8,(.con (.ref 0 [] 42))::(.con (.arr 1 0 4))::.bool::(.int .i64)::sv21⟩,[(.exit 2,f47)],(Y7 S130_9)⟩
def S130_5l:LoopE:=⟨5,f47,[(.exit 0,⟨[3],bx8,(.con (.arr 1 0 4))::sv22⟩)],(Y6 S130_5)⟩
def F130c:KT:=xf 130 f8 ⟨1,[],[.slice 4]⟩ F130 [F208c] [S130_9l,S130_5l] (L1 (xl S130_5l (L1 (xl S130_9l L0))))
def S304_3(m:Bn)(o:Int):Option (T63a⊕((Bn×Bn)⊕(Bn))):=cond (decide (o>=0)) (cond (aab o m.length) (cond (((m.getD o.toNat 0).toNat:Int)==46) (cond (decide (0<=(0:Int)/\(0:Int)<=o/\o<=(m.length:Int))) (let t:=IntKind.wrap .i64 (o+1);cond (decide (0<=t/\t<=(m.length:Int)/\(m.length:Int)<=(m.length:Int))) (some (.inr (.inl (((m.take o.toNat).drop (0:Int).toNat),((m.take (m.length:Int).toNat).drop t.toNat))))) none) none) (some (.inl (m,(IntKind.wrap .i64 (o-1)))))) none) (some (.inr (.inr m)))
def F304(t:Bn):Option (Bn×Bn):=(aad 0 (Y2 S304_3) (t,(IntKind.wrap .i64 ((t.length:Int)-1)))).bind λz=>sumE (λm=>some (m.1,m.2) ) (λo=>some (([]:Bn),o) ) z
def S304_3l:LoopE:=⟨3,⟨[0,4],[],sv5⟩,[(.ret,⟨[2,3],[],[.str,.str]⟩),(.exit 0,f119)],(Y2 S304_3)⟩
def F304c:KT:=xf 304 f4 f53 F304 [] [S304_3l] (L1 (xl S304_3l L0))
def F305(m:Bn):Option Bool:=cond (m==([109,101,115,115,97,103,101]:Bn)) (some true) (cond (m==([101,110,117,109]:Bn)) (some true) (cond (m==([115,101,114,118,105,99,101]:Bn)) (some true) (cond (m==([117,110,105,111,110]:Bn)) (some true) (cond (m==([109,97,112]:Bn)) (some true) (cond (m==([108,105,115,116]:Bn)) (some true) (let t:=m==([114,101,113,117,105,114,101,100]:Bn);cond t (some true) (let z:=m==([111,112,116,105,111,110,97,108]:Bn);cond z (some true) (cond (m==([112,108,97,105,110]:Bn)) (some true) (cond (m==([100,101,102,97,117,108,116]:Bn)) (some true) (let o:=m==([114,101,115,101,114,118,101,100]:Bn);cond o (some true) (cond (m==([105,109,112,111,114,116]:Bn)) (some true) (cond (m==([115,112,97,99,101]:Bn)) (some true) (cond (m==([114,112,99]:Bn)) (some true) (cond (m==([115,116,114,101,97,109]:Bn)) (some true) (cond (m==([114,101,116,117,114,110,115]:Bn)) (some true) (cond (m==([111,112,101,110]:Bn)) (some true) (cond (m==([116,114,117,101]:Bn)) (some true) (cond (m==([102,97,108,115,101]:Bn)) (some true) (cond (m==([110,97,110]:Bn)) (some true) (cond (m==([105,110,102]:Bn)) (some true) (some false)))))))))))))))))))))
def F305c:KT:=xj 305 f4 f0 F305 []
def S209_5(o:Bn)(t:Int):Option (T63a⊕T21a):=cond (cond (decide (t<120)) (!(o==([]:Bn))) false) ((F304 o).bind λz=>(F305 z.2).bind λm=>cond m (some (.inr (.inl false))) (some (.inl (z.1,(IntKind.wrap .i64 (t+1)))))) (some (.inr (.inr ())))
def F209(o:Bn):Option Bool:=(F13 o).bind λt=>cond (!t) (some false) ((aad 0 (Y2 S209_5) (o,(0:Int))).bind λz=>sumE (λm=>some m ) (λG=>some true ) z)
def S209_5l:LoopE:=⟨5,f122,[(.ret,f16),(.exit 0,f9)],(Y2 S209_5)⟩
def F209c:KT:=xf 209 f4 f0 F209 [F13c,F304c,F305c] [S209_5l] (L1 (xl S209_5l L0))
def F210(m:Bn):Option Bool:=(F31 m).bind λo=>(cond o (F305 m) (some false)).bind λt=>some (cond o (!t) false)
def F210c:KT:=xj 210 f4 f0 F210 [F31c,F305c]
def S211_3(m:List PV)(t o:Int):Option (T29a⊕T21a):=cond (decide (o<(m.length:Int))) (cond (aab o m.length) (let z:=decide (((m.getD o.toNat .bad).fld 0).asInt<=t);cond (imp z (aab o m.length)) (cond (cond z (decide (t<=((m.getD o.toNat .bad).fld 1).asInt)) false) (some (.inr (.inl true))) (some (.inl (m,t,(IntKind.wrap .i64 (o+1)))))) none) none) (some (.inr (.inr ())))
def F211(o:List PV)(t:Int):Option Bool:=(aad 0 (Y3 S211_3) (o,t,(0:Int))).bind λz=>sumE (λm=>some m ) (λG=>some false ) z
def S211_3l:LoopE:=⟨3,⟨[0,1,5],[],sv23⟩,[(.ret,f43),(.exit 0,f9)],(Y3 S211_3)⟩
def F211c:KT:=xf 211 f114 f0 (u2 F211) [] [S211_3l] (L1 (xl S211_3l L0))
def F212(o:PV):Option Bool:=cond ((o.fld 2).asInt != 5) (some (cond (cond (decide (((o.fld 2).asInt)>=1)) (decide ((o.fld 2).asInt<=4)) false) ((o.fld 3).asInt==0) false)) (let m:=(o.fld 3).asInt;cond (m==1) (some true) (cond (m==2) (some true) (cond (m==3) (some true) (cond (m==4) (some true) (cond (m==5) (some true) (cond (m==7) (some true) (some false)))))))
def F212c:KT:=xj 212 f19 f0 F212 []
def S306_3(t:Bn)(G:Unit)(m:Int)(o:PV):Option (T77a⊕T112a):=cond (decide (m<((o.fld 1).asList.length:Int))) (let z:=(o.fld 1).asList;cond (aab m z.length) (cond (((z.getD m.toNat .bad).fld 0).asStr==t) (some (.inr (.inl (m,o)))) (some (.inl (t,(),(IntKind.wrap .i64 (m+1)),o)))) none) (some (.inr (.inr o)))
def F306(o:PV)(t:Bn):Option Int:=(aad 0 (Y4 S306_3) (t,(),(0:Int),o)).bind λz=>sumE (λm=>some m.1 ) (λG=>some (-1:Int) ) z
def S306_3l:LoopE:=⟨3,⟨[1,2,5],bx6,.str::sv18⟩,[(.ret,⟨[4],bx6,sv19⟩),(.exit 0,f69)],(Y4 S306_3)⟩
def F306c:KT:=xf 306 f75 f5 (u2 F306) [] [S306_3l] (L1 (xl S306_3l L0))
def F213(o m:PV):Option Bool:=let x1:=((m.fld 4).fld 0).asInt;cond (x1==9) ((F306 o (((m.fld 4).fld 1).asStr)).bind λt=>some (decide (t>=0))) (cond (x1==10) ((F219 o (((m.fld 4).fld 1).asStr)).bind λz=>some (cond (decide (z>=0)) ((m.fld 2).asInt != 3) false)) (some (cond (cond (decide ((((m.fld 4).fld 0).asInt)>=1)) (decide ((((m.fld 4).fld 0).asInt)<=8)) false) ((((m.fld 4).fld 1).asStr)==([]:Bn)) false)))
def F213c:KT:=xj 213 f88 f0 (u2 F213) [F306c,F219c]
def S214_9(z:Int)(M O:Unit)(G:Bool)(m:Int)(o t:PV):Option (T97a⊕((Bool×PV×PV)⊕(Int×Unit×Unit×Bool×PV×PV))):=cond (decide (m<((o.fld 1).asList.length:Int))) (let H:=(o.fld 1).asList;cond (aab m H.length) (cond (((H.getD m.toNat .bad).fld 1).asStr==(t.fld 5).asStr) (some (.inr (.inl (false,o,t)))) (let I:=decide (m<z);let J:=(o.fld 1).asList;cond (imp I (aab m J.length)) (cond (cond I (((J.getD m.toNat .bad).fld 5).asStr==(t.fld 5).asStr) false) (some (.inl (z,(),(),true,(IntKind.wrap .i64 (m+1)),o,t))) (some (.inl (z,(),(),G,(IntKind.wrap .i64 (m+1)),o,t)))) none)) none) (some (.inr (.inr (z,(),(),G,o,t))))
def F214(M:PV)(I:Int):Option Bool:=let x1:=(M.fld 1).asList;cond (aab I x1.length) (let H:=x1.getD I.toNat .bad;cond ((H.fld 5).asStr==([]:Bn)) (some true) (let O:=(H.fld 2).asInt != 2;(cond (!O) (F210 (H.fld 5).asStr) (some false)).bind λU=>cond (cond O true (!U)) (some false) ((aad 0 (Y7 S214_9) (I,(),(),false,(0:Int),M,H)).bind λz=>sumE (λJ=>some J.1 ) (λm=>let o:=!m.2.2.2.1;let t:=(m.2.2.2.2.1.fld 1).asList;let G:=IntKind.wrap .i64 (m.1-1);cond (imp (!o) (aab G t.length)) (some (cond o true (((t.getD G.toNat .bad).fld 5).asStr==(m.2.2.2.2.2.fld 5).asStr))) none ) z))) none
def S214_9l:LoopE:=⟨9,⟨[1,2,5,6,7],bx9,(.int .i64)::(.con (.ref 0 [] 74))::(.con (.ref 1 [] 69))::.bool::(.int .i64)::sv26⟩,[(.ret,⟨[4],bx9,.bool::sv26⟩),(.exit 0,⟨[1,2,5,6],bx9,(.int .i64)::(.con (.ref 0 [] 74))::(.con (.ref 1 [] 69))::.bool::sv26⟩)],(Y7 S214_9)⟩
def F214c:KT:=xf 214 f110 f0 (u2 F214) [F210c] [S214_9l] (L1 (xl S214_9l L0))
def F307(m o:PV):Option Bool:=some (cond (cond (cond ((m.fld 0).asInt==(o.fld 0).asInt) ((m.fld 1).asInt==(o.fld 1).asInt) false) ((m.fld 2).asStr==(o.fld 2).asStr) false) ((IntKind.wrap .i64 ((IntKind.wrap .i64 ((IntKind.wrap .i64 ((IntKind.wrap .i64 ((IntKind.wrap .i64 ((IntKind.wrap .i64 ((IntKind.wrap .i64 (((m.fld 3).asList.length:Int)+((m.fld 4).asList.length:Int)))+((m.fld 5).asList.length:Int)))+((m.fld 6).asList.length:Int)))+((o.fld 3).asList.length:Int)))+((o.fld 4).asList.length:Int)))+((o.fld 5).asList.length:Int)))+((o.fld 6).asList.length:Int)))==0) false)
def F307c:KT:=xj 307 f115 f0 (u2 F307) []
def F375(m:Int):Option Bool:=some (cond (decide (m>=1)) (decide (m<=9)) false)
def F375c:KT:=xj 375 f5 f0 F375 []
def F376(m:PV):Option Bool:=some (cond (cond (cond (((m.fld 3).asList.length:Int)==0) (((m.fld 4).asList.length:Int)==0) false) (((m.fld 5).asList.length:Int)==0) false) (((m.fld 6).asList.length:Int)==0) false)
def F376c:KT:=xj 376 f15 f0 F376 []
def F377(m:Int):Option Bool:=some (cond (m==7) true (m==8))
def F377c:KT:=xj 377 f5 f0 F377 []
def F386(m:Bn)(o G H:Int):Option Bool:=let t:=decide (o<(m.length:Int));cond (imp t (aab o m.length)) (let z:=cond t (decide (((m.getD o.toNat 0).toNat:Int)>=G)) false;cond (imp z (aab o m.length)) (some (cond z (decide (((m.getD o.toNat 0).toNat:Int)<=H)) false)) none) none
def F386c:KT:=xj 386 ⟨4,[],[.str,.int .i64,.int .u8,.int .u8]⟩ f0 (u4 F386) []
def S385_3(o:Bn)(t z m:Int):Option (T78a⊕T21a):=cond (decide (m<z)) ((F386 o (IntKind.wrap .i64 (t+m)) (128:Int) (191:Int)).bind λG=>cond (!G) (some (.inr (.inl false))) (some (.inl (o,t,z,(IntKind.wrap .i64 (m+1)))))) (some (.inr (.inr ())))
def F385(o:Bn)(t G:Int):Option Bool:=(aad 0 (Y4 S385_3) (o,t,G,(0:Int))).bind λz=>sumE (λm=>some m ) (λH=>some true ) z
def S385_3l:LoopE:=⟨3,⟨[0,1,2,7],[],.str::sv28⟩,[(.ret,⟨[6],[],[.bool]⟩),(.exit 0,f9)],(Y4 S385_3)⟩
def F385c:KT:=xf 385 ⟨3,[],sv29⟩ f0 (u3 F385) [F386c] [S385_3l] (L1 (xl S385_3l L0))
def F321(m:Bn)(o:Int):Option Int:=cond (aab o m.length) (let x1:=((m.getD o.toNat 0).toNat:Int);cond (decide (x1<128)) (some (1:Int)) (let x5:=cond (decide (x1>=194)) (decide (x1<=223)) false;(cond x5 (F385 m (IntKind.wrap .i64 (o+1)) (1:Int)) (some false)).bind λy7=>cond (cond x5 y7 false) (some (2:Int)) (let x9:=x1==224;(cond x9 (F386 m (IntKind.wrap .i64 (o+1)) (160:Int) (191:Int)) (some false)).bind λV=>let t:=cond x9 V false;(cond t (F385 m (IntKind.wrap .i64 (o+2)) (1:Int)) (some false)).bind λW=>cond (cond t W false) (some (3:Int)) (let z:=x1==237;(cond z (F386 m (IntKind.wrap .i64 (o+1)) (128:Int) (159:Int)) (some false)).bind λX=>let G:=cond z X false;(cond G (F385 m (IntKind.wrap .i64 (o+2)) (1:Int)) (some false)).bind λY=>cond (cond G Y false) (some (3:Int)) (let H:=cond (cond (decide (x1>=225)) (decide (x1<=239)) false) (x1 != 237) false;(cond H (F385 m (IntKind.wrap .i64 (o+1)) (2:Int)) (some false)).bind λZ=>cond (cond H Z false) (some (3:Int)) (let I:=x1==240;(cond I (F386 m (IntKind.wrap .i64 (o+1)) (144:Int) (191:Int)) (some false)).bind λaa=>let J:=cond I aa false;(cond J (F385 m (IntKind.wrap .i64 (o+2)) (2:Int)) (some false)).bind λab=>cond (cond J ab false) (some (4:Int)) (let M:=cond (decide (x1>=241)) (decide (x1<=243)) false;(cond M (F385 m (IntKind.wrap .i64 (o+1)) (3:Int)) (some false)).bind λad=>cond (cond M ad false) (some (4:Int)) (let O:=x1==244;(cond O (F386 m (IntKind.wrap .i64 (o+1)) (128:Int) (143:Int)) (some false)).bind λae=>let U:=cond O ae false;(cond U (F385 m (IntKind.wrap .i64 (o+2)) (2:Int)) (some false)).bind λaf=>cond (cond U af false) (some (4:Int)) (some (0:Int)))))))))) none
def F321c:KT:=xj 321 ⟨2,[],sv5⟩ f5 (u2 F321) [F385c,F386c]
def S311_3(o:Bn)(m:Int):Option (T63a⊕T104a):=cond (decide (m<(o.length:Int))) ((F321 o m).bind λt=>cond (t==0) (some (.inr (.inl m))) (some (.inl (o,(IntKind.wrap .i64 (m+t)))))) (some (.inr (.inr ())))
def F311(m:Bn):Option Int:=(aad 0 (Y2 S311_3) (m,(0:Int))).bind λz=>sumE (λo=>some o ) (λt=>some (-1:Int) ) z
def S311_3l:LoopE:=⟨3,f122,[(.ret,⟨[2],[],[.int .i64]⟩),(.exit 0,f9)],(Y2 S311_3)⟩
def F311c:KT:=xf 311 f4 f5 F311 [F321c] [S311_3l] (L1 (xl S311_3l L0))
def F218(m:Bn):Option Bool:=(F311 m).bind λo=>some (decide (o<0))
def F218c:KT:=xj 218 f4 f0 F218 [F311c]
def F308(o:Int)(m:PV):Option Bool:=(F375 o).bind λJ=>let I:=cond (!J) true ((m.fld 0).asInt != o);(cond (!I) (F376 m) (some false)).bind λM=>cond (cond I true (!M)) (some false) ((F377 o).bind λO=>cond O (let t:=cond ((m.fld 1).asInt==0) (decide (((m.fld 2).asStr.length:Int)<=4096)) false;let z:=o==8;(cond (cond (!z) t false) (F218 (m.fld 2).asStr) (some false)).bind λH=>some (cond t (cond z true H) false)) (cond (!((m.fld 2).asStr==([]:Bn))) (some false) (cond (o==1) (some (decide ((m.fld 1).asInt<=1))) (cond (o==2) (let G:=IntKind.wrap .i64 ((m.fld 1).asInt);some (cond (decide (G>=(-2147483648:Int))) (decide (G<=2147483647)) false)) (cond (o==4) (some (decide ((m.fld 1).asInt<4294967296))) (cond (o==9) (some (decide ((m.fld 1).asInt<2147483648))) (some true)))))))
def F308c:KT:=xj 308 f111 f0 (u2 F308) [F375c,F376c,F377c,F218c]
def F378(m:Int):Option Int:=let x1:=m.tmod (9223372036854775808:Int);cond (decide (x1>9218868437227405312)) (some (0:Int)) (cond (x1==9218868437227405312) (some (1:Int)) (cond (x1==0) (some (2:Int)) (cond (decide (x1<4503599627370496)) (some (3:Int)) (some (4:Int)))))
def F378c:KT:=xj 378 f23 f5 F378 []
def F309(m:PV):Option PV:=let o:=(m.fld 0).asInt==6;(cond o (F378 (m.fld 1).asInt) (some 0)).bind λt=>cond (cond o (t==0) false) (some (PV.agg [.int (m.fld 0).asInt,.int 9221120237041090560,.str (m.fld 2).asStr,.slice (m.fld 3).asList,.slice (m.fld 4).asList,.slice (m.fld 5).asList,.slice (m.fld 6).asList])) (some m)
def F309c:KT:=xj 309 f15 f15 F309 [F378c]
def S215_13(M O:Unit)(m t:Int)(o G z:PV):Option (T100a⊕((Bool×PV×PV×PV)⊕(PV×PV×PV))):=let H:=(o.fld 1).asList;cond (aab m H.length) (cond (decide (t<(((H.getD m.toNat .bad).fld 2).asList.length:Int))) (let I:=(o.fld 1).asList;cond (aab m I.length) (let J:=((I.getD m.toNat .bad).fld 2).asList;cond (aab t J.length) (cond ((IntKind.wrap .u64 ((J.getD t.toNat .bad).fld 1).asInt)==(z.fld 1).asInt) (some (.inr (.inl (true,o,G,z)))) (some (.inl ((),(),m,(IntKind.wrap .i64 (t+1)),o,G,z)))) none) none) (some (.inr (.inr (o,G,z))))) none
def F215(M m:PV):Option Bool:=let x1:=m.fld 7;cond (!(m.fld 6).asBool) ((F307 x1 (PV.agg [.int 0,.int 0,.str ([]:Bn),.slice [],.slice [],.slice [],.slice []])).bind λU=>some U) (let O:=cond ((m.fld 2).asInt != 2) true (!((m.fld 5).asStr==([]:Bn)));(cond (!O) (F308 (((m.fld 4).fld 0).asInt) x1) (some false)).bind λG=>let o:=cond O true (!G);(cond (!o) (F309 x1) (some PV.bad)).bind λH=>(cond (!o) (F307 x1 H) (some false)).bind λI=>cond (cond o true (!I)) (some false) ((F306 M (((m.fld 4).fld 1).asStr)).bind λt=>cond ((((m.fld 4).fld 0).asInt) != 9) (some true) (cond (decide (t<0)) (some false) ((aad 0 (Y7 S215_13) ((),(),t,(0:Int),M,m,x1)).bind λz=>sumE (λJ=>some J.1 ) (λV=>some false ) z))))
def S215_13l:LoopE:=⟨13,⟨[2,5,6,7],bx10,(.con (.ref 0 [] 42))::(.con (.ref 2 [] 64))::(.int .i64)::(.int .i64)::sv30⟩,[(.ret,⟨[4],bx10,.bool::sv30⟩),(.exit 0,⟨[],bx10,sv30⟩)],(Y7 S215_13)⟩
def F215c:KT:=xf 215 f88 f0 (u2 F215) [F307c,F308c,F309c,F306c] [S215_13l] (L1 (xl S215_13l L0))
def F379(m:Bn):Option Int:=let x1:=m==([100,101,112,114,101,99,97,116,101,100]:Bn);cond x1 (some (1:Int)) (cond (m==([115,101,99,114,101,116]:Bn)) (some (1:Int)) (let o:=m==([105,100,101,109,112,111,116,101,110,116]:Bn);cond o (some (1:Int)) (cond (m==([100,111,99]:Bn)) (some (7:Int)) (cond (m==([97,108,105,97,115]:Bn)) (some (7:Int)) (cond (m==([114,111,117,116,101]:Bn)) (some (7:Int)) (cond (m==([111,119,110,101,114]:Bn)) (some (7:Int)) (cond (m==([115,105,110,99,101]:Bn)) (some (4:Int)) (cond (m==([117,110,116,105,108]:Bn)) (some (4:Int)) (cond (m==([108,101,110,103,116,104]:Bn)) (some (4:Int)) (cond (m==([116,105,109,101,111,117,116]:Bn)) (some (4:Int)) (cond (m==([109,105,110]:Bn)) (some (3:Int)) (cond (m==([109,97,120]:Bn)) (some (3:Int)) (some (0:Int))))))))))))))
def F379c:KT:=xj 379 f4 f5 F379 []
def F380(o:Bn)(m:Int):Option Bool:=let x1:=o==([100,101,112,114,101,99,97,116,101,100]:Bn);cond x1 (some (cond (decide (m>=1)) (decide (m<=6)) false)) (cond (o==([100,111,99]:Bn)) (some (cond (decide (m>=1)) (decide (m<=6)) false)) (cond (o==([97,108,105,97,115]:Bn)) (some (cond (cond (m==2) true (m==4)) true (m==6))) (cond (o==([115,105,110,99,101]:Bn)) (some (cond (cond (m==2) true (m==4)) true (m==6))) (cond (o==([117,110,116,105,108]:Bn)) (some (cond (cond (m==2) true (m==4)) true (m==6))) (cond (o==([109,105,110]:Bn)) (some (m==2)) (cond (o==([109,97,120]:Bn)) (some (m==2)) (cond (o==([108,101,110,103,116,104]:Bn)) (some (m==2)) (cond (o==([115,101,99,114,101,116]:Bn)) (some (m==2)) (let t:=o==([105,100,101,109,112,111,116,101,110,116]:Bn);cond t (some (m==6)) (cond (o==([116,105,109,101,111,117,116]:Bn)) (some (m==6)) (cond (o==([114,111,117,116,101]:Bn)) (some (m==6)) (some (cond (m==1) true (m==5))))))))))))))
def F380c:KT:=xj 380 ⟨2,[],sv5⟩ f0 (u2 F380) []
def F381(m:PV):Option Bool:=(F379 (m.fld 0).asStr).bind λo=>let t:=cond (o != 0) ((((m.fld 1).fld 0).asInt)==o) false;(cond t (F308 o (m.fld 1)) (some false)).bind λz=>some (cond t z false)
def F381c:KT:=xj 381 f106 f0 F381 [F379c,F308c]
def S310_5(m:List PV)(O o:Int):Option (T29a⊕T104a):=cond (decide (o<(m.length:Int))) (cond (aab o m.length) ((F379 ((m.getD o.toNat .bad).fld 0).asStr).bind λI=>cond (I==0) (some (.inr (.inl (8:Int)))) (cond (aab o m.length) ((F380 ((m.getD o.toNat .bad).fld 0).asStr O).bind λJ=>cond (!J) (some (.inr (.inl (1:Int)))) (cond (aab o m.length) ((F381 (m.getD o.toNat .bad)).bind λM=>cond (!M) (some (.inr (.inl (12:Int)))) (let t:=decide (o>0);cond (imp t (aab o m.length)) (let G:=IntKind.wrap .i64 (o-1);cond (imp t (aab G m.length)) (cond (cond t (Op.bytesLess ((m.getD o.toNat .bad).fld 0).asStr ((m.getD G.toNat .bad).fld 0).asStr) false) (some (.inr (.inl (11:Int)))) (let z:=decide (o>0);cond (imp z (aab o m.length)) (let H:=IntKind.wrap .i64 (o-1);cond (imp z (aab H m.length)) (cond (cond z (((m.getD o.toNat .bad).fld 0).asStr==((m.getD H.toNat .bad).fld 0).asStr) false) (some (.inr (.inl (9:Int)))) (some (.inl (m,O,(IntKind.wrap .i64 (o+1)))))) none) none)) none) none)) none)) none)) none) (some (.inr (.inr ())))
def F310(o:List PV)(t:Int):Option Int:=cond (decide ((o.length:Int)>8)) (some (3:Int)) ((aad 0 (Y3 S310_5) (o,t,(0:Int))).bind λz=>sumE (λm=>some m ) (λG=>some (0:Int) ) z)
def S310_5l:LoopE:=⟨5,⟨[0,1,5],[],sv31⟩,[(.ret,f93),(.exit 0,f9)],(Y3 S310_5)⟩
def F310c:KT:=xf 310 ⟨2,[],sv32⟩ f5 (u2 F310) [F379c,F380c,F381c] [S310_5l] (L1 (xl S310_5l L0))
def F216(J:Unit)(t:List PV)(z G:Int)(H:Bn)(I:List PV):Option (Bn×(List PV)):=(F310 t z).bind λm=>(F127 () (m != 0) G m H I).bind λo=>some (o.1,o.2)
def F216c:KT:=xj 216 ⟨4,bx5,(.con (.ref 0 [] 195))::(.slice 66)::sv13⟩ ⟨0,bx5,sv14⟩ (u6 F216) [F310c,F127c]
def S217_2(W:Unit)(m:List PV)(M O o:Int)(U:Bn)(V:List PV):Option (T74a⊕(Bn×(List PV))):=cond (decide (o<(m.length:Int))) (cond (aab o m.length) (let G:=decide (((m.getD o.toNat .bad).fld 0).asInt<M);cond (imp (!G) (aab o m.length)) (let t:=cond G true (decide (((m.getD o.toNat .bad).fld 1).asInt>O));cond (imp (!t) (aab o m.length)) (cond (imp (!t) (aab o m.length)) ((F127 () (cond t true (decide (((m.getD o.toNat .bad).fld 0).asInt>((m.getD o.toNat .bad).fld 1).asInt))) (-1:Int) (6:Int) U V).bind λI=>let z:=decide (o>0);cond (imp z (aab o m.length)) (let H:=IntKind.wrap .i64 (o-1);cond (imp z (aab H m.length)) ((F127 () (cond z (decide (((m.getD o.toNat .bad).fld 0).asInt<=((m.getD H.toNat .bad).fld 1).asInt)) false) (-1:Int) (11:Int) I.1 I.2).bind λJ=>some (.inl ((),m,M,O,(IntKind.wrap .i64 (o+1)),J.1,J.2))) none) none) none) none) none) none) (some (.inr (U,V)))
def F217(I:Unit)(o:List PV)(t z:Int)(G:Bn)(H:List PV):Option (Bn×(List PV)):=(aad 0 (Y7 S217_2) ((),o,t,z,(0:Int),G,H)).bind λm=>some (m.1,m.2)
def S217_2l:LoopE:=⟨2,⟨[0,1,2,3,8],bx5,(.con (.ref 0 [] 195))::(.slice 117)::(.int .i64)::sv13⟩,[(.exit 0,⟨[],bx5,sv14⟩)],(Y7 S217_2)⟩
def F217c:KT:=xf 217 ⟨4,bx5,(.con (.ref 0 [] 195))::(.slice 117)::sv13⟩ ⟨0,bx5,sv14⟩ (u6 F217) [F127c] [S217_2l] (L1 (xl S217_2l L0))
def S208_v1_3(J:List PV)(M O:Unit)(z:Int)(G t:PV):Option (T98a⊕T48a):=cond (decide (z<((t.fld 1).asList.length:Int))) (let H:=(t.fld 1).asList;cond (aab z H.length) (let m:=H.getD z.toNat .bad;cond (cond ((m.fld 2).asInt != 1) true ((((m.fld 4).fld 0).asInt) != 10)) (some (.inl (J,(),(),(IntKind.wrap .i64 (z+1)),G,t))) ((F219 G (((m.fld 4).fld 1).asStr)).bind λo=>let I:=decide (o>=0);cond (imp I (aab o J.length)) (cond (cond I (!(J.getD o.toNat .bad).asBool) false) (some (.inr (.inl (true,G,t)))) (some (.inl (J,(),(),(IntKind.wrap .i64 (z+1)),G,t)))) none)) none) (some (.inr (.inr (G,t))))
def F208_v1(o t:PV)(G:List PV):Option Bool:=(aad 0 (Y6 S208_v1_3) (G,(),(),(0:Int),o,t)).bind λz=>sumE (λm=>some m.1 ) (λH=>some false ) z
def S208_v1_3l:LoopE:=⟨3,⟨[2,3,4,7],bx3,(.slice 4)::(.con (.ref 0 [] 42))::(.con (.ref 1 [] 74))::(.int .i64)::sv9⟩,[(.ret,⟨[6],bx3,.bool::sv9⟩),(.exit 0,⟨[],bx3,sv9⟩)],(Y6 S208_v1_3)⟩
def F208_v1c:KT:=xf 208 f85 f0 (u3 F208_v1) [F219c] [S208_v1_3l] (L1 (xl S208_v1_3l L0))
def S131_11(G:List PV)(U V W:Unit)(o:Int)(X:Unit)(M:Bool)(m:Int)(H t:PV)(I:Bn)(J:List PV)(z:PV):Option (T36a⊕((List PV)×Unit×Unit×Unit×Int×Unit×Bool×PV×PV×Bn×(List PV)×PV)):=cond (decide (m<o)) (let O:=(t.fld 1).asList;cond (aab m O.length) (cond (((O.getD m.toNat .bad).fld 1).asStr==(z.fld 1).asStr) (some (.inl (G,(),(),(),o,(),true,(IntKind.wrap .i64 (m+1)),H,t,I,J,z))) (some (.inl (G,(),(),(),o,(),M,(IntKind.wrap .i64 (m+1)),H,t,I,J,z)))) none) (some (.inr (G,(),(),(),o,(),M,H,t,I,J,z)))
def S131_6(J:List PV)(an ao ap:Unit)(o:Int)(M t:PV)(O:Bn)(U:List PV):Option (T19a⊕T69a):=cond (decide (o<((t.fld 1).asList.length:Int))) (let V:=(t.fld 1).asList;cond (aab o V.length) ((aad 0 (Y13 S131_11) (J,(),(),(),o,(),false,(0:Int),M,t,O,U,(V.getD o.toNat .bad))).bind λm=>(F127 () (cond (decide ((m.2.2.2.2.2.2.2.2.2.2.2.fld 0).asInt<1)) true (decide ((m.2.2.2.2.2.2.2.2.2.2.2.fld 0).asInt>65535))) (m.2.2.2.2.2.2.2.2.2.2.2.fld 0).asInt (6:Int) m.2.2.2.2.2.2.2.2.2.1 m.2.2.2.2.2.2.2.2.2.2.1).bind λab=>let W:=decide (m.2.2.2.2.1>0);let X:=(m.2.2.2.2.2.2.2.2.1.fld 1).asList;let Y:=IntKind.wrap .i64 (m.2.2.2.2.1-1);cond (imp W (aab Y X.length)) ((F127 () (cond W (decide ((m.2.2.2.2.2.2.2.2.2.2.2.fld 0).asInt<=((X.getD Y.toNat .bad).fld 0).asInt)) false) (m.2.2.2.2.2.2.2.2.2.2.2.fld 0).asInt (11:Int) ab.1 ab.2).bind λad=>(F210 (m.2.2.2.2.2.2.2.2.2.2.2.fld 1).asStr).bind λaj=>(F127 () (!aj) (m.2.2.2.2.2.2.2.2.2.2.2.fld 0).asInt (8:Int) ad.1 ad.2).bind λae=>(F127 () m.2.2.2.2.2.2.1 (m.2.2.2.2.2.2.2.2.2.2.2.fld 0).asInt (9:Int) ae.1 ae.2).bind λaf=>(F211 (m.2.2.2.2.2.2.2.2.1.fld 2).asList (m.2.2.2.2.2.2.2.2.2.2.2.fld 0).asInt).bind λag=>(cond (!ag) (F207 (m.2.2.2.2.2.2.2.2.1.fld 3).asList (m.2.2.2.2.2.2.2.2.2.2.2.fld 1).asStr) (some false)).bind λak=>(F127 () (cond ag true ak) (m.2.2.2.2.2.2.2.2.2.2.2.fld 0).asInt (21:Int) af.1 af.2).bind λah=>(F212 m.2.2.2.2.2.2.2.2.2.2.2).bind λal=>(F127 () (!al) (m.2.2.2.2.2.2.2.2.2.2.2.fld 0).asInt (1:Int) ah.1 ah.2).bind λai=>(F213 m.2.2.2.2.2.2.2.1 m.2.2.2.2.2.2.2.2.2.2.2).bind λam=>(F127 () (!am) (m.2.2.2.2.2.2.2.2.2.2.2.fld 0).asInt (12:Int) ai.1 ai.2).bind λz=>(F214 m.2.2.2.2.2.2.2.2.1 m.2.2.2.2.1).bind λZ=>(F127 () (!Z) (m.2.2.2.2.2.2.2.2.2.2.2.fld 0).asInt (15:Int) z.1 z.2).bind λG=>(F215 m.2.2.2.2.2.2.2.1 m.2.2.2.2.2.2.2.2.2.2.2).bind λaa=>(F127 () (!aa) (m.2.2.2.2.2.2.2.2.2.2.2.fld 0).asInt (1:Int) G.1 G.2).bind λH=>(F216 () (m.2.2.2.2.2.2.2.2.2.2.2.fld 8).asList (2:Int) (m.2.2.2.2.2.2.2.2.2.2.2.fld 0).asInt H.1 H.2).bind λI=>some (.inl (m.1,(),(),(),(IntKind.wrap .i64 (m.2.2.2.2.1+1)),m.2.2.2.2.2.2.2.1,m.2.2.2.2.2.2.2.2.1,I.1,I.2))) none) none) (some (.inr (J,(),(),(),M,t,O,U)))
def S131_27(t:List PV)(O U V:Unit)(m:Int)(z o:PV)(G:Bn)(H:List PV):Option (T19a⊕T69a):=cond (decide (m<((o.fld 3).asList.length:Int))) (let I:=(o.fld 3).asList;cond (aab m I.length) ((F218 (I.getD m.toNat .bad).asStr).bind λM=>(F127 () (!M) (-1:Int) (7:Int) G H).bind λJ=>some (.inl (t,(),(),(),(IntKind.wrap .i64 (m+1)),z,o,J.1,J.2))) none) (some (.inr (t,(),(),(),z,o,G,H)))
def F131(O G:PV)(U:List PV):Option ((List PV)):=(F209 (G.fld 0).asStr).bind λV=>(F127 () (!V) (-1:Int) (8:Int) (G.fld 0).asStr []).bind λM=>(F127 () (cond (cond (decide (((G.fld 1).asList.length:Int)>64)) true (decide (((G.fld 2).asList.length:Int)>16))) true (decide (((G.fld 3).asList.length:Int)>16))) (-1:Int) (3:Int) M.1 M.2).bind λJ=>(aad 0 (Y9 S131_6) (U,(),(),(),(0:Int),O,G,J.1,J.2)).bind λm=>(F217 () (m.2.2.2.2.2.1.fld 2).asList (1:Int) (65535:Int) m.2.2.2.2.2.2.1 m.2.2.2.2.2.2.2).bind λt=>(aad 0 (Y9 S131_27) (m.1,(),(),(),(0:Int),m.2.2.2.2.1,m.2.2.2.2.2.1,t.1,t.2)).bind λo=>(F216 () (o.2.2.2.2.2.1.fld 4).asList (1:Int) (-1:Int) o.2.2.2.2.2.2.1 o.2.2.2.2.2.2.2).bind λz=>(F208_v1 o.2.2.2.2.1 o.2.2.2.2.2.1 o.1).bind λH=>(F127 () H (-1:Int) (19:Int) z.1 z.2).bind λI=>some I.2
def S131_11l:LoopE:=⟨11,⟨[2,3,4,7,8,9,10,11],bx11,[.slice 4,(.con (.ref 0 [] 42)),(.con (.ref 1 [] 74)),(.con (.ref 2 [] 195)),.int .i64,(.con (.ref 4 [] 69)),.bool,.int .i64,.data 42,.data 74,.str,.acc 3 205,.data 69]⟩,[(.exit 2,⟨[2,3,4,7,8,9,10],bx11,[.slice 4,(.con (.ref 0 [] 42)),(.con (.ref 1 [] 74)),(.con (.ref 2 [] 195)),.int .i64,(.con (.ref 4 [] 69)),.bool,.data 42,.data 74,.str,.acc 3 205,.data 69]⟩)],(Y13 S131_11)⟩
def S131_6l:LoopE:=⟨6,⟨[2,3,4,7,8],bx12,(.slice 4)::(.con (.ref 0 [] 42))::(.con (.ref 1 [] 74))::(.con (.ref 2 [] 195))::(.int .i64)::sv33⟩,[(.exit 0,f21)],(Y9 S131_6)⟩
def S131_27l:LoopE:=⟨27,⟨[2,3,4,7,12],bx12,(.slice 4)::(.con (.ref 0 [] 42))::(.con (.ref 1 [] 74))::(.con (.ref 2 [] 195))::(.int .i64)::sv33⟩,[(.exit 4,f21)],(Y9 S131_27)⟩
def F131c:KT:=xf 131 f85 f42 (u3 F131) [F209c,F127c,F210c,F211c,F207c,F212c,F213c,F214c,F215c,F216c,F217c,F218c,F208_v1c] [S131_11l,S131_6l,S131_27l] (L2 (xl S131_6l (L1 (xl S131_11l L0))) (xl S131_27l L0))
def S132_12(M O:Unit)(o:Int)(U:Unit)(I:Bool)(m:Int)(t:PV)(G:Bn)(H:List PV)(z:PV):Option (T59a⊕(Unit×Unit×Int×Unit×Bool×PV×Bn×(List PV)×PV)):=cond (decide (m<o)) (let J:=(t.fld 2).asList;cond (aab m J.length) (cond (((J.getD m.toNat .bad).fld 0).asStr==(z.fld 0).asStr) (some (.inl ((),(),o,(),true,(IntKind.wrap .i64 (m+1)),t,G,H,z))) (some (.inl ((),(),o,(),I,(IntKind.wrap .i64 (m+1)),t,G,H,z)))) none) (some (.inr ((),(),o,(),I,t,G,H,z)))
def S132_7(ab ad:Unit)(o:Int)(t:PV)(z:Bn)(G:List PV):Option (T7a⊕T44a):=cond (decide (o<((t.fld 2).asList.length:Int))) (let H:=(t.fld 2).asList;cond (aab o H.length) ((aad 0 (Y10 S132_12) ((),(),o,(),false,(0:Int),t,z,G,(H.getD o.toNat .bad))).bind λm=>(F127 () (cond (decide ((m.2.2.2.2.2.2.2.2.fld 1).asInt<0)) true (decide ((m.2.2.2.2.2.2.2.2.fld 1).asInt>2147483647))) (m.2.2.2.2.2.2.2.2.fld 1).asInt (6:Int) m.2.2.2.2.2.2.1 m.2.2.2.2.2.2.2.1).bind λO=>let I:=decide (m.2.2.1>0);let J:=(m.2.2.2.2.2.1.fld 2).asList;let M:=IntKind.wrap .i64 (m.2.2.1-1);cond (imp I (aab M J.length)) ((F127 () (cond I (decide ((m.2.2.2.2.2.2.2.2.fld 1).asInt<=((J.getD M.toNat .bad).fld 1).asInt)) false) (m.2.2.2.2.2.2.2.2.fld 1).asInt (11:Int) O.1 O.2).bind λU=>(F210 (m.2.2.2.2.2.2.2.2.fld 0).asStr).bind λZ=>(F127 () (!Z) (m.2.2.2.2.2.2.2.2.fld 1).asInt (8:Int) U.1 U.2).bind λV=>(F127 () m.2.2.2.2.1 (m.2.2.2.2.2.2.2.2.fld 1).asInt (9:Int) V.1 V.2).bind λW=>(F211 (m.2.2.2.2.2.1.fld 3).asList (m.2.2.2.2.2.2.2.2.fld 1).asInt).bind λaa=>(F127 () aa (m.2.2.2.2.2.2.2.2.fld 1).asInt (21:Int) W.1 W.2).bind λX=>(F216 () (m.2.2.2.2.2.2.2.2.fld 2).asList (4:Int) (m.2.2.2.2.2.2.2.2.fld 1).asInt X.1 X.2).bind λY=>some (.inl ((),(),(IntKind.wrap .i64 (m.2.2.1+1)),m.2.2.2.2.2.1,Y.1,Y.2))) none) none) (some (.inr ((),(),t,z,G)))
def F132(o:PV):Option ((List PV)):=(F209 (o.fld 0).asStr).bind λO=>(F127 () (!O) (-1:Int) (8:Int) (o.fld 0).asStr []).bind λM=>(F127 () (cond (cond (decide (((o.fld 2).asList.length:Int)<1)) true (decide (((o.fld 2).asList.length:Int)>64))) true (decide (((o.fld 3).asList.length:Int)>16))) (-1:Int) (3:Int) M.1 M.2).bind λH=>let t:=decide (((o.fld 2).asList.length:Int)>0);let z:=(o.fld 2).asList;cond (imp t (aab (0:Int) z.length)) ((F127 () (cond t (((z.getD (0:Int).toNat .bad).fld 1).asInt != (0:Int)) false) (-1:Int) (14:Int) H.1 H.2).bind λI=>(aad 0 (Y6 S132_7) ((),(),(0:Int),o,I.1,I.2)).bind λm=>(F217 () (m.2.2.1.fld 3).asList (0:Int) (2147483647:Int) m.2.2.2.1 m.2.2.2.2).bind λJ=>(F216 () (m.2.2.1.fld 4).asList (3:Int) (-1:Int) J.1 J.2).bind λG=>some G.2) none
def S132_12l:LoopE:=⟨12,⟨[1,3,4,5,6,7],bx13,[(.con (.ref 0 [] 121)),(.con (.ref 1 [] 195)),.int .i64,(.con (.ref 3 [] 124)),.bool,.int .i64,.data 121,.str,.acc 2 205,.data 124]⟩,[(.exit 2,⟨[1,3,4,5,6],bx13,[(.con (.ref 0 [] 121)),(.con (.ref 1 [] 195)),.int .i64,(.con (.ref 3 [] 124)),.bool,.data 121,.str,.acc 2 205,.data 124]⟩)],(Y10 S132_12)⟩
def S132_7l:LoopE:=⟨7,⟨[1,3,4],bx14,(.con (.ref 0 [] 121))::(.con (.ref 1 [] 195))::(.int .i64)::(.data 121)::sv34⟩,[(.exit 0,⟨[1,3],bx14,(.con (.ref 0 [] 121))::(.con (.ref 1 [] 195))::(.data 121)::sv34⟩)],(Y6 S132_7)⟩
def F132c:KT:=xf 132 f44 f42 F132 [F209c,F127c,F210c,F211c,F216c,F217c] [S132_12l,S132_7l] (L1 (xl S132_7l (L1 (xl S132_12l L0))))
def S133_6(ag ah ai:Unit)(m:Int)(z t:PV)(G:Bn)(H:List PV):Option (T75a⊕(Unit×Unit×PV×PV×Bn×(List PV))):=cond (decide (m<((t.fld 1).asList.length:Int))) (let I:=(t.fld 1).asList;cond (aab m I.length) (let o:=I.getD m.toNat .bad;(F210 (o.fld 0).asStr).bind λad=>(F127 () (!ad) m (8:Int) G H).bind λX=>let J:=decide (m>0);let M:=(o.fld 0).asStr;let O:=(t.fld 1).asList;let U:=IntKind.wrap .i64 (m-1);cond (imp J (aab U O.length)) (let V:=((O.getD U.toNat .bad).fld 0).asStr;(F127 () (cond J (Op.bytesLess M V||M==V) false) m (11:Int) X.1 X.2).bind λY=>(F219 z (o.fld 1).asStr).bind λae=>let W:=decide (ae<0);(cond (!W) (F219 z (o.fld 2).asStr) (some 0)).bind λaf=>(F127 () (cond W true (decide (af<0))) m (12:Int) Y.1 Y.2).bind λZ=>(F127 () (cond (decide ((o.fld 3).asInt<1)) true (decide ((o.fld 3).asInt>4))) m (1:Int) Z.1 Z.2).bind λaa=>(F216 () (o.fld 4).asList (6:Int) m aa.1 aa.2).bind λab=>some (.inl ((),(),(),(IntKind.wrap .i64 (m+1)),z,t,ab.1,ab.2))) none) none) (some (.inr ((),(),z,t,G,H)))
def F133(H o:PV):Option ((List PV)):=(F209 (o.fld 0).asStr).bind λI=>(F127 () (!I) (-1:Int) (8:Int) (o.fld 0).asStr []).bind λz=>(F127 () (decide (((o.fld 1).asList.length:Int)>64)) (-1:Int) (3:Int) z.1 z.2).bind λG=>(aad 0 (Y8 S133_6) ((),(),(),(0:Int),H,o,G.1,G.2)).bind λm=>(F216 () (m.2.2.2.1.fld 2).asList (5:Int) (-1:Int) m.2.2.2.2.1 m.2.2.2.2.2).bind λt=>some t.2
def S133_6l:LoopE:=⟨6,⟨[2,3,5,6],bx15,(.con (.ref 0 [] 42))::(.con (.ref 1 [] 127))::(.con (.ref 2 [] 195))::(.int .i64)::(.data 42)::(.data 127)::sv35⟩,[(.exit 0,⟨[3,5],bx15,(.con (.ref 1 [] 127))::(.con (.ref 2 [] 195))::(.data 42)::(.data 127)::sv35⟩)],(Y8 S133_6)⟩
def F133c:KT:=xf 133 f112 f42 (u2 F133) [F209c,F127c,F210c,F219c,F216c] [S133_6l] (L1 (xl S133_6l L0))
def S83_4(M O:Unit)(t:Int)(z:PV)(H:Bn)(I:List PV):Option (T7a⊕T44a):=cond (decide (t<=3)) ((F126 z t).bind λJ=>(F127 () (decide ((J.length:Int)>64)) (-1:Int) (3:Int) H I).bind λm=>(F128 J).bind λG=>(F127 () (!G) (-1:Int) (11:Int) m.1 m.2).bind λo=>some (.inl ((),(),(IntKind.wrap .i64 (t+1)),z,o.1,o.2))) (some (.inr ((),(),z,H,I)))
def S83_15(J M:Unit)(z:List PV)(o:Int)(m:PV)(G:Bn)(t:List PV):Option (T76a⊕T44a):=cond (decide (o<((m.fld 0).asList.length:Int))) (let H:=(m.fld 0).asList;cond (aab o H.length) ((F131 m (H.getD o.toNat .bad) z).bind λI=>cond (decide (t.length+I.length<=accMax)) (some (.inl ((),(),z,(IntKind.wrap .i64 (o+1)),m,G,(t++I)))) none) none) (some (.inr ((),(),m,G,t)))
def S83_19(I J:Unit)(m:Int)(o:PV)(z:Bn)(t:List PV):Option (T7a⊕T44a):=cond (decide (m<((o.fld 1).asList.length:Int))) (let G:=(o.fld 1).asList;cond (aab m G.length) ((F132 (G.getD m.toNat .bad)).bind λH=>cond (decide (t.length+H.length<=accMax)) (some (.inl ((),(),(IntKind.wrap .i64 (m+1)),o,z,(t++H)))) none) none) (some (.inr ((),(),o,z,t)))
def S83_23(I J:Unit)(o:Int)(m:PV)(z:Bn)(t:List PV):Option (T7a⊕(Unit×PV×Bn×(List PV))):=cond (decide (o<((m.fld 2).asList.length:Int))) (let G:=(m.fld 2).asList;cond (aab o G.length) ((F133 m (G.getD o.toNat .bad)).bind λH=>cond (decide (t.length+H.length<=accMax)) (some (.inl ((),(),(IntKind.wrap .i64 (o+1)),m,z,(t++H)))) none) none) (some (.inr ((),m,z,t)))
def F83(X:PV):Option ((List PV)):=(aad 0 (Y6 S83_4) ((),(),(1:Int),X,([]:Bn),[])).bind λm=>(F126 m.2.2.1 (1:Int)).bind λG=>(F126 m.2.2.1 (2:Int)).bind λH=>(F126 m.2.2.1 (3:Int)).bind λI=>(F129 G H).bind λJ=>(cond (!J) (F129 G I) (some false)).bind λO=>let z:=cond J true O;(cond (!z) (F129 H I) (some false)).bind λU=>(F127 () (cond z true U) (-1:Int) (9:Int) m.2.2.2.1 m.2.2.2.2).bind λM=>(F130 m.2.2.1).bind λV=>(aad 0 (Y7 S83_15) ((),(),V,(0:Int),m.2.2.1,M.1,M.2)).bind λo=>(aad 0 (Y6 S83_19) ((),(),(0:Int),o.2.2.1,o.2.2.2.1,o.2.2.2.2)).bind λt=>(aad 0 (Y6 S83_23) ((),(),(0:Int),t.2.2.1,t.2.2.2.1,t.2.2.2.2)).bind λW=>some W.2.2.2
def S83_4l:LoopE:=⟨4,⟨[1,3,4],bx16,sv36⟩,[(.exit 0,f107)],(Y6 S83_4)⟩
def S83_15l:LoopE:=⟨15,⟨[1,3,9,10],bx16,(.con (.ref 0 [] 42))::(.con (.ref 1 [] 195))::(.slice 4)::sv38⟩,[(.exit 2,f107)],(Y7 S83_15)⟩
def S83_19l:LoopE:=⟨19,⟨[1,3,11],bx16,sv36⟩,[(.exit 4,f107)],(Y6 S83_19)⟩
def S83_23l:LoopE:=⟨23,⟨[1,3,12],bx16,sv36⟩,[(.exit 6,⟨[3],bx16,sv39⟩)],(Y6 S83_23)⟩
def F83c:KT:=xf 83 f8 f42 F83 [F126c,F127c,F128c,F129c,F130c,F131c,F132c,F133c] [S83_4l,S83_15l,S83_19l,S83_23l] (L4 (xl S83_4l L0) (xl S83_15l L0) (xl S83_19l L0) (xl S83_23l L0))
def F55(m:PV):Option Bool:=(F83 m).bind λo=>some ((o.length:Int)==0)
def F55c:KT:=xj 55 f8 f0 F55 [F83c]
def S137_4(m z:List PV)(o:Int):Option (T22a⊕(List PV)):=cond (decide (o<(m.length:Int))) (cond (aab o m.length) (let G:=!(((m.getD o.toNat .bad).fld 0).asStr==([100,111,99]:Bn));cond (imp G (aab o m.length)) (cond (cond G (!(((m.getD o.toNat .bad).fld 0).asStr==([111,119,110,101,114]:Bn))) false) (cond (aab o m.length) (let t:=m.getD o.toNat .bad;cond (decide (z.length+[t].length<=accMax)) (some (.inl (m,(z++[t]),(IntKind.wrap .i64 (o+1))))) none) none) (some (.inl (m,z,(IntKind.wrap .i64 (o+1)))))) none) none) (some (.inr z))
def F137(o:List PV):Option ((List PV)):=(aad 0 (Y3 S137_4) (o,[],(0:Int))).bind λm=>some m
def S137_4l:LoopE:=⟨4,⟨[0,3,4],[.acc],[.slice 66,.acc 0 66,.int .i64]⟩,[(.exit 0,⟨[3],[.acc],[.acc 0 66]⟩)],(Y3 S137_4)⟩
def F137c:KT:=xf 137 f40 f40 F137 [] [S137_4l] (L1 (xl S137_4l L0))
def S85_4(a6 a7 a8:Unit)(a9:Int)(o z:PV)(G:Bn)(t H I J:List PV):Option (T37a⊕(Unit×Unit×PV×PV×Bn×(List PV)×(List PV)×(List PV)×(List PV))):=cond (decide (a9<((o.fld 1).asList.length:Int))) (let M:=(o.fld 1).asList;cond (aab a9 M.length) (let m:=M.getD a9.toNat .bad;(F137 (m.fld 8).asList).bind λab=>let O:=(m.fld 0).asInt;let U:=(m.fld 1).asStr;let V:=(m.fld 2).asInt;let W:=(m.fld 3).asInt;let X:=m.fld 4;let Y:=(m.fld 5).asStr;let Z:=(m.fld 6).asBool;let aa:=m.fld 7;cond (decide (t.length+[(PV.agg [.int O,.str U,.int V,.int W,X,.str Y,.bool Z,aa,.slice ab])].length<=accMax)) (let ad:=t++[(PV.agg [.int O,.str U,.int V,.int W,X,.str Y,.bool Z,aa,.slice ab])];some (.inl ((),(),(),(IntKind.wrap .i64 (a9+1)),o,z,G,ad,H,I,J))) none) none) (some (.inr ((),(),o,z,G,t,H,I,J)))
def F85(o:PV):Option PV:=(F137 (o.fld 4).asList).bind λt=>(aad 0 (Y11 S85_4) ((),(),(),(0:Int),o,(PV.agg [.str ([]:Bn),.slice [],.slice [],.slice [],.slice []]),(o.fld 0).asStr,[],(o.fld 2).asList,(o.fld 3).asList,t)).bind λm=>some (PV.agg [.str m.2.2.2.2.1,.slice m.2.2.2.2.2.1,.slice m.2.2.2.2.2.2.1,.slice m.2.2.2.2.2.2.2.1,.slice m.2.2.2.2.2.2.2.2])
def S85_4l:LoopE:=⟨4,⟨[1,2,3,4],bx17,(.con (.ref 0 [] 74))::(.con (.ref 1 [] 74))::(.con (.ref 2 [] 74))::(.int .i64)::(.data 74)::(.data 74)::.str::(.acc 3 69)::sv40⟩,[(.exit 0,⟨[2,3],bx17,(.con (.ref 1 [] 74))::(.con (.ref 2 [] 74))::(.data 74)::(.data 74)::.str::(.acc 3 69)::sv40⟩)],(Y11 S85_4)⟩
def F85c:KT:=xf 85 f45 f45 F85 [F137c] [S85_4l] (L1 (xl S85_4l L0))
def S86_4(Y Z a8:Unit)(W:Int)(m z:PV)(G:Bn)(H:Bool)(o I J:List PV):Option (T41a⊕(Unit×Unit×PV×PV×Bn×Bool×(List PV)×(List PV)×(List PV))):=cond (decide (W<((m.fld 2).asList.length:Int))) (let M:=(m.fld 2).asList;cond (aab W M.length) (let t:=M.getD W.toNat .bad;(F137 (t.fld 2).asList).bind λV=>let O:=(t.fld 0).asStr;let U:=(t.fld 1).asInt;cond (decide (o.length+[(PV.agg [.str O,.int U,.slice V])].length<=accMax)) (let X:=o++[(PV.agg [.str O,.int U,.slice V])];some (.inl ((),(),(),(IntKind.wrap .i64 (W+1)),m,z,G,H,X,I,J))) none) none) (some (.inr ((),(),m,z,G,H,o,I,J)))
def F86(o:PV):Option PV:=(F137 (o.fld 4).asList).bind λt=>(aad 0 (Y11 S86_4) ((),(),(),(0:Int),o,(PV.agg [.str ([]:Bn),.bool false,.slice [],.slice [],.slice []]),(o.fld 0).asStr,(o.fld 1).asBool,[],(o.fld 3).asList,t)).bind λm=>some (PV.agg [.str m.2.2.2.2.1,.bool m.2.2.2.2.2.1,.slice m.2.2.2.2.2.2.1,.slice m.2.2.2.2.2.2.2.1,.slice m.2.2.2.2.2.2.2.2])
def S86_4l:LoopE:=⟨4,⟨[1,2,3,4],bx18,[(.con (.ref 0 [] 121)),(.con (.ref 1 [] 121)),(.con (.ref 2 [] 121)),.int .i64,.data 121,.data 121,.str,.bool,.acc 3 124,.slice 117,.slice 66]⟩,[(.exit 0,⟨[2,3],bx18,[(.con (.ref 1 [] 121)),(.con (.ref 2 [] 121)),.data 121,.data 121,.str,.bool,.acc 3 124,.slice 117,.slice 66]⟩)],(Y11 S86_4)⟩
def F86c:KT:=xf 86 f44 f44 F86 [F137c] [S86_4l] (L1 (xl S86_4l L0))
def S87_4(Y Z a6:Unit)(U:Int)(V X:PV)(t:Bn)(o z:List PV):Option (T61a⊕(Unit×Unit×PV×PV×Bn×(List PV)×(List PV))):=cond (decide (U<((V.fld 1).asList.length:Int))) (let G:=(V.fld 1).asList;cond (aab U G.length) (let m:=G.getD U.toNat .bad;(F137 (m.fld 4).asList).bind λO=>let H:=(m.fld 0).asStr;let I:=(m.fld 1).asStr;let J:=(m.fld 2).asStr;let M:=(m.fld 3).asInt;cond (decide (o.length+[(PV.agg [.str H,.str I,.str J,.int M,.slice O])].length<=accMax)) (let W:=o++[(PV.agg [.str H,.str I,.str J,.int M,.slice O])];some (.inl ((),(),(),(IntKind.wrap .i64 (U+1)),V,X,t,W,z))) none) none) (some (.inr ((),(),V,X,t,o,z)))
def F87(o:PV):Option PV:=(F137 (o.fld 2).asList).bind λt=>(aad 0 (Y9 S87_4) ((),(),(),(0:Int),o,(PV.agg [.str ([]:Bn),.slice [],.slice []]),(o.fld 0).asStr,[],t)).bind λm=>some (PV.agg [.str m.2.2.2.2.1,.slice m.2.2.2.2.2.1,.slice m.2.2.2.2.2.2])
def S87_4l:LoopE:=⟨4,⟨[1,2,3,4],bx19,[(.con (.ref 0 [] 127)),(.con (.ref 1 [] 127)),(.con (.ref 2 [] 127)),.int .i64,.data 127,.data 127,.str,.acc 3 130,.slice 66]⟩,[(.exit 0,⟨[2,3],bx19,[(.con (.ref 1 [] 127)),(.con (.ref 2 [] 127)),.data 127,.data 127,.str,.acc 3 130,.slice 66]⟩)],(Y9 S87_4)⟩
def F87c:KT:=xf 87 f54 f54 F87 [F137c] [S87_4l] (L1 (xl S87_4l L0))
def S57_6(M O U:Unit)(G:Int)(H J:PV)(I m o:List PV):Option (T5a⊕T8a):=cond (decide (G<((H.fld 0).asList.length:Int))) (let t:=(H.fld 0).asList;cond (aab G t.length) ((F85 (t.getD G.toNat .bad)).bind λz=>cond (decide (I.length+[z].length<=accMax)) (some (.inl ((),(),(),(IntKind.wrap .i64 (G+1)),H,J,(I++[z]),m,o))) none) none) (some (.inr ((),(),(),H,J,I,m,o)))
def S57_10(M O U:Unit)(m:Int)(o z:PV)(G t H:List PV):Option (T5a⊕T8a):=cond (decide (m<((o.fld 1).asList.length:Int))) (let I:=(o.fld 1).asList;cond (aab m I.length) ((F86 (I.getD m.toNat .bad)).bind λJ=>cond (decide (t.length+[J].length<=accMax)) (some (.inl ((),(),(),(IntKind.wrap .i64 (m+1)),o,z,G,(t++[J]),H))) none) none) (some (.inr ((),(),(),o,z,G,t,H)))
def S57_14(M O U:Unit)(m:Int)(o z:PV)(G H t:List PV):Option (T5a⊕T45a):=cond (decide (m<((o.fld 2).asList.length:Int))) (let I:=(o.fld 2).asList;cond (aab m I.length) ((F87 (I.getD m.toNat .bad)).bind λJ=>cond (decide (t.length+[J].length<=accMax)) (some (.inl ((),(),(),(IntKind.wrap .i64 (m+1)),o,z,G,H,(t++[J])))) none) none) (some (.inr ((),(),o,z,G,H,t)))
def F57(z:PV):Option PV:=(F55 z).bind λG=>cond (!G) (some z) ((aad 0 (Y9 S57_6) ((),(),(),(0:Int),z,(PV.agg [.slice [],.slice [],.slice []]),[],[],[])).bind λm=>(aad 0 (Y9 S57_10) ((),(),(),(0:Int),m.2.2.2.1,m.2.2.2.2.1,m.2.2.2.2.2.1,m.2.2.2.2.2.2.1,m.2.2.2.2.2.2.2)).bind λo=>(aad 0 (Y9 S57_14) ((),(),(),(0:Int),o.2.2.2.1,o.2.2.2.2.1,o.2.2.2.2.2.1,o.2.2.2.2.2.2.1,o.2.2.2.2.2.2.2)).bind λt=>some (PV.agg [.slice t.2.2.2.2.1,.slice t.2.2.2.2.2.1,.slice t.2.2.2.2.2.2]))
def S57_6l:LoopE:=⟨6,⟨[1,2,3,4],bx20,sv41⟩,[(.exit 0,f70)],(Y9 S57_6)⟩
def S57_10l:LoopE:=⟨10,⟨[1,2,3,5],bx20,sv41⟩,[(.exit 2,f70)],(Y9 S57_10)⟩
def S57_14l:LoopE:=⟨14,⟨[1,2,3,6],bx20,sv41⟩,[(.exit 4,⟨[2,3],bx20,sv43⟩)],(Y9 S57_14)⟩
def F57c:KT:=xf 57 f8 f8 F57 [F55c,F85c,F86c,F87c] [S57_6l,S57_10l,S57_14l] (L3 (xl S57_6l L0) (xl S57_10l L0) (xl S57_14l L0))
def S140_6(V:Bn)(z:Int)(W:Unit)(m t:Int)(o:PV):Option (T95a⊕((Bn×PV)⊕(Bn×Int×Unit×Int×PV))):=let G:=(o.fld 1).asList;cond (aab m G.length) (let H:=((G.getD m.toNat .bad).fld 0).asStr==V;let I:=(o.fld 1).asList;cond (imp H (aab m I.length)) (cond (cond H (decide (t<(((I.getD m.toNat .bad).fld 2).asList.length:Int))) false) (let J:=(o.fld 1).asList;cond (aab m J.length) (let M:=((J.getD m.toNat .bad).fld 2).asList;cond (aab t M.length) (cond ((IntKind.wrap .u64 ((M.getD t.toNat .bad).fld 1).asInt)==z) (let O:=(o.fld 1).asList;cond (aab m O.length) (let U:=((O.getD m.toNat .bad).fld 2).asList;cond (aab t U.length) (some (.inr (.inl (((U.getD t.toNat .bad).fld 0).asStr,o)))) none) none) (some (.inl (V,z,(),m,(IntKind.wrap .i64 (t+1)),o)))) none) none) (some (.inr (.inr (V,z,(),m,o))))) none) none
def S140_3(H:Bn)(I:Int)(J:Unit)(G:Int)(t:PV):Option (T101a⊕T111a):=cond (decide (G<((t.fld 1).asList.length:Int))) ((aad 0 (Y6 S140_6) (H,I,(),G,(0:Int),t)).bind λz=>sumE (λo=>some (.inr (.inl (o.1,o.2))) ) (λm=>some (.inl (m.1,m.2.1,(),(IntKind.wrap .i64 (m.2.2.2.1+1)),m.2.2.2.2)) ) z) (some (.inr (.inr t)))
def F140(o:PV)(t:Bn)(G:Int):Option Bn:=(aad 0 (Y5 S140_3) (t,G,(),(0:Int),o)).bind λz=>sumE (λm=>some m.1 ) (λH=>some ([]:Bn) ) z
def S140_6l:LoopE:=⟨6,⟨[1,2,3,7,8],bx6,.str::(.int .u64)::(.con (.ref 0 [] 42))::(.int .i64)::sv19⟩,[(.ret,f123),(.exit 2,f80)],(Y6 S140_6)⟩
def S140_3l:LoopE:=⟨3,f80,[(.ret,f123),(.exit 0,f69)],(Y5 S140_3)⟩
def F140c:KT:=xf 140 f94 f4 (u3 F140) [] [S140_6l,S140_3l] (L1 (xl S140_3l (L1 (xl S140_6l L0))))
def S89_9(au av aw:Unit)(t:Int)(ax ay:Unit)(o:Int)(s:PV×PV×Bn×Bn×(List PV)×(List PV)×(List PV)×(List PV)×PV×Bn×(List PV)×(List PV)×(List PV)×(List PV)):Option (T6a⊕(Unit×Unit×Unit×Int×Unit×PV×PV×Bn×Bn×(List PV)×(List PV)×(List PV)×(List PV)×PV×Bn×(List PV)×(List PV)×(List PV)×(List PV))):=cond (decide (o<((s.2.2.2.2.2.2.2.2.1.fld 1).asList.length:Int))) (let I:=(s.2.2.2.2.2.2.2.2.1.fld 1).asList;cond (aab o I.length) (let m:=I.getD o.toNat .bad;cond (cond ((((m.fld 4).fld 0).asInt)==9) ((m.fld 6).asBool) false) ((F140 s.1 (((m.fld 4).fld 1).asStr) (((m.fld 7).fld 1).asInt)).bind λz=>cond (cond ((((m.fld 4).fld 0).asInt)==9) true ((((m.fld 4).fld 0).asInt)==10)) (let G:=((m.fld 4).fld 1).asStr;cond (decide (([46]:Bn).length+G.length<=aac)) (let J:=(m.fld 0).asInt;let M:=(m.fld 1).asStr;let O:=(m.fld 2).asInt;let U:=(m.fld 3).asInt;let V:=(m.fld 5).asStr;let W:=(m.fld 6).asBool;let X:=(m.fld 8).asList;cond (decide (s.2.2.2.2.2.2.2.2.2.2.1.length+[(PV.agg [.int J,.str M,.int O,.int U,.agg [.int 0,.str (([46]:Bn)++G)],.str V,.bool W,.agg [.int 9,.int 0,.str z,.slice [],.slice [],.slice [],.slice []],.slice X])].length<=accMax)) (let ap:=s.2.2.2.2.2.2.2.2.2.2.1++[(PV.agg [.int J,.str M,.int O,.int U,.agg [.int 0,.str (([46]:Bn)++G)],.str V,.bool W,.agg [.int 9,.int 0,.str z,.slice [],.slice [],.slice [],.slice []],.slice X])];some (.inl ((),(),(),t,(),(),(IntKind.wrap .i64 (o+1)),s.1,s.2.1,s.2.2.1,s.2.2.2.1,s.2.2.2.2.1,s.2.2.2.2.2.1,s.2.2.2.2.2.2.1,s.2.2.2.2.2.2.2.1,s.2.2.2.2.2.2.2.2.1,s.2.2.2.2.2.2.2.2.2.1,ap,s.2.2.2.2.2.2.2.2.2.2.2))) none) none) (let Y:=(m.fld 0).asInt;let Z:=(m.fld 1).asStr;let aa:=(m.fld 2).asInt;let ab:=(m.fld 3).asInt;let ad:=m.fld 4;let ae:=(m.fld 5).asStr;let af:=(m.fld 6).asBool;let ag:=(m.fld 8).asList;cond (decide (s.2.2.2.2.2.2.2.2.2.2.1.length+[(PV.agg [.int Y,.str Z,.int aa,.int ab,ad,.str ae,.bool af,.agg [.int 9,.int 0,.str z,.slice [],.slice [],.slice [],.slice []],.slice ag])].length<=accMax)) (let aq:=s.2.2.2.2.2.2.2.2.2.2.1++[(PV.agg [.int Y,.str Z,.int aa,.int ab,ad,.str ae,.bool af,.agg [.int 9,.int 0,.str z,.slice [],.slice [],.slice [],.slice []],.slice ag])];some (.inl ((),(),(),t,(),(),(IntKind.wrap .i64 (o+1)),s.1,s.2.1,s.2.2.1,s.2.2.2.1,s.2.2.2.2.1,s.2.2.2.2.2.1,s.2.2.2.2.2.2.1,s.2.2.2.2.2.2.2.1,s.2.2.2.2.2.2.2.2.1,s.2.2.2.2.2.2.2.2.2.1,aq,s.2.2.2.2.2.2.2.2.2.2.2))) none)) (cond (cond ((((m.fld 4).fld 0).asInt)==9) true ((((m.fld 4).fld 0).asInt)==10)) (let H:=((m.fld 4).fld 1).asStr;cond (decide (([46]:Bn).length+H.length<=aac)) (let ah:=(m.fld 0).asInt;let ai:=(m.fld 1).asStr;let aj:=(m.fld 2).asInt;let ak:=(m.fld 3).asInt;let al:=(m.fld 5).asStr;let am:=(m.fld 6).asBool;let an:=m.fld 7;let ao:=(m.fld 8).asList;cond (decide (s.2.2.2.2.2.2.2.2.2.2.1.length+[(PV.agg [.int ah,.str ai,.int aj,.int ak,.agg [.int 0,.str (([46]:Bn)++H)],.str al,.bool am,an,.slice ao])].length<=accMax)) (let ar:=s.2.2.2.2.2.2.2.2.2.2.1++[(PV.agg [.int ah,.str ai,.int aj,.int ak,.agg [.int 0,.str (([46]:Bn)++H)],.str al,.bool am,an,.slice ao])];some (.inl ((),(),(),t,(),(),(IntKind.wrap .i64 (o+1)),s.1,s.2.1,s.2.2.1,s.2.2.2.1,s.2.2.2.2.1,s.2.2.2.2.2.1,s.2.2.2.2.2.2.1,s.2.2.2.2.2.2.2.1,s.2.2.2.2.2.2.2.2.1,s.2.2.2.2.2.2.2.2.2.1,ar,s.2.2.2.2.2.2.2.2.2.2.2))) none) none) (cond (decide (s.2.2.2.2.2.2.2.2.2.2.1.length+[m].length<=accMax)) (some (.inl ((),(),(),t,(),(),(IntKind.wrap .i64 (o+1)),s.1,s.2.1,s.2.2.1,s.2.2.2.1,s.2.2.2.2.1,s.2.2.2.2.2.1,s.2.2.2.2.2.2.1,s.2.2.2.2.2.2.2.1,s.2.2.2.2.2.2.2.2.1,s.2.2.2.2.2.2.2.2.2.1,(s.2.2.2.2.2.2.2.2.2.2.1++[m]),s.2.2.2.2.2.2.2.2.2.2.2))) none))) none) (some (.inr ((),(),(),t,(),s)))
def S89_4(V W X:Unit)(M:Int)(s:PV×PV×Bn×Bn×(List PV)×(List PV)×(List PV)×(List PV)):Option (T4a⊕T28a):=cond (decide (M<((s.1.fld 0).asList.length:Int))) (let U:=(s.1.fld 0).asList;cond (aab M U.length) (let o:=U.getD M.toNat .bad;(aad 0 (Y8 S89_9) ((),(),(),M,(),(),(0:Int),s.1,s.2.1,s.2.2.1,s.2.2.2.1,s.2.2.2.2.1,s.2.2.2.2.2.1,s.2.2.2.2.2.2.1,s.2.2.2.2.2.2.2,o,(o.fld 0).asStr,[],(o.fld 2).asList,(o.fld 3).asList,(o.fld 4).asList)).bind λm=>let t:=m.2.2.2.2.2.2.2.2.2.2.1;let z:=m.2.2.2.2.2.2.2.2.2.2.2.2.2.2.1;let G:=m.2.2.2.2.2.2.2.2.2.2.2.2.2.2.2.1;let H:=m.2.2.2.2.2.2.2.2.2.2.2.2.2.2.2.2.1;let I:=m.2.2.2.2.2.2.2.2.2.2.2.2.2.2.2.2.2.1;let J:=m.2.2.2.2.2.2.2.2.2.2.2.2.2.2.2.2.2.2;cond (decide (t.length+[(PV.agg [.str z,.slice G,.slice H,.slice I,.slice J])].length<=accMax)) (let O:=t++[(PV.agg [.str z,.slice G,.slice H,.slice I,.slice J])];some (.inl ((),(),(),(IntKind.wrap .i64 (m.2.2.2.1+1)),m.2.2.2.2.2.1,m.2.2.2.2.2.2.1,m.2.2.2.2.2.2.2.1,m.2.2.2.2.2.2.2.2.1,m.2.2.2.2.2.2.2.2.2.1,O,m.2.2.2.2.2.2.2.2.2.2.2.1,m.2.2.2.2.2.2.2.2.2.2.2.2.1))) none) none) (some (.inr ((),(),(),s)))
def S89_24(Y U V:Unit)(G:Int)(W X:Unit)(o:Int)(s:PV×PV×Bn×Bn×(List PV)×(List PV)×(List PV)×(List PV)×PV×Bn×(List PV)×(List PV)):Option (T12a⊕(Unit×Unit×Unit×Int×Unit×PV×PV×Bn×Bn×(List PV)×(List PV)×(List PV)×(List PV)×PV×Bn×(List PV)×(List PV))):=cond (decide (o<((s.2.2.2.2.2.2.2.2.1.fld 1).asList.length:Int))) (let H:=(s.2.2.2.2.2.2.2.2.1.fld 1).asList;cond (aab o H.length) (let m:=H.getD o.toNat .bad;let t:=(m.fld 1).asStr;cond (decide (([46]:Bn).length+t.length<=aac)) (let z:=(m.fld 2).asStr;cond (decide (([46]:Bn).length+z.length<=aac)) (let I:=(m.fld 0).asStr;let J:=(m.fld 3).asInt;let M:=(m.fld 4).asList;cond (decide (s.2.2.2.2.2.2.2.2.2.2.1.length+[(PV.agg [.str I,.str (([46]:Bn)++t),.str (([46]:Bn)++z),.int J,.slice M])].length<=accMax)) (let O:=s.2.2.2.2.2.2.2.2.2.2.1++[(PV.agg [.str I,.str (([46]:Bn)++t),.str (([46]:Bn)++z),.int J,.slice M])];some (.inl ((),(),(),G,(),(),(IntKind.wrap .i64 (o+1)),s.1,s.2.1,s.2.2.1,s.2.2.2.1,s.2.2.2.2.1,s.2.2.2.2.2.1,s.2.2.2.2.2.2.1,s.2.2.2.2.2.2.2.1,s.2.2.2.2.2.2.2.2.1,s.2.2.2.2.2.2.2.2.2.1,O,s.2.2.2.2.2.2.2.2.2.2.2))) none) none) none) none) (some (.inr ((),(),(),G,(),s)))
def S89_19(O U V:Unit)(o:Int)(s:PV×PV×Bn×Bn×(List PV)×(List PV)×(List PV)×(List PV)):Option (T4a⊕T35a):=cond (decide (o<((s.1.fld 2).asList.length:Int))) (let M:=(s.1.fld 2).asList;cond (aab o M.length) (let I:=M.getD o.toNat .bad;(aad 0 (Y8 S89_24) ((),(),(),o,(),(),(0:Int),s.1,s.2.1,s.2.2.1,s.2.2.2.1,s.2.2.2.2.1,s.2.2.2.2.2.1,s.2.2.2.2.2.2.1,s.2.2.2.2.2.2.2,I,(I.fld 0).asStr,[],(I.fld 2).asList)).bind λm=>let t:=m.2.2.2.2.2.2.2.2.2.2.2.2.1;let z:=m.2.2.2.2.2.2.2.2.2.2.2.2.2.2.1;let G:=m.2.2.2.2.2.2.2.2.2.2.2.2.2.2.2.1;let H:=m.2.2.2.2.2.2.2.2.2.2.2.2.2.2.2.2;cond (decide (t.length+[(PV.agg [.str z,.slice G,.slice H])].length<=accMax)) (let J:=t++[(PV.agg [.str z,.slice G,.slice H])];some (.inl ((),(),(),(IntKind.wrap .i64 (m.2.2.2.1+1)),m.2.2.2.2.2.1,m.2.2.2.2.2.2.1,m.2.2.2.2.2.2.2.1,m.2.2.2.2.2.2.2.2.1,m.2.2.2.2.2.2.2.2.2.1,m.2.2.2.2.2.2.2.2.2.2.1,m.2.2.2.2.2.2.2.2.2.2.2.1,J))) none) none) (some (.inr ((),(),s)))
def F89(t:PV):Option PV:=(aad 0 (Y5 S89_4) ((),(),(),(0:Int),t,(PV.agg [.str ([]:Bn),.str ([]:Bn),.slice [],.slice [],.slice [],.slice []]),([]:Bn),([]:Bn),[],[],(t.fld 1).asList,[])).bind λo=>(aad 0 (Y5 S89_19) ((),(),(),(0:Int),o.2.2.2)).bind λm=>some (PV.agg [.str m.2.2.2.2.1,.str m.2.2.2.2.2.1,.slice m.2.2.2.2.2.2.1,.slice m.2.2.2.2.2.2.2.1,.slice m.2.2.2.2.2.2.2.2.1,.slice m.2.2.2.2.2.2.2.2.2])
def S89_9l:LoopE:=⟨9,⟨[1,2,3,4,5,6,7],bx21,(.con (.ref 0 [] 42))::(.con (.ref 1 [] 112))::(.con (.ref 2 [] 112))::(.int .i64)::(.con (.ref 5 [] 74))::(.con (.ref 6 [] 74))::(.int .i64)::(.data 42)::(.data 112)::.str::.str::(.slice 9)::(.acc 3 74)::(.slice 121)::(.acc 4 127)::(.data 74)::.str::(.acc 7 69)::sv40⟩,[(.exit 2,⟨[1,2,3,4,6],bx21,(.con (.ref 0 [] 42))::(.con (.ref 1 [] 112))::(.con (.ref 2 [] 112))::(.int .i64)::(.con (.ref 6 [] 74))::(.data 42)::(.data 112)::.str::.str::(.slice 9)::(.acc 3 74)::(.slice 121)::(.acc 4 127)::(.data 74)::.str::(.acc 7 69)::sv40⟩)],(Y8 S89_9)⟩
def S89_4l:LoopE:=⟨4,⟨[1,2,3,4],bx22,(.con (.ref 0 [] 42))::(.con (.ref 1 [] 112))::(.con (.ref 2 [] 112))::sv45⟩,[(.exit 0,f71)],(Y5 S89_4)⟩
def S89_24l:LoopE:=⟨24,⟨[1,2,3,9,10,11,12],bx23,[(.con (.ref 0 [] 42)),(.con (.ref 1 [] 112)),(.con (.ref 2 [] 112)),.int .i64,(.con (.ref 5 [] 127)),(.con (.ref 6 [] 127)),.int .i64,.data 42,.data 112,.str,.str,.slice 9,.acc 3 74,.slice 121,.acc 4 127,.data 127,.str,.acc 7 130,.slice 66]⟩,[(.exit 6,⟨[1,2,3,9,11],bx23,[(.con (.ref 0 [] 42)),(.con (.ref 1 [] 112)),(.con (.ref 2 [] 112)),.int .i64,(.con (.ref 6 [] 127)),.data 42,.data 112,.str,.str,.slice 9,.acc 3 74,.slice 121,.acc 4 127,.data 127,.str,.acc 7 130,.slice 66]⟩)],(Y8 S89_24)⟩
def S89_19l:LoopE:=⟨19,⟨[1,2,3,9],bx22,(.con (.ref 0 [] 42))::(.con (.ref 1 [] 112))::(.con (.ref 2 [] 112))::sv45⟩,[(.exit 4,⟨[2,3],bx22,sv46⟩)],(Y5 S89_19)⟩
def F89c:KT:=xf 89 f8 f7 F89 [F140c] [S89_9l,S89_4l,S89_24l,S89_19l] (L2 (xl S89_4l (L1 (xl S89_9l L0))) (xl S89_19l (L1 (xl S89_24l L0))))
def S313_4(m:Bn):Option (T86a⊕T21a):=cond (!(m==([]:Bn))) ((F304 m).bind λo=>(F305 o.2).bind λt=>cond t (some (.inr (.inl false))) (some (.inl o.1))) (some (.inr (.inr ())))
def S313_4step(x:T86a):=S313_4 x
def F313(m:Bn):Option Bool:=(F13 m).bind λo=>cond (!o) (some false) ((aad 0 S313_4step m).bind λz=>sumE (λG=>some G ) (λt=>some true ) z)
def S313_4l:LoopE:=⟨4,f119,[(.ret,f16),(.exit 0,f9)],S313_4step⟩
def F313c:KT:=xf 313 f4 f0 F313 [F13c,F304c,F305c] [S313_4l] (L1 (xl S313_4l L0))
def F314(m:Bn):Option Bool:=(F31 m).bind λo=>(cond o (F305 m) (some false)).bind λt=>some (cond o (!t) false)
def F314c:KT:=xj 314 f4 f0 F314 [F31c,F305c]
def F382(m:Int):Option Bn:=cond (cond (decide (m<1)) true (decide (m>8))) (some ([]:Bn)) (let o:=IntKind.wrap .i64 (m-1);cond (aab o ([(PV.str ([98,111,111,108]:Bn)),(PV.str ([105,51,50]:Bn)),(PV.str ([105,54,52]:Bn)),(PV.str ([117,51,50]:Bn)),(PV.str ([117,54,52]:Bn)),(PV.str ([100,111,117,98,108,101]:Bn)),(PV.str ([116,101,120,116]:Bn)),(PV.str ([98,121,116,101,115]:Bn))].length)) (some (([(PV.str ([98,111,111,108]:Bn)),(PV.str ([105,51,50]:Bn)),(PV.str ([105,54,52]:Bn)),(PV.str ([117,51,50]:Bn)),(PV.str ([117,54,52]:Bn)),(PV.str ([100,111,117,98,108,101]:Bn)),(PV.str ([116,101,120,116]:Bn)),(PV.str ([98,121,116,101,115]:Bn))].getD o.toNat .bad).asStr)) none)
def F382c:KT:=xj 382 f5 f4 F382 []
def F316(m:Bn):Option Bool:=let x1:=!(m==([]:Bn));cond (imp x1 (aab (0:Int) m.length)) (cond (cond x1 (((m.getD (0:Int).toNat 0).toNat:Int)==46) false) (cond (decide (0<=(1:Int)/\(1:Int)<=(m.length:Int)/\(m.length:Int)<=(m.length:Int))) ((F13 ((m.take (m.length:Int).toNat).drop (1:Int).toNat)).bind λo=>some o) none) ((F13 m).bind λt=>some t)) none
def F316c:KT:=xj 316 f4 f0 F316 [F13c]
def S315_5(z:Unit)(o:Int)(m:PV):Option (T16a⊕T113a):=cond (decide (o<=8)) ((F382 o).bind λt=>cond ((m.fld 1).asStr==t) (some (.inr (.inl (false,m)))) (some (.inl ((),(IntKind.wrap .i64 (o+1)),m)))) (some (.inr (.inr ((),m))))
def F315(m:PV):Option Bool:=(F382 (m.fld 0).asInt).bind λH=>cond (!(H==([]:Bn))) (some ((m.fld 1).asStr==([]:Bn))) ((aad 0 (Y3 S315_5) ((),(1:Int),m)).bind λz=>sumE (λo=>some o.1 ) (λt=>(F316 (t.2.fld 1).asStr).bind λG=>some G ) z)
def S315_5l:LoopE:=⟨5,⟨[1,3],[.box 58 .leaf],[(.con (.ref 0 [] 58)),.int .i64,.data 58]⟩,[(.ret,⟨[2],[.box 58 .leaf],[.bool,.data 58]⟩),(.exit 0,⟨[1],[.box 58 .leaf],[(.con (.ref 0 [] 58)),.data 58]⟩)],(Y3 S315_5)⟩
def F315c:KT:=xf 315 f84 f0 F315 [F382c,F316c] [S315_5l] (L1 (xl S315_5l L0))
def S224_9(X:Unit)(z:Bool)(G:Int)(Y:Unit)(m:Int)(H o:PV):Option (T53a⊕T109a):=cond (decide (m<((o.fld 1).asList.length:Int))) (let I:=(o.fld 1).asList;cond (aab m I.length) (let t:=I.getD m.toNat .bad;(cond z (F314 (t.fld 1).asStr) (some false)).bind λU=>let J:=cond z U false;(cond J (F315 (t.fld 4)) (some false)).bind λV=>let M:=cond J V false;let O:=(t.fld 5).asStr==([]:Bn);(cond (cond (!O) M false) (F314 (t.fld 5).asStr) (some false)).bind λW=>some (.inl ((),(cond M (cond O true W) false),G,(),(IntKind.wrap .i64 (m+1)),H,o))) none) (some (.inr ((),z,G,H,o)))
def S224_4(J:Unit)(H:Bool)(z:Int)(G:PV):Option (T2a⊕T81a):=cond (decide (z<((G.fld 3).asList.length:Int))) (let o:=(G.fld 3).asList;cond (aab z o.length) (let t:=o.getD z.toNat .bad;(cond H (F313 (t.fld 0).asStr) (some false)).bind λI=>(aad 0 (Y7 S224_9) ((),(cond H I false),z,(),(0:Int),G,t)).bind λm=>some (.inl ((),m.2.1,(IntKind.wrap .i64 (m.2.2.1+1)),m.2.2.2.1))) none) (some (.inr ((),H,G)))
def S224_18(M:Unit)(o:Bool)(m t:Int)(z:PV):Option (T27a⊕T2a):=let G:=(z.fld 4).asList;cond (aab m G.length) (cond (decide (t<(((G.getD m.toNat .bad).fld 2).asList.length:Int))) (let H:=(z.fld 4).asList;cond (imp o (aab m H.length)) (let I:=((H.getD m.toNat .bad).fld 2).asList;cond (imp o (aab t I.length)) ((cond o (F314 ((I.getD t.toNat .bad).fld 0).asStr) (some false)).bind λJ=>some (.inl ((),(cond o J false),m,(IntKind.wrap .i64 (t+1)),z))) none) none) (some (.inr ((),o,m,z)))) none
def S224_14(I:Unit)(m:Bool)(o:Int)(t:PV):Option (T2a⊕T81a):=cond (decide (o<((t.fld 4).asList.length:Int))) (let G:=(t.fld 4).asList;cond (imp m (aab o G.length)) ((cond m (F313 ((G.getD o.toNat .bad).fld 0).asStr) (some false)).bind λH=>(aad 0 (Y5 S224_18) ((),(cond m H false),o,(0:Int),t)).bind λz=>some (.inl ((),z.2.1,(IntKind.wrap .i64 (z.2.2.1+1)),z.2.2.2))) none) (some (.inr ((),m,t)))
def S224_26(X:Unit)(O:Bool)(m t:Int)(z:PV):Option (T27a⊕T2a):=let G:=(z.fld 5).asList;cond (aab m G.length) (cond (decide (t<(((G.getD m.toNat .bad).fld 1).asList.length:Int))) (let H:=(z.fld 5).asList;cond (aab m H.length) (let I:=((H.getD m.toNat .bad).fld 1).asList;cond (aab t I.length) (let o:=I.getD t.toNat .bad;(cond O (F314 (o.fld 0).asStr) (some false)).bind λU=>let J:=cond O U false;(cond J (F316 (o.fld 1).asStr) (some false)).bind λV=>let M:=cond (cond J V false) (!((o.fld 1).asStr==([115,116,114,101,97,109]:Bn))) false;(cond M (F316 (o.fld 2).asStr) (some false)).bind λW=>some (.inl ((),(cond (cond M W false) (!((o.fld 2).asStr==([115,116,114,101,97,109]:Bn))) false),m,(IntKind.wrap .i64 (t+1)),z))) none) none) (some (.inr ((),O,m,z)))) none
def S224_22(I:Unit)(o:Bool)(t:Int)(z:PV):Option (T2a⊕(Bool×PV)):=cond (decide (t<((z.fld 5).asList.length:Int))) (let G:=(z.fld 5).asList;cond (imp o (aab t G.length)) ((cond o (F313 ((G.getD t.toNat .bad).fld 0).asStr) (some false)).bind λH=>(aad 0 (Y5 S224_26) ((),(cond o H false),t,(0:Int),z)).bind λm=>some (.inl ((),m.2.1,(IntKind.wrap .i64 (m.2.2.1+1)),m.2.2.2))) none) (some (.inr (o,z)))
def F224(z:PV):Option Bool:=let G:=(z.fld 1).asStr==([]:Bn);(cond (!G) (F313 (z.fld 1).asStr) (some false)).bind λH=>(aad 0 (Y4 S224_4) ((),(cond G true H),(0:Int),z)).bind λo=>(aad 0 (Y4 S224_14) ((),o.2.1,(0:Int),o.2.2)).bind λt=>(aad 0 (Y4 S224_22) ((),t.2.1,(0:Int),t.2.2)).bind λm=>some m.1
def S224_9l:LoopE:=⟨9,f41,[(.exit 2,f65)],(Y7 S224_9)⟩
def S224_4l:LoopE:=⟨4,f72,[(.exit 0,f50)],(Y4 S224_4)⟩
def S224_18l:LoopE:=⟨18,⟨[1,3,8,9],bx25,sv50⟩,[(.exit 6,⟨[1,3,8],bx25,sv48⟩)],(Y5 S224_18)⟩
def S224_14l:LoopE:=⟨14,⟨[1,3,8],bx25,sv48⟩,[(.exit 4,f50)],(Y4 S224_14)⟩
def S224_26l:LoopE:=⟨26,⟨[1,3,10,11],bx25,sv50⟩,[(.exit 10,f67)],(Y5 S224_26)⟩
def S224_22l:LoopE:=⟨22,f67,[(.exit 8,f120)],(Y4 S224_22)⟩
def F224c:KT:=xf 224 f7 f0 F224 [F313c,F314c,F315c,F316c] [S224_9l,S224_4l,S224_18l,S224_14l,S224_26l,S224_22l] (L3 (xl S224_4l (L1 (xl S224_9l L0))) (xl S224_14l (L1 (xl S224_18l L0))) (xl S224_22l (L1 (xl S224_26l L0))))
def S317_6(m:List PV)(o H:Int):Option (T29a⊕((Bool)⊕((List PV)×Int))):=cond (decide (H<o)) (cond (aab o m.length) (let t:=!(((m.getD o.toNat .bad).fld 5).asStr==([]:Bn));cond (imp t (aab o m.length)) (cond (imp t (aab H m.length)) (let z:=cond t (((m.getD o.toNat .bad).fld 5).asStr==((m.getD H.toNat .bad).fld 5).asStr) false;let G:=IntKind.wrap .i64 (o-1);cond (imp z (aab G m.length)) (cond (imp z (aab o m.length)) (cond (cond z (!(((m.getD G.toNat .bad).fld 5).asStr==((m.getD o.toNat .bad).fld 5).asStr)) false) (some (.inr (.inl false))) (some (.inl (m,o,(IntKind.wrap .i64 (H+1)))))) none) none) none) none) none) (some (.inr (.inr (m,o))))
def S317_3(t:List PV)(G:Int):Option (T58a⊕T21a):=cond (decide (G<(t.length:Int))) ((aad 0 (Y3 S317_6) (t,G,(0:Int))).bind λz=>sumE (λo=>some (.inr (.inl o)) ) (λm=>some (.inl (m.1,(IntKind.wrap .i64 (m.2+1)))) ) z) (some (.inr (.inr ())))
def F317(o:List PV):Option Bool:=(aad 0 (Y2 S317_3) (o,(0:Int))).bind λz=>sumE (λm=>some m ) (λt=>some true ) z
def S317_6l:LoopE:=⟨6,⟨[0,3,4],[],sv52⟩,[(.ret,f16),(.exit 2,⟨[0,3],[],sv53⟩)],(Y3 S317_6)⟩
def S317_3l:LoopE:=⟨3,⟨[0,3],[],sv53⟩,[(.ret,f16),(.exit 0,f9)],(Y2 S317_3)⟩
def F317c:KT:=xf 317 f101 f0 F317 [] [S317_6l,S317_3l] (L1 (xl S317_3l (L1 (xl S317_6l L0))))
def S318_3(m:List PV)(G o:Int):Option (T29a⊕T21a):=cond (decide (o<(m.length:Int))) (cond (aab o m.length) (let H:=decide (((m.getD o.toNat .bad).fld 0).asInt<(0:Int));cond (imp (!H) (aab o m.length)) (let t:=cond H true (decide (((m.getD o.toNat .bad).fld 0).asInt>G));cond (imp (!t) (aab o m.length)) (let z:=cond t true (decide (((m.getD o.toNat .bad).fld 1).asInt<(0:Int)));cond (imp (!z) (aab o m.length)) (cond (cond z true (decide (((m.getD o.toNat .bad).fld 1).asInt>G))) (some (.inr (.inl false))) (some (.inl (m,G,(IntKind.wrap .i64 (o+1)))))) none) none) none) none) (some (.inr (.inr ())))
def F318(o:List PV)(t:Int):Option Bool:=(aad 0 (Y3 S318_3) (o,t,(0:Int))).bind λz=>sumE (λm=>some m ) (λG=>some true ) z
def S318_3l:LoopE:=⟨3,⟨[0,1,5],[],sv23⟩,[(.ret,f43),(.exit 0,f9)],(Y3 S318_3)⟩
def F318c:KT:=xf 318 f114 f0 (u2 F318) [] [S318_3l] (L1 (xl S318_3l L0))
def F383(m:PV):Option Bool:=cond ((m.fld 2).asInt != 5) (some ((m.fld 3).asInt==0)) (some (cond (cond (decide (((m.fld 3).asInt)>=1)) (decide ((m.fld 3).asInt<=5)) false) true ((m.fld 3).asInt==7)))
def F383c:KT:=xj 383 f19 f0 F383 []
def F415(m o:PV):Option Bool:=some (cond (cond (cond (cond (cond (cond ((m.fld 0).asInt==(o.fld 0).asInt) ((m.fld 1).asInt==(o.fld 1).asInt) false) ((m.fld 2).asStr==(o.fld 2).asStr) false) (((m.fld 3).asList.length:Int)==((o.fld 3).asList.length:Int)) false) (((m.fld 4).asList.length:Int)==((o.fld 4).asList.length:Int)) false) (((m.fld 5).asList.length:Int)==((o.fld 5).asList.length:Int)) false) (((m.fld 6).asList.length:Int)==((o.fld 6).asList.length:Int)) false)
def F415c:KT:=xj 415 f115 f0 (u2 F415) []
def F416(m:PV):Option Bool:=let o:=(m.fld 0).asInt==9;(cond o (F314 (m.fld 2).asStr) (some false)).bind λz=>let t:=cond o z false;(cond t (F415 m (PV.agg [.int (m.fld 0).asInt,.int 0,.str (m.fld 2).asStr,.slice [],.slice [],.slice [],.slice []])) (some false)).bind λG=>some (cond t G false)
def F416c:KT:=xj 416 f15 f0 F416 [F314c,F415c]
def F384(m:PV):Option Bool:=cond (!(m.fld 6).asBool) ((F415 (m.fld 7) (PV.agg [.int 0,.int 0,.str ([]:Bn),.slice [],.slice [],.slice [],.slice []])).bind λH=>some H) (cond ((m.fld 2).asInt==5) (some false) (cond ((((m.fld 4).fld 0).asInt)==0) ((F416 (m.fld 7)).bind λt=>some t) ((F308 (((m.fld 4).fld 0).asInt) (m.fld 7)).bind λo=>(cond o (F309 (m.fld 7)) (some PV.bad)).bind λz=>(cond o (F415 (m.fld 7) z) (some false)).bind λG=>some (cond o G false))))
def F384c:KT:=xj 384 f19 f0 F384 [F415c,F416c,F308c,F309c]
def F319(m:PV):Option Bool:=cond (cond (cond (cond (cond (cond (decide ((m.fld 0).asInt<0)) true (decide ((m.fld 0).asInt>65535))) true (decide ((m.fld 2).asInt<1))) true (decide ((m.fld 2).asInt>5))) true (decide ((((m.fld 4).fld 0).asInt)<0))) true (decide ((((m.fld 4).fld 0).asInt)>8))) (some false) ((F383 m).bind λo=>(cond o (F384 m) (some false)).bind λt=>some (cond (cond o t false) (cond ((m.fld 5).asStr==([]:Bn)) true (cond ((m.fld 2).asInt==2) (!(m.fld 6).asBool) false)) false))
def F319c:KT:=xj 319 f19 f0 F319 [F383c,F384c]
def S225_9(J:Unit)(m:Bool)(z:Int)(M:Unit)(o:Int)(G t:PV):Option (T53a⊕T109a):=cond (decide (o<((t.fld 1).asList.length:Int))) (let H:=(t.fld 1).asList;cond (imp m (aab o H.length)) ((cond m (F319 (H.getD o.toNat .bad)) (some false)).bind λI=>some (.inl ((),(cond m I false),z,(),(IntKind.wrap .i64 (o+1)),G,t))) none) (some (.inr ((),m,z,G,t)))
def S225_4(O:Unit)(G:Bool)(t:Int)(z:PV):Option (T2a⊕T81a):=cond (decide (t<((z.fld 3).asList.length:Int))) (let M:=(z.fld 3).asList;cond (aab t M.length) (let H:=M.getD t.toNat .bad;(cond G (F317 (H.fld 1).asList) (some false)).bind λI=>let o:=cond G I false;(cond o (F318 (H.fld 2).asList (65535:Int)) (some false)).bind λJ=>(aad 0 (Y7 S225_9) ((),(cond o J false),t,(),(0:Int),z,H)).bind λm=>some (.inl ((),m.2.1,(IntKind.wrap .i64 (m.2.2.1+1)),m.2.2.2.1))) none) (some (.inr ((),G,z)))
def S225_17(M:Unit)(z:Bool)(m o:Int)(t:PV):Option (T27a⊕T2a):=let G:=(t.fld 4).asList;cond (aab m G.length) (cond (decide (o<(((G.getD m.toNat .bad).fld 2).asList.length:Int))) (let H:=(t.fld 4).asList;cond (aab m H.length) (let I:=((H.getD m.toNat .bad).fld 2).asList;cond (aab o I.length) (let J:=((I.getD o.toNat .bad).fld 1).asInt;some (.inl ((),(cond (cond z (decide (J>=0)) false) (decide (J<=2147483647)) false),m,(IntKind.wrap .i64 (o+1)),t))) none) none) (some (.inr ((),z,m,t)))) none
def S225_13(I:Unit)(m:Bool)(o:Int)(t:PV):Option (T2a⊕T81a):=cond (decide (o<((t.fld 4).asList.length:Int))) (let G:=(t.fld 4).asList;cond (imp m (aab o G.length)) ((cond m (F318 ((G.getD o.toNat .bad).fld 3).asList (2147483647:Int)) (some false)).bind λH=>(aad 0 (Y5 S225_17) ((),(cond m H false),o,(0:Int),t)).bind λz=>some (.inl ((),z.2.1,(IntKind.wrap .i64 (z.2.2.1+1)),z.2.2.2))) none) (some (.inr ((),m,t)))
def S225_25(M:Unit)(z:Bool)(m o:Int)(t:PV):Option (T27a⊕T2a):=let G:=(t.fld 5).asList;cond (aab m G.length) (cond (decide (o<(((G.getD m.toNat .bad).fld 1).asList.length:Int))) (let H:=(t.fld 5).asList;cond (aab m H.length) (let I:=((H.getD m.toNat .bad).fld 1).asList;cond (aab o I.length) (let J:=((I.getD o.toNat .bad).fld 3).asInt;some (.inl ((),(cond (cond z (decide (J>=1)) false) (decide (J<=4)) false),m,(IntKind.wrap .i64 (o+1)),t))) none) none) (some (.inr ((),z,m,t)))) none
def S225_22(G:Unit)(t:Bool)(z:Int)(o:PV):Option (T2a⊕(Bool×PV)):=cond (decide (z<((o.fld 5).asList.length:Int))) ((aad 0 (Y5 S225_25) ((),t,z,(0:Int),o)).bind λm=>some (.inl ((),m.2.1,(IntKind.wrap .i64 (m.2.2.1+1)),m.2.2.2))) (some (.inr (t,o)))
def F225(z:PV):Option Bool:=(aad 0 (Y4 S225_4) ((),true,(0:Int),z)).bind λo=>(aad 0 (Y4 S225_13) ((),o.2.1,(0:Int),o.2.2)).bind λt=>(aad 0 (Y4 S225_22) ((),t.2.1,(0:Int),t.2.2)).bind λm=>some m.1
def S225_9l:LoopE:=⟨9,f41,[(.exit 2,f65)],(Y7 S225_9)⟩
def S225_4l:LoopE:=⟨4,f72,[(.exit 0,f50)],(Y4 S225_4)⟩
def S225_17l:LoopE:=⟨17,⟨[1,3,7,8],bx25,sv50⟩,[(.exit 6,⟨[1,3,7],bx25,sv48⟩)],(Y5 S225_17)⟩
def S225_13l:LoopE:=⟨13,⟨[1,3,7],bx25,sv48⟩,[(.exit 4,f50)],(Y4 S225_13)⟩
def S225_25l:LoopE:=⟨25,⟨[1,3,10,11],bx25,sv50⟩,[(.exit 10,f67)],(Y5 S225_25)⟩
def S225_22l:LoopE:=⟨22,f67,[(.exit 8,f120)],(Y4 S225_22)⟩
def F225c:KT:=xf 225 f7 f0 F225 [F317c,F318c,F319c] [S225_9l,S225_4l,S225_17l,S225_13l,S225_25l,S225_22l] (L3 (xl S225_4l (L1 (xl S225_9l L0))) (xl S225_13l (L1 (xl S225_17l L0))) (xl S225_22l (L1 (xl S225_25l L0))))
def S226_3(m:List PV)(o:Int):Option (T58a⊕T21a):=cond (decide (o<(m.length:Int))) (cond (aab o m.length) ((F218 (m.getD o.toNat .bad).asStr).bind λt=>cond (!t) (some (.inr (.inl false))) (some (.inl (m,(IntKind.wrap .i64 (o+1)))))) none) (some (.inr (.inr ())))
def F226(o:List PV):Option Bool:=(aad 0 (Y2 S226_3) (o,(0:Int))).bind λz=>sumE (λm=>some m ) (λt=>some true ) z
def S226_3l:LoopE:=⟨3,f118,[(.ret,f16),(.exit 0,f9)],(Y2 S226_3)⟩
def F226c:KT:=xf 226 f18 f0 F226 [F218c] [S226_3l] (L1 (xl S226_3l L0))
def F320(m o:Int):Option Int:=cond (m != 0) (some m) (some o)
def F320c:KT:=xj 320 ⟨2,[],sv54⟩ f5 (u2 F320) []
def S227_8(O:Unit)(z m o:Int)(t:PV):Option (T50a⊕T26a):=let G:=(t.fld 3).asList;cond (aab m G.length) (cond (decide (o<(((G.getD m.toNat .bad).fld 1).asList.length:Int))) (let H:=(t.fld 3).asList;cond (aab m H.length) (let I:=((H.getD m.toNat .bad).fld 1).asList;cond (aab o I.length) ((F310 ((I.getD o.toNat .bad).fld 8).asList (2:Int)).bind λJ=>(F320 z J).bind λM=>some (.inl ((),M,m,(IntKind.wrap .i64 (o+1)),t))) none) none) (some (.inr ((),z,m,t)))) none
def S227_4(J:Unit)(H o:Int)(t:PV):Option (T26a⊕T16a):=cond (decide (o<((t.fld 3).asList.length:Int))) (let I:=(t.fld 3).asList;cond (aab o I.length) ((F310 ((I.getD o.toNat .bad).fld 4).asList (1:Int)).bind λz=>(F320 H z).bind λG=>(aad 0 (Y5 S227_8) ((),G,o,(0:Int),t)).bind λm=>some (.inl ((),m.2.1,(IntKind.wrap .i64 (m.2.2.1+1)),m.2.2.2))) none) (some (.inr ((),H,t)))
def S227_16(O:Unit)(z m o:Int)(t:PV):Option (T50a⊕T26a):=let G:=(t.fld 4).asList;cond (aab m G.length) (cond (decide (o<(((G.getD m.toNat .bad).fld 2).asList.length:Int))) (let H:=(t.fld 4).asList;cond (aab m H.length) (let I:=((H.getD m.toNat .bad).fld 2).asList;cond (aab o I.length) ((F310 ((I.getD o.toNat .bad).fld 2).asList (4:Int)).bind λJ=>(F320 z J).bind λM=>some (.inl ((),M,m,(IntKind.wrap .i64 (o+1)),t))) none) none) (some (.inr ((),z,m,t)))) none
def S227_12(J:Unit)(z m:Int)(o:PV):Option (T26a⊕T16a):=cond (decide (m<((o.fld 4).asList.length:Int))) (let G:=(o.fld 4).asList;cond (aab m G.length) ((F310 ((G.getD m.toNat .bad).fld 4).asList (3:Int)).bind λH=>(F320 z H).bind λI=>(aad 0 (Y5 S227_16) ((),I,m,(0:Int),o)).bind λt=>some (.inl ((),t.2.1,(IntKind.wrap .i64 (t.2.2.1+1)),t.2.2.2))) none) (some (.inr ((),z,o)))
def S227_24(O:Unit)(H m o:Int)(t:PV):Option (T50a⊕T26a):=let I:=(t.fld 5).asList;cond (aab m I.length) (cond (decide (o<(((I.getD m.toNat .bad).fld 1).asList.length:Int))) (let z:=(t.fld 5).asList;cond (aab m z.length) (let G:=((z.getD m.toNat .bad).fld 1).asList;cond (aab o G.length) ((F310 ((G.getD o.toNat .bad).fld 4).asList (6:Int)).bind λJ=>(F320 H J).bind λM=>some (.inl ((),M,m,(IntKind.wrap .i64 (o+1)),t))) none) none) (some (.inr ((),H,m,t)))) none
def S227_20(J:Unit)(z o:Int)(t:PV):Option (T26a⊕(Int×PV)):=cond (decide (o<((t.fld 5).asList.length:Int))) (let G:=(t.fld 5).asList;cond (aab o G.length) ((F310 ((G.getD o.toNat .bad).fld 2).asList (5:Int)).bind λH=>(F320 z H).bind λI=>(aad 0 (Y5 S227_24) ((),I,o,(0:Int),t)).bind λm=>some (.inl ((),m.2.1,(IntKind.wrap .i64 (m.2.2.1+1)),m.2.2.2))) none) (some (.inr (z,t)))
def F227(z:PV):Option Int:=(aad 0 (Y4 S227_4) ((),(0:Int),(0:Int),z)).bind λo=>(aad 0 (Y4 S227_12) ((),o.2.1,(0:Int),o.2.2)).bind λt=>(aad 0 (Y4 S227_20) ((),t.2.1,(0:Int),t.2.2)).bind λm=>some m.1
def S227_8l:LoopE:=⟨8,⟨[1,3,4,5],bx25,sv55⟩,[(.exit 2,⟨[1,3,4],bx25,sv56⟩)],(Y5 S227_8)⟩
def S227_4l:LoopE:=⟨4,⟨[1,3,4],bx25,sv56⟩,[(.exit 0,f76)],(Y4 S227_4)⟩
def S227_16l:LoopE:=⟨16,⟨[1,3,6,7],bx25,sv55⟩,[(.exit 6,⟨[1,3,6],bx25,sv56⟩)],(Y5 S227_16)⟩
def S227_12l:LoopE:=⟨12,⟨[1,3,6],bx25,sv56⟩,[(.exit 4,f76)],(Y4 S227_12)⟩
def S227_24l:LoopE:=⟨24,⟨[1,3,8,9],bx25,sv55⟩,[(.exit 10,⟨[1,3,8],bx25,sv56⟩)],(Y5 S227_24)⟩
def S227_20l:LoopE:=⟨20,⟨[1,3,8],bx25,sv56⟩,[(.exit 8,⟨[3],bx25,sv57⟩)],(Y4 S227_20)⟩
def F227c:KT:=xf 227 f7 f5 F227 [F310c,F320c] [S227_8l,S227_4l,S227_16l,S227_12l,S227_24l,S227_20l] (L3 (xl S227_4l (L1 (xl S227_8l L0))) (xl S227_12l (L1 (xl S227_16l L0))) (xl S227_20l (L1 (xl S227_24l L0))))
def S228_4(M:Unit)(t:Bool)(m:Int)(o:PV):Option (T2a⊕T81a):=cond (decide (m<((o.fld 3).asList.length:Int))) (let z:=(o.fld 3).asList;cond (imp t (aab m z.length)) (let G:=cond t (decide ((((z.getD m.toNat .bad).fld 1).asList.length:Int)<=64)) false;let H:=(o.fld 3).asList;cond (imp G (aab m H.length)) (let I:=cond G (decide ((((H.getD m.toNat .bad).fld 2).asList.length:Int)<=16)) false;let J:=(o.fld 3).asList;cond (imp I (aab m J.length)) (some (.inl ((),(cond I (decide ((((J.getD m.toNat .bad).fld 3).asList.length:Int)<=16)) false),(IntKind.wrap .i64 (m+1)),o))) none) none) none) (some (.inr ((),t,o)))
def S228_8(I:Unit)(t:Bool)(m:Int)(o:PV):Option (T2a⊕T81a):=cond (decide (m<((o.fld 4).asList.length:Int))) (let z:=(o.fld 4).asList;cond (imp t (aab m z.length)) (let G:=cond t (decide ((((z.getD m.toNat .bad).fld 2).asList.length:Int)<=64)) false;let H:=(o.fld 4).asList;cond (imp G (aab m H.length)) (some (.inl ((),(cond G (decide ((((H.getD m.toNat .bad).fld 3).asList.length:Int)<=16)) false),(IntKind.wrap .i64 (m+1)),o))) none) none) (some (.inr ((),t,o)))
def S228_12(G:Unit)(t:Bool)(m:Int)(o:PV):Option (T2a⊕(Bool×PV)):=cond (decide (m<((o.fld 5).asList.length:Int))) (let z:=(o.fld 5).asList;cond (imp t (aab m z.length)) (some (.inl ((),(cond t (decide ((((z.getD m.toNat .bad).fld 1).asList.length:Int)<=64)) false),(IntKind.wrap .i64 (m+1)),o))) none) (some (.inr (t,o)))
def F228(m:PV):Option Bool:=(aad 0 (Y4 S228_4) ((),(cond (cond (cond (decide (((m.fld 2).asList.length:Int)<=16)) (decide (((m.fld 3).asList.length:Int)<=64)) false) (decide (((m.fld 4).asList.length:Int)<=64)) false) (decide (((m.fld 5).asList.length:Int)<=64)) false),(0:Int),m)).bind λo=>(aad 0 (Y4 S228_8) ((),o.2.1,(0:Int),o.2.2)).bind λt=>(aad 0 (Y4 S228_12) ((),t.2.1,(0:Int),t.2.2)).bind λz=>some z.1
def S228_4l:LoopE:=⟨4,f72,[(.exit 0,f50)],(Y4 S228_4)⟩
def S228_8l:LoopE:=⟨8,⟨[1,3,5],bx25,sv48⟩,[(.exit 2,f50)],(Y4 S228_8)⟩
def S228_12l:LoopE:=⟨12,⟨[1,3,6],bx25,sv48⟩,[(.exit 4,f120)],(Y4 S228_12)⟩
def F228c:KT:=xf 228 f7 f0 F228 [] [S228_4l,S228_8l,S228_12l] (L3 (xl S228_4l L0) (xl S228_8l L0) (xl S228_12l L0))
def F322(m:Int):Option Bn:=let x1:=IntKind.wrap .u8 (m.tdiv (16:Int));let o:=IntKind.wrap .u8 ((IntKind.wrap .u8 (m.tdiv (16:Int)))+1);cond (decide (0<=x1/\x1<=o/\o<=(([48,49,50,51,52,53,54,55,56,57,97,98,99,100,101,102]:Bn).length:Int))) (let G:=(([48,49,50,51,52,53,54,55,56,57,97,98,99,100,101,102]:Bn).take o.toNat).drop x1.toNat;let t:=m.tmod (16:Int);let z:=IntKind.wrap .u8 ((m.tmod (16:Int))+1);cond (decide (0<=t/\t<=z/\z<=(([48,49,50,51,52,53,54,55,56,57,97,98,99,100,101,102]:Bn).length:Int))) (let H:=(([48,49,50,51,52,53,54,55,56,57,97,98,99,100,101,102]:Bn).take z.toNat).drop t.toNat;cond (decide (G.length+H.length<=aac)) (some (G++H)) none) none) none
def F322c:KT:=xj 322 f82 f4 F322 []
def S229_4(o z:Bn)(m:Int):Option (T32a⊕T86a):=cond (decide (m<(o.length:Int))) ((F321 o m).bind λt=>cond (aab m o.length) (let G:=((o.getD m.toNat 0).toNat:Int);cond (G==34) (cond (decide (z.length+([92,34]:Bn).length<=aac)) (let Z:=z++([92,34]:Bn);cond (t==0) (some (.inl (o,Z,(IntKind.wrap .i64 (m+1))))) (some (.inl (o,Z,(IntKind.wrap .i64 (m+t)))))) none) (cond (G==92) (cond (decide (z.length+([92,92]:Bn).length<=aac)) (let I:=z++([92,92]:Bn);cond (t==0) (some (.inl (o,I,(IntKind.wrap .i64 (m+1))))) (some (.inl (o,I,(IntKind.wrap .i64 (m+t)))))) none) (cond (G==10) (cond (decide (z.length+([92,110]:Bn).length<=aac)) (let J:=z++([92,110]:Bn);cond (t==0) (some (.inl (o,J,(IntKind.wrap .i64 (m+1))))) (some (.inl (o,J,(IntKind.wrap .i64 (m+t)))))) none) (cond (G==9) (cond (decide (z.length+([92,116]:Bn).length<=aac)) (let M:=z++([92,116]:Bn);cond (t==0) (some (.inl (o,M,(IntKind.wrap .i64 (m+1))))) (some (.inl (o,M,(IntKind.wrap .i64 (m+t)))))) none) (cond (G==13) (cond (decide (z.length+([92,114]:Bn).length<=aac)) (let O:=z++([92,114]:Bn);cond (t==0) (some (.inl (o,O,(IntKind.wrap .i64 (m+1))))) (some (.inl (o,O,(IntKind.wrap .i64 (m+t)))))) none) (cond (cond (cond (decide (G<32)) true (G==127)) true (t==0)) (cond (decide (z.length+([92,120]:Bn).length<=aac)) (let U:=z++([92,120]:Bn);(F322 G).bind λY=>cond (decide (U.length+Y.length<=aac)) (let V:=U++Y;cond (t==0) (some (.inl (o,V,(IntKind.wrap .i64 (m+1))))) (some (.inl (o,V,(IntKind.wrap .i64 (m+t)))))) none) none) (let H:=IntKind.wrap .i64 (m+t);cond (decide (0<=m/\m<=H/\H<=(o.length:Int))) (let W:=(o.take H.toNat).drop m.toNat;cond (decide (z.length+W.length<=aac)) (let X:=z++W;cond (t==0) (some (.inl (o,X,(IntKind.wrap .i64 (m+1))))) (some (.inl (o,X,(IntKind.wrap .i64 (m+t)))))) none) none))))))) none) (some (.inr z))
def F229(o:Bn):Option Bn:=(aad 0 (Y3 S229_4) (o,([34]:Bn),(0:Int))).bind λm=>cond (decide (m.length+([34]:Bn).length<=aac)) (some (m++([34]:Bn))) none
def S229_4l:LoopE:=⟨4,f113,[(.exit 0,f52)],(Y3 S229_4)⟩
def F229c:KT:=xf 229 f4 f4 F229 [F321c,F322c] [S229_4l] (L1 (xl S229_4l L0))
def S417_3(t:Int)(o:Bn):Option ((Int×Bn)⊕T86a):=cond (decide (t>=10)) (let z:=IntKind.wrap .u64 (t.tdiv (10:Int));let m:=IntKind.wrap .u8 (IntKind.wrap .u64 ((48:Int)+(z.tmod (10:Int))));cond (decide (([(PV.int m)].map aa4).length+o.length<=aac)) (some (.inl (z,([(PV.int m)].map aa4)++o))) none) (some (.inr o))
def F417(o:Int):Option Bn:=(aad 0 (Y2 S417_3) (o,[(PV.int (IntKind.wrap .u8 (IntKind.wrap .u64 ((48:Int)+(o.tmod (10:Int))))))].map aa4)).bind λm=>some m
def S417_3l:LoopE:=⟨3,⟨[0,3],[],[.int .u64,.str]⟩,[(.exit 0,f52)],(Y2 S417_3)⟩
def F417c:KT:=xf 417 f23 f4 F417 [] [S417_3l] (L1 (xl S417_3l L0))
def S419_4(m t:Bn)(o:Int):Option (T32a⊕T86a):=cond (decide (o<(m.length:Int))) (cond (aab o m.length) ((F322 ((m.getD o.toNat 0).toNat:Int)).bind λz=>cond (decide (t.length+z.length<=aac)) (some (.inl (m,(t++z),(IntKind.wrap .i64 (o+1))))) none) none) (some (.inr t))
def F419(o:Bn):Option Bn:=(aad 0 (Y3 S419_4) (o,([]:Bn),(0:Int))).bind λm=>some m
def S419_4l:LoopE:=⟨4,f113,[(.exit 0,f52)],(Y3 S419_4)⟩
def F419c:KT:=xf 419 f4 f4 F419 [F322c] [S419_4l] (L1 (xl S419_4l L0))
def S418_4(z:Int)(m:List PV)(o:Int):Option ((Int×(List PV)×Int)⊕(List PV)):=cond (decide (o<8)) (let t:=IntKind.wrap .u8 (z.tmod (256:Int));cond (decide ([(PV.int t)].length+m.length<=accMax)) (some (.inl ((IntKind.wrap .u64 (z.tdiv (256:Int))),[(PV.int t)]++m,(IntKind.wrap .i64 (o+1))))) none) (some (.inr m))
def F418(t:Int):Option Bn:=(aad 0 (Y3 S418_4) (t,[],(0:Int))).bind λm=>(F419 (m.map aa4)).bind λo=>some o
def S418_4l:LoopE:=⟨4,⟨[0,3,4],[],[.int .u64,.slice 5,.int .i64]⟩,[(.exit 0,⟨[3],[],[.slice 5]⟩)],(Y3 S418_4)⟩
def F418c:KT:=xf 418 f23 f4 F418 [F419c] [S418_4l] (L1 (xl S418_4l L0))
def F390(m:PV):Option Bn:=(F308 (m.fld 0).asInt m).bind λW=>cond (!W) (some ([]:Bn)) (let o:=(m.fld 0).asInt;cond (o==1) (cond ((m.fld 1).asInt==1) (some ([116,114,117,101]:Bn)) (some ([102,97,108,115,101]:Bn))) (cond (o==2) (cond (decide (((m.fld 1).asInt)>=9223372036854775808)) ((F417 (IntKind.wrap .u64 (0-(m.fld 1).asInt))).bind λt=>cond (decide (([45]:Bn).length+t.length<=aac)) (some (([45]:Bn)++t)) none) ((F417 (m.fld 1).asInt).bind λJ=>some J)) (cond (o==3) (cond (decide (((m.fld 1).asInt)>=9223372036854775808)) ((F417 (IntKind.wrap .u64 (0-(m.fld 1).asInt))).bind λz=>cond (decide (([45]:Bn).length+z.length<=aac)) (some (([45]:Bn)++z)) none) ((F417 (m.fld 1).asInt).bind λM=>some M)) (cond (o==6) ((F378 (m.fld 1).asInt).bind λG=>cond (G==0) (some ([110,97,110]:Bn)) (cond (G==1) (cond (decide (((m.fld 1).asInt)>=9223372036854775808)) (some ([45,105,110,102]:Bn)) (some ([105,110,102]:Bn))) ((F418 (m.fld 1).asInt).bind λH=>cond (decide (([48,120]:Bn).length+H.length<=aac)) (some (([48,120]:Bn)++H)) none))) (cond (o==7) ((F229 (m.fld 2).asStr).bind λO=>some O) (cond (o==8) ((F419 (m.fld 2).asStr).bind λU=>(F229 U).bind λI=>cond (decide (([120]:Bn).length+I.length<=aac)) (some (([120]:Bn)++I)) none) ((F417 (m.fld 1).asInt).bind λV=>some V)))))))
def F390c:KT:=xj 390 f15 f4 F390 [F308c,F417c,F378c,F418c,F229c,F419c]
def S387_6(o:List PV)(t:Bn)(m:Int):Option (T25a⊕((Bn)⊕(Bn))):=cond (decide (m<(o.length:Int))) (cond (aab m o.length) ((F381 (o.getD m.toNat .bad)).bind λW=>cond (!W) (some (.inr (.inl ([]:Bn)))) (cond (decide (m>0)) (cond (decide (t.length+([44,32]:Bn).length<=aac)) (let z:=t++([44,32]:Bn);cond (aab m o.length) (let G:=((o.getD m.toNat .bad).fld 0).asStr;cond (decide (G.length+([32,61,32]:Bn).length<=aac)) (let H:=G++([32,61,32]:Bn);cond (aab m o.length) ((F390 ((o.getD m.toNat .bad).fld 1)).bind λU=>cond (decide (H.length+U.length<=aac)) (let I:=H++U;cond (decide (z.length+I.length<=aac)) (some (.inl (o,(z++I),(IntKind.wrap .i64 (m+1))))) none) none) none) none) none) none) (cond (aab m o.length) (let J:=((o.getD m.toNat .bad).fld 0).asStr;cond (decide (J.length+([32,61,32]:Bn).length<=aac)) (let M:=J++([32,61,32]:Bn);cond (aab m o.length) ((F390 ((o.getD m.toNat .bad).fld 1)).bind λV=>cond (decide (M.length+V.length<=aac)) (let O:=M++V;cond (decide (t.length+O.length<=aac)) (some (.inl (o,(t++O),(IntKind.wrap .i64 (m+1))))) none) none) none) none) none))) none) (some (.inr (.inr t)))
def F387(t:List PV):Option Bn:=cond ((t.length:Int)==0) (some ([]:Bn)) ((aad 0 (Y3 S387_6) (t,([91]:Bn),(0:Int))).bind λz=>sumE (λo=>some o ) (λm=>cond (decide (m.length+([93]:Bn).length<=aac)) (some (m++([93]:Bn))) none ) z)
def S387_6l:LoopE:=⟨6,⟨[0,3,4],[],(.slice 66)::sv5⟩,[(.ret,⟨[2],[],[.str]⟩),(.exit 0,f52)],(Y3 S387_6)⟩
def F387c:KT:=xf 387 f40 f4 F387 [F381c,F390c] [S387_6l] (L1 (xl S387_6l L0))
def F323(m:List PV):Option Bn:=cond ((m.length:Int)==0) (some ([]:Bn)) ((F387 m).bind λo=>cond (decide (([32]:Bn).length+o.length<=aac)) (some (([32]:Bn)++o)) none)
def F323c:KT:=xj 323 f40 f4 F323 [F387c]
def F388(m:PV):Option Bn:=(F382 (m.fld 0).asInt).bind λz=>cond (cond (!(z==([]:Bn))) ((m.fld 1).asStr==([]:Bn)) false) ((F382 (m.fld 0).asInt).bind λG=>some G) (let o:=cond (cond ((m.fld 0).asInt==0) true ((m.fld 0).asInt==9)) true ((m.fld 0).asInt==10);(cond o (F316 (m.fld 1).asStr) (some false)).bind λt=>cond (cond o t false) (some (m.fld 1).asStr) (some ([]:Bn)))
def F388c:KT:=xj 388 f84 f4 F388 [F382c,F316c]
def F327(m:Int):Option Bn:=(F390 (PV.agg [.int 5,.int (IntKind.wrap .u64 m),.str ([]:Bn),.slice [],.slice [],.slice [],.slice []])).bind λo=>some o
def F327c:KT:=xj 327 f5 f4 F327 [F390c]
def F389(m:PV):Option Bn:=(F416 m).bind λG=>cond G (some (m.fld 2).asStr) ((F308 (m.fld 0).asInt m).bind λH=>cond (!H) (some ([]:Bn)) (cond (cond ((m.fld 0).asInt==6) true ((m.fld 0).asInt==8)) ((F390 m).bind λo=>(F229 o).bind λt=>some t) ((F390 m).bind λz=>some z)))
def F389c:KT:=xj 389 f15 f4 F389 [F416c,F308c,F390c,F229c]
def F324(m:PV):Option Bn:=(F388 (m.fld 4)).bind λH=>cond ((m.fld 2).asInt==5) ((F382 (m.fld 3).asInt).bind λy6=>cond (decide (([109,97,112,60]:Bn).length+y6.length<=aac)) (cond (decide ((([109,97,112,60]:Bn)++y6).length+([44,32]:Bn).length<=aac)) (let x7:=(([109,97,112,60]:Bn)++y6)++([44,32]:Bn);cond (decide (x7.length+H.length<=aac)) (let x8:=x7++H;cond (decide (x8.length+([62]:Bn).length<=aac)) (let x9:=x8++([62]:Bn);cond (decide (x9.length+([32]:Bn).length<=aac)) (let I:=x9++([32]:Bn);let J:=(m.fld 1).asStr;cond (decide (I.length+J.length<=aac)) (let M:=I++J;cond (decide (M.length+([32,61,32]:Bn).length<=aac)) (let O:=M++([32,61,32]:Bn);(F327 (m.fld 0).asInt).bind λaq=>cond (decide (O.length+aq.length<=aac)) (let o:=O++aq;cond ((m.fld 6).asBool) (cond (decide (o.length+([32,100,101,102,97,117,108,116,32]:Bn).length<=aac)) (let U:=o++([32,100,101,102,97,117,108,116,32]:Bn);(F389 (m.fld 7)).bind λar=>cond (decide (U.length+ar.length<=aac)) (let V:=U++ar;(F323 (m.fld 8).asList).bind λau=>cond (decide (V.length+au.length<=aac)) (let W:=V++au;cond (decide (W.length+([59]:Bn).length<=aac)) (some (W++([59]:Bn))) none) none) none) none) ((F323 (m.fld 8).asList).bind λav=>cond (decide (o.length+av.length<=aac)) (let X:=o++av;cond (decide (X.length+([59]:Bn).length<=aac)) (some (X++([59]:Bn))) none) none)) none) none) none) none) none) none) none) none) (cond ((m.fld 5).asStr==([]:Bn)) (let G:=IntKind.wrap .i64 (((m.fld 2).asInt)-1);cond (aab G ([(PV.str ([114,101,113,117,105,114,101,100,32]:Bn)),(PV.str ([111,112,116,105,111,110,97,108,32]:Bn)),(PV.str ([112,108,97,105,110,32]:Bn)),(PV.str ([108,105,115,116,32]:Bn))].length)) (cond (decide ((([(PV.str ([114,101,113,117,105,114,101,100,32]:Bn)),(PV.str ([111,112,116,105,111,110,97,108,32]:Bn)),(PV.str ([112,108,97,105,110,32]:Bn)),(PV.str ([108,105,115,116,32]:Bn))].getD G.toNat .bad).asStr).length+H.length<=aac)) (let Y:=(([(PV.str ([114,101,113,117,105,114,101,100,32]:Bn)),(PV.str ([111,112,116,105,111,110,97,108,32]:Bn)),(PV.str ([112,108,97,105,110,32]:Bn)),(PV.str ([108,105,115,116,32]:Bn))].getD G.toNat .bad).asStr)++H;cond (decide (Y.length+([32]:Bn).length<=aac)) (let Z:=Y++([32]:Bn);let aa:=(m.fld 1).asStr;cond (decide (Z.length+aa.length<=aac)) (let ab:=Z++aa;cond (decide (ab.length+([32,61,32]:Bn).length<=aac)) (let ad:=ab++([32,61,32]:Bn);(F327 (m.fld 0).asInt).bind λaw=>cond (decide (ad.length+aw.length<=aac)) (let t:=ad++aw;cond ((m.fld 6).asBool) (cond (decide (t.length+([32,100,101,102,97,117,108,116,32]:Bn).length<=aac)) (let ae:=t++([32,100,101,102,97,117,108,116,32]:Bn);(F389 (m.fld 7)).bind λax=>cond (decide (ae.length+ax.length<=aac)) (let af:=ae++ax;(F323 (m.fld 8).asList).bind λay=>cond (decide (af.length+ay.length<=aac)) (let ag:=af++ay;cond (decide (ag.length+([59]:Bn).length<=aac)) (some (ag++([59]:Bn))) none) none) none) none) ((F323 (m.fld 8).asList).bind λaz=>cond (decide (t.length+az.length<=aac)) (let ah:=t++az;cond (decide (ah.length+([59]:Bn).length<=aac)) (some (ah++([59]:Bn))) none) none)) none) none) none) none) none) none) (cond (decide (H.length+([32]:Bn).length<=aac)) (let ai:=H++([32]:Bn);let aj:=(m.fld 1).asStr;cond (decide (ai.length+aj.length<=aac)) (let ak:=ai++aj;cond (decide (ak.length+([32,61,32]:Bn).length<=aac)) (let al:=ak++([32,61,32]:Bn);(F327 (m.fld 0).asInt).bind λaA=>cond (decide (al.length+aA.length<=aac)) (let z:=al++aA;cond ((m.fld 6).asBool) (cond (decide (z.length+([32,100,101,102,97,117,108,116,32]:Bn).length<=aac)) (let am:=z++([32,100,101,102,97,117,108,116,32]:Bn);(F389 (m.fld 7)).bind λaB=>cond (decide (am.length+aB.length<=aac)) (let an:=am++aB;(F323 (m.fld 8).asList).bind λaC=>cond (decide (an.length+aC.length<=aac)) (let ao:=an++aC;cond (decide (ao.length+([59]:Bn).length<=aac)) (some (ao++([59]:Bn))) none) none) none) none) ((F323 (m.fld 8).asList).bind λaD=>cond (decide (z.length+aD.length<=aac)) (let ap:=z++aD;cond (decide (ap.length+([59]:Bn).length<=aac)) (some (ap++([59]:Bn))) none) none)) none) none) none) none))
def F324c:KT:=xj 324 f19 f4 F324 [F388c,F382c,F327c,F389c,F323c]
def S325_4(o:List PV)(G:Bn)(m:Int):Option (T25a⊕T86a):=cond (decide (m<(o.length:Int))) (cond (decide (m>0)) (cond (decide (G.length+([44,32]:Bn).length<=aac)) (let V:=G++([44,32]:Bn);cond (aab m o.length) ((F327 ((o.getD m.toNat .bad).fld 0).asInt).bind λJ=>cond (decide (V.length+J.length<=aac)) (let t:=V++J;cond (aab m o.length) (cond (aab m o.length) (cond (((o.getD m.toNat .bad).fld 1).asInt != ((o.getD m.toNat .bad).fld 0).asInt) (cond (decide (t.length+([32,45,32]:Bn).length<=aac)) (let H:=t++([32,45,32]:Bn);cond (aab m o.length) ((F327 ((o.getD m.toNat .bad).fld 1).asInt).bind λM=>cond (decide (H.length+M.length<=aac)) (some (.inl (o,(H++M),(IntKind.wrap .i64 (m+1))))) none) none) none) (some (.inl (o,t,(IntKind.wrap .i64 (m+1)))))) none) none) none) none) none) (cond (aab m o.length) ((F327 ((o.getD m.toNat .bad).fld 0).asInt).bind λO=>cond (decide (G.length+O.length<=aac)) (let z:=G++O;cond (aab m o.length) (cond (aab m o.length) (cond (((o.getD m.toNat .bad).fld 1).asInt != ((o.getD m.toNat .bad).fld 0).asInt) (cond (decide (z.length+([32,45,32]:Bn).length<=aac)) (let I:=z++([32,45,32]:Bn);cond (aab m o.length) ((F327 ((o.getD m.toNat .bad).fld 1).asInt).bind λU=>cond (decide (I.length+U.length<=aac)) (some (.inl (o,(I++U),(IntKind.wrap .i64 (m+1))))) none) none) none) (some (.inl (o,z,(IntKind.wrap .i64 (m+1)))))) none) none) none) none)) (some (.inr G))
def F325(t:List PV):Option Bn:=(aad 0 (Y3 S325_4) (t,([]:Bn),(0:Int))).bind λm=>cond (m==([]:Bn)) (some ([]:Bn)) (cond (decide (([32,32,114,101,115,101,114,118,101,100,32]:Bn).length+m.length<=aac)) (cond (decide ((([32,32,114,101,115,101,114,118,101,100,32]:Bn)++m).length+([59,10]:Bn).length<=aac)) (let o:=(([32,32,114,101,115,101,114,118,101,100,32]:Bn)++m)++([59,10]:Bn);some o) none) none)
def S325_4l:LoopE:=⟨4,⟨[0,3,4],[],(.slice 117)::sv5⟩,[(.exit 0,f52)],(Y3 S325_4)⟩
def F325c:KT:=xf 325 f61 f4 F325 [F327c] [S325_4l] (L1 (xl S325_4l L0))
def S326_4(o:List PV)(t:Bn)(m:Int):Option (T25a⊕T86a):=cond (decide (m<(o.length:Int))) (cond (decide (m>0)) (cond (decide (t.length+([44,32]:Bn).length<=aac)) (let H:=t++([44,32]:Bn);cond (aab m o.length) ((F229 (o.getD m.toNat .bad).asStr).bind λz=>cond (decide (H.length+z.length<=aac)) (some (.inl (o,(H++z),(IntKind.wrap .i64 (m+1))))) none) none) none) (cond (aab m o.length) ((F229 (o.getD m.toNat .bad).asStr).bind λG=>cond (decide (t.length+G.length<=aac)) (some (.inl (o,(t++G),(IntKind.wrap .i64 (m+1))))) none) none)) (some (.inr t))
def F326(t:List PV):Option Bn:=(aad 0 (Y3 S326_4) (t,([]:Bn),(0:Int))).bind λm=>cond (m==([]:Bn)) (some ([]:Bn)) (cond (decide (([32,32,114,101,115,101,114,118,101,100,32]:Bn).length+m.length<=aac)) (cond (decide ((([32,32,114,101,115,101,114,118,101,100,32]:Bn)++m).length+([59,10]:Bn).length<=aac)) (let o:=(([32,32,114,101,115,101,114,118,101,100,32]:Bn)++m)++([59,10]:Bn);some o) none) none)
def S326_4l:LoopE:=⟨4,⟨[0,3,4],[],(.slice 9)::sv5⟩,[(.exit 0,f52)],(Y3 S326_4)⟩
def F326c:KT:=xf 326 f18 f4 F326 [F229c] [S326_4l] (L1 (xl S326_4l L0))
def S231_5(a6:Unit)(G V:Bn)(z:Int)(o:PV):Option (T92a⊕(Unit×Bn×Bn×PV)):=cond (decide (z<((o.fld 1).asList.length:Int))) (let W:=(o.fld 1).asList;cond (aab z W.length) (let m:=W.getD z.toNat .bad;cond (cond (!(V==([]:Bn))) (!(V==(m.fld 5).asStr)) false) (cond (decide (G.length+([32,32,125,10]:Bn).length<=aac)) (let t:=G++([32,32,125,10]:Bn);cond (cond (!((m.fld 5).asStr==([]:Bn))) (!(V==(m.fld 5).asStr)) false) (cond (decide (t.length+([32,32,117,110,105,111,110,32]:Bn).length<=aac)) (let X:=t++([32,32,117,110,105,111,110,32]:Bn);let Y:=(m.fld 5).asStr;cond (decide (X.length+Y.length<=aac)) (let Z:=X++Y;cond (decide (Z.length+([32,123,10]:Bn).length<=aac)) (let H:=Z++([32,123,10]:Bn);let J:=(m.fld 5).asStr;cond (!(J==([]:Bn))) (cond (decide (H.length+([32,32]:Bn).length<=aac)) (let aa:=H++([32,32]:Bn);cond (decide (aa.length+([32,32]:Bn).length<=aac)) (let ab:=aa++([32,32]:Bn);(F324 m).bind λaA=>cond (decide (ab.length+aA.length<=aac)) (let ad:=ab++aA;cond (decide (ad.length+([10]:Bn).length<=aac)) (some (.inl ((),(ad++([10]:Bn)),J,(IntKind.wrap .i64 (z+1)),o))) none) none) none) none) (cond (decide (H.length+([32,32]:Bn).length<=aac)) (let ae:=H++([32,32]:Bn);(F324 m).bind λaB=>cond (decide (ae.length+aB.length<=aac)) (let af:=ae++aB;cond (decide (af.length+([10]:Bn).length<=aac)) (some (.inl ((),(af++([10]:Bn)),J,(IntKind.wrap .i64 (z+1)),o))) none) none) none)) none) none) none) (let M:=(m.fld 5).asStr;cond (!(M==([]:Bn))) (cond (decide (t.length+([32,32]:Bn).length<=aac)) (let ag:=t++([32,32]:Bn);cond (decide (ag.length+([32,32]:Bn).length<=aac)) (let ah:=ag++([32,32]:Bn);(F324 m).bind λaC=>cond (decide (ah.length+aC.length<=aac)) (let ai:=ah++aC;cond (decide (ai.length+([10]:Bn).length<=aac)) (some (.inl ((),(ai++([10]:Bn)),M,(IntKind.wrap .i64 (z+1)),o))) none) none) none) none) (cond (decide (t.length+([32,32]:Bn).length<=aac)) (let aj:=t++([32,32]:Bn);(F324 m).bind λaD=>cond (decide (aj.length+aD.length<=aac)) (let ak:=aj++aD;cond (decide (ak.length+([10]:Bn).length<=aac)) (some (.inl ((),(ak++([10]:Bn)),M,(IntKind.wrap .i64 (z+1)),o))) none) none) none))) none) (cond (cond (!((m.fld 5).asStr==([]:Bn))) (!(V==(m.fld 5).asStr)) false) (cond (decide (G.length+([32,32,117,110,105,111,110,32]:Bn).length<=aac)) (let al:=G++([32,32,117,110,105,111,110,32]:Bn);let am:=(m.fld 5).asStr;cond (decide (al.length+am.length<=aac)) (let an:=al++am;cond (decide (an.length+([32,123,10]:Bn).length<=aac)) (let I:=an++([32,123,10]:Bn);let O:=(m.fld 5).asStr;cond (!(O==([]:Bn))) (cond (decide (I.length+([32,32]:Bn).length<=aac)) (let ao:=I++([32,32]:Bn);cond (decide (ao.length+([32,32]:Bn).length<=aac)) (let ap:=ao++([32,32]:Bn);(F324 m).bind λaE=>cond (decide (ap.length+aE.length<=aac)) (let aq:=ap++aE;cond (decide (aq.length+([10]:Bn).length<=aac)) (some (.inl ((),(aq++([10]:Bn)),O,(IntKind.wrap .i64 (z+1)),o))) none) none) none) none) (cond (decide (I.length+([32,32]:Bn).length<=aac)) (let ar:=I++([32,32]:Bn);(F324 m).bind λaF=>cond (decide (ar.length+aF.length<=aac)) (let au:=ar++aF;cond (decide (au.length+([10]:Bn).length<=aac)) (some (.inl ((),(au++([10]:Bn)),O,(IntKind.wrap .i64 (z+1)),o))) none) none) none)) none) none) none) (let U:=(m.fld 5).asStr;cond (!(U==([]:Bn))) (cond (decide (G.length+([32,32]:Bn).length<=aac)) (let av:=G++([32,32]:Bn);cond (decide (av.length+([32,32]:Bn).length<=aac)) (let aw:=av++([32,32]:Bn);(F324 m).bind λaG=>cond (decide (aw.length+aG.length<=aac)) (let ax:=aw++aG;cond (decide (ax.length+([10]:Bn).length<=aac)) (some (.inl ((),(ax++([10]:Bn)),U,(IntKind.wrap .i64 (z+1)),o))) none) none) none) none) (cond (decide (G.length+([32,32]:Bn).length<=aac)) (let ay:=G++([32,32]:Bn);(F324 m).bind λaH=>cond (decide (ay.length+aH.length<=aac)) (let az:=ay++aH;cond (decide (az.length+([10]:Bn).length<=aac)) (some (.inl ((),(az++([10]:Bn)),U,(IntKind.wrap .i64 (z+1)),o))) none) none) none)))) none) (some (.inr ((),G,V,o)))
def F231(W:PV):Option Bn:=let x1:=(W.fld 0).asStr;cond (decide (([109,101,115,115,97,103,101,32]:Bn).length+x1.length<=aac)) ((F323 (W.fld 4).asList).bind λY=>cond (decide ((([109,101,115,115,97,103,101,32]:Bn)++x1).length+Y.length<=aac)) (let X:=(([109,101,115,115,97,103,101,32]:Bn)++x1)++Y;cond (decide (X.length+([32,123,10]:Bn).length<=aac)) ((aad 0 (Y5 S231_5) ((),(X++([32,123,10]:Bn)),([]:Bn),(0:Int),W)).bind λm=>cond (!(m.2.2.1==([]:Bn))) (let M:=m.2.1;cond (decide (M.length+([32,32,125,10]:Bn).length<=aac)) (let O:=M++([32,32,125,10]:Bn);(F325 (m.2.2.2.fld 2).asList).bind λV=>cond (decide (O.length+V.length<=aac)) (let U:=O++V;(F326 (m.2.2.2.fld 3).asList).bind λH=>cond (decide (U.length+H.length<=aac)) (let o:=U++H;cond (decide (o.length+([125,10]:Bn).length<=aac)) (some (o++([125,10]:Bn))) none) none) none) none) (let t:=m.2.1;(F325 (m.2.2.2.fld 2).asList).bind λI=>cond (decide (t.length+I.length<=aac)) (let z:=t++I;(F326 (m.2.2.2.fld 3).asList).bind λJ=>cond (decide (z.length+J.length<=aac)) (let G:=z++J;cond (decide (G.length+([125,10]:Bn).length<=aac)) (some (G++([125,10]:Bn))) none) none) none)) none) none) none
def S231_5l:LoopE:=⟨5,⟨[1,3,4,5],[.box 74 .leaf],[(.con (.ref 0 [] 74)),.str,.str,.int .i64,.data 74]⟩,[(.exit 0,⟨[1,3,4],[.box 74 .leaf],(.con (.ref 0 [] 74))::.str::sv58⟩)],(Y5 S231_5)⟩
def F231c:KT:=xf 231 f45 f4 F231 [F323c,F324c,F325c,F326c] [S231_5l] (L1 (xl S231_5l L0))
def F230(m o:Bn):Option Bn:=cond (m==([]:Bn)) (some o) (cond (decide (m.length+([10]:Bn).length<=aac)) (let t:=m++([10]:Bn);cond (decide (t.length+o.length<=aac)) (some (t++o)) none) none)
def F230c:KT:=xj 230 f53 f4 (u2 F230) []
def S232_6(Y:Unit)(X:Bn)(o:Int)(m:PV):Option (T10a⊕T80a):=cond (decide (o<((m.fld 2).asList.length:Int))) (cond (decide (X.length+([32,32]:Bn).length<=aac)) (let t:=X++([32,32]:Bn);let z:=(m.fld 2).asList;cond (aab o z.length) (let G:=((z.getD o.toNat .bad).fld 0).asStr;cond (decide (t.length+G.length<=aac)) (let H:=t++G;cond (decide (H.length+([32,61,32]:Bn).length<=aac)) (let I:=H++([32,61,32]:Bn);let J:=(m.fld 2).asList;cond (aab o J.length) ((F327 ((J.getD o.toNat .bad).fld 1).asInt).bind λV=>cond (decide (I.length+V.length<=aac)) (let M:=I++V;let O:=(m.fld 2).asList;cond (aab o O.length) ((F323 ((O.getD o.toNat .bad).fld 2).asList).bind λW=>cond (decide (M.length+W.length<=aac)) (let U:=M++W;cond (decide (U.length+([59,10]:Bn).length<=aac)) (some (.inl ((),(U++([59,10]:Bn)),(IntKind.wrap .i64 (o+1)),m))) none) none) none) none) none) none) none) none) none) (some (.inr ((),X,m)))
def F232(m:PV):Option Bn:=let x1:=(m.fld 0).asStr;cond (decide (([101,110,117,109,32]:Bn).length+x1.length<=aac)) ((F323 (m.fld 4).asList).bind λV=>cond (decide ((([101,110,117,109,32]:Bn)++x1).length+V.length<=aac)) (let U:=(([101,110,117,109,32]:Bn)++x1)++V;cond (decide (U.length+([32,123,10]:Bn).length<=aac)) (let O:=U++([32,123,10]:Bn);cond ((m.fld 1).asBool) (cond (decide (([111,112,101,110,32]:Bn).length+O.length<=aac)) ((aad 0 (Y4 S232_6) ((),([111,112,101,110,32]:Bn)++O,(0:Int),m)).bind λH=>let o:=H.2.1;(F325 (H.2.2.fld 3).asList).bind λI=>cond (decide (o.length+I.length<=aac)) (let t:=o++I;cond (decide (t.length+([125,10]:Bn).length<=aac)) (some (t++([125,10]:Bn))) none) none) none) ((aad 0 (Y4 S232_6) ((),O,(0:Int),m)).bind λJ=>let z:=J.2.1;(F325 (J.2.2.fld 3).asList).bind λM=>cond (decide (z.length+M.length<=aac)) (let G:=z++M;cond (decide (G.length+([125,10]:Bn).length<=aac)) (some (G++([125,10]:Bn))) none) none)) none) none) none
def S232_6l:LoopE:=⟨6,⟨[1,3,4],[.box 121 .leaf],[(.con (.ref 0 [] 121)),.str,.int .i64,.data 121]⟩,[(.exit 0,⟨[1,3],[.box 121 .leaf],(.con (.ref 0 [] 121))::sv59⟩)],(Y4 S232_6)⟩
def F232c:KT:=xf 232 f44 f4 F232 [F323c,F327c,F325c] [S232_6l] (L1 (xl S232_6l L0))
def S233_4(a6:Unit)(z:Bn)(G:Int)(H:PV):Option (T10a⊕(Bn×PV)):=cond (decide (G<((H.fld 1).asList.length:Int))) (let I:=(H.fld 1).asList;cond (aab G I.length) (let m:=I.getD G.toNat .bad;let t:=(m.fld 1).asStr;let o:=(m.fld 2).asStr;cond (cond ((m.fld 3).asInt==3) true ((m.fld 3).asInt==4)) (cond (decide (([115,116,114,101,97,109,32]:Bn).length+t.length<=aac)) (cond (cond ((m.fld 3).asInt==2) true ((m.fld 3).asInt==4)) (cond (decide (([115,116,114,101,97,109,32]:Bn).length+o.length<=aac)) (cond (decide (z.length+([32,32,114,112,99,32]:Bn).length<=aac)) (let J:=z++([32,32,114,112,99,32]:Bn);let M:=(m.fld 0).asStr;cond (decide (J.length+M.length<=aac)) (let O:=J++M;cond (decide (O.length+([40]:Bn).length<=aac)) (let U:=O++([40]:Bn);cond (decide (U.length+(([115,116,114,101,97,109,32]:Bn)++t).length<=aac)) (let V:=U++(([115,116,114,101,97,109,32]:Bn)++t);cond (decide (V.length+([41,32,114,101,116,117,114,110,115,32,40]:Bn).length<=aac)) (let W:=V++([41,32,114,101,116,117,114,110,115,32,40]:Bn);cond (decide (W.length+(([115,116,114,101,97,109,32]:Bn)++o).length<=aac)) (let X:=W++(([115,116,114,101,97,109,32]:Bn)++o);cond (decide (X.length+([41]:Bn).length<=aac)) (let Y:=X++([41]:Bn);(F323 (m.fld 4).asList).bind λaE=>cond (decide (Y.length+aE.length<=aac)) (let Z:=Y++aE;cond (decide (Z.length+([59,10]:Bn).length<=aac)) (some (.inl ((),(Z++([59,10]:Bn)),(IntKind.wrap .i64 (G+1)),H))) none) none) none) none) none) none) none) none) none) none) (cond (decide (z.length+([32,32,114,112,99,32]:Bn).length<=aac)) (let aa:=z++([32,32,114,112,99,32]:Bn);let ab:=(m.fld 0).asStr;cond (decide (aa.length+ab.length<=aac)) (let ad:=aa++ab;cond (decide (ad.length+([40]:Bn).length<=aac)) (let ae:=ad++([40]:Bn);cond (decide (ae.length+(([115,116,114,101,97,109,32]:Bn)++t).length<=aac)) (let af:=ae++(([115,116,114,101,97,109,32]:Bn)++t);cond (decide (af.length+([41,32,114,101,116,117,114,110,115,32,40]:Bn).length<=aac)) (let ag:=af++([41,32,114,101,116,117,114,110,115,32,40]:Bn);cond (decide (ag.length+o.length<=aac)) (let ah:=ag++o;cond (decide (ah.length+([41]:Bn).length<=aac)) (let ai:=ah++([41]:Bn);(F323 (m.fld 4).asList).bind λaF=>cond (decide (ai.length+aF.length<=aac)) (let aj:=ai++aF;cond (decide (aj.length+([59,10]:Bn).length<=aac)) (some (.inl ((),(aj++([59,10]:Bn)),(IntKind.wrap .i64 (G+1)),H))) none) none) none) none) none) none) none) none) none)) none) (cond (cond ((m.fld 3).asInt==2) true ((m.fld 3).asInt==4)) (cond (decide (([115,116,114,101,97,109,32]:Bn).length+o.length<=aac)) (cond (decide (z.length+([32,32,114,112,99,32]:Bn).length<=aac)) (let ak:=z++([32,32,114,112,99,32]:Bn);let al:=(m.fld 0).asStr;cond (decide (ak.length+al.length<=aac)) (let am:=ak++al;cond (decide (am.length+([40]:Bn).length<=aac)) (let an:=am++([40]:Bn);cond (decide (an.length+t.length<=aac)) (let ao:=an++t;cond (decide (ao.length+([41,32,114,101,116,117,114,110,115,32,40]:Bn).length<=aac)) (let ap:=ao++([41,32,114,101,116,117,114,110,115,32,40]:Bn);cond (decide (ap.length+(([115,116,114,101,97,109,32]:Bn)++o).length<=aac)) (let aq:=ap++(([115,116,114,101,97,109,32]:Bn)++o);cond (decide (aq.length+([41]:Bn).length<=aac)) (let ar:=aq++([41]:Bn);(F323 (m.fld 4).asList).bind λaG=>cond (decide (ar.length+aG.length<=aac)) (let au:=ar++aG;cond (decide (au.length+([59,10]:Bn).length<=aac)) (some (.inl ((),(au++([59,10]:Bn)),(IntKind.wrap .i64 (G+1)),H))) none) none) none) none) none) none) none) none) none) none) (cond (decide (z.length+([32,32,114,112,99,32]:Bn).length<=aac)) (let av:=z++([32,32,114,112,99,32]:Bn);let aw:=(m.fld 0).asStr;cond (decide (av.length+aw.length<=aac)) (let ax:=av++aw;cond (decide (ax.length+([40]:Bn).length<=aac)) (let ay:=ax++([40]:Bn);cond (decide (ay.length+t.length<=aac)) (let az:=ay++t;cond (decide (az.length+([41,32,114,101,116,117,114,110,115,32,40]:Bn).length<=aac)) (let aA:=az++([41,32,114,101,116,117,114,110,115,32,40]:Bn);cond (decide (aA.length+o.length<=aac)) (let aB:=aA++o;cond (decide (aB.length+([41]:Bn).length<=aac)) (let aC:=aB++([41]:Bn);(F323 (m.fld 4).asList).bind λaH=>cond (decide (aC.length+aH.length<=aac)) (let aD:=aC++aH;cond (decide (aD.length+([59,10]:Bn).length<=aac)) (some (.inl ((),(aD++([59,10]:Bn)),(IntKind.wrap .i64 (G+1)),H))) none) none) none) none) none) none) none) none) none))) none) (some (.inr (z,H)))
def F233(o:PV):Option Bn:=let x1:=(o.fld 0).asStr;cond (decide (([115,101,114,118,105,99,101,32]:Bn).length+x1.length<=aac)) ((F323 (o.fld 2).asList).bind λG=>cond (decide ((([115,101,114,118,105,99,101,32]:Bn)++x1).length+G.length<=aac)) (let z:=(([115,101,114,118,105,99,101,32]:Bn)++x1)++G;cond (decide (z.length+([32,123,10]:Bn).length<=aac)) ((aad 0 (Y4 S233_4) ((),(z++([32,123,10]:Bn)),(0:Int),o)).bind λt=>let m:=t.1;cond (decide (m.length+([125,10]:Bn).length<=aac)) (some (m++([125,10]:Bn))) none) none) none) none
def S233_4l:LoopE:=⟨4,⟨[1,3,4],[.box 127 .leaf],[(.con (.ref 0 [] 127)),.str,.int .i64,.data 127]⟩,[(.exit 0,⟨[3],[.box 127 .leaf],sv60⟩)],(Y4 S233_4)⟩
def F233c:KT:=xf 233 f54 f4 F233 [F323c] [S233_4l] (L1 (xl S233_4l L0))
def S139_6(J:Unit)(I:Bn)(G:Int)(H:PV):Option (T10a⊕T80a):=cond (decide (G<((H.fld 2).asList.length:Int))) (cond (decide (I.length+([105,109,112,111,114,116,32]:Bn).length<=aac)) (let m:=I++([105,109,112,111,114,116,32]:Bn);let o:=(H.fld 2).asList;cond (aab G o.length) ((F229 (o.getD G.toNat .bad).asStr).bind λz=>cond (decide (m.length+z.length<=aac)) (let t:=m++z;cond (decide (t.length+([59,10]:Bn).length<=aac)) (some (.inl ((),(t++([59,10]:Bn)),(IntKind.wrap .i64 (G+1)),H))) none) none) none) none) (some (.inr ((),I,H)))
def S139_10(I:Unit)(t:Bn)(m:Int)(o:PV):Option (T10a⊕T80a):=cond (decide (m<((o.fld 3).asList.length:Int))) (let z:=(o.fld 3).asList;cond (aab m z.length) ((F231 (z.getD m.toNat .bad)).bind λG=>(F230 t G).bind λH=>some (.inl ((),H,(IntKind.wrap .i64 (m+1)),o))) none) (some (.inr ((),t,o)))
def S139_14(I:Unit)(t:Bn)(m:Int)(o:PV):Option (T10a⊕T80a):=cond (decide (m<((o.fld 4).asList.length:Int))) (let z:=(o.fld 4).asList;cond (aab m z.length) ((F232 (z.getD m.toNat .bad)).bind λG=>(F230 t G).bind λH=>some (.inl ((),H,(IntKind.wrap .i64 (m+1)),o))) none) (some (.inr ((),t,o)))
def S139_18(I:Unit)(t:Bn)(m:Int)(o:PV):Option (T10a⊕(Bn×PV)):=cond (decide (m<((o.fld 5).asList.length:Int))) (let z:=(o.fld 5).asList;cond (aab m z.length) ((F233 (z.getD m.toNat .bad)).bind λG=>(F230 t G).bind λH=>some (.inl ((),H,(IntKind.wrap .i64 (m+1)),o))) none) (some (.inr (t,o)))
def F139(I:PV):Option Bn:=cond (!((I.fld 1).asStr==([]:Bn))) (let J:=(I.fld 1).asStr;cond (decide (([115,112,97,99,101,32]:Bn).length+J.length<=aac)) (cond (decide ((([115,112,97,99,101,32]:Bn)++J).length+([59,10]:Bn).length<=aac)) (let U:=(([115,112,97,99,101,32]:Bn)++J)++([59,10]:Bn);(aad 0 (Y4 S139_6) ((),U,(0:Int),I)).bind λm=>(aad 0 (Y4 S139_10) ((),m.2.1,(0:Int),m.2.2)).bind λo=>(aad 0 (Y4 S139_14) ((),o.2.1,(0:Int),o.2.2)).bind λt=>(aad 0 (Y4 S139_18) ((),t.2.1,(0:Int),t.2.2)).bind λM=>some M.1) none) none) ((aad 0 (Y4 S139_6) ((),([]:Bn),(0:Int),I)).bind λz=>(aad 0 (Y4 S139_10) ((),z.2.1,(0:Int),z.2.2)).bind λG=>(aad 0 (Y4 S139_14) ((),G.2.1,(0:Int),G.2.2)).bind λH=>(aad 0 (Y4 S139_18) ((),H.2.1,(0:Int),H.2.2)).bind λO=>some O.1)
def S139_6l:LoopE:=⟨6,⟨[1,3,4],bx25,sv61⟩,[(.exit 0,f108)],(Y4 S139_6)⟩
def S139_10l:LoopE:=⟨10,⟨[1,3,5],bx25,sv61⟩,[(.exit 2,f108)],(Y4 S139_10)⟩
def S139_14l:LoopE:=⟨14,⟨[1,3,6],bx25,sv61⟩,[(.exit 4,f108)],(Y4 S139_14)⟩
def S139_18l:LoopE:=⟨18,⟨[1,3,7],bx25,sv61⟩,[(.exit 6,⟨[3],bx25,sv63⟩)],(Y4 S139_18)⟩
def F139c:KT:=xf 139 f7 f4 F139 [F229c,F231c,F230c,F232c,F233c] [S139_6l,S139_10l,S139_14l,S139_18l] (L4 (xl S139_6l L0) (xl S139_10l L0) (xl S139_14l L0) (xl S139_18l L0))
def S138_8(H:Unit)(t:Bool)(z:Int)(m:PV):Option (T2a⊕T81a):=cond (decide (z<((m.fld 3).asList.length:Int))) (let o:=(m.fld 3).asList;cond (imp t (aab z o.length)) ((cond t (F226 ((o.getD z.toNat .bad).fld 3).asList) (some false)).bind λG=>some (.inl ((),(cond t G false),(IntKind.wrap .i64 (z+1)),m))) none) (some (.inr ((),t,m)))
def F138(z:PV):Option Int:=(F224 z).bind λI=>cond (!I) (some (8:Int)) ((F225 z).bind λJ=>cond (!J) (some (1:Int)) ((F226 (z.fld 2).asList).bind λM=>(aad 0 (Y4 S138_8) ((),M,(0:Int),z)).bind λm=>cond (!m.2.1) (some (7:Int)) ((F227 m.2.2).bind λt=>cond (t != 0) (some t) ((F228 m.2.2).bind λG=>let o:=!G;(cond (!o) (F139 m.2.2) (some [])).bind λH=>cond (cond o true (decide ((H.length:Int)>16384))) (some (3:Int)) (some (0:Int))))))
def S138_8l:LoopE:=⟨8,f72,[(.exit 0,f50)],(Y4 S138_8)⟩
def F138c:KT:=xf 138 f7 f5 F138 [F224c,F225c,F226c,F227c,F228c,F139c] [S138_8l] (L1 (xl S138_8l L0))
def F88(m:PV):Option Bn:=(F138 m).bind λo=>cond (o != 0) (some ([]:Bn)) ((F139 m).bind λt=>some t)
def F88c:KT:=xj 88 f7 f4 F88 [F138c,F139c]
def F58(m:PV):Option Bn:=(F55 m).bind λo=>cond (!o) (some ([]:Bn)) ((F57 m).bind λt=>(F89 t).bind λz=>(F88 z).bind λG=>some G)
def F58c:KT:=xj 58 f8 f4 F58 [F55c,F57c,F89c,F88c]
def S82_4(m:Bn)(t o:Int):Option (T114a⊕(Int)):=cond (decide (o<(m.length:Int))) (cond (aab o m.length) (some (.inl (m,(IntKind.wrap .u64 ((aen .xor .u64 t (IntKind.wrap .u64 ((m.getD o.toNat 0).toNat:Int)))*1099511628211)),(IntKind.wrap .i64 (o+1))))) none) (some (.inr t))
def F82(o:Bn):Option Int:=(aad 0 (Y3 S82_4) (o,(14695981039346656037:Int),(0:Int))).bind λm=>some m
def S82_4l:LoopE:=⟨4,⟨[0,3,4],[],.str::sv0⟩,[(.exit 0,⟨[3],[],[.int .u64]⟩)],(Y3 S82_4)⟩
def F82c:KT:=xf 82 f4 f23 F82 [] [S82_4l] (L1 (xl S82_4l L0))
def F54(m:PV):Option Int:=(F58 m).bind λo=>(F82 o).bind λt=>some t
def F54c:KT:=xj 54 f8 f23 F54 [F58c,F82c]
def S220_5(t z:List PV)(m:Int):Option (T22a⊕T21a):=cond (decide (m<(t.length:Int))) (cond (aab m t.length) (cond (aab m z.length) (let o:=((t.getD m.toNat .bad).fld 0).asInt != ((z.getD m.toNat .bad).fld 0).asInt;cond (imp (!o) (aab m t.length)) (cond (imp (!o) (aab m z.length)) (cond (cond o true (((t.getD m.toNat .bad).fld 1).asInt != ((z.getD m.toNat .bad).fld 1).asInt)) (some (.inr (.inl false))) (some (.inl (t,z,(IntKind.wrap .i64 (m+1)))))) none) none) none) none) (some (.inr (.inr ())))
def F220(o t:List PV):Option Bool:=cond ((o.length:Int) != (t.length:Int)) (some false) ((aad 0 (Y3 S220_5) (o,t,(0:Int))).bind λz=>sumE (λm=>some m ) (λG=>some true ) z)
def S220_5l:LoopE:=⟨5,⟨[0,1,5],[],(.slice 117)::sv24⟩,[(.ret,f43),(.exit 0,f9)],(Y3 S220_5)⟩
def F220c:KT:=xf 220 f96 f0 (u2 F220) [] [S220_5l] (L1 (xl S220_5l L0))
def S221_5(o t:List PV)(m:Int):Option (T22a⊕T21a):=cond (decide (m<(o.length:Int))) (cond (aab m o.length) (cond (aab m t.length) (cond (!((o.getD m.toNat .bad).asStr==(t.getD m.toNat .bad).asStr)) (some (.inr (.inl false))) (some (.inl (o,t,(IntKind.wrap .i64 (m+1)))))) none) none) (some (.inr (.inr ())))
def F221(o t:List PV):Option Bool:=cond ((o.length:Int) != (t.length:Int)) (some false) ((aad 0 (Y3 S221_5) (o,t,(0:Int))).bind λz=>sumE (λm=>some m ) (λG=>some true ) z)
def S221_5l:LoopE:=⟨5,f100,[(.ret,f43),(.exit 0,f9)],(Y3 S221_5)⟩
def F221c:KT:=xf 221 ⟨2,[],sv17⟩ f0 (u2 F221) [] [S221_5l] (L1 (xl S221_5l L0))
def B312c(r:(PV×PV)->Option (Bool)):CallE:=⟨312,f115,f0,r,false⟩
def B312_5(M:(PV×PV)->Option (Bool))(I J:Unit)(m:Int)(o t:PV):Option (T1a⊕T30a):=cond (decide (m<((o.fld 3).asList.length:Int))) (let z:=(o.fld 3).asList;cond (aab m z.length) (let G:=(t.fld 3).asList;cond (aab m G.length) ((M ((z.getD m.toNat .bad),(G.getD m.toNat .bad))).bind λH=>cond (!H) (some (.inr (.inl (false,o,t)))) (some (.inl ((),(),(IntKind.wrap .i64 (m+1)),o,t)))) none) none) (some (.inr (.inr ((),(),o,t))))
def B312_5step(m:(PV×PV)->Option (Bool))(x:T1a):=B312_5 m x.1 x.2.1 x.2.2.1 x.2.2.2.1 x.2.2.2.2
def B312_10(U:(PV×PV)->Option (Bool))(V W:Unit)(m:Int)(o t:PV):Option (T1a⊕T30a):=cond (decide (m<((o.fld 4).asList.length:Int))) (let G:=(o.fld 4).asList;cond (aab m G.length) (let H:=(t.fld 4).asList;cond (aab m H.length) ((U (((G.getD m.toNat .bad).fld 0),((H.getD m.toNat .bad).fld 0))).bind λM=>let z:=!M;let I:=(o.fld 4).asList;cond (imp (!z) (aab m I.length)) (let J:=(t.fld 4).asList;cond (imp (!z) (aab m J.length)) ((cond (!z) (U (((I.getD m.toNat .bad).fld 1),((J.getD m.toNat .bad).fld 1))) (some false)).bind λO=>cond (cond z true (!O)) (some (.inr (.inl (false,o,t)))) (some (.inl ((),(),(IntKind.wrap .i64 (m+1)),o,t)))) none) none) none) none) (some (.inr (.inr ((),(),o,t))))
def B312_10step(m:(PV×PV)->Option (Bool))(x:T1a):=B312_10 m x.1 x.2.1 x.2.2.1 x.2.2.2.1 x.2.2.2.2
def B312_15(V:(PV×PV)->Option (Bool))(O U:Unit)(m:Int)(o t:PV):Option (T1a⊕T30a):=cond (decide (m<((o.fld 5).asList.length:Int))) (let H:=(o.fld 5).asList;cond (aab m H.length) (let I:=(t.fld 5).asList;cond (aab m I.length) (let z:=((H.getD m.toNat .bad).fld 0).asInt != ((I.getD m.toNat .bad).fld 0).asInt;let J:=(o.fld 5).asList;cond (imp (!z) (aab m J.length)) (let G:=(t.fld 5).asList;cond (imp (!z) (aab m G.length)) ((cond (!z) (V (((J.getD m.toNat .bad).fld 1),((G.getD m.toNat .bad).fld 1))) (some false)).bind λM=>cond (cond z true (!M)) (some (.inr (.inl (false,o,t)))) (some (.inl ((),(),(IntKind.wrap .i64 (m+1)),o,t)))) none) none) none) none) (some (.inr (.inr ((),(),o,t))))
def B312_15step(m:(PV×PV)->Option (Bool))(x:T1a):=B312_15 m x.1 x.2.1 x.2.2.1 x.2.2.2.1 x.2.2.2.2
def B312_20(U:(PV×PV)->Option (Bool))(M O:Unit)(m:Int)(o t:PV):Option (T1a⊕T48a):=cond (decide (m<((o.fld 6).asList.length:Int))) (let H:=(o.fld 6).asList;cond (aab m H.length) (let z:=H.getD m.toNat .bad;let I:=(t.fld 6).asList;cond (aab m I.length) (let G:=I.getD m.toNat .bad;let J:=!(cond ((z.fld 0).asInt==(G.fld 0).asInt) (cond ((z.fld 1).asInt==(G.fld 1).asInt) (cond ((z.fld 2).asInt==(G.fld 2).asInt) (cond ((z.fld 3).asStr==(G.fld 3).asStr) true false) false) false) false);cond J (some (.inr (.inl (false,o,t)))) (some (.inl ((),(),(IntKind.wrap .i64 (m+1)),o,t)))) none) none) (some (.inr (.inr (o,t))))
def B312_20step(m:(PV×PV)->Option (Bool))(x:T1a):=B312_20 m x.1 x.2.1 x.2.2.1 x.2.2.2.1 x.2.2.2.2
def B312(M:(PV×PV)->Option (Bool))(m o:PV):Option Bool:=cond (cond (cond (cond (cond (cond (cond ((m.fld 0).asInt != (o.fld 0).asInt) true ((m.fld 1).asInt != (o.fld 1).asInt)) true (!((m.fld 2).asStr==(o.fld 2).asStr))) true (((m.fld 3).asList.length:Int) != ((o.fld 3).asList.length:Int))) true (((m.fld 4).asList.length:Int) != ((o.fld 4).asList.length:Int))) true (((m.fld 5).asList.length:Int) != ((o.fld 5).asList.length:Int))) true (((m.fld 6).asList.length:Int) != ((o.fld 6).asList.length:Int))) (some false) ((aad 0 (B312_5step M) ((),(),(0:Int),m,o)).bind λz=>sumE (λO=>some O.1 ) (λI=>(aad 0 (B312_10step M) ((),(),(0:Int),I.2.2.1,I.2.2.2)).bind λz=>sumE (λU=>some U.1 ) (λJ=>(aad 0 (B312_15step M) ((),(),(0:Int),J.2.2.1,J.2.2.2)).bind λz=>sumE (λG=>some G.1 ) (λt=>(aad 0 (B312_20step M) ((),(),(0:Int),t.2.2.1,t.2.2.2)).bind λz=>sumE (λH=>some H.1 ) (λV=>some true ) z ) z ) z ) z)
def B312_5l(m:(PV×PV)->Option (Bool)):LoopE:=⟨5,⟨[2,3,5],bx26,sv64⟩,[(.ret,f87),(.exit 0,f109)],B312_5step m⟩
def B312_10l(m:(PV×PV)->Option (Bool)):LoopE:=⟨10,⟨[2,3,6],bx26,sv64⟩,[(.ret,f87),(.exit 2,f109)],B312_10step m⟩
def B312_15l(m:(PV×PV)->Option (Bool)):LoopE:=⟨15,⟨[2,3,7],bx26,sv64⟩,[(.ret,f87),(.exit 4,f109)],B312_15step m⟩
def B312_20l(m:(PV×PV)->Option (Bool)):LoopE:=⟨20,⟨[2,3,8],bx26,sv64⟩,[(.ret,f87),(.exit 6,⟨[],bx26,sv27⟩)],B312_20step m⟩
def B312C(m:(PV×PV)->Option (Bool)):Cfg:=cfg Tryz.prog 174 0 [B312c m] [B312_5l m,B312_10l m,B312_15l m,B312_20l m] 0
theorem B312k(m:(PV×PV)->Option (Bool))(o:(B312c m).Ok Tryz.prog):acw (B312C m):=akb (qc o<|q0) p0
theorem B312_5ok(m:(PV×PV)->Option (Bool))(o:(B312c m).Ok Tryz.prog):LoopOk (B312C m) (lp (abp Tryz.f312) 0):=okL (B312k m o) 0 (B312_5l m) L0
theorem B312_10ok(m:(PV×PV)->Option (Bool))(o:(B312c m).Ok Tryz.prog):LoopOk (B312C m) (lp (abp Tryz.f312) 1):=okL (B312k m o) 0 (B312_10l m) L0
theorem B312_15ok(m:(PV×PV)->Option (Bool))(o:(B312c m).Ok Tryz.prog):LoopOk (B312C m) (lp (abp Tryz.f312) 2):=okL (B312k m o) 0 (B312_15l m) L0
theorem B312_20ok(m:(PV×PV)->Option (Bool))(o:(B312c m).Ok Tryz.prog):LoopOk (B312C m) (lp (abp Tryz.f312) 3):=okL (B312k m o) 0 (B312_20l m) L0
theorem B312ok(m:(PV×PV)->Option (Bool))(o:(B312c m).Ok Tryz.prog):(B312c (λx=>B312 m x.1 x.2)).Ok Tryz.prog:=okE Tryz.f312 (B312k m o) (L4 (B312_5ok m o) (B312_10ok m o) (B312_15ok m o) (B312_20ok m o))
def G312:Nat->((PV×PV)->Option (Bool))|0=>λ_=>none|d+1=>λx=>B312 (G312 d) x.1 x.2
theorem G312ok:∀d,(B312c (G312 d)).Ok Tryz.prog
 |0=>bjx
 |d+1=>B312ok (G312 d) (G312ok d)
def F312(m o:PV):Option Bool:=limQ 0 (λd=>(G312 d)) (m,o)
def F312e:CallE:=⟨312,⟨2,[],[.data 64,.data 64]⟩,f0,λx=>F312 x.1 x.2,false⟩
theorem F312ok:F312e.Ok Tryz.prog:=@okLim _ F312e 0 (λd=>(G312 d)) (λx=>rfl) (λd=>(G312ok d))
def F312c:KC Tryz.prog:=⟨F312e,F312ok⟩
def S222_5(t z:List PV)(m:Int):Option (T22a⊕T21a):=cond (decide (m<(t.length:Int))) (cond (aab m t.length) (cond (aab m z.length) (let o:=!(((t.getD m.toNat .bad).fld 0).asStr==((z.getD m.toNat .bad).fld 0).asStr);cond (imp (!o) (aab m t.length)) (cond (imp (!o) (aab m z.length)) ((cond (!o) (F312 ((t.getD m.toNat .bad).fld 1) ((z.getD m.toNat .bad).fld 1)) (some false)).bind λG=>cond (cond o true (!G)) (some (.inr (.inl false))) (some (.inl (t,z,(IntKind.wrap .i64 (m+1)))))) none) none) none) none) (some (.inr (.inr ())))
def F222(o t:List PV):Option Bool:=cond ((o.length:Int) != (t.length:Int)) (some false) ((aad 0 (Y3 S222_5) (o,t,(0:Int))).bind λz=>sumE (λm=>some m ) (λG=>some true ) z)
def S222_5l:LoopE:=⟨5,⟨[0,1,5],[],(.slice 66)::sv32⟩,[(.ret,f43),(.exit 0,f9)],(Y3 S222_5)⟩
def F222c:KT:=xf 222 f103 f0 (u2 F222) [F312c] [S222_5l] (L1 (xl S222_5l L0))
def F223(m o:PV):Option Bool:=let t:=cond (cond (cond (cond (cond (cond (cond ((m.fld 0).asInt==(o.fld 0).asInt) ((m.fld 1).asStr==(o.fld 1).asStr) false) ((m.fld 2).asInt==(o.fld 2).asInt) false) ((m.fld 3).asInt==(o.fld 3).asInt) false) ((((m.fld 4).fld 0).asInt)==(((o.fld 4).fld 0).asInt)) false) ((((m.fld 4).fld 1).asStr)==(((o.fld 4).fld 1).asStr)) false) ((m.fld 5).asStr==(o.fld 5).asStr) false) ((m.fld 6).asBool==(o.fld 6).asBool) false;(cond t (F312 (m.fld 7) (o.fld 7)) (some false)).bind λG=>let z:=cond t G false;(cond z (F222 (m.fld 8).asList (o.fld 8).asList) (some false)).bind λH=>some (cond z H false)
def F223c:KT:=xj 223 f116 f0 (u2 F223) [F312c,F222c]
def S134_5(I J:Unit)(m:Int)(o t:PV):Option (T1a⊕T48a):=cond (decide (m<((o.fld 1).asList.length:Int))) (let z:=(o.fld 1).asList;cond (aab m z.length) (let G:=(t.fld 1).asList;cond (aab m G.length) ((F223 (z.getD m.toNat .bad) (G.getD m.toNat .bad)).bind λH=>cond (!H) (some (.inr (.inl (false,o,t)))) (some (.inl ((),(),(IntKind.wrap .i64 (m+1)),o,t)))) none) none) (some (.inr (.inr (o,t))))
def F134(m o:PV):Option Bool:=let O:=cond (!((m.fld 0).asStr==(o.fld 0).asStr)) true (((m.fld 1).asList.length:Int) != ((o.fld 1).asList.length:Int));(cond (!O) (F220 (m.fld 2).asList (o.fld 2).asList) (some false)).bind λH=>let t:=cond O true (!H);(cond (!t) (F221 (m.fld 3).asList (o.fld 3).asList) (some false)).bind λI=>let G:=cond t true (!I);(cond (!G) (F222 (m.fld 4).asList (o.fld 4).asList) (some false)).bind λJ=>cond (cond G true (!J)) (some false) ((aad 0 (Y5 S134_5) ((),(),(0:Int),m,o)).bind λz=>sumE (λM=>some M.1 ) (λU=>some true ) z)
def S134_5l:LoopE:=⟨5,⟨[2,3,5],bx27,(.con (.ref 0 [] 74))::(.con (.ref 1 [] 74))::(.int .i64)::sv67⟩,[(.ret,⟨[4],bx27,.bool::sv67⟩),(.exit 0,⟨[],bx27,sv67⟩)],(Y5 S134_5)⟩
def F134c:KT:=xf 134 ⟨2,[],sv67⟩ f0 (u2 F134) [F220c,F221c,F222c,F223c] [S134_5l] (L1 (xl S134_5l L0))
def S135_5(W X:Unit)(m:Int)(o t:PV):Option (T1a⊕T48a):=cond (decide (m<((o.fld 2).asList.length:Int))) (let H:=(o.fld 2).asList;cond (aab m H.length) (let I:=(t.fld 2).asList;cond (aab m I.length) (let G:=!(((H.getD m.toNat .bad).fld 0).asStr==((I.getD m.toNat .bad).fld 0).asStr);let J:=(o.fld 2).asList;cond (imp (!G) (aab m J.length)) (let M:=(t.fld 2).asList;cond (imp (!G) (aab m M.length)) (let z:=cond G true (((J.getD m.toNat .bad).fld 1).asInt != ((M.getD m.toNat .bad).fld 1).asInt);let O:=(o.fld 2).asList;cond (imp (!z) (aab m O.length)) (let U:=(t.fld 2).asList;cond (imp (!z) (aab m U.length)) ((cond (!z) (F222 ((O.getD m.toNat .bad).fld 2).asList ((U.getD m.toNat .bad).fld 2).asList) (some false)).bind λV=>cond (cond z true (!V)) (some (.inr (.inl (false,o,t)))) (some (.inl ((),(),(IntKind.wrap .i64 (m+1)),o,t)))) none) none) none) none) none) none) (some (.inr (.inr (o,t))))
def F135(m o:PV):Option Bool:=let t:=cond (cond (!((m.fld 0).asStr==(o.fld 0).asStr)) true (!((m.fld 1).asBool==(o.fld 1).asBool))) true (((m.fld 2).asList.length:Int) != ((o.fld 2).asList.length:Int));(cond (!t) (F220 (m.fld 3).asList (o.fld 3).asList) (some false)).bind λH=>let G:=cond t true (!H);(cond (!G) (F222 (m.fld 4).asList (o.fld 4).asList) (some false)).bind λI=>cond (cond G true (!I)) (some false) ((aad 0 (Y5 S135_5) ((),(),(0:Int),m,o)).bind λz=>sumE (λJ=>some J.1 ) (λM=>some true ) z)
def S135_5l:LoopE:=⟨5,⟨[2,3,5],bx28,(.con (.ref 0 [] 121))::(.con (.ref 1 [] 121))::(.int .i64)::sv68⟩,[(.ret,⟨[4],bx28,.bool::sv68⟩),(.exit 0,⟨[],bx28,sv68⟩)],(Y5 S135_5)⟩
def F135c:KT:=xf 135 ⟨2,[],sv68⟩ f0 (u2 F135) [F220c,F222c] [S135_5l] (L1 (xl S135_5l L0))
def S136_5(O U:Unit)(m:Int)(o G:PV):Option (T1a⊕T48a):=cond (decide (m<((o.fld 1).asList.length:Int))) (let H:=(o.fld 1).asList;cond (aab m H.length) (let t:=H.getD m.toNat .bad;let I:=(G.fld 1).asList;cond (aab m I.length) (let z:=I.getD m.toNat .bad;let J:=cond (cond (cond (!((t.fld 0).asStr==(z.fld 0).asStr)) true (!((t.fld 1).asStr==(z.fld 1).asStr))) true (!((t.fld 2).asStr==(z.fld 2).asStr))) true ((t.fld 3).asInt != (z.fld 3).asInt);(cond (!J) (F222 (t.fld 4).asList (z.fld 4).asList) (some false)).bind λM=>cond (cond J true (!M)) (some (.inr (.inl (false,o,G)))) (some (.inl ((),(),(IntKind.wrap .i64 (m+1)),o,G)))) none) none) (some (.inr (.inr (o,G))))
def F136(m o:PV):Option Bool:=let H:=cond (!((m.fld 0).asStr==(o.fld 0).asStr)) true (((m.fld 1).asList.length:Int) != ((o.fld 1).asList.length:Int));(cond (!H) (F222 (m.fld 2).asList (o.fld 2).asList) (some false)).bind λt=>cond (cond H true (!t)) (some false) ((aad 0 (Y5 S136_5) ((),(),(0:Int),m,o)).bind λz=>sumE (λG=>some G.1 ) (λI=>some true ) z)
def S136_5l:LoopE:=⟨5,⟨[2,3,5],bx29,(.con (.ref 0 [] 127))::(.con (.ref 1 [] 127))::(.int .i64)::sv69⟩,[(.ret,⟨[4],bx29,.bool::sv69⟩),(.exit 0,⟨[],bx29,sv69⟩)],(Y5 S136_5)⟩
def F136c:KT:=xf 136 ⟨2,[],sv69⟩ f0 (u2 F136) [F222c] [S136_5l] (L1 (xl S136_5l L0))
def S84_5(I J:Unit)(m:Int)(o t:PV):Option (T1a⊕T30a):=cond (decide (m<((o.fld 0).asList.length:Int))) (let z:=(o.fld 0).asList;cond (aab m z.length) (let G:=(t.fld 0).asList;cond (aab m G.length) ((F134 (z.getD m.toNat .bad) (G.getD m.toNat .bad)).bind λH=>cond (!H) (some (.inr (.inl (false,o,t)))) (some (.inl ((),(),(IntKind.wrap .i64 (m+1)),o,t)))) none) none) (some (.inr (.inr ((),(),o,t))))
def S84_10(I J:Unit)(m:Int)(o t:PV):Option (T1a⊕T30a):=cond (decide (m<((o.fld 1).asList.length:Int))) (let z:=(o.fld 1).asList;cond (aab m z.length) (let G:=(t.fld 1).asList;cond (aab m G.length) ((F135 (z.getD m.toNat .bad) (G.getD m.toNat .bad)).bind λH=>cond (!H) (some (.inr (.inl (false,o,t)))) (some (.inl ((),(),(IntKind.wrap .i64 (m+1)),o,t)))) none) none) (some (.inr (.inr ((),(),o,t))))
def S84_15(I J:Unit)(m:Int)(o t:PV):Option (T1a⊕T48a):=cond (decide (m<((o.fld 2).asList.length:Int))) (let z:=(o.fld 2).asList;cond (aab m z.length) (let G:=(t.fld 2).asList;cond (aab m G.length) ((F136 (z.getD m.toNat .bad) (G.getD m.toNat .bad)).bind λH=>cond (!H) (some (.inr (.inl (false,o,t)))) (some (.inl ((),(),(IntKind.wrap .i64 (m+1)),o,t)))) none) none) (some (.inr (.inr (o,t))))
def F84(t G:PV):Option Bool:=cond (cond (cond (((t.fld 0).asList.length:Int) != ((G.fld 0).asList.length:Int)) true (((t.fld 1).asList.length:Int) != ((G.fld 1).asList.length:Int))) true (((t.fld 2).asList.length:Int) != ((G.fld 2).asList.length:Int))) (some false) ((aad 0 (Y5 S84_5) ((),(),(0:Int),t,G)).bind λz=>sumE (λH=>some H.1 ) (λm=>(aad 0 (Y5 S84_10) ((),(),(0:Int),m.2.2.1,m.2.2.2)).bind λz=>sumE (λI=>some I.1 ) (λo=>(aad 0 (Y5 S84_15) ((),(),(0:Int),o.2.2.1,o.2.2.2)).bind λz=>sumE (λJ=>some J.1 ) (λM=>some true ) z ) z ) z)
def S84_5l:LoopE:=⟨5,⟨[2,3,5],bx30,sv70⟩,[(.ret,f121),(.exit 0,f51)],(Y5 S84_5)⟩
def S84_10l:LoopE:=⟨10,⟨[2,3,6],bx30,sv70⟩,[(.ret,f121),(.exit 2,f51)],(Y5 S84_10)⟩
def S84_15l:LoopE:=⟨15,⟨[2,3,7],bx30,sv70⟩,[(.ret,f121),(.exit 4,⟨[],bx30,sv72⟩)],(Y5 S84_15)⟩
def F84c:KT:=xf 84 ⟨2,[],sv72⟩ f0 (u2 F84) [F134c,F135c,F136c] [S84_5l,S84_10l,S84_15l] (L3 (xl S84_5l L0) (xl S84_10l L0) (xl S84_15l L0))
end
end Go.Ab
