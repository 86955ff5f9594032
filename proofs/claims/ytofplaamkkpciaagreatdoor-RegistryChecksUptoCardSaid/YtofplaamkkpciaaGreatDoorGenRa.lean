/- A part of the proof: lemmas on how the program runs over plain data. -/
import Derived.Test.YtofplaamkkpciaaGreatDoorAbPrmR
set_option linter.unusedVariables false
set_option linter.unusedSimpArgs false
set_option linter.unnecessarySimpa false
namespace Go.Ab
open Go Go.Proofs
set_option maxRecDepth 100000
noncomputable section
def Y2{A0 A1 R:Type}(f:A0->A1->R)(x:A0×A1):R:=f x.1 x.2
def Y3{A0 A1 A2 R:Type}(f:A0->A1->A2->R)(x:A0×A1×A2):R:=f x.1 x.2.1 x.2.2
def Y4{A0 A1 A2 A3 R:Type}(f:A0->A1->A2->A3->R)(x:A0×A1×A2×A3):R:=f x.1 x.2.1 x.2.2.1 x.2.2.2
def Y5{A0 A1 A2 A3 A4 R:Type}(f:A0->A1->A2->A3->A4->R)(x:A0×A1×A2×A3×A4):R:=f x.1 x.2.1 x.2.2.1 x.2.2.2.1 x.2.2.2.2
def Y6{A0 A1 A2 A3 A4 A5 R:Type}(f:A0->A1->A2->A3->A4->A5->R)(x:A0×A1×A2×A3×A4×A5):R:=f x.1 x.2.1 x.2.2.1 x.2.2.2.1 x.2.2.2.2.1 x.2.2.2.2.2
def Y7{A0 A1 A2 A3 A4 A5 A6 R:Type}(f:A0->A1->A2->A3->A4->A5->A6->R)(x:A0×A1×A2×A3×A4×A5×A6):R:=f x.1 x.2.1 x.2.2.1 x.2.2.2.1 x.2.2.2.2.1 x.2.2.2.2.2.1 x.2.2.2.2.2.2
def Y8{A0 A1 A2 A3 A4 A5 A6 A7 R:Type}(f:A0->A1->A2->A3->A4->A5->A6->A7->R)(x:A0×A1×A2×A3×A4×A5×A6×A7):R:=f x.1 x.2.1 x.2.2.1 x.2.2.2.1 x.2.2.2.2.1 x.2.2.2.2.2.1 x.2.2.2.2.2.2.1 x.2.2.2.2.2.2.2
def Y9{A0 A1 A2 A3 A4 A5 A6 A7 A8 R:Type}(f:A0->A1->A2->A3->A4->A5->A6->A7->A8->R)(x:A0×A1×A2×A3×A4×A5×A6×A7×A8):R:=f x.1 x.2.1 x.2.2.1 x.2.2.2.1 x.2.2.2.2.1 x.2.2.2.2.2.1 x.2.2.2.2.2.2.1 x.2.2.2.2.2.2.2.1 x.2.2.2.2.2.2.2.2
def Y10{A0 A1 A2 A3 A4 A5 A6 A7 A8 A9 R:Type}(f:A0->A1->A2->A3->A4->A5->A6->A7->A8->A9->R)(x:A0×A1×A2×A3×A4×A5×A6×A7×A8×A9):R:=f x.1 x.2.1 x.2.2.1 x.2.2.2.1 x.2.2.2.2.1 x.2.2.2.2.2.1 x.2.2.2.2.2.2.1 x.2.2.2.2.2.2.2.1 x.2.2.2.2.2.2.2.2.1 x.2.2.2.2.2.2.2.2.2
def Y11{A0 A1 A2 A3 A4 A5 A6 A7 A8 A9 A10 R:Type}(f:A0->A1->A2->A3->A4->A5->A6->A7->A8->A9->A10->R)(x:A0×A1×A2×A3×A4×A5×A6×A7×A8×A9×A10):R:=f x.1 x.2.1 x.2.2.1 x.2.2.2.1 x.2.2.2.2.1 x.2.2.2.2.2.1 x.2.2.2.2.2.2.1 x.2.2.2.2.2.2.2.1 x.2.2.2.2.2.2.2.2.1 x.2.2.2.2.2.2.2.2.2.1 x.2.2.2.2.2.2.2.2.2.2
def Y12{A0 A1 A2 A3 A4 A5 A6 A7 A8 A9 A10 A11 R:Type}(f:A0->A1->A2->A3->A4->A5->A6->A7->A8->A9->A10->A11->R)(x:A0×A1×A2×A3×A4×A5×A6×A7×A8×A9×A10×A11):R:=f x.1 x.2.1 x.2.2.1 x.2.2.2.1 x.2.2.2.2.1 x.2.2.2.2.2.1 x.2.2.2.2.2.2.1 x.2.2.2.2.2.2.2.1 x.2.2.2.2.2.2.2.2.1 x.2.2.2.2.2.2.2.2.2.1 x.2.2.2.2.2.2.2.2.2.2.1 x.2.2.2.2.2.2.2.2.2.2.2
def Y13{A0 A1 A2 A3 A4 A5 A6 A7 A8 A9 A10 A11 A12 R:Type}(f:A0->A1->A2->A3->A4->A5->A6->A7->A8->A9->A10->A11->A12->R)(x:A0×A1×A2×A3×A4×A5×A6×A7×A8×A9×A10×A11×A12):R:=f x.1 x.2.1 x.2.2.1 x.2.2.2.1 x.2.2.2.2.1 x.2.2.2.2.2.1 x.2.2.2.2.2.2.1 x.2.2.2.2.2.2.2.1 x.2.2.2.2.2.2.2.2.1 x.2.2.2.2.2.2.2.2.2.1 x.2.2.2.2.2.2.2.2.2.2.1 x.2.2.2.2.2.2.2.2.2.2.2.1 x.2.2.2.2.2.2.2.2.2.2.2.2
abbrev okP(c:CallE):Prop:=c.Ok Tryz.prog
variable(uu:Nat)
abbrev bx0:List BSh:=[.box 412 .leaf,.acc]
abbrev bx1:List BSh:=[.box 37 .leaf,.box 73 .leaf]
abbrev bx2:List BSh:=[.box 37 .leaf]
abbrev bx3:List BSh:=[.box 37 .leaf,.box 88 .leaf]
abbrev bx4:List BSh:=[.box 24 .leaf,.box 31 .leaf]
abbrev bx5:List BSh:=[.box 24 .leaf]
abbrev bx6:List BSh:=[.box 62 .leaf]
abbrev bx7:List BSh:=[.box 31 .leaf]
abbrev bx8:List BSh:=[.box 9 .leaf]
abbrev bx9:List BSh:=[.box 65 .leaf,.box 31 .leaf]
abbrev bx10:List BSh:=[.box 65 .leaf]
abbrev bx11:List BSh:=[.box 62 .leaf,.box 65 .leaf]
abbrev bx12:List BSh:=[.box 37 .leaf,.box 187 .leaf,.box 187 (.agg 187 [.leaf,.leaf,.leaf]),.acc,.acc,.acc]
abbrev bx13:List BSh:=[.box 186 (.agg 186 [.leaf,.leaf,.leaf]),.acc]
abbrev bx14:List BSh:=[.box 187 .leaf]
abbrev bx15:List BSh:=[.box 37 .leaf,.box 192 .leaf,.map 9 4]
abbrev bx16:List BSh:=[.box 37 .leaf,.map 9 4,.box 192 .leaf]
abbrev bx17:List BSh:=[.box 294 .leaf,.box 68 .leaf,.box 3 .leaf]
abbrev bx18:List BSh:=[.box 85 .leaf]
abbrev bx19:List BSh:=[.box 37 .leaf,.box 73 .leaf,.box 186 (.agg 186 [.leaf,.leaf,.leaf]),.acc]
abbrev bx20:List BSh:=[.box 247 .leaf,.box 86 .leaf,.box 3 .leaf]
abbrev bx21:List BSh:=[.box 88 .leaf,.box 186 (.agg 186 [.leaf,.leaf,.leaf]),.acc]
abbrev bx22:List BSh:=[.box 37 .leaf,.box 93 .leaf,.box 186 (.agg 186 [.leaf,.leaf,.leaf]),.acc]
abbrev bx23:List BSh:=[.box 37 .leaf,.box 186 (.agg 186 [.leaf,.leaf,.leaf]),.box 187 .leaf,.acc]
abbrev bx24:List BSh:=[.box 37 .leaf,.box 37 .leaf,.box 37 (.agg 37 [.leaf,.leaf,.leaf]),.acc,.acc,.acc,.box 73 (.agg 73 [.leaf,.leaf,.leaf,.leaf,.leaf]),.arr 85 0]
abbrev bx25:List BSh:=[.box 37 .leaf,.box 37 .leaf,.box 37 (.agg 37 [.leaf,.leaf,.leaf]),.acc,.acc,.acc]
abbrev bx26:List BSh:=[.box 37 .leaf,.box 37 .leaf,.box 37 (.agg 37 [.leaf,.leaf,.leaf]),.acc,.acc,.acc,.box 88 (.agg 88 [.leaf,.leaf,.leaf,.leaf,.leaf]),.arr 90 0]
abbrev bx27:List BSh:=[.box 37 .leaf,.box 37 .leaf,.box 37 (.agg 37 [.leaf,.leaf,.leaf]),.acc,.acc,.acc,.box 93 (.agg 93 [.leaf,.leaf,.leaf]),.arr 95 0]
abbrev bx28:List BSh:=[.box 37 .leaf,.box 142 .leaf,.box 142 (.agg 142 [.leaf,.leaf,.leaf,.leaf,.leaf,.leaf]),.acc,.acc,.box 73 (.agg 73 [.leaf,.leaf,.leaf,.leaf,.leaf]),.arr 85 0]
abbrev bx29:List BSh:=[.box 37 .leaf,.box 142 .leaf,.box 142 (.agg 142 [.leaf,.leaf,.leaf,.leaf,.leaf,.leaf]),.acc,.acc]
abbrev bx30:List BSh:=[.box 37 .leaf,.box 142 .leaf,.box 142 (.agg 142 [.leaf,.leaf,.leaf,.leaf,.leaf,.leaf]),.acc,.acc,.box 93 (.agg 93 [.leaf,.leaf,.leaf]),.arr 95 0]
abbrev bx31:List BSh:=[.box 283 .leaf]
abbrev bx32:List BSh:=[.box 147 .leaf]
abbrev bx33:List BSh:=[.box 303 .leaf]
abbrev bx34:List BSh:=[.box 308 .leaf]
abbrev bx35:List BSh:=[.box 311 .leaf]
abbrev bx36:List BSh:=[.box 312 .leaf]
abbrev bx37:List BSh:=[.box 142 .leaf,.acc]
abbrev bx38:List BSh:=[.bld 260]
abbrev bx39:List BSh:=[.box 142 .leaf]
abbrev bx40:List BSh:=[.box 37 .leaf,.acc]
abbrev bx41:List BSh:=[.box 226 (.agg 226 [.leaf,.leaf]),.acc]
abbrev bx42:List BSh:=[.arr 4 0,.box 37 .leaf,.box 73 .leaf]
abbrev bx43:List BSh:=[.box 37 .leaf,.arr 4 0]
abbrev bx44:List BSh:=[.box 73 .leaf,.box 85 .leaf]
abbrev bx45:List BSh:=[.box 37 .leaf,.box 85 .leaf,.box 83 .leaf]
abbrev bx46:List BSh:=[.box 37 .leaf,.box 73 .leaf,.box 226 (.agg 226 [.leaf,.leaf]),.acc,.box 85 .leaf]
abbrev bx47:List BSh:=[.box 37 .leaf,.box 73 .leaf,.box 226 (.agg 226 [.leaf,.leaf]),.acc]
abbrev bx48:List BSh:=[.box 88 .leaf,.box 226 (.agg 226 [.leaf,.leaf]),.acc,.box 90 .leaf]
abbrev bx49:List BSh:=[.box 88 .leaf,.box 226 (.agg 226 [.leaf,.leaf]),.acc]
abbrev bx50:List BSh:=[.box 37 .leaf,.box 93 .leaf,.box 226 (.agg 226 [.leaf,.leaf]),.acc]
abbrev bx51:List BSh:=[.box 37 .leaf,.box 226 (.agg 226 [.leaf,.leaf]),.acc]
abbrev bx52:List BSh:=[.box 73 .leaf,.box 73 .leaf,.box 73 (.agg 73 [.leaf,.leaf,.leaf,.leaf,.leaf]),.acc]
abbrev bx53:List BSh:=[.box 88 .leaf,.box 88 .leaf,.box 88 (.agg 88 [.leaf,.leaf,.leaf,.leaf,.leaf]),.acc]
abbrev bx54:List BSh:=[.box 93 .leaf,.box 93 .leaf,.box 93 (.agg 93 [.leaf,.leaf,.leaf]),.acc]
abbrev bx55:List BSh:=[.box 37 .leaf,.box 142 .leaf,.box 142 (.agg 142 [.leaf,.leaf,.leaf,.leaf,.leaf,.leaf]),.acc,.acc,.box 73 .leaf,.box 73 (.agg 73 [.leaf,.leaf,.leaf,.leaf,.leaf]),.acc]
abbrev bx56:List BSh:=[.box 37 .leaf,.box 142 .leaf,.box 142 (.agg 142 [.leaf,.leaf,.leaf,.leaf,.leaf,.leaf]),.acc,.acc,.box 93 .leaf,.box 93 (.agg 93 [.leaf,.leaf,.leaf]),.acc]
abbrev bx57:List BSh:=[.box 142 .leaf,.box 73 .leaf]
abbrev bx58:List BSh:=[.box 83 .leaf,.box 83 .leaf]
abbrev bx59:List BSh:=[.box 73 .leaf,.box 73 .leaf]
abbrev bx60:List BSh:=[.box 88 .leaf,.box 88 .leaf]
abbrev bx61:List BSh:=[.box 93 .leaf,.box 93 .leaf]
abbrev bx62:List BSh:=[.box 37 .leaf,.box 37 .leaf]
abbrev sv23:List Shape:=[(.con (.fn 26 0 []))]
abbrev sv64:List Shape:=[(.con (.fn 27 0 []))]
abbrev sv72:List Shape:=[(.con (.fn 28 0 []))]
abbrev sv0:List Shape:=[.int .u64,.int .i64]
abbrev sv2:List Shape:=[.slice 119,.int .i64]
abbrev sv4:List Shape:=[.slice 9,.int .i64]
abbrev sv11:List Shape:=[.data 37,.data 93]
abbrev sv12:List Shape:=[.int .i64,.data 37]
abbrev sv13:List Shape:=[.data 24,.data 31]
abbrev sv15:List Shape:=[.bool,.data 24]
abbrev sv16:List Shape:=[.int .i64,.data 31]
abbrev sv17:List Shape:=[.bool,.data 31]
abbrev sv18:List Shape:=[.str,.int .i64]
abbrev sv20:List Shape:=[(.con (.ref 0 [] 9)),.str]
abbrev sv21:List Shape:=[.data 37,.str]
abbrev sv22:List Shape:=[.data 31,.data 40]
abbrev sv28:List Shape:=[.int .i64,.int .i64]
abbrev sv29:List Shape:=[.slice 9,.str]
abbrev sv30:List Shape:=[.int .i64,.data 187]
abbrev sv33:List Shape:=[.slice 85,.int .i64]
abbrev sv34:List Shape:=[.slice 133,.int .i64]
abbrev sv35:List Shape:=[.data 37,.data 85]
abbrev sv36:List Shape:=[(.con (.ref 0 [] 85)),.data 85]
abbrev sv37:List Shape:=[.bool,.data 85]
abbrev sv44:List Shape:=[.int .i64,.slice 119]
abbrev sv48:List Shape:=[.slice 119,.slice 95]
abbrev sv50:List Shape:=[.data 37,.data 88]
abbrev sv52:List Shape:=[.str,.data 37]
abbrev sv58:List Shape:=[.acc 1 252,.data 142]
abbrev sv60:List Shape:=[.str,.data 73]
abbrev sv61:List Shape:=[.str,.data 88]
abbrev sv62:List Shape:=[.str,.data 93]
abbrev sv63:List Shape:=[.int .i64,.data 142]
abbrev sv65:List Shape:=[.slice 9,.slice 9]
abbrev sv66:List Shape:=[.data 83,.data 83]
abbrev sv68:List Shape:=[.data 73,.data 73]
abbrev sv69:List Shape:=[.data 88,.data 88]
abbrev sv70:List Shape:=[.data 93,.data 93]
abbrev sv71:List Shape:=[.data 37,.data 37]
abbrev sv74:List Shape:=[.data 37,.data 73]
abbrev sv76:List Shape:=[.acc 1 9,.data 37]
abbrev sv78:List Shape:=[.str,.acc 1 238]
abbrev sv81:List Shape:=[.data 37,.slice 4]
abbrev sv82:List Shape:=[.data 73,.data 85]
abbrev sv85:List Shape:=[.str,.acc 2 238]
abbrev sv86:List Shape:=[.str,.acc 3 238]
abbrev sv96:List Shape:=[.bool,.data 142]
abbrev sv101:List Shape:=[.str,.data 142]
abbrev sv107:List Shape:=[.int .i64,.data 24]
abbrev sv1:List Shape:=(.slice 119)::sv28
abbrev sv3:List Shape:=(.slice 9)::sv28
abbrev sv6:List Shape:=(.int .i64)::sv74
abbrev sv8:List Shape:=(.con (.ref 0 [] 37))::sv12
abbrev sv9:List Shape:=(.int .i64)::sv50
abbrev sv19:List Shape:=.str::sv18
abbrev sv27:List Shape:=[.str,.int .i64,.acc 1 238]
abbrev sv32:List Shape:=[.data 37,.map 9 4,(.con (.mref 1))]
abbrev sv39:List Shape:=[.str,.int .i64,.acc 3 238]
abbrev sv51:List Shape:=(.int .i64)::sv12
abbrev sv55:List Shape:=(.slice 85)::sv28
abbrev sv56:List Shape:=[.int .i64,.data 142,.data 73]
abbrev sv57:List Shape:=(.int .i64)::sv63
abbrev sv59:List Shape:=[.int .i64,.int .i64,.str]
abbrev sv67:List Shape:=(.slice 133)::sv28
abbrev sv73:List Shape:=(.con (.ref 0 [] 24))::sv107
abbrev sv79:List Shape:=(.slice 4)::sv74
abbrev sv80:List Shape:=(.int .i64)::sv81
abbrev sv83:List Shape:=[.data 37,.data 85,.data 83]
abbrev sv91:List Shape:=[.slice 133,.slice 9,.slice 119]
abbrev sv94:List Shape:=(.con (.ref 0 [] 142))::sv96
abbrev sv100:List Shape:=(.con (.ref 0 [] 142))::sv101
abbrev sv103:List Shape:=.bool::sv66
abbrev sv106:List Shape:=.bool::sv71
abbrev sv5:List Shape:=(.con (.ref 1 [] 73))::sv6
abbrev sv7:List Shape:=(.con (.ref 0 [] 37))::sv51
abbrev sv10:List Shape:=(.int .i64)::sv9
abbrev sv14:List Shape:=(.con (.ref 0 [] 24))::(.int .i64)::sv107
abbrev sv26:List Shape:=(.int .i64)::sv27
abbrev sv45:List Shape:=[.slice 133,.slice 9,.slice 119,.slice 85]
abbrev sv77:List Shape:=(.int .i64)::(.int .i64)::sv78
abbrev sv84:List Shape:=(.data 37)::(.data 73)::sv86
abbrev sv89:List Shape:=(.int .i64)::(.data 37)::sv85
abbrev sv90:List Shape:=(.con (.ref 1 [] 226))::(.data 37)::sv85
abbrev sv93:List Shape:=(.con (.ref 0 [] 142))::.bool::sv63
abbrev sv98:List Shape:=(.con (.ref 0 [] 142))::sv57
abbrev sv99:List Shape:=(.con (.ref 0 [] 142))::.str::sv63
abbrev sv104:List Shape:=(.con (.ref 0 [] 83))::(.con (.ref 1 [] 83))::sv66
abbrev sv31:List Shape:=(.int .i64)::(.int .i64)::sv32
abbrev sv38:List Shape:=(.data 37)::(.data 73)::sv39
abbrev sv41:List Shape:=[.data 37,.str,.int .i64,.acc 3 238,.data 187]
abbrev sv75:List Shape:=(.int .i64)::(.con (.ref 0 [] 37))::(.acc 1 9)::sv12
abbrev sv88:List Shape:=(.con (.ref 0 [] 37))::sv90
abbrev sv95:List Shape:=(.con (.ref 0 [] 142))::.bool::sv57
abbrev sv97:List Shape:=(.con (.ref 0 [] 142))::(.int .i64)::sv57
abbrev sv102:List Shape:=(.con (.ref 0 [] 83))::(.con (.ref 1 [] 83))::(.int .i64)::sv66
abbrev sv105:List Shape:=(.con (.ref 0 [] 37))::(.con (.ref 1 [] 37))::(.int .i64)::sv71
abbrev sv40:List Shape:=(.int .i64)::sv41
abbrev sv43:List Shape:=(.con (.ref 1 [] 186))::sv41
abbrev sv87:List Shape:=(.con (.ref 0 [] 37))::(.con (.ref 1 [] 226))::sv89
abbrev sv24:List Shape:=[.int .i64,.int .i64,.data 37,.data 187,.acc 3 9,.acc 4 9,.acc 5 9]
abbrev sv25:List Shape:=[(.con (.ref 1 [] 187)),(.con (.ref 2 [] 187)),.data 37,.data 187,.acc 3 9,.acc 4 9,.acc 5 9]
abbrev sv42:List Shape:=(.int .i64)::sv40
abbrev sv46:List Shape:=[.int .i64,.int .i64,.data 37,.data 37,.acc 3 73,.acc 4 88,.acc 5 93]
abbrev sv49:List Shape:=[(.con (.ref 1 [] 37)),(.con (.ref 2 [] 37)),.data 37,.data 37,.acc 3 73,.acc 4 88,.acc 5 93]
abbrev sv47:List Shape:=(.con (.ref 0 [] 37))::sv49
abbrev sv53:List Shape:=[.int .i64,.data 37,.data 142,.str,.str,.slice 9,.acc 3 73,.slice 88,.acc 4 93]
abbrev sv92:List Shape:=[(.con (.ref 0 [] 37)),(.con (.ref 1 [] 37)),(.con (.ref 2 [] 37)),.int .i64,.data 37,.data 37,.acc 3 73,.acc 4 88,.acc 5 93]
abbrev sv54:List Shape:=[(.con (.ref 1 [] 142)),(.con (.ref 2 [] 142)),.data 37,.data 142,.str,.str,.slice 9,.acc 3 73,.slice 88,.acc 4 93]
abbrev T0a:=Unit×Unit×Unit×(List PV)×Int×Int×PV×PV×(List PV)×(List PV)×(List PV)
abbrev T1a:=Unit×Unit×Int×PV×PV
abbrev T2a:=Unit×Bool×Int×PV
abbrev T3a:=Unit×Unit×Unit×Unit×(List PV)×Int×Int×Unit×Int×Int×PV×PV×Bn×Bn×(List PV)×(List PV)×(List PV)×(List PV)×Bn×Unit×(List PV)×(List PV)×(List PV)×(List PV)
abbrev T4a:=Unit×Unit×Unit×Int×PV×PV×Bn×Bn×(List PV)×(List PV)×(List PV)×(List PV)
abbrev T5a:=Unit×Unit×Unit×Int×PV×PV×(List PV)×(List PV)×(List PV)
abbrev T6a:=Unit×Unit×Unit×Int×Unit×Unit×Int×PV×PV×Bn×Bn×(List PV)×(List PV)×(List PV)×(List PV)×PV×Bn×(List PV)×(List PV)×(List PV)×(List PV)
abbrev T7a:=Unit×Int×Int×PV
abbrev T8a:=Unit×Unit×Int×PV×Bn×(List PV)
abbrev T9a:=Unit×Unit×Unit×PV×PV×(List PV)×(List PV)×(List PV)
abbrev T10a:=Unit×Unit×Unit×(List PV)×Int×Int×Int×Int×PV×PV×Bn×Bn×(List PV)×(List PV)×(List PV)×(List PV)×Bn×Unit×(List PV)×(List PV)
abbrev T11a:=Unit×Bn×Int×PV
abbrev T12a:=Unit×Unit×Unit×Unit×(List PV)×Int×Int×Int×Int×PV×PV×(List PV)×(List PV)×(List PV)×Bn×Unit×(List PV)×(List PV)×(List PV)×(List PV)
abbrev T13a:=Unit×Unit×Unit×Int×Unit×Unit×Int×PV×PV×Bn×Bn×(List PV)×(List PV)×(List PV)×(List PV)×PV×Bn×(List PV)×(List PV)
abbrev T14a:=Unit×Unit×Unit×Unit×(List PV)×Int×Int×Int×Int×PV×PV×(List PV)×(List PV)×(List PV)×Bn×Bool×Unit×(List PV)×(List PV)×(List PV)
abbrev T15a:=Unit×Unit×(List PV)×Int×Int×PV×PV×(List PV)×(List PV)×(List PV)
abbrev T16a:=Unit×Int×Int×Unit×Int×PV×PV
abbrev T17a:=Unit×Unit×(List PV)×Int×Int×PV×Bn×Int×(List PV)×PV
abbrev T18a:=Unit×Unit×(List PV)×Int×Int×Bn
abbrev T19a:=Unit×(List PV)×(List PV)×Int×Int×(List PV)×Int×Int×PV×PV
abbrev T20a:=(List PV)×Int×Int
abbrev T21a:=Unit×Unit×Unit×(List PV)×Int×Int×Int×Int×PV×PV×(List PV)×(List PV)×(List PV)×Bn×Unit×(List PV)×(List PV)
abbrev T22a:=(List PV)×Unit×Unit×Unit×Int×PV×PV×Bn×(List PV)
abbrev T23a:=(Bool)⊕(Unit)
abbrev T24a:=Unit×Int×PV
abbrev T25a:=(List PV)×(List PV)×Int
abbrev T26a:=Unit×Unit×Unit×(List PV)×Int×Int×PV×PV×Bn×Bn×(List PV)×(List PV)×(List PV)×(List PV)
abbrev T27a:=Unit×Unit×(List PV)×Int×Int×PV×PV×Bn×Bn×(List PV)×(List PV)×(List PV)×(List PV)
abbrev T28a:=(List PV)×Bn×Int
abbrev T29a:=Unit×Bool×Int×Int×PV
abbrev T30a:=Unit×Unit×Unit×PV×PV×Bn×Bn×(List PV)×(List PV)×(List PV)×(List PV)
abbrev T31a:=(Bool×PV×PV)⊕(Unit×Unit×PV×PV)
abbrev T32a:=(List (PV×PV))×Unit×Unit×Unit×(List PV)×Int×Int×PV×PV×Bn×Int×(List PV)
abbrev T33a:=(List PV)×(List PV)×Int×Int
abbrev T34a:=Bn×Bn×Int
abbrev T35a:=Int×Unit×(List PV)×Int×PV
abbrev T36a:=Unit×Unit×PV×PV×Bn×Bn×(List PV)×(List PV)×(List PV)×(List PV)
abbrev T37a:=(List PV)×Unit×Unit×Unit×Int×Unit×Bool×Int×PV×PV×Bn×(List PV)×PV
abbrev T38a:=Unit×Unit×(List (PV×PV))×(List PV)×Int×Int×PV×Bn×Int×(List PV)×PV
abbrev T39a:=Unit×Unit×Unit×Int×PV×PV×Bn×(List PV)×(List PV)×(List PV)×(List PV)
abbrev T40a:=(List PV)×Int×Bool×Bool×(List PV)×Bn×Unit×Int×Int×Int×Int×PV
abbrev T41a:=(List (PV×PV))×Unit×Unit×Unit×Int×Int×PV×PV×Bn×Int×(List PV)
abbrev T42a:=Unit×Unit×Unit×Int×PV×PV×Bn×Bool×(List PV)×(List PV)×(List PV)
abbrev T43a:=Unit×(List PV)×(List PV)×Int×Int×PV
abbrev T44a:=Unit×Unit×PV×Bn×(List PV)
abbrev T45a:=Unit×Unit×PV×PV×(List PV)×(List PV)×(List PV)
abbrev T46a:=Unit×(List PV)×Int×Int×(List PV)×Int×Int×Bn×Int×(List PV)
abbrev T47a:=Unit×Unit×Unit×(List PV)×Int×Int×PV×PV×Bn×Int×(List PV)
abbrev T48a:=(Bool×PV×PV)⊕(PV×PV)
abbrev T49a:=Bn×Int×Unit×(List PV)×Int×Int×(List PV)×Int×Int×PV×PV
abbrev T50a:=Unit×Unit×Int×Int×PV×(List (PV×PV))×Unit
abbrev T51a:=Unit×Int×Int×Int×PV
abbrev T52a:=(List PV)×Int×Bool×Bool×(List PV)×Bn×Unit×Int×Int×PV
abbrev T53a:=Bn×Unit×Bn×Int
abbrev T54a:=Unit×Bool×Int×Unit×Int×PV×PV
abbrev T55a:=(List (PV×PV))×Unit×Unit×Unit×PV×PV×Bn×Int×(List PV)
abbrev T56a:=Unit×Unit×Int×Int×(List PV)×Int×Int×PV×(List (PV×PV))×Unit
abbrev T57a:=(List PV)×(List PV)×Int×Int×PV
abbrev T58a:=(List PV)×Int
abbrev T59a:=Unit×Unit×Int×Unit×Bool×Int×PV×Bn×(List PV)×PV
abbrev T60a:=(List PV)×Int×Bool×Bool×(List PV)×Bn×Unit×Int×PV
abbrev T61a:=Unit×Unit×(List PV)×Int×Int×PV×Bn×Int×(List PV)
abbrev T62a:=Unit×Unit×Unit×Int×PV×PV×Bn×(List PV)×(List PV)
abbrev T63a:=Bn×(List PV)×Int×Int
abbrev T64a:=Unit×Unit×Unit×PV×Int×PV×Bn×Int×(List PV)×PV
abbrev T65a:=Bn×Int
abbrev T66a:=Unit×Unit×Int×Int×(List PV)
abbrev T67a:=Unit×Unit×Bn×(List PV)×Int×Int×Bn×PV
abbrev T68a:=(List PV)×(List PV)×Int×Int×(List PV)×Int×Int×PV×PV
abbrev T69a:=(List PV)×Unit×Unit×Unit×PV×PV×Bn×(List PV)
abbrev T70a:=Unit×(List PV)×Int×Int×PV
abbrev T71a:=(Bool×PV)⊕(PV)
abbrev T72a:=Bn×Unit×Unit×Bn×Bn×Int
abbrev T73a:=Unit×Unit×Bool×Int×PV×(List PV)
abbrev T74a:=Unit×(List PV)×Int×Int×Int×Bn×(List PV)
abbrev T75a:=Unit×Unit×Unit×Int×PV×PV×Bn×(List PV)
abbrev T76a:=Unit×Unit×(List PV)×Int×PV×Bn×(List PV)
abbrev T77a:=Unit×(List PV)×(List PV)×Int×Int×Bn×PV
abbrev T78a:=Bn×Int×Int×Int
abbrev T79a:=Bn×Unit×Int×PV
abbrev T80a:=Unit×Bn×PV
abbrev T81a:=Unit×Bool×PV
abbrev T82a:=Unit×(List PV)×(List PV)×Int×Int×Bn
abbrev T83a:=Unit×Unit×(List PV)×Int×Int×Bn×PV
abbrev T84a:=Unit×Unit×(List PV)×Int×Int×PV×Bn
abbrev T85a:=Unit×Unit×PV×Bn×Int×(List PV)×PV
abbrev T86a:=Bn
abbrev T87a:=Unit×(List PV)×(List PV)×Int×Int×PV×PV
abbrev T88a:=Unit×(List PV)×Int×Int×Bn×PV
abbrev T89a:=Bn×Int×(List PV)×Int×Int×PV
abbrev T90a:=Unit×Unit×Bool×Int×Int×PV×(List PV)
abbrev T91a:=Unit×Unit×Unit×Int×(List PV)×PV×PV
abbrev T92a:=Unit×Bn×Bn×Int×PV
abbrev T93a:=Int×Bn×(List PV)×Int×Int
abbrev T94a:=Bn×Unit×Unit×Int×PV×PV
abbrev T95a:=Bn×Int×Unit×Int×Int×PV
abbrev T96a:=Int×Unit×Unit×Bool×Int×PV×PV
abbrev T97a:=(List PV)×Int×Int×Int×Int×Int
abbrev T98a:=(List PV)×Unit×Unit×Int×PV×PV
abbrev T99a:=Unit×Int×Int×PV×PV
abbrev T100a:=Unit×Unit×Int×Int×PV×PV×PV
abbrev T101a:=(List PV)×Bn×Int×Int
abbrev T102a:=Bn×Int×Unit×Int×PV
abbrev T103a:=(Int×PV)⊕(Unit×PV)
abbrev T104a:=(Int)⊕(Unit)
abbrev T105a:=Unit×Int×Int×Int×Int×PV
abbrev T106a:=(Bool×PV)⊕(Unit×Int×PV)
abbrev T107a:=Int×Unit×Int×Int×PV
abbrev T108a:=Int×Unit×(List PV)×PV
abbrev T109a:=Unit×Bool×Int×PV×PV
abbrev T110a:=(List PV)×Int×Int×PV
abbrev T111a:=(Bn×PV)⊕(PV)
abbrev T112a:=(Bool×PV)⊕(Unit×PV)
abbrev T113a:=Bn×Int×Int
abbrev T114a:=(Bool)⊕(Bn)
abbrev T115a:=(List PV)×PV
abbrev KT:=KC Tryz.prog
abbrev f0:AFrame:=⟨1,[],[.bool]⟩
abbrev f4:AFrame:=⟨1,[],[.str]⟩
abbrev f5:AFrame:=⟨1,[],[.int .i64]⟩
abbrev f6:AFrame:=⟨1,[],[.data 37]⟩
abbrev f7:AFrame:=⟨1,[],[.data 142]⟩
abbrev f8:Frame:=⟨[],[],[]⟩
abbrev f9:AFrame:=⟨1,[],[.data 83]⟩
abbrev f10:Frame:=⟨[2],[],[.bool]⟩
abbrev f11:Frame:=⟨[0,1,3,4,10,11,12,13],bx0,[.slice 5,.int .u64,.bool,.bool,.acc 1 5,.str,(.con (.ref 0 [] 412)),.int .i64,.data 412]⟩
abbrev f12:AFrame:=⟨1,[],[.slice 9]⟩
abbrev f13:AFrame:=⟨1,[],[.data 85]⟩
abbrev f14:AFrame:=⟨1,[],[.con .nils]⟩
abbrev f15:Frame:=⟨[2,3,4,7],bx19,(.map 9 4)::(.con (.ref 0 [] 37))::(.con (.ref 1 [] 73))::(.con (.ref 2 [] 186))::sv38⟩
abbrev f16:Frame:=⟨[2,3,4,7],bx47,(.slice 4)::(.con (.ref 0 [] 37))::(.con (.ref 1 [] 73))::(.con (.ref 2 [] 226))::sv84⟩
abbrev f17:AFrame:=⟨1,[],[.slice 119]⟩
abbrev f18:AFrame:=⟨1,[],[.int .u64]⟩
abbrev f19:Frame:=⟨[1,3,4,5,6],bx57,(.con (.ref 0 [] 142))::.bool::(.int .i64)::(.con (.ref 1 [] 73))::sv56⟩
abbrev f20:AFrame:=⟨1,[],[.slice 238]⟩
abbrev f21:Frame:=⟨[4],[],[.bool]⟩
abbrev f22:AFrame:=⟨1,[],[.data 73]⟩
abbrev f23:AFrame:=⟨1,[],[.data 88]⟩
abbrev f24:AFrame:=⟨1,[.arr 119 1],[(.con (.arr 0 1 119)),.slice 119]⟩
abbrev f25:AFrame:=⟨2,[.arr 119 0],[(.con (.arr 0 0 119)),(.con (.fn 118 0 [])),.slice 119]⟩
abbrev f26:Frame:=⟨[1,3,4,5],bx43,(.con (.ref 0 [] 37))::(.con (.arr 1 0 4))::.bool::sv80⟩
abbrev f27:Frame:=⟨[1,3,13,14],bx16,(.con (.ref 0 [] 37))::(.con (.ref 2 [] 192))::sv31⟩
abbrev f28:Frame:=⟨[1,3],bx39,sv94⟩
abbrev f29:Frame:=⟨[2,3],bx62,(.con (.ref 0 [] 37))::(.con (.ref 1 [] 37))::sv71⟩
abbrev f30:Frame:=⟨[3],[],[.str]⟩
abbrev f31:AFrame:=⟨2,[],[.str,.str]⟩
abbrev f32:AFrame:=⟨2,[.box 3 .leaf],[.data 133,(.con (.ref 0 [] 3)),.int .i64]⟩
abbrev f33:AFrame:=⟨1,[],[.data 93]⟩
abbrev f34:Frame:=⟨[4],[],[.int .i64]⟩
abbrev f35:AFrame:=⟨1,[.box 3 .leaf],[.bool,.int .i64]⟩
abbrev f36:Frame:=⟨[1,2,5],bx40,(.int .i64)::(.con (.ref 0 [] 37))::sv76⟩
abbrev f37:AFrame:=⟨1,[],[.slice 133]⟩
abbrev f38:Frame:=⟨[1,3,4],bx57,(.con (.ref 0 [] 142))::.bool::sv56⟩
abbrev f39:AFrame:=⟨1,[],[.data 24]⟩
abbrev f40:AFrame:=⟨1,[],[.data 31]⟩
abbrev f41:AFrame:=⟨1,[.arr 85 1],[(.con (.arr 0 1 85)),.slice 85]⟩
abbrev f42:AFrame:=⟨1,[.arr 90 1],[(.con (.arr 0 1 90)),.slice 90]⟩
abbrev f43:AFrame:=⟨1,[.arr 95 1],[(.con (.arr 0 1 95)),.slice 95]⟩
abbrev f44:Frame:=⟨[1,3,10],bx39,sv93⟩
abbrev f45:AFrame:=⟨0,bx38,[.str]⟩
abbrev f46:Frame:=⟨[],bx5,[.data 24]⟩
abbrev f47:Frame:=⟨[1,2,3],bx12,(.con (.ref 0 [] 37))::sv25⟩
abbrev f48:Frame:=⟨[1,2,3],bx25,sv47⟩
abbrev f49:Frame:=⟨[],bx2,[.data 37]⟩
abbrev f50:Frame:=⟨[1,2,3],bx29,(.con (.ref 0 [] 37))::sv54⟩
abbrev f51:Frame:=⟨[1,3,4],bx39,sv93⟩
abbrev f52:Frame:=⟨[1],bx5,[(.con (.ref 0 [] 24)),.data 24]⟩
abbrev f53:AFrame:=⟨2,[],sv21⟩
abbrev f54:Frame:=⟨[1,5],bx14,(.con (.ref 0 [] 187))::sv30⟩
abbrev f55:Frame:=⟨[1,3],bx37,(.con (.ref 0 [] 142))::sv58⟩
abbrev f56:Frame:=⟨[1,3],bx39,(.con (.ref 0 [] 142))::sv63⟩
abbrev f57:Frame:=⟨[1,3],bx23,(.con (.ref 0 [] 37))::sv43⟩
abbrev f58:AFrame:=⟨1,[],[.data 77]⟩
abbrev f59:AFrame:=⟨1,[],[.int .u8]⟩
abbrev f60:Frame:=⟨[1,2,3,7],bx2,.str::(.int .u64)::sv8⟩
abbrev f61:Frame:=⟨[1,3],bx5,sv73⟩
abbrev f62:Frame:=⟨[4],bx58,sv103⟩
abbrev f63:AFrame:=⟨3,[],[.data 37,.data 73,.map 9 4]⟩
abbrev f64:AFrame:=⟨3,[],[.data 37,.data 73,.slice 4]⟩
abbrev f65:AFrame:=⟨2,[],sv35⟩
abbrev f66:AFrame:=⟨0,[.bld 260],[.str]⟩
abbrev f67:AFrame:=⟨3,[],[.str,.int .i64,.int .i32]⟩
abbrev f68:Frame:=⟨[2],bx5,sv15⟩
abbrev f69:AFrame:=⟨1,bx8,[.bool,.str]⟩
abbrev f70:AFrame:=⟨3,[],[.data 37,.str,.int .u64]⟩
abbrev f71:Frame:=⟨[1,2,5],bx5,(.int .i64)::sv73⟩
abbrev f72:AFrame:=⟨0,bx13,sv27⟩
abbrev f73:AFrame:=⟨2,[],[.slice 119,.slice 119]⟩
abbrev f74:AFrame:=⟨2,[],[.slice 133,.slice 133]⟩
abbrev f75:AFrame:=⟨1,[],[.data 119]⟩
abbrev f76:AFrame:=⟨1,[],[.slice 85]⟩
abbrev f77:Frame:=⟨[1,3],bx39,sv100⟩
abbrev f78:Frame:=⟨[2,3],bx58,sv104⟩
abbrev f79:Frame:=⟨[2],bx14,[.bool,.data 187]⟩
abbrev f80:Frame:=⟨[0,1,5],[],(.slice 9)::sv4⟩
abbrev f81:AFrame:=⟨1,[],[.data 90]⟩
abbrev f82:Frame:=⟨[0,3,4],[],sv19⟩
abbrev f83:Frame:=⟨[1,3],bx51,sv88⟩
abbrev f84:AFrame:=⟨2,[],[.data 73,.int .i64]⟩
abbrev f85:AFrame:=⟨2,[],[.int .i64,.data 83]⟩
abbrev f86:AFrame:=⟨2,[],sv34⟩
abbrev f87:Frame:=⟨[],bx38,[.str]⟩
abbrev f88:AFrame:=⟨2,[],sv66⟩
abbrev f89:AFrame:=⟨2,[],[.data 85,.data 85]⟩
abbrev f90:Frame:=⟨[4],bx62,sv106⟩
abbrev f91:Frame:=⟨[0],[],[.str]⟩
abbrev f92:Frame:=⟨[0,3],[],sv18⟩
abbrev f93:Frame:=⟨[3],bx39,sv96⟩
abbrev f94:Frame:=⟨[2],bx7,sv17⟩
abbrev f95:Frame:=⟨[0,3],[],sv4⟩
abbrev f96:Frame:=⟨[6],bx2,sv52⟩
abbrev f97:AFrame:=⟨1,bx18,sv37⟩
abbrev f98:AFrame:=⟨0,bx41,sv78⟩
def F470(m:Int):Option Bool:=some ((aer .and .i64 m (IntKind.wrap .i64 (m-1)))==0)
def F470c:KT:=xj 470 f5 f0 F470 []
def S462_12(z:List PV)(m:Int)(G H:Bool)(I:List PV)(J:Bn)(Y:Unit)(M o O U:Int)(V:PV):Option (T40a⊕T60a):=cond (decide (m>=O)) (let t:=IntKind.wrap .i64 (M-1);let W:=aer .and .u64 m U;cond (aab W (([48,49,50,51,52,53,54,55,56,57,97,98,99,100,101,102,103,104,105,106,107,108,109,110,111,112,113,114,115,116,117,118,119,120,121,122]:Bn).length)) (let X:=((([48,49,50,51,52,53,54,55,56,57,97,98,99,100,101,102,103,104,105,106,107,108,109,110,111,112,113,114,115,116,117,118,119,120,121,122]:Bn).getD W.toNat 0).toNat:Int);cond (aab t 65) (cond (decide (0<=o)) (some (.inl (z,(m.fdiv (2^(min o.toNat (IntKind.bits .u64)))),G,H,I,J,(),t,o,O,U,(PV.agg (V.parts.set t.toNat (PV.int X)))))) none) none) none) (some (.inr (z,m,G,H,I,J,(),M,V)))
def S462_19(z:List PV)(o:Int)(G H:Bool)(I:List PV)(J:Bn)(X:Unit)(M m:Int)(O:PV):Option (T52a⊕T60a):=cond (decide (o>=m)) (let t:=IntKind.wrap .i64 (M-1);cond (!(decide (m=0))) (let U:=IntKind.wrap .u64 (o.tdiv m);let V:=IntKind.wrap .u64 (o-(IntKind.wrap .u64 (U*m)));cond (aab V (([48,49,50,51,52,53,54,55,56,57,97,98,99,100,101,102,103,104,105,106,107,108,109,110,111,112,113,114,115,116,117,118,119,120,121,122]:Bn).length)) (let W:=((([48,49,50,51,52,53,54,55,56,57,97,98,99,100,101,102,103,104,105,106,107,108,109,110,111,112,113,114,115,116,117,118,119,120,121,122]:Bn).getD V.toNat 0).toNat:Int);cond (aab t 65) (some (.inl (z,U,G,H,I,J,(),t,m,(PV.agg (O.parts.set t.toNat (PV.int W)))))) none) none) none) (some (.inr (z,o,G,H,I,J,(),M,O)))
def F462(a0:List PV)(a1 W:Int)(X a4:Bool):Option ((List PV)×Bn):=cond (cond (cond (decide (W<2)) true (W==10)) true (decide (W>36))) none (cond X (let x6:=IntKind.wrap .u64 (0-a1);(F470 W).bind λy7=>cond y7 ((Ltz 0 (IntKind.wrap .u64 W)).bind λy9=>(aad 0 (Y12 S462_12) (a0,x6,X,a4,[],([]:Bn),(),(65:Int),(IntKind.wrap .u64 y9),(IntKind.wrap .u64 W),(IntKind.wrap .u64 ((IntKind.wrap .u64 W)-1)),(PV.agg (List.replicate 65 (PV.int (0:Int)))))).bind λM=>let o:=IntKind.wrap .i64 (M.2.2.2.2.2.2.2.1-1);let aa:=M.2.1;cond (aab aa (([48,49,50,51,52,53,54,55,56,57,97,98,99,100,101,102,103,104,105,106,107,108,109,110,111,112,113,114,115,116,117,118,119,120,121,122]:Bn).length)) (let ab:=((([48,49,50,51,52,53,54,55,56,57,97,98,99,100,101,102,103,104,105,106,107,108,109,110,111,112,113,114,115,116,117,118,119,120,121,122]:Bn).getD aa.toNat 0).toNat:Int);cond (aab o 65) (cond M.2.2.1 (let H:=IntKind.wrap .i64 (o-1);cond (aab H 65) (cond M.2.2.2.1 (cond (decide (0<=H/\H<65/\H<=65/\(65:Int)<=65)) none none) (cond (decide (0<=H/\H<65/\H<=65/\(65:Int)<=65)) (let aj:=(((PV.agg ((PV.agg (M.2.2.2.2.2.2.2.2.parts.set o.toNat (PV.int ab))).parts.set H.toNat (PV.int (45:Int)))).parts.drop H.toNat).take ((65:Int).toNat-H.toNat)).map aa5;some (M.2.2.2.2.1,aj)) none)) none) (cond M.2.2.2.1 (cond (decide (0<=o/\o<65/\o<=65/\(65:Int)<=65)) none none) (cond (decide (0<=o/\o<65/\o<=65/\(65:Int)<=65)) (let ak:=(((PV.agg (M.2.2.2.2.2.2.2.2.parts.set o.toNat (PV.int ab))).parts.drop o.toNat).take ((65:Int).toNat-o.toNat)).map aa5;some (M.2.2.2.2.1,ak)) none))) none) none) ((aad 0 (Y10 S462_19) (a0,x6,X,a4,[],([]:Bn),(),(65:Int),(IntKind.wrap .u64 W),(PV.agg (List.replicate 65 (PV.int (0:Int)))))).bind λO=>let t:=IntKind.wrap .i64 (O.2.2.2.2.2.2.2.1-1);let ad:=O.2.1;cond (aab ad (([48,49,50,51,52,53,54,55,56,57,97,98,99,100,101,102,103,104,105,106,107,108,109,110,111,112,113,114,115,116,117,118,119,120,121,122]:Bn).length)) (let ae:=((([48,49,50,51,52,53,54,55,56,57,97,98,99,100,101,102,103,104,105,106,107,108,109,110,111,112,113,114,115,116,117,118,119,120,121,122]:Bn).getD ad.toNat 0).toNat:Int);cond (aab t 65) (cond O.2.2.1 (let I:=IntKind.wrap .i64 (t-1);cond (aab I 65) (cond O.2.2.2.1 (cond (decide (0<=I/\I<65/\I<=65/\(65:Int)<=65)) none none) (cond (decide (0<=I/\I<65/\I<=65/\(65:Int)<=65)) (let al:=(((PV.agg ((PV.agg (O.2.2.2.2.2.2.2.2.parts.set t.toNat (PV.int ae))).parts.set I.toNat (PV.int (45:Int)))).parts.drop I.toNat).take ((65:Int).toNat-I.toNat)).map aa5;some (O.2.2.2.2.1,al)) none)) none) (cond O.2.2.2.1 (cond (decide (0<=t/\t<65/\t<=65/\(65:Int)<=65)) none none) (cond (decide (0<=t/\t<65/\t<=65/\(65:Int)<=65)) (let am:=(((PV.agg (O.2.2.2.2.2.2.2.2.parts.set t.toNat (PV.int ae))).parts.drop t.toNat).take ((65:Int).toNat-t.toNat)).map aa5;some (O.2.2.2.2.1,am)) none))) none) none)) ((F470 W).bind λap=>cond ap ((Ltz 0 (IntKind.wrap .u64 W)).bind λaq=>(aad 0 (Y12 S462_12) (a0,a1,X,a4,[],([]:Bn),(),(65:Int),(IntKind.wrap .u64 aq),(IntKind.wrap .u64 W),(IntKind.wrap .u64 ((IntKind.wrap .u64 W)-1)),(PV.agg (List.replicate 65 (PV.int (0:Int)))))).bind λU=>let z:=IntKind.wrap .i64 (U.2.2.2.2.2.2.2.1-1);let af:=U.2.1;cond (aab af (([48,49,50,51,52,53,54,55,56,57,97,98,99,100,101,102,103,104,105,106,107,108,109,110,111,112,113,114,115,116,117,118,119,120,121,122]:Bn).length)) (let ag:=((([48,49,50,51,52,53,54,55,56,57,97,98,99,100,101,102,103,104,105,106,107,108,109,110,111,112,113,114,115,116,117,118,119,120,121,122]:Bn).getD af.toNat 0).toNat:Int);cond (aab z 65) (cond U.2.2.1 (let J:=IntKind.wrap .i64 (z-1);cond (aab J 65) (cond U.2.2.2.1 (cond (decide (0<=J/\J<65/\J<=65/\(65:Int)<=65)) none none) (cond (decide (0<=J/\J<65/\J<=65/\(65:Int)<=65)) (let an:=(((PV.agg ((PV.agg (U.2.2.2.2.2.2.2.2.parts.set z.toNat (PV.int ag))).parts.set J.toNat (PV.int (45:Int)))).parts.drop J.toNat).take ((65:Int).toNat-J.toNat)).map aa5;some (U.2.2.2.2.1,an)) none)) none) (cond U.2.2.2.1 (cond (decide (0<=z/\z<65/\z<=65/\(65:Int)<=65)) none none) (cond (decide (0<=z/\z<65/\z<=65/\(65:Int)<=65)) (let ao:=(((PV.agg (U.2.2.2.2.2.2.2.2.parts.set z.toNat (PV.int ag))).parts.drop z.toNat).take ((65:Int).toNat-z.toNat)).map aa5;some (U.2.2.2.2.1,ao)) none))) none) none) ((aad 0 (Y10 S462_19) (a0,a1,X,a4,[],([]:Bn),(),(65:Int),(IntKind.wrap .u64 W),(PV.agg (List.replicate 65 (PV.int (0:Int)))))).bind λV=>let G:=IntKind.wrap .i64 (V.2.2.2.2.2.2.2.1-1);let ah:=V.2.1;cond (aab ah (([48,49,50,51,52,53,54,55,56,57,97,98,99,100,101,102,103,104,105,106,107,108,109,110,111,112,113,114,115,116,117,118,119,120,121,122]:Bn).length)) (let ai:=((([48,49,50,51,52,53,54,55,56,57,97,98,99,100,101,102,103,104,105,106,107,108,109,110,111,112,113,114,115,116,117,118,119,120,121,122]:Bn).getD ah.toNat 0).toNat:Int);cond (aab G 65) (cond V.2.2.1 (let m:=IntKind.wrap .i64 (G-1);cond (aab m 65) (cond V.2.2.2.1 (cond (decide (0<=m/\m<65/\m<=65/\(65:Int)<=65)) none none) (cond (decide (0<=m/\m<65/\m<=65/\(65:Int)<=65)) (let Y:=(((PV.agg ((PV.agg (V.2.2.2.2.2.2.2.2.parts.set G.toNat (PV.int ai))).parts.set m.toNat (PV.int (45:Int)))).parts.drop m.toNat).take ((65:Int).toNat-m.toNat)).map aa5;some (V.2.2.2.2.1,Y)) none)) none) (cond V.2.2.2.1 (cond (decide (0<=G/\G<65/\G<=65/\(65:Int)<=65)) none none) (cond (decide (0<=G/\G<65/\G<=65/\(65:Int)<=65)) (let Z:=(((PV.agg (V.2.2.2.2.2.2.2.2.parts.set G.toNat (PV.int ai))).parts.drop G.toNat).take ((65:Int).toNat-G.toNat)).map aa5;some (V.2.2.2.2.1,Z)) none))) none) none)))
def S462_12l:LoopE:=⟨12,⟨[0,1,3,4,10,11,12,13,14,15,16],bx0,[.slice 5,.int .u64,.bool,.bool,.acc 1 5,.str,(.con (.ref 0 [] 412)),.int .i64,.int .u64,.int .u64,.int .u64,.data 412]⟩,[(.exit 0,f11)],(Y12 S462_12)⟩
def S462_19l:LoopE:=⟨19,⟨[0,1,3,4,10,11,12,13,17],bx0,[.slice 5,.int .u64,.bool,.bool,.acc 1 5,.str,(.con (.ref 0 [] 412)),.int .i64,.int .u64,.data 412]⟩,[(.exit 2,f11)],(Y10 S462_19)⟩
def F462c:KT:=xf 462 ⟨5,[],[.slice 5,.int .u64,.int .i64,.bool,.bool]⟩ ⟨2,[],[.slice 5,.str]⟩ (u5 F462) [F470c,⟨Ltzc 0,Ltzok 0⟩] [S462_12l,S462_19l] (L2 (xl S462_12l L0) (xl S462_19l L0))
def F466(m o:Int):Option Bn:=cond (o==10) (cond (decide (m<100)) none none) ((F462 [] m o false false).bind λt=>some t.2)
def F466c:KT:=xj 466 ⟨2,[],sv0⟩ f4 (u2 F466) [F462c]
def Lfmt(u base:Int):Option Bn:=cond (decide (base=10)) (a4k uu u base) (F466 u base)
def bjj:CallE:={ f:=466,A:=⟨2,[],[.int .u64,.int .i64]⟩,R:=f4,F:=λx=>Lfmt uu x.1 x.2,dflt:=[] }
theorem bjk:(bjj uu).Ok Tryz.prog:=by
 intro x y h
 have h:Lfmt uu x.1 x.2=some y:=h
 unfold Lfmt at h
 cases m:decide (x.2=10)with
 |true=>rw[m]at h;exact a7o uu x y h
 |false=>rw[m]at h;exact F466c.ok x y h
def S34_3(m:List PV)(z o:Int):Option (T20a⊕((Int)⊕((List PV)))):=cond (cond (decide (o<(m.length:Int))) (decide (o<=z)) false) (cond (aab o m.length) (let t:=(m.getD o.toNat .bad).fld 1;cond (aab o m.length) (cond (cond (cond (decide ((((m.getD o.toNat .bad).fld 0).asStr.length:Int)>300)) true (decide (((t.fld 2).asStr.length:Int)>300))) true (decide ((IntKind.wrap .i64 ((IntKind.wrap .i64 ((IntKind.wrap .i64 (((t.fld 3).asList.length:Int)+((t.fld 4).asList.length:Int)))+((t.fld 5).asList.length:Int)))+((t.fld 6).asList.length:Int)))>0))) (some (.inr (.inl (IntKind.wrap .i64 (z+10))))) (some (.inl (m,z,(IntKind.wrap .i64 (o+1)))))) none) none) (some (.inr (.inr m)))
def F34(t:List PV)(G:Int):Option Int:=(aad 0 (Y3 S34_3) (t,G,(0:Int))).bind λz=>sumE (λm=>some m ) (λo=>some (o.length:Int) ) z
def S34_3l:LoopE:=⟨3,⟨[0,1,5],[],sv1⟩,[(.ret,f34),(.exit 0,⟨[0],[],[.slice 119]⟩)],(Y3 S34_3)⟩
def F34c:KT:=xf 34 ⟨2,[],sv2⟩ f5 (u2 F34) [] [S34_3l] (L1 (xl S34_3l L0))
def S35_3(m:List PV)(t o:Int):Option (T20a⊕((Int)⊕((List PV)))):=cond (cond (decide (o<(m.length:Int))) (decide (o<=t)) false) (cond (aab o m.length) (cond (decide (((m.getD o.toNat .bad).asStr.length:Int)>300)) (some (.inr (.inl (IntKind.wrap .i64 (t+10))))) (some (.inl (m,t,(IntKind.wrap .i64 (o+1)))))) none) (some (.inr (.inr m)))
def F35(t:List PV)(G:Int):Option Int:=(aad 0 (Y3 S35_3) (t,G,(0:Int))).bind λz=>sumE (λm=>some m ) (λo=>some (o.length:Int) ) z
def S35_3l:LoopE:=⟨3,⟨[0,1,5],[],sv3⟩,[(.ret,f34),(.exit 0,⟨[0],[],[.slice 9]⟩)],(Y3 S35_3)⟩
def F35c:KT:=xf 35 ⟨2,[],sv4⟩ f5 (u2 F35) [] [S35_3l] (L1 (xl S35_3l L0))
def S8_11(O:Unit)(m G:Int)(U:Unit)(o:Int)(H t:PV):Option (T16a⊕T99a):=cond (cond (decide (o<((t.fld 1).asList.length:Int))) (decide (m>=0)) false) (let I:=(t.fld 1).asList;cond (aab o I.length) (let z:=I.getD o.toNat .bad;(F34 (z.fld 8).asList m).bind λJ=>(F35 [(PV.str (z.fld 1).asStr),(PV.str (((z.fld 4).fld 1).asStr)),(PV.str (z.fld 5).asStr)] m).bind λM=>cond (decide (((((z.fld 7).fld 2).asStr).length:Int)>300)) (some (.inl ((),(-1:Int),G,(),(IntKind.wrap .i64 (o+1)),H,t))) (some (.inl ((),(IntKind.wrap .i64 ((IntKind.wrap .i64 ((IntKind.wrap .i64 ((IntKind.wrap .i64 (m-1))-J))-M))+3)),G,(),(IntKind.wrap .i64 (o+1)),H,t)))) none) (some (.inr ((),m,G,H,t)))
def S8_6(O:Unit)(m t:Int)(z:PV):Option (T7a⊕T24a):=cond (cond (decide (t<((z.fld 0).asList.length:Int))) (decide (m>=0)) false) (let H:=(z.fld 0).asList;cond (aab t H.length) (let o:=H.getD t.toNat .bad;(F34 (o.fld 4).asList m).bind λI=>(F35 (o.fld 3).asList m).bind λJ=>(F35 [(PV.str (o.fld 0).asStr)] m).bind λM=>(aad 0 (Y7 S8_11) ((),(IntKind.wrap .i64 ((IntKind.wrap .i64 ((IntKind.wrap .i64 ((IntKind.wrap .i64 (m-I))-((o.fld 2).asList.length:Int)))-J))-M)),t,(),(0:Int),z,o)).bind λG=>some (.inl ((),G.2.1,(IntKind.wrap .i64 (G.2.2.1+1)),G.2.2.2.1))) none) (some (.inr ((),m,z)))
def S8_23(U:Unit)(t z:Int)(O:Unit)(m:Int)(G o:PV):Option (T16a⊕T99a):=cond (cond (decide (m<((o.fld 2).asList.length:Int))) (decide (t>=0)) false) (let H:=(o.fld 2).asList;cond (aab m H.length) ((F34 ((H.getD m.toNat .bad).fld 2).asList t).bind λJ=>let I:=(o.fld 2).asList;cond (aab m I.length) ((F35 [(PV.str ((I.getD m.toNat .bad).fld 0).asStr)] t).bind λM=>some (.inl ((),(IntKind.wrap .i64 ((IntKind.wrap .i64 (t-J))-M)),z,(),(IntKind.wrap .i64 (m+1)),G,o))) none) none) (some (.inr ((),t,z,G,o)))
def S8_18(M:Unit)(m t:Int)(z:PV):Option (T7a⊕T24a):=cond (cond (decide (t<((z.fld 1).asList.length:Int))) (decide (m>=0)) false) (let H:=(z.fld 1).asList;cond (aab t H.length) (let G:=H.getD t.toNat .bad;(F34 (G.fld 4).asList m).bind λI=>(F35 [(PV.str (G.fld 0).asStr)] m).bind λJ=>(aad 0 (Y7 S8_23) ((),(IntKind.wrap .i64 ((IntKind.wrap .i64 ((IntKind.wrap .i64 (m-I))-((G.fld 3).asList.length:Int)))-J)),t,(),(0:Int),z,G)).bind λo=>some (.inl ((),o.2.1,(IntKind.wrap .i64 (o.2.2.1+1)),o.2.2.2.1))) none) (some (.inr ((),m,z)))
def S8_32(V:Unit)(t z:Int)(W:Unit)(m:Int)(G o:PV):Option (T16a⊕T99a):=cond (cond (decide (m<((o.fld 1).asList.length:Int))) (decide (t>=0)) false) (let H:=(o.fld 1).asList;cond (aab m H.length) ((F34 ((H.getD m.toNat .bad).fld 4).asList t).bind λO=>let I:=(o.fld 1).asList;cond (aab m I.length) (let J:=(o.fld 1).asList;cond (aab m J.length) (let M:=(o.fld 1).asList;cond (aab m M.length) ((F35 [(PV.str ((I.getD m.toNat .bad).fld 0).asStr),(PV.str ((J.getD m.toNat .bad).fld 1).asStr),(PV.str ((M.getD m.toNat .bad).fld 2).asStr)] t).bind λU=>some (.inl ((),(IntKind.wrap .i64 ((IntKind.wrap .i64 ((IntKind.wrap .i64 (t-O))-U))+2)),z,(),(IntKind.wrap .i64 (m+1)),G,o))) none) none) none) none) (some (.inr ((),t,z,G,o)))
def S8_27(M:Unit)(m o:Int)(t:PV):Option (T7a⊕(Int×PV)):=cond (cond (decide (o<((t.fld 2).asList.length:Int))) (decide (m>=0)) false) (let H:=(t.fld 2).asList;cond (aab o H.length) (let z:=H.getD o.toNat .bad;(F34 (z.fld 2).asList m).bind λI=>(F35 [(PV.str (z.fld 0).asStr)] m).bind λJ=>(aad 0 (Y7 S8_32) ((),(IntKind.wrap .i64 ((IntKind.wrap .i64 (m-I))-J)),o,(),(0:Int),t,z)).bind λG=>some (.inl ((),G.2.1,(IntKind.wrap .i64 (G.2.2.1+1)),G.2.2.2.1))) none) (some (.inr (m,t)))
def F8(o:PV):Option Bool:=cond (cond (cond (cond (decide (((o.fld 0).asList.length:Int)>150)) true (decide (((o.fld 1).asList.length:Int)>150))) true (decide (((o.fld 2).asList.length:Int)>150))) true (decide ((IntKind.wrap .i64 ((IntKind.wrap .i64 (((o.fld 0).asList.length:Int)+((o.fld 1).asList.length:Int)))+((o.fld 2).asList.length:Int)))>150))) (some false) ((aad 0 (Y4 S8_6) ((),(400:Int),(0:Int),o)).bind λz=>(aad 0 (Y4 S8_18) ((),z.2.1,(0:Int),z.2.2)).bind λm=>(aad 0 (Y4 S8_27) ((),m.2.1,(0:Int),m.2.2)).bind λt=>some (decide (t.1>=0)))
def S8_11l:LoopE:=⟨11,⟨[1,3,4,5,6],bx1,(.con (.ref 0 [] 37))::(.int .i64)::(.int .i64)::sv5⟩,[(.exit 2,⟨[1,3,4],bx1,(.con (.ref 0 [] 37))::(.int .i64)::sv6⟩)],(Y7 S8_11)⟩
def S8_6l:LoopE:=⟨6,⟨[1,3,4],bx2,sv7⟩,[(.exit 0,⟨[1,3],bx2,sv8⟩)],(Y4 S8_6)⟩
def S8_23l:LoopE:=⟨23,⟨[1,3,8,9,10],bx3,(.con (.ref 0 [] 37))::(.int .i64)::(.int .i64)::(.con (.ref 1 [] 88))::sv9⟩,[(.exit 6,⟨[1,3,8],bx3,(.con (.ref 0 [] 37))::sv10⟩)],(Y7 S8_23)⟩
def S8_18l:LoopE:=⟨18,⟨[1,3,8],bx2,sv7⟩,[(.exit 4,⟨[1,3],bx2,sv8⟩)],(Y4 S8_18)⟩
def S8_32l:LoopE:=⟨32,⟨[1,3,11,12,13],[.box 37 .leaf,.box 93 .leaf],(.con (.ref 0 [] 37))::(.int .i64)::(.int .i64)::(.con (.ref 1 [] 93))::(.int .i64)::sv11⟩,[(.exit 10,⟨[1,3,11],[.box 37 .leaf,.box 93 .leaf],(.con (.ref 0 [] 37))::(.int .i64)::(.int .i64)::sv11⟩)],(Y7 S8_32)⟩
def S8_27l:LoopE:=⟨27,⟨[1,3,11],bx2,sv7⟩,[(.exit 8,⟨[3],bx2,sv12⟩)],(Y4 S8_27)⟩
def F8c:KT:=xf 8 f6 f0 F8 [F34c,F35c] [S8_11l,S8_6l,S8_23l,S8_18l,S8_32l,S8_27l] (L3 (xl S8_6l (L1 (xl S8_11l L0))) (xl S8_18l (L1 (xl S8_23l L0))) (xl S8_27l (L1 (xl S8_32l L0))))
def S4_13(J:Unit)(z G:Int)(M:Unit)(o:Int)(t m:PV):Option (T16a⊕((Bool×PV×PV)⊕(Unit×Int×Int×PV×PV))):=cond (decide (o<((m.fld 4).asList.length:Int))) (let H:=(m.fld 4).asList;cond (aab o H.length) ((F8 ((H.getD o.toNat .bad).fld 1)).bind λI=>cond (!I) (some (.inr (.inl (false,t,m)))) (some (.inl ((),z,G,(),(IntKind.wrap .i64 (o+1)),t,m)))) none) (some (.inr (.inr ((),z,G,t,m))))
def S4_6(M:Unit)(J I:Int)(t:PV):Option (T7a⊕T71a):=cond (decide (I<((t.fld 1).asList.length:Int))) (let G:=(t.fld 1).asList;cond (aab I G.length) (let m:=G.getD I.toNat .bad;cond (cond (cond (decide (((m.fld 0).asStr.length:Int)>300)) true (decide (((m.fld 1).asStr.length:Int)>300))) true (decide (((m.fld 4).asList.length:Int)>J))) (some (.inr (.inl (false,t)))) ((aad 0 (Y7 S4_13) ((),(IntKind.wrap .i64 (J-((m.fld 4).asList.length:Int))),I,(),(0:Int),t,m)).bind λz=>sumE (λH=>some (.inr (.inl (H.1,H.2.1))) ) (λo=>some (.inl ((),o.2.1,(IntKind.wrap .i64 (o.2.2.1+1)),o.2.2.2.1)) ) z)) none) (some (.inr (.inr t)))
def F4(o:PV):Option Bool:=cond (decide (((o.fld 1).asList.length:Int)>40)) (some false) ((aad 0 (Y4 S4_6) ((),(40:Int),(0:Int),o)).bind λz=>sumE (λm=>some m.1 ) (λt=>some true ) z)
def S4_13l:LoopE:=⟨13,⟨[1,3,4,5,6],bx4,(.con (.ref 0 [] 24))::(.int .i64)::(.int .i64)::(.con (.ref 1 [] 31))::(.int .i64)::sv13⟩,[(.ret,⟨[2],bx4,.bool::sv13⟩),(.exit 2,⟨[1,3,4],bx4,(.con (.ref 0 [] 24))::(.int .i64)::(.int .i64)::sv13⟩)],(Y7 S4_13)⟩
def S4_6l:LoopE:=⟨6,⟨[1,3,4],bx5,sv14⟩,[(.ret,f68),(.exit 0,f46)],(Y4 S4_6)⟩
def F4c:KT:=xf 4 f39 f0 F4 [F8c] [S4_13l,S4_6l] (L1 (xl S4_6l (L1 (xl S4_13l L0))))
def F20(m:PV):Option Bool:=some (decide (((m.fld 4).asList.length:Int)<=32))
def F20c:KT:=xj 20 f40 f0 F20 []
def F60(m:PV)(t z:Unit):Option (Bool×Unit):=(F20 m).bind λo=>some ((!o),())
def F60c:KT:=xj 60 ⟨2,bx6,[.data 31,(.con (.ref 0 [] 62)),(.con (.fn 20 0 []))]⟩ ⟨1,bx6,[.bool,(.con (.fn 20 0 []))]⟩ (u3 F60) [F20c]
def F40_c60g(e:PV)(c:Unit):Option (Bool×Unit):=F60 e () c
def F40_c60c:KT:=ixK 40 31 (.fn 60 0 [(.ref 0 [] 62)]) [.box 62 .leaf] (.con (.fn 20 0 [])) [] F40_c60g (F60c)
def F59_c60(m:List PV)(t o:Unit):Option (Bool×Unit):=cfF F40_c60g m o
def F59_c60c:KT:=cfK 59 31 (.fn 60 0 [(.ref 0 [] 62)]) [.box 62 .leaf] (.con (.fn 20 0 [])) [] F40_c60g (F40_c60c)
def F19_c20(m:PV)(t:Unit):Option Bool:=(F59_c60 (m.fld 1).asList () ()).bind λo=>some (!o.1)
def F19_c20c:KT:=xj 19 ⟨2,[],[.data 24,(.con (.fn 20 0 []))]⟩ f0 (u2 F19_c20) [F59_c60c]
def S21_3(m:List PV)(o:Int):Option (T58a⊕T23a):=cond (decide (o<(m.length:Int))) (let t:=IntKind.wrap .i64 (o-1);cond (aab t m.length) (cond (aab o m.length) (cond (!(Op.bytesLess ((m.getD t.toNat .bad).fld 0).asStr ((m.getD o.toNat .bad).fld 0).asStr)) (some (.inr (.inl false))) (some (.inl (m,(IntKind.wrap .i64 (o+1)))))) none) none) (some (.inr (.inr ())))
def F21(o:List PV):Option Bool:=(aad 0 (Y2 S21_3) (o,(1:Int))).bind λz=>sumE (λm=>some m ) (λt=>some true ) z
def S21_3l:LoopE:=⟨3,⟨[0,3],[],[.slice 31,.int .i64]⟩,[(.ret,f10),(.exit 0,f8)],(Y2 S21_3)⟩
def F21c:KT:=xf 21 ⟨1,[],[.slice 31]⟩ f0 F21 [] [S21_3l] (L1 (xl S21_3l L0))
def S22_3(o:List PV)(z m:Int)(t:PV):Option (T110a⊕T71a):=cond (decide (m<z)) (cond (aab m o.length) (cond ((((o.getD m.toNat .bad).fld 0).asInt) != (IntKind.wrap .i64 (m+1))) (some (.inr (.inl (false,t)))) (some (.inl (o,z,(IntKind.wrap .i64 (m+1)),t)))) none) (some (.inr (.inr t)))
def F22(o:PV):Option Bool:=let x1:=(o.fld 4).asList;(aad 0 (Y4 S22_3) (x1,(x1.length:Int),(0:Int),o)).bind λz=>sumE (λm=>some m.1 ) (λt=>some true ) z
def S22_3l:LoopE:=⟨3,⟨[6,7,8],bx7,(.slice 40)::(.int .i64)::sv16⟩,[(.ret,f94),(.exit 0,⟨[],bx7,[.data 31]⟩)],(Y4 S22_3)⟩
def F22c:KT:=xf 22 f40 f0 F22 [] [S22_3l] (L1 (xl S22_3l L0))
def F60_v1(m:PV)(t z:Unit):Option (Bool×Unit):=(F22 m).bind λo=>some ((!o),())
def F60_v1c:KT:=xj 60 ⟨2,bx6,[.data 31,(.con (.ref 0 [] 62)),(.con (.fn 22 0 []))]⟩ ⟨1,bx6,[.bool,(.con (.fn 22 0 []))]⟩ (u3 F60_v1) [F22c]
def F40_c60_v1g(e:PV)(c:Unit):Option (Bool×Unit):=F60_v1 e () c
def F40_c60_v1c:KT:=ixK 40 31 (.fn 60 0 [(.ref 0 [] 62)]) [.box 62 .leaf] (.con (.fn 22 0 [])) [] F40_c60_v1g (F60_v1c)
def F59_c60_v1(m:List PV)(t o:Unit):Option (Bool×Unit):=cfF F40_c60_v1g m o
def F59_c60_v1c:KT:=cfK 59 31 (.fn 60 0 [(.ref 0 [] 62)]) [.box 62 .leaf] (.con (.fn 22 0 [])) [] F40_c60_v1g (F40_c60_v1c)
def F19_c22(m:PV)(t:Unit):Option Bool:=(F59_c60_v1 (m.fld 1).asList () ()).bind λo=>some (!o.1)
def F19_c22c:KT:=xj 19 ⟨2,[],[.data 24,(.con (.fn 22 0 []))]⟩ f0 (u2 F19_c22) [F59_c60_v1c]
def F105(m:Int):Option Int:=cond (cond (decide (m>=97)) (decide (m<=122)) false) (some (1:Int)) (cond (cond (decide (m>=65)) (decide (m<=90)) false) (some (2:Int)) (cond (cond (decide (m>=48)) (decide (m<=57)) false) (some (3:Int)) (cond (m==95) (some (4:Int)) (some (0:Int)))))
def F105c:KT:=xj 105 ⟨1,[],[.int .i32]⟩ f5 F105 []
def S70_3(z:Bn)(G:Unit)(o:Bn)(m:Int):Option (T53a⊕((Bool×Bn×Int)⊕(Bn×Bn×Int))):=cond (decide (m.toNat<o.length)) (cond (decide (m.toNat<o.length)) (cond (decide (m.toNat<o.length)) ((F105 ((Utf8.decode ⟨o.toArray⟩ m.toNat).1:Int)).bind λt=>cond (cond (t==0) true (cond (cond ((m.toNat:Int)==0) (t != 1) false) (t != 2) false)) (some (.inr (.inl (false,o,((cond (decide (m.toNat<o.length)) (m.toNat+(Utf8.decode ⟨o.toArray⟩ m.toNat).2) m.toNat:Nat):Int))))) (some (.inl (z,(),o,((cond (decide (m.toNat<o.length)) (m.toNat+(Utf8.decode ⟨o.toArray⟩ m.toNat).2) m.toNat:Nat):Int))))) none) none) (some (.inr (.inr (z,o,((cond (decide (m.toNat<o.length)) (m.toNat+(Utf8.decode ⟨o.toArray⟩ m.toNat).2) m.toNat:Nat):Int)))))
def F70(t:Bn):Option Bool:=(aad 0 (Y4 S70_3) (t,(),t,((0:Nat):Int))).bind λz=>sumE (λo=>some o.1 ) (λm=>some (cond (decide ((m.1.length:Int)>=1)) (decide ((m.1.length:Int)<=40)) false) ) z
def S70_3l:LoopE:=⟨3,⟨[0,7],[.iter],.str::(.con (.iref 0))::sv18⟩,[(.ret,⟨[2],[.iter],.bool::sv18⟩),(.exit 0,⟨[0],[.iter],sv19⟩)],(Y4 S70_3)⟩
def F70c:KT:=xf 70 f4 f0 F70 [F105c] [S70_3l] (L1 (xl S70_3l L0))
def S36_3(z:Bn)(o:List PV)(G m:Int):Option (T63a⊕T114a):=cond (decide (m<G)) (cond (aab m o.length) ((F70 (o.getD m.toNat .bad).asStr).bind λt=>cond (!t) (some (.inr (.inl false))) (some (.inl (z,o,G,(IntKind.wrap .i64 (m+1)))))) none) (some (.inr (.inr z)))
def F36(t:Bn):Option Bool:=(ant 0 t ([46]:Bn)).bind λG=>(aad 0 (Y4 S36_3) (t,G,(G.length:Int),(0:Int))).bind λz=>sumE (λm=>some m ) (λo=>some (decide ((o.length:Int)<=120)) ) z
def S36_3l:LoopE:=⟨3,⟨[0,6,7,8],[],.str::sv3⟩,[(.ret,f10),(.exit 0,f91)],(Y4 S36_3)⟩
def F36c:KT:=xf 36 f4 f0 F36 [⟨ao8 0,aoq 0⟩,F70c] [S36_3l] (L1 (xl S36_3l L0))
def F23(m:PV):Option Bool:=(F36 (m.fld 0).asStr).bind λo=>(cond o (F36 (m.fld 1).asStr) (some false)).bind λt=>some (cond o t false)
def F23c:KT:=xj 23 f40 f0 F23 [F36c]
def F60_v2(m:PV)(t z:Unit):Option (Bool×Unit):=(F23 m).bind λo=>some ((!o),())
def F60_v2c:KT:=xj 60 ⟨2,bx6,[.data 31,(.con (.ref 0 [] 62)),(.con (.fn 23 0 []))]⟩ ⟨1,bx6,[.bool,(.con (.fn 23 0 []))]⟩ (u3 F60_v2) [F23c]
def F40_c60_v2g(e:PV)(c:Unit):Option (Bool×Unit):=F60_v2 e () c
def F40_c60_v2c:KT:=ixK 40 31 (.fn 60 0 [(.ref 0 [] 62)]) [.box 62 .leaf] (.con (.fn 23 0 [])) [] F40_c60_v2g (F60_v2c)
def F59_c60_v2(m:List PV)(t o:Unit):Option (Bool×Unit):=cfF F40_c60_v2g m o
def F59_c60_v2c:KT:=cfK 59 31 (.fn 60 0 [(.ref 0 [] 62)]) [.box 62 .leaf] (.con (.fn 23 0 [])) [] F40_c60_v2g (F40_c60_v2c)
def F19_c23(m:PV)(t:Unit):Option Bool:=(F59_c60_v2 (m.fld 1).asList () ()).bind λo=>some (!o.1)
def F19_c23c:KT:=xj 19 ⟨2,[],[.data 24,(.con (.fn 23 0 []))]⟩ f0 (u2 F19_c23) [F59_c60_v2c]
def F38(m:Int):Option Bool:=some (cond (m==0) true (cond (cond (decide (m>=0)) (decide (m<8)) false) ((m.tmod (4:Int)) != 0) false))
def F38c:KT:=xj 38 f5 f0 F38 []
def F39(m:Int):Option Bool:=some (cond (decide (m>=1)) (decide (m<=7)) false)
def F39c:KT:=xj 39 f5 f0 F39 []
def S24_3(H:Unit)(t:List PV)(G o:Int)(z:PV):Option (T70a⊕T112a):=cond (decide (o<G)) (cond (aab o t.length) (let m:=t.getD o.toNat .bad;cond (cond (cond (cond (decide ((m.fld 3).asInt<1)) true (decide ((m.fld 3).asInt>3))) true (!(((m.fld 3).asInt==2)==(decide (((m.fld 4).asInt)>=1))))) true (cond ((m.fld 3).asInt != 2) ((m.fld 4).asInt != 0) false)) (some (.inr (.inl (false,z)))) (some (.inl ((),t,G,(IntKind.wrap .i64 (o+1)),z)))) none) (some (.inr (.inr ((),z))))
def F24(H:PV):Option Bool:=let x1:=(H.fld 4).asList;(aad 0 (Y5 S24_3) ((),x1,(x1.length:Int),(0:Int),H)).bind λz=>sumE (λt=>some t.1 ) (λm=>(F38 (m.2.fld 2).asInt).bind λo=>(cond o (F39 (m.2.fld 3).asInt) (some false)).bind λG=>some (cond o G false) ) z
def S24_3l:LoopE:=⟨3,⟨[1,6,7,8],bx7,(.con (.ref 0 [] 31))::(.slice 40)::(.int .i64)::sv16⟩,[(.ret,f94),(.exit 0,⟨[1],bx7,[(.con (.ref 0 [] 31)),.data 31]⟩)],(Y5 S24_3)⟩
def F24c:KT:=xf 24 f40 f0 F24 [F38c,F39c] [S24_3l] (L1 (xl S24_3l L0))
def F60_v3(m:PV)(t z:Unit):Option (Bool×Unit):=(F24 m).bind λo=>some ((!o),())
def F60_v3c:KT:=xj 60 ⟨2,bx6,[.data 31,(.con (.ref 0 [] 62)),(.con (.fn 24 0 []))]⟩ ⟨1,bx6,[.bool,(.con (.fn 24 0 []))]⟩ (u3 F60_v3) [F24c]
def F40_c60_v3g(e:PV)(c:Unit):Option (Bool×Unit):=F60_v3 e () c
def F40_c60_v3c:KT:=ixK 40 31 (.fn 60 0 [(.ref 0 [] 62)]) [.box 62 .leaf] (.con (.fn 24 0 [])) [] F40_c60_v3g (F60_v3c)
def F59_c60_v3(m:List PV)(t o:Unit):Option (Bool×Unit):=cfF F40_c60_v3g m o
def F59_c60_v3c:KT:=cfK 59 31 (.fn 60 0 [(.ref 0 [] 62)]) [.box 62 .leaf] (.con (.fn 24 0 [])) [] F40_c60_v3g (F40_c60_v3c)
def F19_c24(m:PV)(t:Unit):Option Bool:=(F59_c60_v3 (m.fld 1).asList () ()).bind λo=>some (!o.1)
def F19_c24c:KT:=xj 19 ⟨2,[],[.data 24,(.con (.fn 24 0 []))]⟩ f0 (u2 F19_c24) [F59_c60_v3c]
def F25_c26(m:Unit):Option (Unit×Unit):=some ((),())
def F25_c26c:KT:=xj 25 ⟨1,[],[(.con (.fn 26 0 []))]⟩ ⟨1,[.box 65 .leaf],[(.con (.fn 61 0 [(.ref 0 [] 65)])),(.con (.fn 26 0 []))]⟩ F25_c26 []
def F95(o:PV)(t:Unit)(m:Bn):Option (Bool×Bn):=some (((o.fld 0).asStr==m),m)
def F95c:KT:=xj 95 ⟨2,bx8,(.data 73)::sv20⟩ f69 (u3 F95) []
def F138_c95g(e:PV)(c:Bn):Option (Bool×Bn):=F95 e () c
def F138_c95c:KT:=ixK 138 73 (.fn 95 0 [(.ref 0 [] 9)]) [.box 9 .leaf] .str [] F138_c95g (F95c)
def F94_c95(m:List PV)(t:Unit)(o:Bn):Option (Bool×Bn):=cfF F138_c95g m o
def F94_c95c:KT:=cfK 94 73 (.fn 95 0 [(.ref 0 [] 9)]) [.box 9 .leaf] .str [] F138_c95g (F138_c95c)
def F56(m:PV)(o:Bn):Option Bool:=(F94_c95 (m.fld 0).asList () o).bind λt=>some t.1
def F56c:KT:=xj 56 f53 f0 (u2 F56) [F94_c95c]
def F26(m o:PV):Option Bool:=(F56 (o.fld 1) (m.fld 1).asStr).bind λt=>some t
def F26c:KT:=xj 26 ⟨2,[],sv22⟩ f0 (u2 F26) [F56c]
def F63(o:PV)(z G H:Unit)(m:PV):Option (Bool×Unit×PV):=(F26 m o).bind λt=>some ((!t),(),m)
def F63c:KT:=xj 63 ⟨3,bx9,[.data 40,(.con (.ref 0 [] 65)),(.con (.ref 1 [] 31)),(.con (.fn 26 0 [])),.data 31]⟩ ⟨1,bx9,[.bool,(.con (.fn 26 0 [])),.data 31]⟩ (u5 F63) [F26c]
def F98_c63g(e:PV)(c:Unit×PV):Option (Bool×Unit×PV):=F63 e () () c.1 c.2
def F98_c63c:KT:=ixK 98 40 (.fn 63 0 [(.ref 0 [] 65),(.ref 1 [] 31)]) [.box 65 .leaf,.box 31 .leaf] (.con (.fn 26 0 [])) [.data 31] F98_c63g (F63c)
def F62_c63(m:List PV)(z o:Unit)(t:PV):Option (Bool×Unit×PV):=cfF F98_c63g m (o,t)
def F62_c63c:KT:=cfK 62 40 (.fn 63 0 [(.ref 0 [] 65),(.ref 1 [] 31)]) [.box 65 .leaf,.box 31 .leaf] (.con (.fn 26 0 [])) [.data 31] F98_c63g (F98_c63c)
def F61(m:PV)(t z:Unit):Option (Bool×Unit):=(F62_c63 (m.fld 4).asList () () m).bind λo=>some ((!o.1),())
def F61c:KT:=xj 61 ⟨2,bx10,(.data 31)::(.con (.ref 0 [] 65))::sv23⟩ ⟨1,bx10,.bool::sv23⟩ (u3 F61) [F62_c63c]
def F60_v4(m:PV)(t z G:Unit):Option (Bool×Unit×Unit):=(F61 m () ()).bind λo=>some ((!o.1),(),())
def F60_v4c:KT:=xj 60 ⟨2,bx11,(.data 31)::(.con (.ref 0 [] 62))::(.con (.fn 61 0 [(.ref 1 [] 65)]))::sv23⟩ ⟨1,bx11,.bool::(.con (.fn 61 0 [(.ref 1 [] 65)]))::sv23⟩ (u4 F60_v4) [F61c]
def F40_c60_v4g(e:PV)(c:Unit×Unit):Option (Bool×Unit×Unit):=F60_v4 e () c.1 c.2
def F40_c60_v4c:KT:=ixK 40 31 (.fn 60 0 [(.ref 0 [] 62)]) [.box 62 .leaf,.box 65 .leaf] (.con (.fn 61 0 [(.ref 1 [] 65)])) [(.con (.fn 26 0 []))] F40_c60_v4g (F60_v4c)
def F59_c60_v4(m:List PV)(z o t:Unit):Option (Bool×Unit×Unit):=cfF F40_c60_v4g m (o,t)
def F59_c60_v4c:KT:=cfK 59 31 (.fn 60 0 [(.ref 0 [] 62)]) [.box 62 .leaf,.box 65 .leaf] (.con (.fn 61 0 [(.ref 1 [] 65)])) [(.con (.fn 26 0 []))] F40_c60_v4g (F40_c60_v4c)
def F19_c61(m:PV)(t z:Unit):Option (Bool×Unit):=(F59_c60_v4 (m.fld 1).asList () () ()).bind λo=>some ((!o.1),())
def F19_c61c:KT:=xj 19 ⟨2,[.box 65 .leaf],[.data 24,(.con (.fn 61 0 [(.ref 0 [] 65)])),(.con (.fn 26 0 []))]⟩ ⟨1,[.box 65 .leaf],[.bool,(.con (.fn 26 0 []))]⟩ (u3 F19_c61) [F59_c60_v4c]
def F25_c27(m:Unit):Option (Unit×Unit):=some ((),())
def F25_c27c:KT:=xj 25 ⟨1,[],[(.con (.fn 27 0 []))]⟩ ⟨1,[.box 65 .leaf],[(.con (.fn 61 0 [(.ref 0 [] 65)])),(.con (.fn 27 0 []))]⟩ F25_c27 []
def S130_4(O U V:Unit)(I:List PV)(J H:Int)(M o:PV)(m t z:List PV):Option (T0a⊕T9a):=cond (decide (H<J)) (cond (aab H I.length) (let G:=((I.getD H.toNat .bad).fld 0).asStr;cond (decide (m.length+[(PV.str G)].length<=accMax)) (some (.inl ((),(),(),I,J,(IntKind.wrap .i64 (H+1)),M,o,(m++[(PV.str G)]),t,z))) none) none) (some (.inr ((),(),(),M,o,m,t,z)))
def S130_9(O U V:Unit)(o:List PV)(z m:Int)(G H:PV)(I t J:List PV):Option (T0a⊕T9a):=cond (decide (m<z)) (cond (aab m o.length) (let M:=((o.getD m.toNat .bad).fld 0).asStr;cond (decide (t.length+[(PV.str M)].length<=accMax)) (some (.inl ((),(),(),o,z,(IntKind.wrap .i64 (m+1)),G,H,I,(t++[(PV.str M)]),J))) none) none) (some (.inr ((),(),(),G,H,I,t,J)))
def S130_14(O U:Unit)(o:List PV)(z m:Int)(G H:PV)(I J t:List PV):Option (T15a⊕T45a):=cond (decide (m<z)) (cond (aab m o.length) (let M:=((o.getD m.toNat .bad).fld 0).asStr;cond (decide (t.length+[(PV.str M)].length<=accMax)) (some (.inl ((),(),o,z,(IntKind.wrap .i64 (m+1)),G,H,I,J,(t++[(PV.str M)])))) none) none) (some (.inr ((),(),G,H,I,J,t)))
def F130(H:PV):Option PV:=let x1:=(H.fld 0).asList;(aad 0 (Y11 S130_4) ((),(),(),x1,(x1.length:Int),(0:Int),H,(PV.agg [.slice [],.slice [],.slice []]),[],[],[])).bind λm=>let z:=(m.2.2.2.1.fld 1).asList;(aad 0 (Y11 S130_9) ((),(),(),z,(z.length:Int),(0:Int),m.2.2.2.1,m.2.2.2.2.1,m.2.2.2.2.2.1,m.2.2.2.2.2.2.1,m.2.2.2.2.2.2.2)).bind λo=>let G:=(o.2.2.2.1.fld 2).asList;(aad 0 (Y10 S130_14) ((),(),G,(G.length:Int),(0:Int),o.2.2.2.1,o.2.2.2.2.1,o.2.2.2.2.2.1,o.2.2.2.2.2.2.1,o.2.2.2.2.2.2.2)).bind λt=>some (PV.agg [.slice t.2.2.2.2.1,.slice t.2.2.2.2.2.1,.slice t.2.2.2.2.2.2])
def S130_4l:LoopE:=⟨4,⟨[1,2,3,11,12,13],bx12,(.con (.ref 0 [] 37))::(.con (.ref 1 [] 187))::(.con (.ref 2 [] 187))::(.slice 73)::sv24⟩,[(.exit 0,f47)],(Y11 S130_4)⟩
def S130_9l:LoopE:=⟨9,⟨[1,2,3,26,27,28],bx12,(.con (.ref 0 [] 37))::(.con (.ref 1 [] 187))::(.con (.ref 2 [] 187))::(.slice 88)::sv24⟩,[(.exit 2,f47)],(Y11 S130_9)⟩
def S130_14l:LoopE:=⟨14,⟨[2,3,41,42,43],bx12,(.con (.ref 1 [] 187))::(.con (.ref 2 [] 187))::(.slice 93)::sv24⟩,[(.exit 4,⟨[2,3],bx12,sv25⟩)],(Y10 S130_14)⟩
def F130c:KT:=xf 130 f6 ⟨1,[],[.data 187]⟩ F130 [] [S130_4l,S130_9l,S130_14l] (L3 (xl S130_4l L0) (xl S130_9l L0) (xl S130_14l L0))
def F131(H:Unit)(G:Bool)(z:Int)(m:Bn)(o:Int)(t:List PV):Option (Bn×Int×(List PV)):=cond (!G) (cond (decide (t.length+[(PV.agg [.str m,.int o,.int z])].length<=accMax)) (some (m,o,(t++[(PV.agg [.str m,.int o,.int z])]))) none) (some (m,o,t))
def F131c:KT:=xj 131 ⟨3,bx13,(.con (.ref 0 [] 186))::.bool::sv26⟩ f72 (u6 F131) []
def S132_3(m:List PV)(o:Int):Option (T58a⊕T23a):=cond (decide (o<(m.length:Int))) (cond (aab o m.length) (let t:=(m.getD o.toNat .bad).asStr;let z:=IntKind.wrap .i64 (o-1);cond (aab z m.length) (let G:=(m.getD z.toNat .bad).asStr;cond (Op.bytesLess t G||t==G) (some (.inr (.inl false))) (some (.inl (m,(IntKind.wrap .i64 (o+1)))))) none) none) (some (.inr (.inr ())))
def F132(o:List PV):Option Bool:=(aad 0 (Y2 S132_3) (o,(1:Int))).bind λz=>sumE (λm=>some m ) (λt=>some true ) z
def S132_3l:LoopE:=⟨3,f95,[(.ret,f10),(.exit 0,f8)],(Y2 S132_3)⟩
def F132c:KT:=xf 132 f12 f0 F132 [] [S132_3l] (L1 (xl S132_3l L0))
def S269_3(o:List PV)(t:Bn)(z m:Int):Option (T101a⊕T104a):=cond (decide (m<z)) (cond (aab m o.length) (cond (t==(o.getD m.toNat .bad).asStr) (some (.inr (.inl m))) (some (.inl (o,t,z,(IntKind.wrap .i64 (m+1)))))) none) (some (.inr (.inr ())))
def F269(o:List PV)(t:Bn):Option Int:=(aad 0 (Y4 S269_3) (o,t,(o.length:Int),(0:Int))).bind λz=>sumE (λm=>some m ) (λG=>some (-1:Int) ) z
def S269_3l:LoopE:=⟨3,⟨[0,1,7,8],[],(.slice 9)::.str::sv28⟩,[(.ret,f34),(.exit 0,f8)],(Y4 S269_3)⟩
def F269c:KT:=xf 269 ⟨2,[],sv29⟩ f5 (u2 F269) [] [S269_3l] (L1 (xl S269_3l L0))
def F186(m:List PV)(o:Bn):Option Bool:=(F269 m o).bind λt=>some (decide (t>=0))
def F186c:KT:=xj 186 ⟨2,[],sv29⟩ f0 (u2 F186) [F269c]
def F185(t:Bn)(G H:Unit)(o:PV)(m:Int):Option (Bool×PV×Int):=cond (aab m 3) ((F186 (o.fld m.toNat).asList t).bind λz=>some (z,o,m)) none
def F185c:KT:=xj 185 ⟨3,[.box 187 .leaf,.box 3 .leaf],[.str,(.con (.ref 0 [] 187)),(.con (.ref 1 [] 3)),.data 187,.int .i64]⟩ ⟨1,[.box 187 .leaf,.box 3 .leaf],[.bool,.data 187,.int .i64]⟩ (u5 F185) [F186c]
def F268_c185g(e:PV)(c:PV×Int):Option (Bool×PV×Int):=F185 e.asStr () () c.1 c.2
def F268_c185c:KT:=ixK 268 9 (.fn 185 0 [(.ref 0 [] 187),(.ref 1 [] 3)]) [.box 187 .leaf,.box 3 .leaf] (.data 187) [.int .i64] F268_c185g (F185c)
def F184_c185(m:List PV)(z:Unit)(o:PV)(t:Int):Option (Bool×PV×Int):=cfF F268_c185g m (o,t)
def F184_c185c:KT:=cfK 184 9 (.fn 185 0 [(.ref 0 [] 187),(.ref 1 [] 3)]) [.box 187 .leaf,.box 3 .leaf] (.data 187) [.int .i64] F268_c185g (F268_c185c)
def S133_6(I:Unit)(t G H z:Int)(m:PV):Option (T105a⊕T106a):=cond (decide (z<H)) (cond (aab t 3) ((F184_c185 (m.fld t.toNat).asList () m z).bind λo=>cond o.1 (some (.inr (.inl (false,o.2.1)))) (some (.inl ((),t,G,H,(IntKind.wrap .i64 (z+1)),o.2.1)))) none) (some (.inr (.inr ((),G,m))))
def S133_3(H:Unit)(t:Int)(G:PV):Option (T24a⊕T71a):=cond (decide (t<3)) ((aad 0 (Y6 S133_6) ((),t,t,t,(0:Int),G)).bind λz=>sumE (λm=>some (.inr (.inl (m.1,m.2))) ) (λo=>some (.inl ((),(IntKind.wrap .i64 (o.2.1+1)),o.2.2)) ) z) (some (.inr (.inr G)))
def F133(o:PV):Option Bool:=(aad 0 (Y3 S133_3) ((),(0:Int),o)).bind λz=>sumE (λm=>some m.1 ) (λt=>some true ) z
def S133_6l:LoopE:=⟨6,⟨[1,3,5,8,9],bx14,(.con (.ref 0 [] 187))::(.int .i64)::(.int .i64)::(.int .i64)::sv30⟩,[(.ret,f79),(.exit 2,f54)],(Y6 S133_6)⟩
def S133_3l:LoopE:=⟨3,f54,[(.ret,f79),(.exit 0,⟨[],bx14,[.data 187]⟩)],(Y3 S133_3)⟩
def F133c:KT:=xf 133 ⟨1,[],[.data 187]⟩ f0 F133 [F184_c185c] [S133_6l,S133_3l] (L1 (xl S133_3l (L1 (xl S133_6l L0))))
def F270(o:PV)(t:Unit)(m:Bn):Option (Bool×Bn):=some (((o.fld 0).asStr==m),m)
def F270c:KT:=xj 270 ⟨2,bx8,(.data 73)::sv20⟩ f69 (u3 F270) []
def F138_c270g(e:PV)(c:Bn):Option (Bool×Bn):=F270 e () c
def F138_c270(m:List PV)(t:Unit)(o:Bn):Option (Int×Bn):=ixF F138_c270g m o
def F138_c270c:KT:=ixK 138 73 (.fn 270 0 [(.ref 0 [] 9)]) [.box 9 .leaf] .str [] F138_c270g (F270c)
def F187(o:PV)(z:Bn):Option (PV×Bool):=(F138_c270 (o.fld 0).asList () z).bind λG=>let m:=G.1;cond (decide (m<0)) (some ((PV.agg [.str ([]:Bn),.slice [],.slice [],.slice [],.slice []]),false)) (let t:=(o.fld 0).asList;cond (aab m t.length) (some ((t.getD m.toNat .bad),true)) none)
def F187c:KT:=xj 187 f53 ⟨2,[],[.data 73,.bool]⟩ (u2 F187) [F138_c270c]
def S188_4(t z:List PV)(G m:Int)(H:PV):Option (T57a⊕T115a):=cond (decide (m<G)) (cond (aab m z.length) (let I:=z.getD m.toNat .bad;cond (cond ((I.fld 2).asInt==1) ((((I.fld 4).fld 0).asInt)==10) false) (let o:=((I.fld 4).fld 1).asStr;cond (decide (t.length+[(PV.str o)].length<=accMax)) (some (.inl ((t++[(PV.str o)]),z,G,(IntKind.wrap .i64 (m+1)),H))) none) (some (.inl (t,z,G,(IntKind.wrap .i64 (m+1)),H)))) none) (some (.inr (t,H)))
def F188(o:PV):Option ((List PV)):=let x1:=(o.fld 1).asList;(aad 0 (Y5 S188_4) ([],x1,(x1.length:Int),(0:Int),o)).bind λm=>some m.1
def S188_4l:LoopE:=⟨4,⟨[3,7,8,9],[.box 73 .leaf,.acc],[.acc 1 9,.slice 85,.int .i64,.int .i64,.data 73]⟩,[(.exit 0,⟨[3],[.box 73 .leaf,.acc],[.acc 1 9,.data 73]⟩)],(Y5 S188_4)⟩
def F188c:KT:=xf 188 f22 f12 F188 [] [S188_4l] (L1 (xl S188_4l L0))
def F189(m:Bn)(G H:Unit)(o:PV)(I:Unit)(t:List (PV×PV)):Option (Bool×PV×Unit×(List (PV×PV))):=(F187 o m).bind λz=>some ((cond z.2 (!(((PV.mget t (PV.str m)).getD (PV.bool false)).asBool)) false),o,(),t)
def F189c:KT:=xj 189 ⟨3,bx15,[.str,(.con (.ref 0 [] 37)),(.con (.ref 1 [] 192)),.data 37,(.con (.mref 2)),.map 9 4]⟩ ⟨1,bx15,[.bool,.data 37,(.con (.mref 2)),.map 9 4]⟩ (u6 F189) [F187c]
def F268_c189g(e:PV)(c:PV×Unit×(List (PV×PV))):Option (Bool×PV×Unit×(List (PV×PV))):=F189 e.asStr () () c.1 c.2.1 c.2.2
def F268_c189c:KT:=ixK 268 9 (.fn 189 0 [(.ref 0 [] 37),(.ref 1 [] 192)]) [.box 37 .leaf,.box 192 .leaf,.map 9 4] (.data 37) [(.con (.mref 2)),.map 9 4] F268_c189g (F189c)
def F184_c189(m:List PV)(G:Unit)(o:PV)(t:Unit)(z:List (PV×PV)):Option (Bool×PV×Unit×(List (PV×PV))):=cfF F268_c189g m (o,t,z)
def F184_c189c:KT:=cfK 184 9 (.fn 189 0 [(.ref 0 [] 37),(.ref 1 [] 192)]) [.box 37 .leaf,.box 192 .leaf,.map 9 4] (.data 37) [(.con (.mref 2)),.map 9 4] F268_c189g (F268_c189c)
def S134_6(V W:Unit)(z G:Int)(t:List PV)(H m:Int)(I:PV)(J:List (PV×PV))(X:Unit):Option (T56a⊕T50a):=cond (decide (m<H)) (cond (aab m t.length) (let M:=t.getD m.toNat .bad;(F187 I (M.fld 0).asStr).bind λO=>(F188 O.1).bind λU=>(F184_c189 U () I () J).bind λo=>cond (!o.1) (some (.inl ((),(),z,G,t,H,(IntKind.wrap .i64 (m+1)),o.2.1,PV.mput o.2.2.2 (PV.str (M.fld 0).asStr) (PV.bool true),()))) (some (.inl ((),(),z,G,t,H,(IntKind.wrap .i64 (m+1)),o.2.1,o.2.2.2,())))) none) (some (.inr ((),(),z,G,I,J,())))
def S134_4(J M:Unit)(z G:Int)(t:PV)(H:List (PV×PV))(I:Unit):Option (T50a⊕(Unit×PV×(List (PV×PV))×Unit)):=cond (decide (G<z)) (let o:=(t.fld 0).asList;(aad 0 (Y10 S134_6) ((),(),z,G,o,(o.length:Int),(0:Int),t,H,())).bind λm=>some (.inl ((),(),m.2.2.1,(IntKind.wrap .i64 (m.2.2.2.1+1)),m.2.2.2.2.1,m.2.2.2.2.2.1,()))) (some (.inr ((),t,H,())))
def F134(o:PV):Option ((List (PV×PV))):=(aad 0 (Y7 S134_4) ((),(),(IntKind.wrap .i64 (((o.fld 0).asList.length:Int)+1)),(0:Int),o,[],())).bind λm=>some m.2.2.1
def S134_6l:LoopE:=⟨6,⟨[1,3,13,14,17,18,19],bx16,(.con (.ref 0 [] 37))::(.con (.ref 2 [] 192))::(.int .i64)::(.int .i64)::(.slice 73)::sv31⟩,[(.exit 2,f27)],(Y10 S134_6)⟩
def S134_4l:LoopE:=⟨4,f27,[(.exit 0,⟨[3],bx16,(.con (.ref 2 [] 192))::sv32⟩)],(Y7 S134_4)⟩
def F134c:KT:=xf 134 f6 ⟨1,[],[.map 9 4]⟩ F134 [F187c,F188c,F184_c189c] [S134_6l,S134_4l] (L1 (xl S134_4l (L1 (xl S134_6l L0))))
def F271(m:Bn):Option Bool:=cond (m==([109,101,115,115,97,103,101]:Bn)) (some true) (cond (m==([101,110,117,109]:Bn)) (some true) (cond (m==([115,101,114,118,105,99,101]:Bn)) (some true) (cond (m==([117,110,105,111,110]:Bn)) (some true) (cond (m==([109,97,112]:Bn)) (some true) (cond (m==([108,105,115,116]:Bn)) (some true) (let t:=m==([114,101,113,117,105,114,101,100]:Bn);cond t (some true) (let z:=m==([111,112,116,105,111,110,97,108]:Bn);cond z (some true) (cond (m==([112,108,97,105,110]:Bn)) (some true) (cond (m==([100,101,102,97,117,108,116]:Bn)) (some true) (let o:=m==([114,101,115,101,114,118,101,100]:Bn);cond o (some true) (cond (m==([105,109,112,111,114,116]:Bn)) (some true) (cond (m==([115,112,97,99,101]:Bn)) (some true) (cond (m==([114,112,99]:Bn)) (some true) (cond (m==([115,116,114,101,97,109]:Bn)) (some true) (cond (m==([114,101,116,117,114,110,115]:Bn)) (some true) (cond (m==([111,112,101,110]:Bn)) (some true) (cond (m==([116,114,117,101]:Bn)) (some true) (cond (m==([102,97,108,115,101]:Bn)) (some true) (cond (m==([110,97,110]:Bn)) (some true) (cond (m==([105,110,102]:Bn)) (some true) (some false)))))))))))))))))))))
def F271c:KT:=xj 271 f4 f0 F271 []
def F268_c271g(e:PV):Option Bool:=F271 e.asStr
def F268_c271c:KT:=ixK0 268 9 (.fn 271 0 []) F268_c271g (F271c)
def F184_c271(m:List PV)(o:Unit):Option Bool:=cfF0 F268_c271g m
def F184_c271c:KT:=cfK0 184 9 (.fn 271 0 []) F268_c271g (F268_c271c)
def F190(o:Bn):Option Bool:=(F36 o).bind λm=>(cond m (ant 0 o ([46]:Bn)) (some [])).bind λt=>(cond m (F184_c271 t ()) (some false)).bind λz=>some (cond m (!z) false)
def F190c:KT:=xj 190 f4 f0 F190 [F36c,⟨ao8 0,aoq 0⟩,F184_c271c]
def F196(m:Bn):Option Bool:=(F70 m).bind λo=>(cond o (F271 m) (some false)).bind λt=>some (cond o (!t) false)
def F196c:KT:=xj 196 f4 f0 F196 [F70c,F271c]
def F273(m:PV):Option Bn:=some ((m.fld 1).asStr)
def F273c:KT:=xj 273 f13 f4 F273 []
def F365(t:PV)(H I J M:Unit)(m:List PV)(o:Int):Option (Bool×Unit×(List PV)×Int):=(F273 t).bind λz=>cond (aab o m.length) ((F273 (m.getD o.toNat .bad)).bind λG=>some ((z==G),(),m,o)) none
def F365c:KT:=xj 365 ⟨4,bx17,(.data 85)::(.con (.ref 0 [] 294))::(.con (.ref 1 [] 68))::(.con (.ref 2 [] 3))::(.con (.fn 273 0 []))::sv33⟩ ⟨1,bx17,.bool::(.con (.fn 273 0 []))::sv33⟩ (λx=>F365 x.1 x.2.1 x.2.2.1 x.2.2.2.1 x.2.2.2.2.1 x.2.2.2.2.2.1 x.2.2.2.2.2.2) [F273c]
def F426_c365g(e:PV)(c:Unit×(List PV)×Int):Option (Bool×Unit×(List PV)×Int):=F365 e () () () c.1 c.2.1 c.2.2
def F426_c365c:KT:=ixK 426 85 (.fn 365 0 [(.ref 0 [] 294),(.ref 1 [] 68),(.ref 2 [] 3)]) [.box 294 .leaf,.box 68 .leaf,.box 3 .leaf] (.con (.fn 273 0 [])) [.slice 85,.int .i64] F426_c365g (F365c)
def F364_c365(m:List PV)(G o:Unit)(t:List PV)(z:Int):Option (Bool×Unit×(List PV)×Int):=cfF F426_c365g m (o,t,z)
def F364_c365c:KT:=cfK 364 85 (.fn 365 0 [(.ref 0 [] 294),(.ref 1 [] 68),(.ref 2 [] 3)]) [.box 294 .leaf,.box 68 .leaf,.box 3 .leaf] (.con (.fn 273 0 [])) [.slice 85,.int .i64] F426_c365g (F426_c365c)
def F272_c273(o:List PV)(m:Int)(z:Unit):Option Bool:=cond (decide (0<=(0:Int)/\(0:Int)<=m/\m<=(o.length:Int))) ((F364_c365 ((o.take m.toNat).drop (0:Int).toNat) () () o m).bind λt=>some t.1) none
def F272_c273c:KT:=xj 272 ⟨3,[],[.slice 85,.int .i64,(.con (.fn 273 0 []))]⟩ f0 (u3 F272_c273) [F364_c365c]
def F283(o:PV)(t:Unit)(m:Int):Option (Bool×Int):=some ((cond (decide ((o.fld 0).asInt<=m)) (decide (m<=(o.fld 1).asInt)) false),m)
def F283c:KT:=xj 283 f32 f35 (u3 F283) []
def F375_c283g(e:PV)(c:Int):Option (Bool×Int):=F283 e () c
def F375_c283c:KT:=ixK 375 133 (.fn 283 0 [(.ref 0 [] 3)]) [.box 3 .leaf] (.int .i64) [] F375_c283g (F283c)
def F282_c283(m:List PV)(t:Unit)(o:Int):Option (Bool×Int):=cfF F375_c283g m o
def F282_c283c:KT:=cfK 282 133 (.fn 283 0 [(.ref 0 [] 3)]) [.box 3 .leaf] (.int .i64) [] F375_c283g (F375_c283c)
def F199(m:List PV)(o:Int):Option Bool:=(F282_c283 m () o).bind λt=>some t.1
def F199c:KT:=xj 199 f86 f0 (u2 F199) [F282_c283c]
def F274(o m:Int):Option Bool:=cond (o != 5) (some (m==0)) (some (cond (cond (decide (m>=1)) (decide (m<=7)) false) (m != 6) false))
def F274c:KT:=xj 274 ⟨2,[],sv28⟩ f0 (u2 F274) []
def F427(o:PV)(t:Unit)(m:Bn):Option (Bool×Bn):=some (((o.fld 0).asStr==m),m)
def F427c:KT:=xj 427 ⟨2,bx8,(.data 88)::sv20⟩ f69 (u3 F427) []
def F409_c427g(e:PV)(c:Bn):Option (Bool×Bn):=F427 e () c
def F409_c427(m:List PV)(t:Unit)(o:Bn):Option (Int×Bn):=ixF F409_c427g m o
def F409_c427c:KT:=ixK 409 88 (.fn 427 0 [(.ref 0 [] 9)]) [.box 9 .leaf] .str [] F409_c427g (F427c)
def F366(o:PV)(z:Bn):Option (PV×Bool):=(F409_c427 (o.fld 1).asList () z).bind λG=>let m:=G.1;cond (decide (m<0)) (some ((PV.agg [.str ([]:Bn),.bool false,.slice [],.slice [],.slice []]),false)) (let t:=(o.fld 1).asList;cond (aab m t.length) (some ((t.getD m.toNat .bad),true)) none)
def F366c:KT:=xj 366 f53 ⟨2,[],[.data 88,.bool]⟩ (u2 F366) [F409_c427c]
def F275(z m:PV):Option Bool:=cond (cond (decide ((((m.fld 4).fld 0).asInt)>=1)) (decide ((((m.fld 4).fld 0).asInt)<=8)) false) (some ((((m.fld 4).fld 1).asStr)==([]:Bn))) (cond ((((m.fld 4).fld 0).asInt)==9) ((F366 z (((m.fld 4).fld 1).asStr)).bind λo=>some o.2) (cond ((((m.fld 4).fld 0).asInt)==10) ((F187 z (((m.fld 4).fld 1).asStr)).bind λt=>some (cond t.2 ((m.fld 2).asInt != 3) false)) (some false)))
def F275c:KT:=xj 275 f65 f0 (u2 F275) [F366c,F187c]
def F367(o:PV)(t:Unit)(m:PV):Option (Bool×PV):=some (((o.fld 1).asStr==(m.fld 5).asStr),m)
def F367c:KT:=xj 367 ⟨2,bx18,(.data 85)::sv36⟩ f97 (u3 F367) []
def F426_c367g(e c:PV):Option (Bool×PV):=F367 e () c
def F426_c367c:KT:=ixK 426 85 (.fn 367 0 [(.ref 0 [] 85)]) [.box 85 .leaf] (.data 85) [] F426_c367g (F367c)
def F364_c367(m:List PV)(t:Unit)(o:PV):Option (Bool×PV):=cfF F426_c367g m o
def F364_c367c:KT:=cfK 364 85 (.fn 367 0 [(.ref 0 [] 85)]) [.box 85 .leaf] (.data 85) [] F426_c367g (F426_c367c)
def F368(o:PV)(t:Unit)(m:PV):Option (Bool×PV):=some (((o.fld 5).asStr==(m.fld 5).asStr),m)
def F368c:KT:=xj 368 ⟨2,bx18,(.data 85)::sv36⟩ f97 (u3 F368) []
def F426_c368g(e c:PV):Option (Bool×PV):=F368 e () c
def F426_c368c:KT:=ixK 426 85 (.fn 368 0 [(.ref 0 [] 85)]) [.box 85 .leaf] (.data 85) [] F426_c368g (F368c)
def F364_c368(m:List PV)(t:Unit)(o:PV):Option (Bool×PV):=cfF F426_c368g m o
def F364_c368c:KT:=cfK 364 85 (.fn 368 0 [(.ref 0 [] 85)]) [.box 85 .leaf] (.data 85) [] F426_c368g (F426_c368c)
def F276(t:PV)(m:Int):Option Bool:=let x1:=(t.fld 1).asList;cond (aab m x1.length) (let I:=x1.getD m.toNat .bad;cond ((I.fld 5).asStr==([]:Bn)) (some true) (let Z:=(I.fld 2).asInt != 2;(cond (!Z) (F196 (I.fld 5).asStr) (some false)).bind λy8=>let o:=cond Z true (!y8);cond (!o) ((F364_c367 (t.fld 1).asList () I).bind λW=>cond (cond o true W.1) (some false) (let z:=(t.fld 1).asList;cond (decide (0<=(0:Int)/\(0:Int)<=m/\m<=(z.length:Int))) ((F364_c368 ((z.take m.toNat).drop (0:Int).toNat) () W.2).bind λX=>let G:=!X.1;let H:=(t.fld 1).asList;let J:=IntKind.wrap .i64 (m-1);cond (imp (!G) (aab J H.length)) (some (cond G true (((H.getD J.toNat .bad).fld 5).asStr==(X.2.fld 5).asStr))) none) none)) (cond (cond o true false) (some false) (let M:=(t.fld 1).asList;cond (decide (0<=(0:Int)/\(0:Int)<=m/\m<=(M.length:Int))) ((F364_c368 ((M.take m.toNat).drop (0:Int).toNat) () I).bind λY=>let O:=!Y.1;let U:=(t.fld 1).asList;let V:=IntKind.wrap .i64 (m-1);cond (imp (!O) (aab V U.length)) (some (cond O true (((U.getD V.toNat .bad).fld 5).asStr==(Y.2.fld 5).asStr))) none) none)))) none
def F276c:KT:=xj 276 f84 f0 (u2 F276) [F196c,F364_c367c,F364_c368c]
def F369(m:PV):Option Bool:=some (cond (cond (cond ((m.fld 0).asInt==0) ((m.fld 1).asInt==0) false) ((m.fld 2).asStr==([]:Bn)) false) ((IntKind.wrap .i64 ((IntKind.wrap .i64 ((IntKind.wrap .i64 (((m.fld 3).asList.length:Int)+((m.fld 4).asList.length:Int)))+((m.fld 5).asList.length:Int)))+((m.fld 6).asList.length:Int)))==0) false)
def F369c:KT:=xj 369 f9 f0 F369 []
def F428(m:Int):Option Bool:=some (cond (decide (m>=1)) (decide (m<=9)) false)
def F428c:KT:=xj 428 f5 f0 F428 []
def F453(m:Int):Option Bool:=some (cond (m==7) true (m==8))
def F453c:KT:=xj 453 f5 f0 F453 []
def F429(m:PV):Option Bool:=cond (decide ((IntKind.wrap .i64 ((IntKind.wrap .i64 ((IntKind.wrap .i64 (((m.fld 3).asList.length:Int)+((m.fld 4).asList.length:Int)))+((m.fld 5).asList.length:Int)))+((m.fld 6).asList.length:Int)))>0)) (some false) ((F453 (m.fld 0).asInt).bind λo=>cond o (some ((m.fld 1).asInt==0)) (some ((m.fld 2).asStr==([]:Bn))))
def F429c:KT:=xj 429 f9 f0 F429 [F453c]
def F430(o m:Int):Option Bool:=cond (o==1) (some (decide (m<=1))) (cond (o==2) (some (cond (decide ((IntKind.wrap .i64 m)>=(-2147483648:Int))) (decide ((IntKind.wrap .i64 m)<=2147483647)) false)) (cond (o==9) (some (decide (m<=2147483647))) (cond (o==4) (some (decide (m<=4294967295))) (some true))))
def F430c:KT:=xj 430 ⟨2,[],[.int .i64,.int .u64]⟩ f0 (u2 F430) []
def F443(m o:Bn):Option Bool:=let z:=decide ((m.length:Int)>=(o.length:Int));let t:=(o.length:Int);cond (imp z (decide (0<=(0:Int)/\(0:Int)<=t/\t<=(m.length:Int)))) (some (cond z (((m.take t.toNat).drop (0:Int).toNat)==o) false)) none
def F443c:KT:=xj 443 f31 f0 (u2 F443) []
def F397(m o:Bn):Option Bool:=(F443 m o).bind λt=>some t
def F397c:KT:=xj 397 f31 f0 (u2 F397) [F443c]
def F373(m:Bn)(o t:Int):Option Bool:=let x1:=t==65533;cond (imp x1 (decide (0<=o/\o<=(m.length:Int)/\(m.length:Int)<=(m.length:Int)))) ((cond x1 (F397 ((m.take (m.length:Int).toNat).drop o.toNat) ([239,191,189]:Bn)) (some false)).bind λz=>some (cond x1 (!z) false)) none
def F373c:KT:=xj 373 f67 f0 (u3 F373) [F397c]
def S278_3(t:Bn)(H:Unit)(o:Bn)(m:Int):Option (T53a⊕((Int×Bn×Int)⊕(Bn×Int))):=cond (decide (m.toNat<o.length)) (cond (decide (m.toNat<o.length)) (let z:=(m.toNat:Int);cond (decide (m.toNat<o.length)) ((F373 t z ((Utf8.decode ⟨o.toArray⟩ m.toNat).1:Int)).bind λG=>cond G (some (.inr (.inl (z,o,((cond (decide (m.toNat<o.length)) (m.toNat+(Utf8.decode ⟨o.toArray⟩ m.toNat).2) m.toNat:Nat):Int))))) (some (.inl (t,(),o,((cond (decide (m.toNat<o.length)) (m.toNat+(Utf8.decode ⟨o.toArray⟩ m.toNat).2) m.toNat:Nat):Int))))) none) none) (some (.inr (.inr (o,((cond (decide (m.toNat<o.length)) (m.toNat+(Utf8.decode ⟨o.toArray⟩ m.toNat).2) m.toNat:Nat):Int)))))
def F278(m:Bn):Option Int:=(aad 0 (Y4 S278_3) (m,(),m,((0:Nat):Int))).bind λz=>sumE (λt=>some t.1 ) (λo=>some (-1:Int) ) z
def S278_3l:LoopE:=⟨3,⟨[0,6],[.iter],.str::(.con (.iref 0))::sv18⟩,[(.ret,⟨[2],[.iter],(.int .i64)::sv18⟩),(.exit 0,⟨[],[.iter],sv18⟩)],(Y4 S278_3)⟩
def F278c:KT:=xf 278 f4 f5 F278 [F373c] [S278_3l] (L1 (xl S278_3l L0))
def F193(m:Bn):Option Bool:=(F278 m).bind λo=>some (decide (o<0))
def F193c:KT:=xj 193 f4 f0 F193 [F278c]
def F370(t:Int)(m:PV):Option Bool:=(F428 t).bind λJ=>let H:=cond (!J) true ((m.fld 0).asInt != t);(cond (!H) (F429 m) (some false)).bind λM=>let I:=cond H true (!M);(cond (!I) (F430 t (m.fld 1).asInt) (some false)).bind λz=>cond (cond (cond I true (!z)) true (decide (((m.fld 2).asStr.length:Int)>4096))) (some false) (let o:=t != 7;(cond (!o) (F193 (m.fld 2).asStr) (some false)).bind λG=>some (cond o true G))
def F370c:KT:=xj 370 f85 f0 (u2 F370) [F428c,F429c,F430c,F193c]
def F431(m:Int):Option Int:=let x1:=aer .and .u64 m (9218868437227405312:Int);let o:=aer .and .u64 m (4503599627370495:Int);cond (cond (x1==9218868437227405312) (o != 0) false) (some (0:Int)) (cond (x1==9218868437227405312) (some (1:Int)) (cond (cond (x1==0) (o==0) false) (some (2:Int)) (cond (x1==0) (some (3:Int)) (some (4:Int)))))
def F431c:KT:=xj 431 f18 f5 F431 []
def F371(m:PV):Option PV:=let o:=(m.fld 0).asInt==6;(cond o (F431 (m.fld 1).asInt) (some 0)).bind λt=>cond (cond o (t==0) false) (some (PV.agg [.int (m.fld 0).asInt,.int 9221120237041090560,.str (m.fld 2).asStr,.slice (m.fld 3).asList,.slice (m.fld 4).asList,.slice (m.fld 5).asList,.slice (m.fld 6).asList])) (some m)
def F371c:KT:=xj 371 f9 f9 F371 [F431c]
def F372(o:PV)(t:Unit)(m:PV):Option (Bool×PV):=some (((IntKind.wrap .u64 (o.fld 1).asInt)==(((m.fld 7).fld 1).asInt)),m)
def F372c:KT:=xj 372 ⟨2,bx18,(.data 90)::sv36⟩ f97 (u3 F372) []
def F374_c372g(e c:PV):Option (Bool×PV):=F372 e () c
def F374_c372c:KT:=ixK 374 90 (.fn 372 0 [(.ref 0 [] 85)]) [.box 85 .leaf] (.data 85) [] F374_c372g (F372c)
def F280_c372(m:List PV)(t:Unit)(o:PV):Option (Bool×PV):=cfF F374_c372g m o
def F280_c372c:KT:=cfK 280 90 (.fn 372 0 [(.ref 0 [] 85)]) [.box 85 .leaf] (.data 85) [] F374_c372g (F374_c372c)
def F277(M m:PV):Option Bool:=cond (!(m.fld 6).asBool) ((F369 (m.fld 7)).bind λO=>some O) (let J:=cond ((m.fld 2).asInt != 2) true (!((m.fld 5).asStr==([]:Bn)));(cond (!J) (F370 (((m.fld 4).fld 0).asInt) (m.fld 7)) (some false)).bind λG=>let t:=cond J true (!G);(cond (!t) (F371 (m.fld 7)) (some PV.bad)).bind λH=>cond (cond t true ((H.fld 1).asInt != (((m.fld 7).fld 1).asInt))) (some false) (cond ((((m.fld 4).fld 0).asInt) != 9) (some true) ((F366 M (((m.fld 4).fld 1).asStr)).bind λz=>let o:=z.2;cond o ((F280_c372 (z.1.fld 2).asList () m).bind λI=>some (cond o I.1 false)) (some (cond o false false)))))
def F277c:KT:=xj 277 f65 f0 (u2 F277) [F369c,F370c,F371c,F366c,F280_c372c]
def F393 :Option ((List (PV×PV))):=some (PV.mput (PV.mput (PV.mput (PV.mput (PV.mput (PV.mput (PV.mput (PV.mput (PV.mput (PV.mput (PV.mput (PV.mput (PV.mput [] (PV.str ([100,101,112,114,101,99,97,116,101,100]:Bn)) (PV.agg [.int 1,.int 126])) (PV.str ([100,111,99]:Bn)) (PV.agg [.int 7,.int 126])) (PV.str ([97,108,105,97,115]:Bn)) (PV.agg [.int 7,.int 84])) (PV.str ([115,105,110,99,101]:Bn)) (PV.agg [.int 4,.int 84])) (PV.str ([117,110,116,105,108]:Bn)) (PV.agg [.int 4,.int 84])) (PV.str ([109,105,110]:Bn)) (PV.agg [.int 3,.int 4])) (PV.str ([109,97,120]:Bn)) (PV.agg [.int 3,.int 4])) (PV.str ([108,101,110,103,116,104]:Bn)) (PV.agg [.int 4,.int 4])) (PV.str ([115,101,99,114,101,116]:Bn)) (PV.agg [.int 1,.int 4])) (PV.str ([105,100,101,109,112,111,116,101,110,116]:Bn)) (PV.agg [.int 1,.int 64])) (PV.str ([116,105,109,101,111,117,116]:Bn)) (PV.agg [.int 4,.int 64])) (PV.str ([114,111,117,116,101]:Bn)) (PV.agg [.int 7,.int 64])) (PV.str ([111,119,110,101,114]:Bn)) (PV.agg [.int 7,.int 34]))
def F393c:KT:=xj 393 ⟨0,[],[]⟩ ⟨1,[],[.map 9 353]⟩ (λx=>F393 ) []
def F439(m:Bn):Option Int:=F393.bind λt=>let o:=(PV.mget t (PV.str m)).getD (PV.agg [.int 0,.int 0]);some ((o.fld 0).asInt)
def F439c:KT:=xj 439 f4 f5 F439 [F393c]
def F394(m:PV):Option Bool:=(F439 (m.fld 0).asStr).bind λt=>let o:=t != 0;(cond o (F370 t (m.fld 1)) (some false)).bind λz=>some (cond o z false)
def F394c:KT:=xj 394 f75 f0 F394 [F439c,F370c]
def F310(m:PV)(o:Int)(z:Bn)(G:Bool):Option Int:=F393.bind λJ=>let H:=(m.fld 0).asStr;let M:=(PV.mget J (PV.str H)).getD (PV.agg [.int 0,.int 0]);cond (!(PV.mhas J (PV.str H))) (some (8:Int)) (let I:=cond (decide (o<1)) true (decide (o>6));cond (imp (!I) (decide (0<=o))) (cond (cond I true ((aer .and .i64 ((M.fld 1).asInt.fdiv (2^(min o.toNat (IntKind.bits .i64)))) (1:Int))==0)) (some (1:Int)) ((F394 m).bind λt=>cond (!t) (some (12:Int)) (cond (cond G (Op.bytesLess (m.fld 0).asStr z) false) (some (11:Int)) (cond (cond G ((m.fld 0).asStr==z) false) (some (9:Int)) (some (0:Int)))))) none)
def F310c:KT:=xj 310 ⟨4,[],[.data 119,.int .i64,.str,.bool]⟩ f5 (u4 F310) [F393c,F394c]
def S204_6(G:Int)(I:Bn)(z:List PV)(H m:Int):Option (T93a⊕T104a):=cond (decide (m<H)) (cond (aab m z.length) (let o:=z.getD m.toNat .bad;(F310 o G I (decide (m>0))).bind λt=>cond (t != 0) (some (.inr (.inl t))) (some (.inl (G,(o.fld 0).asStr,z,H,(IntKind.wrap .i64 (m+1)))))) none) (some (.inr (.inr ())))
def F204(m:List PV)(t:Int):Option Int:=cond (decide ((m.length:Int)>8)) (some (3:Int)) ((aad 0 (Y5 S204_6) (t,([]:Bn),m,(m.length:Int),(0:Int))).bind λz=>sumE (λo=>some o ) (λG=>some (0:Int) ) z)
def S204_6l:LoopE:=⟨6,⟨[1,5,12,13,14],[],(.int .i64)::.str::sv1⟩,[(.ret,f34),(.exit 0,f8)],(Y5 S204_6)⟩
def F204c:KT:=xf 204 ⟨2,[],sv2⟩ f5 (u2 F204) [F310c] [S204_6l] (L1 (xl S204_6l L0))
def F194(J:Unit)(t:List PV)(z:Int)(G:Bn)(H:Int)(I:List PV):Option (Bn×Int×(List PV)):=(F204 t z).bind λo=>(F131 () (o==0) o G H I).bind λm=>some (m.1,m.2.1,m.2.2)
def F194c:KT:=xj 194 ⟨3,bx13,(.con (.ref 0 [] 186))::(.slice 119)::sv26⟩ f72 (u6 F194) [F204c,F131c]
def F191(a0:Unit)(a1 O:PV)(U:Int)(a4:Bn)(a5:Int)(a6:List PV):Option (Bn×Int×(List PV)):=let x1:=(O.fld 1).asList;cond (aab U x1.length) (let m:=x1.getD U.toNat .bad;(F131 () (cond (decide (((m.fld 0).asInt)>=1)) (decide ((m.fld 0).asInt<=65535)) false) (6:Int) a4 (m.fld 0).asInt a6).bind λy9=>let V:=U==0;let W:=(O.fld 1).asList;let X:=IntKind.wrap .i64 (U-1);cond (imp (!V) (aab X W.length)) ((F131 () (cond V true (decide ((m.fld 0).asInt>((W.getD X.toNat .bad).fld 0).asInt))) (11:Int) y9.1 y9.2.1 y9.2.2).bind λo=>(F196 (m.fld 1).asStr).bind λab=>(F131 () ab (8:Int) o.1 o.2.1 o.2.2).bind λt=>(F272_c273 (O.fld 1).asList U ()).bind λad=>(F131 () (!ad) (9:Int) t.1 t.2.1 t.2.2).bind λz=>(F199 (O.fld 2).asList (m.fld 0).asInt).bind λae=>let Y:=!ae;(cond Y (F186 (O.fld 3).asList (m.fld 1).asStr) (some false)).bind λaf=>(F131 () (cond Y (!af) false) (21:Int) z.1 z.2.1 z.2.2).bind λG=>let Z:=cond (decide (((m.fld 2).asInt)>=1)) (decide ((m.fld 2).asInt<=5)) false;(cond Z (F274 (m.fld 2).asInt (m.fld 3).asInt) (some false)).bind λag=>(F131 () (cond Z ag false) (1:Int) G.1 G.2.1 G.2.2).bind λH=>(F275 a1 m).bind λah=>(F131 () ah (12:Int) H.1 H.2.1 H.2.2).bind λI=>(F276 O U).bind λai=>(F131 () ai (15:Int) I.1 I.2.1 I.2.2).bind λJ=>(F277 a1 m).bind λaj=>(F131 () aj (1:Int) J.1 J.2.1 J.2.2).bind λM=>(F194 () (m.fld 8).asList (2:Int) M.1 M.2.1 M.2.2).bind λaa=>some (aa.1,(-1:Int),aa.2.2)) none) none
def F191c:KT:=xj 191 ⟨4,bx13,(.con (.ref 0 [] 186))::(.data 37)::(.data 73)::sv26⟩ f72 (λx=>F191 x.1 x.2.1 x.2.2.1 x.2.2.2.1 x.2.2.2.2.1 x.2.2.2.2.2.1 x.2.2.2.2.2.2) [F131c,F196c,F272_c273c,F199c,F186c,F274c,F275c,F276c,F277c,F194c]
def S192_2(Y:Unit)(M:List PV)(U V:Int)(O:List PV)(W z:Int)(X:Bn)(G:Int)(H:List PV):Option (T46a⊕(Bn×Int×(List PV))):=cond (decide (z<W)) (cond (aab z O.length) (let m:=O.getD z.toNat .bad;(F131 () (cond (cond (decide (((m.fld 0).asInt)>=U)) (decide ((m.fld 1).asInt<=V)) false) (decide ((m.fld 0).asInt<=(m.fld 1).asInt)) false) (6:Int) X G H).bind λo=>let I:=z==0;let J:=IntKind.wrap .i64 (z-1);cond (imp (!I) (aab J M.length)) ((F131 () (cond I true (decide ((m.fld 0).asInt>((M.getD J.toNat .bad).fld 1).asInt))) (11:Int) o.1 o.2.1 o.2.2).bind λt=>some (.inl ((),M,U,V,O,W,(IntKind.wrap .i64 (z+1)),t.1,t.2.1,t.2.2))) none) none) (some (.inr (X,G,H)))
def F192(J:Unit)(o:List PV)(t z:Int)(G:Bn)(H:Int)(I:List PV):Option (Bn×Int×(List PV)):=(aad 0 (Y10 S192_2) ((),o,t,z,o,(o.length:Int),(0:Int),G,H,I)).bind λm=>some (m.1,m.2.1,m.2.2)
def S192_2l:LoopE:=⟨2,⟨[0,1,2,3,10,11,12],bx13,(.con (.ref 0 [] 186))::(.slice 133)::(.int .i64)::(.int .i64)::(.slice 133)::(.int .i64)::sv26⟩,[(.exit 0,⟨[],bx13,sv27⟩)],(Y10 S192_2)⟩
def F192c:KT:=xf 192 ⟨4,bx13,(.con (.ref 0 [] 186))::(.slice 133)::(.int .i64)::sv26⟩ f72 (λx=>F192 x.1 x.2.1 x.2.2.1 x.2.2.2.1 x.2.2.2.2.1 x.2.2.2.2.2.1 x.2.2.2.2.2.2) [F131c] [S192_2l] (L1 (xl S192_2l L0))
def F279(m:Bn)(G H:Unit)(o:PV)(t:List (PV×PV)):Option (Bool×PV×(List (PV×PV))):=(F187 o m).bind λz=>some ((cond z.2 (!(((PV.mget t (PV.str m)).getD (PV.bool false)).asBool)) false),o,t)
def F279c:KT:=xj 279 ⟨3,[.box 37 .leaf,.box 192 .leaf],[.str,(.con (.ref 0 [] 37)),(.con (.ref 1 [] 192)),.data 37,.map 9 4]⟩ ⟨1,[.box 37 .leaf,.box 192 .leaf],[.bool,.data 37,.map 9 4]⟩ (u5 F279) [F187c]
def F268_c279g(e:PV)(c:PV×(List (PV×PV))):Option (Bool×PV×(List (PV×PV))):=F279 e.asStr () () c.1 c.2
def F268_c279c:KT:=ixK 268 9 (.fn 279 0 [(.ref 0 [] 37),(.ref 1 [] 192)]) [.box 37 .leaf,.box 192 .leaf] (.data 37) [.map 9 4] F268_c279g (F279c)
def F184_c279(m:List PV)(z:Unit)(o:PV)(t:List (PV×PV)):Option (Bool×PV×(List (PV×PV))):=cfF F268_c279g m (o,t)
def F184_c279c:KT:=cfK 184 9 (.fn 279 0 [(.ref 0 [] 37),(.ref 1 [] 192)]) [.box 37 .leaf,.box 192 .leaf] (.data 37) [.map 9 4] F268_c279g (F268_c279c)
def F195(m o:PV)(t:List (PV×PV)):Option Bool:=(F188 o).bind λz=>(F184_c279 z () m t).bind λG=>some G.1
def F195c:KT:=xj 195 f63 f0 (u3 F195) [F188c,F184_c279c]
def S135_6(G:List (PV×PV))(O U V:Unit)(H m:Int)(o t:PV)(I:Bn)(J:Int)(M:List PV):Option (T41a⊕T55a):=cond (decide (m<H)) ((F191 () o t m I J M).bind λz=>some (.inl (G,(),(),(),H,(IntKind.wrap .i64 (m+1)),o,t,z.1,z.2.1,z.2.2))) (some (.inr (G,(),(),(),o,t,I,J,M)))
def S135_12(z:List (PV×PV))(V W X:Unit)(o:List PV)(G m:Int)(H I:PV)(J:Bn)(M:Int)(O:List PV):Option (T32a⊕T55a):=cond (decide (m<G)) (cond (aab m o.length) ((F193 (o.getD m.toNat .bad).asStr).bind λU=>(F131 () U (7:Int) J M O).bind λt=>some (.inl (z,(),(),(),o,G,(IntKind.wrap .i64 (m+1)),H,I,t.1,t.2.1,t.2.2))) none) (some (.inr (z,(),(),(),H,I,J,M,O)))
def F135(W t:PV)(X:List (PV×PV)):Option ((List PV)):=(F190 (t.fld 0).asStr).bind λY=>(F131 () Y (8:Int) (t.fld 0).asStr (-1:Int) []).bind λM=>let V:=((t.fld 2).asList.length:Int);let I:=((t.fld 3).asList.length:Int);(F131 () (cond (decide (((t.fld 1).asList.length:Int)<=64)) (decide ((if I>V then I else V)<=16)) false) (3:Int) M.1 M.2.1 M.2.2).bind λz=>(aad 0 (Y11 S135_6) (X,(),(),(),((t.fld 1).asList.length:Int),(0:Int),W,t,z.1,z.2.1,z.2.2)).bind λm=>(F192 () (m.2.2.2.2.2.1.fld 2).asList (1:Int) (65535:Int) m.2.2.2.2.2.2.1 m.2.2.2.2.2.2.2.1 m.2.2.2.2.2.2.2.2).bind λG=>let J:=(m.2.2.2.2.2.1.fld 3).asList;(aad 0 (Y12 S135_12) (m.1,(),(),(),J,(J.length:Int),(0:Int),m.2.2.2.2.1,m.2.2.2.2.2.1,G.1,G.2.1,G.2.2)).bind λo=>(F194 () (o.2.2.2.2.2.1.fld 4).asList (1:Int) o.2.2.2.2.2.2.1 o.2.2.2.2.2.2.2.1 o.2.2.2.2.2.2.2.2).bind λH=>(F195 o.2.2.2.2.1 o.2.2.2.2.2.1 o.1).bind λO=>(F131 () (!O) (19:Int) H.1 H.2.1 H.2.2).bind λU=>some U.2.2
def S135_6l:LoopE:=⟨6,⟨[2,3,4,7,38,39],bx19,(.map 9 4)::(.con (.ref 0 [] 37))::(.con (.ref 1 [] 73))::(.con (.ref 2 [] 186))::(.int .i64)::(.int .i64)::sv38⟩,[(.exit 0,f15)],(Y11 S135_6)⟩
def S135_12l:LoopE:=⟨12,⟨[2,3,4,7,53,54,55],bx19,(.map 9 4)::(.con (.ref 0 [] 37))::(.con (.ref 1 [] 73))::(.con (.ref 2 [] 186))::(.slice 9)::(.int .i64)::(.int .i64)::sv38⟩,[(.exit 2,f15)],(Y12 S135_12)⟩
def F135c:KT:=xf 135 f63 f20 (u3 F135) [F190c,F131c,F191c,F192c,F193c,F194c,F195c] [S135_6l,S135_12l] (L2 (xl S135_6l L0) (xl S135_12l L0))
def F198(m:PV):Option Bn:=some ((m.fld 0).asStr)
def F198c:KT:=xj 198 f81 f4 F198 []
def F281(t:PV)(H I J M:Unit)(m:List PV)(o:Int):Option (Bool×Unit×(List PV)×Int):=(F198 t).bind λz=>cond (aab o m.length) ((F198 (m.getD o.toNat .bad)).bind λG=>some ((z==G),(),m,o)) none
def F281c:KT:=xj 281 ⟨4,bx20,[.data 90,(.con (.ref 0 [] 247)),(.con (.ref 1 [] 86)),(.con (.ref 2 [] 3)),(.con (.fn 198 0 [])),.slice 90,.int .i64]⟩ ⟨1,bx20,[.bool,(.con (.fn 198 0 [])),.slice 90,.int .i64]⟩ (λx=>F281 x.1 x.2.1 x.2.2.1 x.2.2.2.1 x.2.2.2.2.1 x.2.2.2.2.2.1 x.2.2.2.2.2.2) [F198c]
def F374_c281g(e:PV)(c:Unit×(List PV)×Int):Option (Bool×Unit×(List PV)×Int):=F281 e () () () c.1 c.2.1 c.2.2
def F374_c281c:KT:=ixK 374 90 (.fn 281 0 [(.ref 0 [] 247),(.ref 1 [] 86),(.ref 2 [] 3)]) [.box 247 .leaf,.box 86 .leaf,.box 3 .leaf] (.con (.fn 198 0 [])) [.slice 90,.int .i64] F374_c281g (F281c)
def F280_c281(m:List PV)(G o:Unit)(t:List PV)(z:Int):Option (Bool×Unit×(List PV)×Int):=cfF F374_c281g m (o,t,z)
def F280_c281c:KT:=cfK 280 90 (.fn 281 0 [(.ref 0 [] 247),(.ref 1 [] 86),(.ref 2 [] 3)]) [.box 247 .leaf,.box 86 .leaf,.box 3 .leaf] (.con (.fn 198 0 [])) [.slice 90,.int .i64] F374_c281g (F374_c281c)
def F197_c198(o:List PV)(m:Int)(z:Unit):Option Bool:=cond (decide (0<=(0:Int)/\(0:Int)<=m/\m<=(o.length:Int))) ((F280_c281 ((o.take m.toNat).drop (0:Int).toNat) () () o m).bind λt=>some t.1) none
def F197_c198c:KT:=xj 197 ⟨3,[],[.slice 90,.int .i64,(.con (.fn 198 0 []))]⟩ f0 (u3 F197_c198) [F280_c281c]
def S136_7(af ag:Unit)(z:List PV)(U m:Int)(t:PV)(V:Bn)(aa:Int)(W:List PV):Option (T61a⊕(Unit×Unit×PV×Bn×Int×(List PV))):=cond (decide (m<U)) (cond (aab m z.length) (let o:=z.getD m.toNat .bad;(F131 () (cond (decide (((o.fld 1).asInt)>=0)) (decide ((o.fld 1).asInt<=2147483647)) false) (6:Int) V (o.fld 1).asInt W).bind λG=>let X:=m==0;let Y:=(t.fld 2).asList;let Z:=IntKind.wrap .i64 (m-1);cond (imp (!X) (aab Z Y.length)) ((F131 () (cond X true (decide ((o.fld 1).asInt>((Y.getD Z.toNat .bad).fld 1).asInt))) (11:Int) G.1 G.2.1 G.2.2).bind λH=>(F196 (o.fld 0).asStr).bind λab=>(F131 () ab (8:Int) H.1 H.2.1 H.2.2).bind λI=>(F197_c198 (t.fld 2).asList m ()).bind λad=>(F131 () (!ad) (9:Int) I.1 I.2.1 I.2.2).bind λJ=>(F199 (t.fld 3).asList (o.fld 1).asInt).bind λae=>(F131 () (!ae) (21:Int) J.1 J.2.1 J.2.2).bind λM=>(F194 () (o.fld 2).asList (4:Int) M.1 M.2.1 M.2.2).bind λO=>some (.inl ((),(),z,U,(IntKind.wrap .i64 (m+1)),t,O.1,O.2.1,O.2.2))) none) none) (some (.inr ((),(),t,V,aa,W)))
def F136(m:PV):Option ((List PV)):=(F190 (m.fld 0).asStr).bind λU=>(F131 () U (8:Int) (m.fld 0).asStr (-1:Int) []).bind λM=>(F131 () (cond (cond (decide (((m.fld 2).asList.length:Int)>=1)) (decide (((m.fld 2).asList.length:Int)<=64)) false) (decide (((m.fld 3).asList.length:Int)<=16)) false) (3:Int) M.1 M.2.1 M.2.2).bind λt=>let H:=((m.fld 2).asList.length:Int)==0;let I:=(m.fld 2).asList;cond (imp (!H) (aab (0:Int) I.length)) ((F131 () (cond H true (((I.getD (0:Int).toNat .bad).fld 1).asInt==(0:Int))) (14:Int) t.1 t.2.1 t.2.2).bind λz=>let J:=(m.fld 2).asList;(aad 0 (Y9 S136_7) ((),(),J,(J.length:Int),(0:Int),m,z.1,z.2.1,z.2.2)).bind λo=>(F192 () (o.2.2.1.fld 3).asList (0:Int) (2147483647:Int) o.2.2.2.1 (-1:Int) o.2.2.2.2.2).bind λG=>(F194 () (o.2.2.1.fld 4).asList (3:Int) G.1 G.2.1 G.2.2).bind λO=>some O.2.2) none
def S136_7l:LoopE:=⟨7,⟨[1,3,48,49,50],bx21,[(.con (.ref 0 [] 88)),(.con (.ref 1 [] 186)),.slice 90,.int .i64,.int .i64,.data 88,.str,.int .i64,.acc 2 238]⟩,[(.exit 0,⟨[1,3],bx21,[(.con (.ref 0 [] 88)),(.con (.ref 1 [] 186)),.data 88,.str,.int .i64,.acc 2 238]⟩)],(Y9 S136_7)⟩
def F136c:KT:=xf 136 f23 f20 F136 [F190c,F131c,F196c,F197_c198c,F199c,F194c,F192c] [S136_7l] (L1 (xl S136_7l L0))
def S137_6(ah ai aj:Unit)(z:List PV)(U m:Int)(t G:PV)(V:Bn)(ad:Int)(W:List PV):Option (T47a⊕(Unit×Unit×PV×PV×Bn×Int×(List PV))):=cond (decide (m<U)) (cond (aab m z.length) (let o:=z.getD m.toNat .bad;(F196 (o.fld 0).asStr).bind λae=>(F131 () ae (8:Int) V m W).bind λH=>let X:=m==0;let Y:=(o.fld 0).asStr;let Z:=(G.fld 1).asList;let aa:=IntKind.wrap .i64 (m-1);cond (imp (!X) (aab aa Z.length)) (let ab:=((Z.getD aa.toNat .bad).fld 0).asStr;(F131 () (cond X true (!(Op.bytesLess Y ab||Y==ab))) (11:Int) H.1 H.2.1 H.2.2).bind λI=>(F187 t (o.fld 1).asStr).bind λaf=>(F187 t (o.fld 2).asStr).bind λag=>(F131 () (cond af.2 ag.2 false) (12:Int) I.1 I.2.1 I.2.2).bind λJ=>(F131 () (cond (decide (((o.fld 3).asInt)>=1)) (decide ((o.fld 3).asInt<=4)) false) (1:Int) J.1 J.2.1 J.2.2).bind λM=>(F194 () (o.fld 4).asList (6:Int) M.1 M.2.1 M.2.2).bind λO=>some (.inl ((),(),(),z,U,(IntKind.wrap .i64 (m+1)),t,G,O.1,O.2.1,O.2.2))) none) none) (some (.inr ((),(),t,G,V,ad,W)))
def F137(I o:PV):Option ((List PV)):=(F190 (o.fld 0).asStr).bind λJ=>(F131 () J (8:Int) (o.fld 0).asStr (-1:Int) []).bind λt=>(F131 () (decide (((o.fld 1).asList.length:Int)<=64)) (3:Int) t.1 t.2.1 t.2.2).bind λG=>let H:=(o.fld 1).asList;(aad 0 (Y11 S137_6) ((),(),(),H,(H.length:Int),(0:Int),I,o,G.1,G.2.1,G.2.2)).bind λm=>(F194 () (m.2.2.2.1.fld 2).asList (5:Int) m.2.2.2.2.1 (-1:Int) m.2.2.2.2.2.2).bind λz=>some z.2.2
def S137_6l:LoopE:=⟨6,⟨[2,3,5,28,29,30],bx22,(.con (.ref 0 [] 37))::(.con (.ref 1 [] 93))::(.con (.ref 2 [] 186))::(.slice 95)::(.int .i64)::(.int .i64)::(.data 37)::(.data 93)::sv39⟩,[(.exit 0,⟨[3,5],bx22,(.con (.ref 1 [] 93))::(.con (.ref 2 [] 186))::(.data 37)::(.data 93)::sv39⟩)],(Y11 S137_6)⟩
def F137c:KT:=xf 137 ⟨2,[],sv11⟩ f20 (u2 F137) [F190c,F131c,F196c,F187c,F194c] [S137_6l] (L1 (xl S137_6l L0))
def S93_5(V W X:Unit)(J:PV)(H:Int)(M:PV)(O:Bn)(U:Int)(t:List PV)(z:PV):Option (T64a⊕(Unit×Unit×Unit×PV×Bn×Int×(List PV)×PV)):=cond (decide (H<3)) (cond (aab H 3) (let G:=(J.fld H.toNat).asList;(F131 () (decide ((G.length:Int)<=64)) (3:Int) O U t).bind λm=>(F132 G).bind λI=>(F131 () I (11:Int) m.1 m.2.1 m.2.2).bind λo=>some (.inl ((),(),(),J,(IntKind.wrap .i64 (H+1)),M,o.1,o.2.1,o.2.2,z))) none) (some (.inr ((),(),(),M,O,U,t,z)))
def S93_13(U V:Unit)(G:List (PV×PV))(o:List PV)(H m:Int)(t:PV)(I:Bn)(J:Int)(z:List PV)(M:PV):Option (T38a⊕T85a):=cond (decide (m<H)) (cond (aab m o.length) ((F135 t (o.getD m.toNat .bad) G).bind λO=>cond (decide (z.length+O.length<=accMax)) (some (.inl ((),(),G,o,H,(IntKind.wrap .i64 (m+1)),t,I,J,(z++O),M))) none) none) (some (.inr ((),(),t,I,J,z,M)))
def S93_18(O U:Unit)(o:List PV)(z m:Int)(G:PV)(H:Bn)(I:Int)(t:List PV)(J:PV):Option (T17a⊕T85a):=cond (decide (m<z)) (cond (aab m o.length) ((F136 (o.getD m.toNat .bad)).bind λM=>cond (decide (t.length+M.length<=accMax)) (some (.inl ((),(),o,z,(IntKind.wrap .i64 (m+1)),G,H,I,(t++M),J))) none) none) (some (.inr ((),(),G,H,I,t,J)))
def S93_23(O U:Unit)(o:List PV)(G m:Int)(t:PV)(H:Bn)(I:Int)(z:List PV)(J:PV):Option (T17a⊕(Unit×PV×Bn×Int×(List PV)×PV)):=cond (decide (m<G)) (cond (aab m o.length) ((F137 t (o.getD m.toNat .bad)).bind λM=>cond (decide (z.length+M.length<=accMax)) (some (.inl ((),(),o,G,(IntKind.wrap .i64 (m+1)),t,H,I,(z++M),J))) none) none) (some (.inr ((),t,H,I,z,J)))
def F93(U:PV):Option ((List PV)):=(F130 U).bind λV=>(aad 0 (Y10 S93_5) ((),(),(),V,(0:Int),U,([]:Bn),(-1:Int),[],V)).bind λm=>(F133 m.2.2.2.2.2.2.2).bind λJ=>(F131 () J (9:Int) m.2.2.2.2.1 m.2.2.2.2.2.1 m.2.2.2.2.2.2.1).bind λz=>(F134 m.2.2.2.1).bind λM=>let G:=(m.2.2.2.1.fld 0).asList;(aad 0 (Y11 S93_13) ((),(),M,G,(G.length:Int),(0:Int),m.2.2.2.1,z.1,z.2.1,z.2.2,m.2.2.2.2.2.2.2)).bind λo=>let H:=(o.2.2.1.fld 1).asList;(aad 0 (Y10 S93_18) ((),(),H,(H.length:Int),(0:Int),o.2.2.1,o.2.2.2.1,o.2.2.2.2.1,o.2.2.2.2.2.1,o.2.2.2.2.2.2)).bind λt=>let I:=(t.2.2.1.fld 2).asList;(aad 0 (Y10 S93_23) ((),(),I,(I.length:Int),(0:Int),t.2.2.1,t.2.2.2.1,t.2.2.2.2.1,t.2.2.2.2.2.1,t.2.2.2.2.2.2)).bind λO=>some O.2.2.2.2.1
def S93_5l:LoopE:=⟨5,⟨[1,3,4,18,19],bx23,(.con (.ref 0 [] 37))::(.con (.ref 1 [] 186))::(.con (.ref 2 [] 187))::(.data 187)::sv40⟩,[(.exit 0,⟨[1,3,4],bx23,(.con (.ref 0 [] 37))::(.con (.ref 1 [] 186))::(.con (.ref 2 [] 187))::sv41⟩)],(Y10 S93_5)⟩
def S93_13l:LoopE:=⟨13,⟨[1,3,7,39,40,41],bx23,(.con (.ref 0 [] 37))::(.con (.ref 1 [] 186))::(.map 9 4)::(.slice 73)::sv42⟩,[(.exit 2,f57)],(Y11 S93_13)⟩
def S93_18l:LoopE:=⟨18,⟨[1,3,59,60,61],bx23,(.con (.ref 0 [] 37))::(.con (.ref 1 [] 186))::(.slice 88)::sv42⟩,[(.exit 4,f57)],(Y10 S93_18)⟩
def S93_23l:LoopE:=⟨23,⟨[1,3,77,78,79],bx23,(.con (.ref 0 [] 37))::(.con (.ref 1 [] 186))::(.slice 93)::sv42⟩,[(.exit 6,⟨[3],bx23,sv43⟩)],(Y10 S93_23)⟩
def F93c:KT:=xf 93 f6 f20 F93 [F130c,F131c,F132c,F133c,F134c,F135c,F136c,F137c] [S93_5l,S93_13l,S93_18l,S93_23l] (L4 (xl S93_5l L0) (xl S93_13l L0) (xl S93_18l L0) (xl S93_23l L0))
def F55(m:PV):Option Bool:=(F93 m).bind λo=>some ((o.length:Int)==0)
def F55c:KT:=xj 55 f6 f0 F55 [F93c]
def F117(m:Unit):Option Unit:=some ()
def F117c:KT:=xg 117 f14 f14 F117 [] [] true [] L0
def F117_v1(m:List PV):Option (Unit×(List PV)):=cond (decide (m.length<=accMax)) (some ((),m)) none
def F117_v1c:KT:=xg 117 ⟨1,[],[.sln 119]⟩ f24 F117_v1 [] [] true [] L0
def F117_v2(m:List PV):Option (Unit×(List PV)):=F117_v1 m
def F117_v2e:CallE:=⟨117,f17,f24,λx=>F117_v2 x,((),[])⟩
theorem F117_v2ok:F117_v2e.Ok Tryz.prog:=by
 intro x y h
 have h:F117_v1 x=some y:=h
 have m:=F117_v1c.ok x y h
 unfold F117_v1 at h
 obtain⟨o,rfl⟩:=aaz h
 exact aeb (λ_=>F117c.ok () () rfl) m
def F117_v2c:KC Tryz.prog:=⟨F117_v2e,F117_v2ok⟩
def F118(m:PV):Option Bool:=some (cond ((m.fld 0).asStr==([100,111,99]:Bn)) true ((m.fld 0).asStr==([111,119,110,101,114]:Bn)))
def F118c:KT:=xj 118 f75 f0 F118 []
def S153_c118_3(G H:Unit)(t m:Int)(o:List PV):Option (T66a⊕((Int×(List PV))⊕((List PV)))):=cond (decide (m<t)) (cond (aab m o.length) ((F118 (o.getD m.toNat .bad)).bind λz=>cond z (some (.inr (.inl (m,o)))) (some (.inl ((),(),t,(IntKind.wrap .i64 (m+1)),o)))) none) (some (.inr (.inr o)))
def F153_c118(G H:Unit)(t:List PV):Option (Int×(List PV)):=(aad 0 (Y5 S153_c118_3) ((),(),(t.length:Int),(0:Int),t)).bind λz=>sumE (λm=>some (m.1,m.2) ) (λo=>some ((-1:Int),o) ) z
def S153_c118_3l:LoopE:=⟨3,⟨[0,1,7,8],[.arr 119 0],(.con (.arr 0 0 119))::(.con (.fn 118 0 []))::(.int .i64)::sv44⟩,[(.ret,⟨[4],[.arr 119 0],sv44⟩),(.exit 0,⟨[],[.arr 119 0],[.slice 119]⟩)],(Y5 S153_c118_3)⟩
def F153_c118c:KT:=xf 153 f25 ⟨1,[.arr 119 0],[.int .i64,.slice 119]⟩ (u3 F153_c118) [F118c] [S153_c118_3l] (L1 (xl S153_c118_3l L0))
def S116_c118_6(H I:Unit)(o t:Int)(m:List PV):Option (T66a⊕(Unit×Int×(List PV))):=cond (decide (t<(m.length:Int))) (cond (aab t m.length) (let z:=m.getD t.toNat .bad;(F118 z).bind λG=>cond (!G) (cond (aab o m.length) (some (.inl ((),(),(IntKind.wrap .i64 (o+1)),(IntKind.wrap .i64 (t+1)),(m.set o.toNat z)))) none) (some (.inl ((),(),o,(IntKind.wrap .i64 (t+1)),m)))) none) (some (.inr ((),o,m)))
def F116_c118(J M:Unit)(I:List PV):Option (Unit×(List PV)):=(F153_c118 () () I).bind λH=>let G:=H.1;cond (G==(-1:Int)) (some ((),H.2)) ((aad 0 (Y5 S116_c118_6) ((),(),G,(IntKind.wrap .i64 (G+1)),H.2)).bind λm=>let o:=m.2.1;cond (decide (0<=o/\o<=(m.2.2.length:Int))) (cond (Nat.blt o.toNat m.2.2.length) (cond (decide (o.toNat<m.2.2.length)) (let z:=m.2.2.take o.toNat++List.replicate (m.2.2.length-o.toNat) (PV.agg [.str ([]:Bn),.agg [.int 0,.int 0,.str ([]:Bn),.slice [],.slice [],.slice [],.slice []]]);let t:=m.2.1;cond (decide (0<=t/\t<=(z.length:Int))) (some ((),(z.take t.toNat))) none) none) none) none)
def S116_c118_6l:LoopE:=⟨6,⟨[0,1,5,6],[.arr 119 0],(.con (.arr 0 0 119))::(.con (.fn 118 0 []))::(.int .i64)::sv44⟩,[(.exit 0,⟨[0,5],[.arr 119 0],(.con (.arr 0 0 119))::sv44⟩)],(Y5 S116_c118_6)⟩
def F116_c118c:KT:=xg 116 f25 f24 (u3 F116_c118) [F153_c118c,F118c] [] true [S116_c118_6l] (L1 (xl S116_c118_6l L0))
def F80(m:List PV):Option ((List PV)):=(F117_v2 m).bind λo=>(F116_c118 () () o.2).bind λt=>some t.2
def F80c:KT:=xj 80 f17 f17 F80 [F117_v2c,F116_c118c]
def F81(m:Unit):Option Unit:=some ()
def F81c:KT:=xg 81 f14 f14 F81 [] [] true [] L0
def F81_v1(m:List PV):Option (Unit×(List PV)):=cond (decide (m.length<=accMax)) (some ((),m)) none
def F81_v1c:KT:=xg 81 ⟨1,[],[.sln 85]⟩ f41 F81_v1 [] [] true [] L0
def F81_v2(m:List PV):Option (Unit×(List PV)):=F81_v1 m
def F81_v2e:CallE:=⟨81,f76,f41,λx=>F81_v2 x,((),[])⟩
theorem F81_v2ok:F81_v2e.Ok Tryz.prog:=by
 intro x y h
 have h:F81_v1 x=some y:=h
 have m:=F81_v1c.ok x y h
 unfold F81_v1 at h
 obtain⟨o,rfl⟩:=aaz h
 exact aeb (λ_=>F81c.ok () () rfl) m
def F81_v2c:KC Tryz.prog:=⟨F81_v2e,F81_v2ok⟩
def F82(m:Unit):Option ((List PV)):=some []
def F82c:KT:=xj 82 f14 f37 F82 []
def F82_v1(m:List PV):Option ((List PV)):=cond (decide (m.length<=accMax)) (some m) none
def F82_v1c:KT:=xj 82 ⟨1,[],[.sln 133]⟩ f37 F82_v1 []
def F82_v2(m:List PV):Option ((List PV)):=F82_v1 m
def F82_v2e:CallE:=⟨82,f37,f37,λx=>F82_v2 x,[]⟩
theorem F82_v2ok:F82_v2e.Ok Tryz.prog:=by
 intro x y h
 have h:F82_v1 x=some y:=h
 have m:=F82_v1c.ok x y h
 unfold F82_v1 at h
 obtain⟨o,rfl⟩:=aaz h
 exact an7 (λe=>by subst e;exact F82c.ok () [] rfl) m
def F82_v2c:KC Tryz.prog:=⟨F82_v2e,F82_v2ok⟩
def F83(m:Unit):Option ((List PV)):=some []
def F83c:KT:=xj 83 f14 f12 F83 []
def F83_v1(m:List PV):Option ((List PV)):=cond (decide (m.length<=accMax)) (some m) none
def F83_v1c:KT:=xj 83 ⟨1,[],[.sln 9]⟩ f12 F83_v1 []
def F83_v2(m:List PV):Option ((List PV)):=F83_v1 m
def F83_v2e:CallE:=⟨83,f12,f12,λx=>F83_v2 x,[]⟩
theorem F83_v2ok:F83_v2e.Ok Tryz.prog:=by
 intro x y h
 have h:F83_v1 x=some y:=h
 have m:=F83_v1c.ok x y h
 unfold F83_v1 at h
 obtain⟨o,rfl⟩:=aaz h
 exact an7 (λe=>by subst e;exact F83c.ok () [] rfl) m
def F83_v2c:KC Tryz.prog:=⟨F83_v2e,F83_v2ok⟩
def F84(m:Unit):Option Unit:=some ()
def F84c:KT:=xg 84 f14 f14 F84 [] [] true [] L0
def F84_v1(m:List PV):Option (Unit×(List PV)):=cond (decide (m.length<=accMax)) (some ((),m)) none
def F84_v1c:KT:=xg 84 ⟨1,[],[.sln 90]⟩ f42 F84_v1 [] [] true [] L0
def F84_v2(m:List PV):Option (Unit×(List PV)):=F84_v1 m
def F84_v2e:CallE:=⟨84,⟨1,[],[.slice 90]⟩,f42,λx=>F84_v2 x,((),[])⟩
theorem F84_v2ok:F84_v2e.Ok Tryz.prog:=by
 intro x y h
 have h:F84_v1 x=some y:=h
 have m:=F84_v1c.ok x y h
 unfold F84_v1 at h
 obtain⟨o,rfl⟩:=aaz h
 exact aeb (λ_=>F84c.ok () () rfl) m
def F84_v2c:KC Tryz.prog:=⟨F84_v2e,F84_v2ok⟩
def F85(m:Unit):Option Unit:=some ()
def F85c:KT:=xg 85 f14 f14 F85 [] [] true [] L0
def F85_v1(m:List PV):Option (Unit×(List PV)):=cond (decide (m.length<=accMax)) (some ((),m)) none
def F85_v1c:KT:=xg 85 ⟨1,[],[.sln 95]⟩ f43 F85_v1 [] [] true [] L0
def F85_v2(m:List PV):Option (Unit×(List PV)):=F85_v1 m
def F85_v2e:CallE:=⟨85,⟨1,[],[.slice 95]⟩,f43,λx=>F85_v2 x,((),[])⟩
theorem F85_v2ok:F85_v2e.Ok Tryz.prog:=by
 intro x y h
 have h:F85_v1 x=some y:=h
 have m:=F85_v1c.ok x y h
 unfold F85_v1 at h
 obtain⟨o,rfl⟩:=aaz h
 exact aeb (λ_=>F85c.ok () () rfl) m
def F85_v2c:KC Tryz.prog:=⟨F85_v2e,F85_v2ok⟩
def S46_11(J M O U:Unit)(o:List PV)(t z G m:Int)(s:PV×PV×(List PV)×(List PV)×(List PV)×Bn×Unit×(List PV)×(List PV)×(List PV)×(List PV)):Option (T12a⊕(Unit×Unit×Unit×Unit×(List PV)×Int×Int×PV×PV×(List PV)×(List PV)×(List PV)×Bn×Unit×(List PV)×(List PV)×(List PV)×(List PV))):=cond (decide (m<G)) (cond (aab m s.2.2.2.2.2.2.2.2.2.2.length) ((F80 (((s.2.2.2.2.2.2.2.2.2.2.getD m.toNat .bad).fld 8).asList)).bind λI=>cond (aab m s.2.2.2.2.2.2.2.2.2.2.length) (let H:=s.2.2.2.2.2.2.2.2.2.2.set m.toNat (PV.agg [.int (((s.2.2.2.2.2.2.2.2.2.2.getD m.toNat .bad).fld 0).asInt),.str (((s.2.2.2.2.2.2.2.2.2.2.getD m.toNat .bad).fld 1).asStr),.int (((s.2.2.2.2.2.2.2.2.2.2.getD m.toNat .bad).fld 2).asInt),.int (((s.2.2.2.2.2.2.2.2.2.2.getD m.toNat .bad).fld 3).asInt),(s.2.2.2.2.2.2.2.2.2.2.getD m.toNat .bad).fld 4,.str (((s.2.2.2.2.2.2.2.2.2.2.getD m.toNat .bad).fld 5).asStr),.bool (((s.2.2.2.2.2.2.2.2.2.2.getD m.toNat .bad).fld 6).asBool),(s.2.2.2.2.2.2.2.2.2.2.getD m.toNat .bad).fld 7,.slice I]);some (.inl ((),(),(),(),o,t,z,G,(IntKind.wrap .i64 (m+1)),s.1,s.2.1,s.2.2.1,s.2.2.2.1,s.2.2.2.2.1,s.2.2.2.2.2.1,(),s.2.2.2.2.2.2.2.1,s.2.2.2.2.2.2.2.2.1,s.2.2.2.2.2.2.2.2.2.1,H))) none) none) (some (.inr ((),(),(),(),o,t,z,s)))
def S46_6(a5 a6 a7:Unit)(U:List PV)(Z t:Int)(z G:PV)(H I J:List PV):Option (T0a⊕T9a):=cond (decide (t<Z)) (cond (aab t U.length) (let o:=U.getD t.toNat .bad;(F80 (o.fld 4).asList).bind λW=>(F81_v2 (o.fld 1).asList).bind λO=>(F82_v2 (o.fld 2).asList).bind λX=>(F83_v2 (o.fld 3).asList).bind λY=>(aad 0 (Y10 S46_11) ((),(),(),(),U,Z,t,(O.2.length:Int),(0:Int),z,G,H,I,J,(o.fld 0).asStr,(),X,Y,W,O.2)).bind λm=>let M:=m.2.2.2.2.2.2.2.2.2.1;cond (decide (M.length+[(PV.agg [.str m.2.2.2.2.2.2.2.2.2.2.2.2.1,.slice m.2.2.2.2.2.2.2.2.2.2.2.2.2.2.2.2.2,.slice m.2.2.2.2.2.2.2.2.2.2.2.2.2.2.1,.slice m.2.2.2.2.2.2.2.2.2.2.2.2.2.2.2.1,.slice m.2.2.2.2.2.2.2.2.2.2.2.2.2.2.2.2.1])].length<=accMax)) (let V:=M++[(PV.agg [.str m.2.2.2.2.2.2.2.2.2.2.2.2.1,.slice m.2.2.2.2.2.2.2.2.2.2.2.2.2.2.2.2.2,.slice m.2.2.2.2.2.2.2.2.2.2.2.2.2.2.1,.slice m.2.2.2.2.2.2.2.2.2.2.2.2.2.2.2.1,.slice m.2.2.2.2.2.2.2.2.2.2.2.2.2.2.2.2.1])];some (.inl ((),(),(),m.2.2.2.2.1,m.2.2.2.2.2.1,(IntKind.wrap .i64 (m.2.2.2.2.2.2.1+1)),m.2.2.2.2.2.2.2.1,m.2.2.2.2.2.2.2.2.1,V,m.2.2.2.2.2.2.2.2.2.2.1,m.2.2.2.2.2.2.2.2.2.2.2.1))) none) none) (some (.inr ((),(),(),z,G,H,I,J)))
def S46_22(J M O U:Unit)(o:List PV)(t z G m:Int)(s:PV×PV×(List PV)×(List PV)×(List PV)×Bn×Bool×Unit×(List PV)×(List PV)×(List PV)):Option (T14a⊕(Unit×Unit×Unit×Unit×(List PV)×Int×Int×PV×PV×(List PV)×(List PV)×(List PV)×Bn×Bool×Unit×(List PV)×(List PV)×(List PV))):=cond (decide (m<G)) (cond (aab m s.2.2.2.2.2.2.2.2.2.2.length) ((F80 (((s.2.2.2.2.2.2.2.2.2.2.getD m.toNat .bad).fld 2).asList)).bind λI=>cond (aab m s.2.2.2.2.2.2.2.2.2.2.length) (let H:=s.2.2.2.2.2.2.2.2.2.2.set m.toNat (PV.agg [.str (((s.2.2.2.2.2.2.2.2.2.2.getD m.toNat .bad).fld 0).asStr),.int (((s.2.2.2.2.2.2.2.2.2.2.getD m.toNat .bad).fld 1).asInt),.slice I]);some (.inl ((),(),(),(),o,t,z,G,(IntKind.wrap .i64 (m+1)),s.1,s.2.1,s.2.2.1,s.2.2.2.1,s.2.2.2.2.1,s.2.2.2.2.2.1,s.2.2.2.2.2.2.1,(),s.2.2.2.2.2.2.2.2.1,s.2.2.2.2.2.2.2.2.2.1,H))) none) none) (some (.inr ((),(),(),(),o,t,z,s)))
def S46_18(Z aa ab:Unit)(z:List PV)(G t:Int)(H I:PV)(J M O:List PV):Option (T0a⊕T9a):=cond (decide (t<G)) (cond (aab t z.length) (let o:=z.getD t.toNat .bad;(F80 (o.fld 4).asList).bind λX=>(F84_v2 (o.fld 2).asList).bind λV=>(F82_v2 (o.fld 3).asList).bind λY=>(aad 0 (Y10 S46_22) ((),(),(),(),z,G,t,(V.2.length:Int),(0:Int),H,I,J,M,O,(o.fld 0).asStr,(o.fld 1).asBool,(),Y,X,V.2)).bind λm=>let U:=m.2.2.2.2.2.2.2.2.2.2.1;cond (decide (U.length+[(PV.agg [.str m.2.2.2.2.2.2.2.2.2.2.2.2.1,.bool m.2.2.2.2.2.2.2.2.2.2.2.2.2.1,.slice m.2.2.2.2.2.2.2.2.2.2.2.2.2.2.2.2.2,.slice m.2.2.2.2.2.2.2.2.2.2.2.2.2.2.2.1,.slice m.2.2.2.2.2.2.2.2.2.2.2.2.2.2.2.2.1])].length<=accMax)) (let W:=U++[(PV.agg [.str m.2.2.2.2.2.2.2.2.2.2.2.2.1,.bool m.2.2.2.2.2.2.2.2.2.2.2.2.2.1,.slice m.2.2.2.2.2.2.2.2.2.2.2.2.2.2.2.2.2,.slice m.2.2.2.2.2.2.2.2.2.2.2.2.2.2.2.1,.slice m.2.2.2.2.2.2.2.2.2.2.2.2.2.2.2.2.1])];some (.inl ((),(),(),m.2.2.2.2.1,m.2.2.2.2.2.1,(IntKind.wrap .i64 (m.2.2.2.2.2.2.1+1)),m.2.2.2.2.2.2.2.1,m.2.2.2.2.2.2.2.2.1,m.2.2.2.2.2.2.2.2.2.1,W,m.2.2.2.2.2.2.2.2.2.2.2.1))) none) none) (some (.inr ((),(),(),H,I,J,M,O)))
def S46_33(J M O:Unit)(o:List PV)(t z G m:Int)(s:PV×PV×(List PV)×(List PV)×(List PV)×Bn×Unit×(List PV)×(List PV)):Option (T21a⊕(Unit×Unit×Unit×(List PV)×Int×Int×PV×PV×(List PV)×(List PV)×(List PV)×Bn×Unit×(List PV)×(List PV))):=cond (decide (m<G)) (cond (aab m s.2.2.2.2.2.2.2.2.length) ((F80 (((s.2.2.2.2.2.2.2.2.getD m.toNat .bad).fld 4).asList)).bind λI=>cond (aab m s.2.2.2.2.2.2.2.2.length) (let H:=s.2.2.2.2.2.2.2.2.set m.toNat (PV.agg [.str (((s.2.2.2.2.2.2.2.2.getD m.toNat .bad).fld 0).asStr),.str (((s.2.2.2.2.2.2.2.2.getD m.toNat .bad).fld 1).asStr),.str (((s.2.2.2.2.2.2.2.2.getD m.toNat .bad).fld 2).asStr),.int (((s.2.2.2.2.2.2.2.2.getD m.toNat .bad).fld 3).asInt),.slice I]);some (.inl ((),(),(),o,t,z,G,(IntKind.wrap .i64 (m+1)),s.1,s.2.1,s.2.2.1,s.2.2.2.1,s.2.2.2.2.1,s.2.2.2.2.2.1,(),s.2.2.2.2.2.2.2.1,H))) none) none) (some (.inr ((),(),(),o,t,z,s)))
def S46_29(Y Z:Unit)(H:List PV)(I t:Int)(J M:PV)(O U V:List PV):Option (T15a⊕T45a):=cond (decide (t<I)) (cond (aab t H.length) (let o:=H.getD t.toNat .bad;(F80 (o.fld 2).asList).bind λX=>(F85_v2 (o.fld 1).asList).bind λG=>(aad 0 (Y9 S46_33) ((),(),(),H,I,t,(G.2.length:Int),(0:Int),J,M,O,U,V,(o.fld 0).asStr,(),X,G.2)).bind λm=>let z:=m.2.2.2.2.2.2.2.2.2.2.1;cond (decide (z.length+[(PV.agg [.str m.2.2.2.2.2.2.2.2.2.2.2.1,.slice m.2.2.2.2.2.2.2.2.2.2.2.2.2.2,.slice m.2.2.2.2.2.2.2.2.2.2.2.2.2.1])].length<=accMax)) (let W:=z++[(PV.agg [.str m.2.2.2.2.2.2.2.2.2.2.2.1,.slice m.2.2.2.2.2.2.2.2.2.2.2.2.2.2,.slice m.2.2.2.2.2.2.2.2.2.2.2.2.2.1])];some (.inl ((),(),m.2.2.2.1,m.2.2.2.2.1,(IntKind.wrap .i64 (m.2.2.2.2.2.1+1)),m.2.2.2.2.2.2.1,m.2.2.2.2.2.2.2.1,m.2.2.2.2.2.2.2.2.1,m.2.2.2.2.2.2.2.2.2.1,W))) none) none) (some (.inr ((),(),J,M,O,U,V)))
def F46(H:PV):Option PV:=(F55 H).bind λJ=>cond (!J) (some H) (let I:=(H.fld 0).asList;(aad 0 (Y11 S46_6) ((),(),(),I,(I.length:Int),(0:Int),H,(PV.agg [.slice [],.slice [],.slice []]),[],[],[])).bind λm=>let z:=(m.2.2.2.1.fld 1).asList;(aad 0 (Y11 S46_18) ((),(),(),z,(z.length:Int),(0:Int),m.2.2.2.1,m.2.2.2.2.1,m.2.2.2.2.2.1,m.2.2.2.2.2.2.1,m.2.2.2.2.2.2.2)).bind λo=>let G:=(o.2.2.2.1.fld 2).asList;(aad 0 (Y10 S46_29) ((),(),G,(G.length:Int),(0:Int),o.2.2.2.1,o.2.2.2.2.1,o.2.2.2.2.2.1,o.2.2.2.2.2.2.1,o.2.2.2.2.2.2.2)).bind λt=>some (PV.agg [.slice t.2.2.2.2.1,.slice t.2.2.2.2.2.1,.slice t.2.2.2.2.2.2]))
def S46_11l:LoopE:=⟨11,⟨[1,2,3,5,18,19,20,42,43],bx24,(.con (.ref 0 [] 37))::(.con (.ref 1 [] 37))::(.con (.ref 2 [] 37))::(.con (.ref 6 [] 73))::(.slice 73)::(.int .i64)::(.int .i64)::(.int .i64)::(.int .i64)::(.data 37)::(.data 37)::(.acc 3 73)::(.acc 4 88)::(.acc 5 93)::.str::(.con (.arr 7 0 85))::sv45⟩,[(.exit 2,⟨[1,2,3,5,18,19,20],bx24,(.con (.ref 0 [] 37))::(.con (.ref 1 [] 37))::(.con (.ref 2 [] 37))::(.con (.ref 6 [] 73))::(.slice 73)::(.int .i64)::(.int .i64)::(.data 37)::(.data 37)::(.acc 3 73)::(.acc 4 88)::(.acc 5 93)::.str::(.con (.arr 7 0 85))::sv45⟩)],(Y10 S46_11)⟩
def S46_6l:LoopE:=⟨6,⟨[1,2,3,18,19,20],bx25,(.con (.ref 0 [] 37))::(.con (.ref 1 [] 37))::(.con (.ref 2 [] 37))::(.slice 73)::sv46⟩,[(.exit 0,f48)],(Y11 S46_6)⟩
def S46_22l:LoopE:=⟨22,⟨[1,2,3,8,67,68,69,87,88],bx26,[(.con (.ref 0 [] 37)),(.con (.ref 1 [] 37)),(.con (.ref 2 [] 37)),(.con (.ref 6 [] 88)),.slice 88,.int .i64,.int .i64,.int .i64,.int .i64,.data 37,.data 37,.acc 3 73,.acc 4 88,.acc 5 93,.str,.bool,(.con (.arr 7 0 90)),.slice 133,.slice 119,.slice 90]⟩,[(.exit 6,⟨[1,2,3,8,67,68,69],bx26,[(.con (.ref 0 [] 37)),(.con (.ref 1 [] 37)),(.con (.ref 2 [] 37)),(.con (.ref 6 [] 88)),.slice 88,.int .i64,.int .i64,.data 37,.data 37,.acc 3 73,.acc 4 88,.acc 5 93,.str,.bool,(.con (.arr 7 0 90)),.slice 133,.slice 119,.slice 90]⟩)],(Y10 S46_22)⟩
def S46_18l:LoopE:=⟨18,⟨[1,2,3,67,68,69],bx25,(.con (.ref 0 [] 37))::(.con (.ref 1 [] 37))::(.con (.ref 2 [] 37))::(.slice 88)::sv46⟩,[(.exit 4,f48)],(Y11 S46_18)⟩
def S46_33l:LoopE:=⟨33,⟨[2,3,11,112,113,114,128,129],bx27,(.con (.ref 1 [] 37))::(.con (.ref 2 [] 37))::(.con (.ref 6 [] 93))::(.slice 93)::(.int .i64)::(.int .i64)::(.int .i64)::(.int .i64)::(.data 37)::(.data 37)::(.acc 3 73)::(.acc 4 88)::(.acc 5 93)::.str::(.con (.arr 7 0 95))::sv48⟩,[(.exit 10,⟨[2,3,11,112,113,114],bx27,(.con (.ref 1 [] 37))::(.con (.ref 2 [] 37))::(.con (.ref 6 [] 93))::(.slice 93)::(.int .i64)::(.int .i64)::(.data 37)::(.data 37)::(.acc 3 73)::(.acc 4 88)::(.acc 5 93)::.str::(.con (.arr 7 0 95))::sv48⟩)],(Y9 S46_33)⟩
def S46_29l:LoopE:=⟨29,⟨[2,3,112,113,114],bx25,(.con (.ref 1 [] 37))::(.con (.ref 2 [] 37))::(.slice 93)::sv46⟩,[(.exit 8,⟨[2,3],bx25,sv49⟩)],(Y10 S46_29)⟩
def F46c:KT:=xf 46 f6 f6 F46 [F55c,F80c,F81_v2c,F82_v2c,F83_v2c,F84_v2c,F85_v2c] [S46_11l,S46_6l,S46_22l,S46_18l,S46_33l,S46_29l] (L3 (xl S46_6l (L1 (xl S46_11l L0))) (xl S46_18l (L1 (xl S46_22l L0))) (xl S46_29l (L1 (xl S46_33l L0))))
def S215_6(t:Bn)(z:Int)(V:Unit)(I:List PV)(J M:Int)(G:List PV)(O m:Int)(H o:PV):Option (T49a⊕((Bn×PV×PV)⊕(Bn×Int×(List PV)×Int×Int×PV×PV))):=cond (decide (m<O)) (cond (aab m G.length) (let U:=G.getD m.toNat .bad;cond (cond ((o.fld 0).asStr==t) ((IntKind.wrap .u64 (U.fld 1).asInt)==z) false) (some (.inr (.inl ((U.fld 0).asStr,H,o)))) (some (.inl (t,z,(),I,J,M,G,O,(IntKind.wrap .i64 (m+1)),H,o)))) none) (some (.inr (.inr (t,z,I,J,M,H,o))))
def S215_3(O:Bn)(U:Int)(I:List PV)(J H:Int)(M:PV):Option (T89a⊕T111a):=cond (decide (H<J)) (cond (aab H I.length) (let o:=I.getD H.toNat .bad;let t:=(o.fld 2).asList;(aad 0 (Y11 S215_6) (O,U,(),I,J,H,t,(t.length:Int),(0:Int),M,o)).bind λz=>sumE (λG=>some (.inr (.inl (G.1,G.2.1))) ) (λm=>some (.inl (m.1,m.2.1,m.2.2.1,m.2.2.2.1,(IntKind.wrap .i64 (m.2.2.2.2.1+1)),m.2.2.2.2.2.1)) ) z) none) (some (.inr (.inr M)))
def F215(o:PV)(t:Bn)(G:Int):Option Bn:=let x1:=(o.fld 1).asList;(aad 0 (Y6 S215_3) (t,G,x1,(x1.length:Int),(0:Int),o)).bind λz=>sumE (λm=>some m.1 ) (λH=>some ([]:Bn) ) z
def S215_6l:LoopE:=⟨6,⟨[1,2,8,12,13,14,19,20,21],bx3,.str::(.int .u64)::(.con (.ref 1 [] 88))::(.slice 88)::(.int .i64)::(.int .i64)::(.slice 90)::sv10⟩,[(.ret,⟨[6],bx3,.str::sv50⟩),(.exit 2,⟨[1,2,12,13,14],bx3,.str::(.int .u64)::(.slice 88)::sv10⟩)],(Y11 S215_6)⟩
def S215_3l:LoopE:=⟨3,⟨[1,2,12,13,14],bx2,.str::(.int .u64)::(.slice 88)::sv51⟩,[(.ret,f96),(.exit 0,f49)],(Y6 S215_3)⟩
def F215c:KT:=xf 215 f70 f4 (u3 F215) [] [S215_6l,S215_3l] (L1 (xl S215_3l (L1 (xl S215_6l L0))))
def F216(m:List PV):Option Bn:=(amr 0 m ([]:Bn)).bind λo=>some o
def F216c:KT:=xj 216 f12 f4 F216 [⟨as2 0,ao6 0⟩]
def F142(m:Bn):Option Bn:=(F216 [(PV.str ([46]:Bn)),(PV.str m)]).bind λo=>some o
def F142c:KT:=xj 142 f4 f4 F142 [F216c]
def F141(G m:PV):Option PV:=cond (cond ((m.fld 6).asBool) ((((m.fld 4).fld 0).asInt)==9) false) ((F215 G (((m.fld 4).fld 1).asStr) (((m.fld 7).fld 1).asInt)).bind λz=>cond (cond ((((m.fld 4).fld 0).asInt)==10) true ((((m.fld 4).fld 0).asInt)==9)) ((F142 (((m.fld 4).fld 1).asStr)).bind λo=>some (PV.agg [.int (m.fld 0).asInt,.str (m.fld 1).asStr,.int (m.fld 2).asInt,.int (m.fld 3).asInt,.agg [.int 0,.str o],.str (m.fld 5).asStr,.bool (m.fld 6).asBool,.agg [.int 9,.int 0,.str z,.slice [],.slice [],.slice [],.slice []],.slice (m.fld 8).asList])) (some (PV.agg [.int (m.fld 0).asInt,.str (m.fld 1).asStr,.int (m.fld 2).asInt,.int (m.fld 3).asInt,m.fld 4,.str (m.fld 5).asStr,.bool (m.fld 6).asBool,.agg [.int 9,.int 0,.str z,.slice [],.slice [],.slice [],.slice []],.slice (m.fld 8).asList]))) (cond (cond ((((m.fld 4).fld 0).asInt)==10) true ((((m.fld 4).fld 0).asInt)==9)) ((F142 (((m.fld 4).fld 1).asStr)).bind λt=>some (PV.agg [.int (m.fld 0).asInt,.str (m.fld 1).asStr,.int (m.fld 2).asInt,.int (m.fld 3).asInt,.agg [.int 0,.str t],.str (m.fld 5).asStr,.bool (m.fld 6).asBool,m.fld 7,.slice (m.fld 8).asList])) (some m))
def F141c:KT:=xj 141 f65 f13 (u2 F141) [F215c,F142c]
def S97_8(I J M O:Unit)(o:List PV)(t z:Int)(U:Unit)(G m:Int)(s:PV×PV×Bn×Bn×(List PV)×(List PV)×(List PV)×(List PV)×Bn×Unit×(List PV)×(List PV)×(List PV)×(List PV)):Option (T3a⊕(Unit×Unit×Unit×Unit×(List PV)×Int×Int×PV×PV×Bn×Bn×(List PV)×(List PV)×(List PV)×(List PV)×Bn×Unit×(List PV)×(List PV)×(List PV)×(List PV))):=cond (decide (m<G)) (cond (aab m s.2.2.2.2.2.2.2.2.2.2.2.2.2.length) ((F141 s.1 (s.2.2.2.2.2.2.2.2.2.2.2.2.2.getD m.toNat .bad)).bind λH=>cond (aab m s.2.2.2.2.2.2.2.2.2.2.2.2.2.length) (some (.inl ((),(),(),(),o,t,z,(),G,(IntKind.wrap .i64 (m+1)),s.1,s.2.1,s.2.2.1,s.2.2.2.1,s.2.2.2.2.1,s.2.2.2.2.2.1,s.2.2.2.2.2.2.1,s.2.2.2.2.2.2.2.1,s.2.2.2.2.2.2.2.2.1,(),s.2.2.2.2.2.2.2.2.2.2.1,s.2.2.2.2.2.2.2.2.2.2.2.1,s.2.2.2.2.2.2.2.2.2.2.2.2.1,(s.2.2.2.2.2.2.2.2.2.2.2.2.2.set m.toNat H)))) none) none) (some (.inr ((),(),(),(),o,t,z,s)))
def S97_4(M O U:Unit)(H:List PV)(J G:Int)(s:PV×PV×Bn×Bn×(List PV)×(List PV)×(List PV)×(List PV)):Option (T26a⊕T30a):=cond (decide (G<J)) (cond (aab G H.length) (let o:=H.getD G.toNat .bad;(F81_v2 (o.fld 1).asList).bind λz=>(aad 0 (Y11 S97_8) ((),(),(),(),H,J,G,(),(z.2.length:Int),(0:Int),s.1,s.2.1,s.2.2.1,s.2.2.2.1,s.2.2.2.2.1,s.2.2.2.2.2.1,s.2.2.2.2.2.2.1,s.2.2.2.2.2.2.2,(o.fld 0).asStr,(),(o.fld 2).asList,(o.fld 3).asList,(o.fld 4).asList,z.2)).bind λm=>let t:=m.2.2.2.2.2.2.2.2.2.2.2.2.1;cond (decide (t.length+[(PV.agg [.str m.2.2.2.2.2.2.2.2.2.2.2.2.2.2.2.1,.slice m.2.2.2.2.2.2.2.2.2.2.2.2.2.2.2.2.2.2.2.2,.slice m.2.2.2.2.2.2.2.2.2.2.2.2.2.2.2.2.2.1,.slice m.2.2.2.2.2.2.2.2.2.2.2.2.2.2.2.2.2.2.1,.slice m.2.2.2.2.2.2.2.2.2.2.2.2.2.2.2.2.2.2.2.1])].length<=accMax)) (let I:=t++[(PV.agg [.str m.2.2.2.2.2.2.2.2.2.2.2.2.2.2.2.1,.slice m.2.2.2.2.2.2.2.2.2.2.2.2.2.2.2.2.2.2.2.2,.slice m.2.2.2.2.2.2.2.2.2.2.2.2.2.2.2.2.2.1,.slice m.2.2.2.2.2.2.2.2.2.2.2.2.2.2.2.2.2.2.1,.slice m.2.2.2.2.2.2.2.2.2.2.2.2.2.2.2.2.2.2.2.1])];some (.inl ((),(),(),m.2.2.2.2.1,m.2.2.2.2.2.1,(IntKind.wrap .i64 (m.2.2.2.2.2.2.1+1)),m.2.2.2.2.2.2.2.1,m.2.2.2.2.2.2.2.2.1,m.2.2.2.2.2.2.2.2.2.1,m.2.2.2.2.2.2.2.2.2.2.1,m.2.2.2.2.2.2.2.2.2.2.2.1,I,m.2.2.2.2.2.2.2.2.2.2.2.2.2.1,m.2.2.2.2.2.2.2.2.2.2.2.2.2.2.1))) none) none) (some (.inr ((),(),(),s)))
def S97_19(O U V:Unit)(t:List PV)(z G H m:Int)(s:PV×PV×Bn×Bn×(List PV)×(List PV)×(List PV)×(List PV)×Bn×Unit×(List PV)×(List PV)):Option (T10a⊕(Unit×Unit×Unit×(List PV)×Int×Int×PV×PV×Bn×Bn×(List PV)×(List PV)×(List PV)×(List PV)×Bn×Unit×(List PV)×(List PV))):=cond (decide (m<H)) (cond (aab m s.2.2.2.2.2.2.2.2.2.2.2.length) ((F142 (((s.2.2.2.2.2.2.2.2.2.2.2.getD m.toNat .bad).fld 1).asStr)).bind λJ=>(F142 (((s.2.2.2.2.2.2.2.2.2.2.2.getD m.toNat .bad).fld 2).asStr)).bind λM=>let o:=s.2.2.2.2.2.2.2.2.2.2.2.set m.toNat (PV.agg [.str (((s.2.2.2.2.2.2.2.2.2.2.2.getD m.toNat .bad).fld 0).asStr),.str J,.str (((s.2.2.2.2.2.2.2.2.2.2.2.getD m.toNat .bad).fld 2).asStr),.int (((s.2.2.2.2.2.2.2.2.2.2.2.getD m.toNat .bad).fld 3).asInt),.slice (((s.2.2.2.2.2.2.2.2.2.2.2.getD m.toNat .bad).fld 4).asList)]);let I:=o.set m.toNat (PV.agg [.str (((o.getD m.toNat .bad).fld 0).asStr),.str (((o.getD m.toNat .bad).fld 1).asStr),.str M,.int (((o.getD m.toNat .bad).fld 3).asInt),.slice (((o.getD m.toNat .bad).fld 4).asList)]);some (.inl ((),(),(),t,z,G,H,(IntKind.wrap .i64 (m+1)),s.1,s.2.1,s.2.2.1,s.2.2.2.1,s.2.2.2.2.1,s.2.2.2.2.2.1,s.2.2.2.2.2.2.1,s.2.2.2.2.2.2.2.1,s.2.2.2.2.2.2.2.2.1,(),s.2.2.2.2.2.2.2.2.2.2.1,I))) none) (some (.inr ((),(),(),t,z,G,s)))
def S97_15(M O:Unit)(t:List PV)(G o:Int)(s:PV×PV×Bn×Bn×(List PV)×(List PV)×(List PV)×(List PV)):Option (T27a⊕T36a):=cond (decide (o<G)) (cond (aab o t.length) (let z:=t.getD o.toNat .bad;(F85_v2 (z.fld 1).asList).bind λI=>(aad 0 (Y9 S97_19) ((),(),(),t,G,o,(I.2.length:Int),(0:Int),s.1,s.2.1,s.2.2.1,s.2.2.2.1,s.2.2.2.2.1,s.2.2.2.2.2.1,s.2.2.2.2.2.2.1,s.2.2.2.2.2.2.2,(z.fld 0).asStr,(),(z.fld 2).asList,I.2)).bind λm=>let H:=m.2.2.2.2.2.2.2.2.2.2.2.2.2.1;cond (decide (H.length+[(PV.agg [.str m.2.2.2.2.2.2.2.2.2.2.2.2.2.2.1,.slice m.2.2.2.2.2.2.2.2.2.2.2.2.2.2.2.2.2,.slice m.2.2.2.2.2.2.2.2.2.2.2.2.2.2.2.2.1])].length<=accMax)) (let J:=H++[(PV.agg [.str m.2.2.2.2.2.2.2.2.2.2.2.2.2.2.1,.slice m.2.2.2.2.2.2.2.2.2.2.2.2.2.2.2.2.2,.slice m.2.2.2.2.2.2.2.2.2.2.2.2.2.2.2.2.1])];some (.inl ((),(),m.2.2.2.1,m.2.2.2.2.1,(IntKind.wrap .i64 (m.2.2.2.2.2.1+1)),m.2.2.2.2.2.2.1,m.2.2.2.2.2.2.2.1,m.2.2.2.2.2.2.2.2.1,m.2.2.2.2.2.2.2.2.2.1,m.2.2.2.2.2.2.2.2.2.2.1,m.2.2.2.2.2.2.2.2.2.2.2.1,m.2.2.2.2.2.2.2.2.2.2.2.2.1,J))) none) none) (some (.inr ((),(),s)))
def F97(z:PV):Option PV:=let G:=(z.fld 0).asList;(aad 0 (Y7 S97_4) ((),(),(),G,(G.length:Int),(0:Int),z,(PV.agg [.str ([]:Bn),.str ([]:Bn),.slice [],.slice [],.slice [],.slice []]),([]:Bn),([]:Bn),[],[],(z.fld 1).asList,[])).bind λt=>let o:=(t.2.2.2.1.fld 2).asList;(aad 0 (Y6 S97_15) ((),(),o,(o.length:Int),(0:Int),t.2.2.2)).bind λm=>some (PV.agg [.str m.2.2.2.2.1,.str m.2.2.2.2.2.1,.slice m.2.2.2.2.2.2.1,.slice m.2.2.2.2.2.2.2.1,.slice m.2.2.2.2.2.2.2.2.1,.slice m.2.2.2.2.2.2.2.2.2])
def S97_8l:LoopE:=⟨8,⟨[1,2,3,5,16,17,18,27,28,29],bx28,(.con (.ref 0 [] 37))::(.con (.ref 1 [] 142))::(.con (.ref 2 [] 142))::(.con (.ref 5 [] 73))::(.slice 73)::(.int .i64)::(.int .i64)::(.con (.arr 6 0 85))::(.int .i64)::(.int .i64)::(.data 37)::(.data 142)::.str::.str::(.slice 9)::(.acc 3 73)::(.slice 88)::(.acc 4 93)::.str::(.con (.arr 6 0 85))::sv45⟩,[(.exit 2,⟨[1,2,3,5,16,17,18],bx28,(.con (.ref 0 [] 37))::(.con (.ref 1 [] 142))::(.con (.ref 2 [] 142))::(.con (.ref 5 [] 73))::(.slice 73)::(.int .i64)::(.int .i64)::(.data 37)::(.data 142)::.str::.str::(.slice 9)::(.acc 3 73)::(.slice 88)::(.acc 4 93)::.str::(.con (.arr 6 0 85))::sv45⟩)],(Y11 S97_8)⟩
def S97_4l:LoopE:=⟨4,⟨[1,2,3,16,17,18],bx29,(.con (.ref 0 [] 37))::(.con (.ref 1 [] 142))::(.con (.ref 2 [] 142))::(.slice 73)::(.int .i64)::sv53⟩,[(.exit 0,f50)],(Y7 S97_4)⟩
def S97_19l:LoopE:=⟨19,⟨[2,3,9,50,51,52,62,63],bx30,(.con (.ref 1 [] 142))::(.con (.ref 2 [] 142))::(.con (.ref 5 [] 93))::(.slice 93)::(.int .i64)::(.int .i64)::(.int .i64)::(.int .i64)::(.data 37)::(.data 142)::.str::.str::(.slice 9)::(.acc 3 73)::(.slice 88)::(.acc 4 93)::.str::(.con (.arr 6 0 95))::sv48⟩,[(.exit 6,⟨[2,3,9,50,51,52],bx30,(.con (.ref 1 [] 142))::(.con (.ref 2 [] 142))::(.con (.ref 5 [] 93))::(.slice 93)::(.int .i64)::(.int .i64)::(.data 37)::(.data 142)::.str::.str::(.slice 9)::(.acc 3 73)::(.slice 88)::(.acc 4 93)::.str::(.con (.arr 6 0 95))::sv48⟩)],(Y9 S97_19)⟩
def S97_15l:LoopE:=⟨15,⟨[2,3,50,51,52],bx29,(.con (.ref 1 [] 142))::(.con (.ref 2 [] 142))::(.slice 93)::(.int .i64)::sv53⟩,[(.exit 4,⟨[2,3],bx29,sv54⟩)],(Y6 S97_15)⟩
def F97c:KT:=xf 97 f6 f7 F97 [F81_v2c,F141c,F85_v2c,F142c] [S97_8l,S97_4l,S97_19l,S97_15l] (L2 (xl S97_4l (L1 (xl S97_8l L0))) (xl S97_15l (L1 (xl S97_19l L0))))
def F284(o:Bn):Option Bool:=(F36 o).bind λm=>(cond m (ant 0 o ([46]:Bn)) (some [])).bind λt=>(cond m (F184_c271 t ()) (some false)).bind λz=>some (cond m (!z) false)
def F284c:KT:=xj 284 f4 f0 F284 [F36c,⟨ao8 0,aoq 0⟩,F184_c271c]
def F289(m:Bn):Option Bool:=(F70 m).bind λo=>(cond o (F271 m) (some false)).bind λt=>some (cond o (!t) false)
def F289c:KT:=xj 289 f4 f0 F289 [F70c,F271c]
def F378(m:Int):Option Bool:=some (cond (decide (m>=1)) (decide (m<=8)) false)
def F378c:KT:=xj 378 f5 f0 F378 []
def F435(m t:Bn):Option Bn:=(F443 m t).bind λz=>cond z (let o:=(t.length:Int);cond (decide (0<=o/\o<=(m.length:Int)/\(m.length:Int)<=(m.length:Int))) (some ((m.take (m.length:Int).toNat).drop o.toNat)) none) (some m)
def F435c:KT:=xj 435 f31 f4 (u2 F435) [F443c]
def F387(m o:Bn):Option Bn:=(F435 m o).bind λt=>some t
def F387c:KT:=xj 387 f31 f4 (u2 F387) [F435c]
def F299(m:Bn):Option Bool:=(F387 m ([46]:Bn)).bind λo=>(F36 o).bind λt=>some t
def F299c:KT:=xj 299 f4 f0 F299 [F387c,F36c]
def F432 :Option PV:=let x1:=(PV.agg [.str ([98,111,111,108]:Bn),.str ([105,51,50]:Bn),.str ([105,54,52]:Bn),.str ([117,51,50]:Bn),.str ([117,54,52]:Bn),.str ([100,111,117,98,108,101]:Bn),.str ([116,101,120,116]:Bn),.str ([98,121,116,101,115]:Bn)]);some x1
def F432c:KT:=xj 432 ⟨0,[],[]⟩ ⟨1,[],[.data 381]⟩ (λx=>F432 ) []
def S379_3(o:Bn)(t:PV)(m:Int):Option ((Bn×PV×Int)⊕T104a):=cond (decide (m<8)) (cond (aab m 8) (cond ((t.fld m.toNat).asStr==o) (some (.inr (.inl (IntKind.wrap .i64 (m+1))))) (some (.inl (o,t,(IntKind.wrap .i64 (m+1)))))) none) (some (.inr (.inr ())))
def F379(o:Bn):Option Int:=F432.bind λt=>(aad 0 (Y3 S379_3) (o,t,(0:Int))).bind λz=>sumE (λm=>some m ) (λG=>some (0:Int) ) z
def S379_3l:LoopE:=⟨3,⟨[0,5,6],[],[.str,.data 381,.int .i64]⟩,[(.ret,⟨[2],[],[.int .i64]⟩),(.exit 0,f8)],(Y3 S379_3)⟩
def F379c:KT:=xf 379 f4 f5 F379 [F432c] [S379_3l] (L1 (xl S379_3l L0))
def F290(m:PV):Option Bool:=(F378 (m.fld 0).asInt).bind λt=>cond t (some ((m.fld 1).asStr==([]:Bn))) ((F299 (m.fld 1).asStr).bind λo=>(cond o (F379 (m.fld 1).asStr) (some 0)).bind λz=>some (cond o (z==0) false))
def F290c:KT:=xj 290 f58 f0 F290 [F378c,F299c,F379c]
def F288(m:PV):Option Bool:=(F289 (m.fld 1).asStr).bind λG=>let t:=(m.fld 5).asStr==([]:Bn);(cond (cond (!t) G false) (F289 (m.fld 5).asStr) (some false)).bind λH=>let z:=cond G (cond t true H) false;(cond z (F290 (m.fld 4)) (some false)).bind λo=>some (cond z o false)
def F288c:KT:=xj 288 f13 f0 F288 [F289c,F290c]
def F377(m:PV)(t z:Unit):Option (Bool×Unit):=(F288 m).bind λo=>some ((!o),())
def F377c:KT:=xj 377 ⟨2,bx31,[.data 85,(.con (.ref 0 [] 283)),(.con (.fn 288 0 []))]⟩ ⟨1,bx31,[.bool,(.con (.fn 288 0 []))]⟩ (u3 F377) [F288c]
def F426_c377g(e:PV)(c:Unit):Option (Bool×Unit):=F377 e () c
def F426_c377c:KT:=ixK 426 85 (.fn 377 0 [(.ref 0 [] 283)]) [.box 283 .leaf] (.con (.fn 288 0 [])) [] F426_c377g (F377c)
def F364_c377(m:List PV)(t o:Unit):Option (Bool×Unit):=cfF F426_c377g m o
def F364_c377c:KT:=cfK 364 85 (.fn 377 0 [(.ref 0 [] 283)]) [.box 283 .leaf] (.con (.fn 288 0 [])) [] F426_c377g (F426_c377c)
def F287_c288(m:List PV)(t:Unit):Option Bool:=(F364_c377 m () ()).bind λo=>some (!o.1)
def F287_c288c:KT:=xj 287 ⟨2,[],[.slice 85,(.con (.fn 288 0 []))]⟩ f0 (u2 F287_c288) [F364_c377c]
def F286(m:PV):Option Bool:=(F284 (m.fld 0).asStr).bind λo=>(cond o (F287_c288 (m.fld 1).asList ()) (some false)).bind λt=>some (cond o t false)
def F286c:KT:=xj 286 f22 f0 F286 [F284c,F287_c288c]
def F376(m:PV)(t z:Unit):Option (Bool×Unit):=(F286 m).bind λo=>some ((!o),())
def F376c:KT:=xj 376 ⟨2,bx32,[.data 73,(.con (.ref 0 [] 147)),(.con (.fn 286 0 []))]⟩ ⟨1,bx32,[.bool,(.con (.fn 286 0 []))]⟩ (u3 F376) [F286c]
def F138_c376g(e:PV)(c:Unit):Option (Bool×Unit):=F376 e () c
def F138_c376c:KT:=ixK 138 73 (.fn 376 0 [(.ref 0 [] 147)]) [.box 147 .leaf] (.con (.fn 286 0 [])) [] F138_c376g (F376c)
def F94_c376(m:List PV)(t o:Unit):Option (Bool×Unit):=cfF F138_c376g m o
def F94_c376c:KT:=cfK 94 73 (.fn 376 0 [(.ref 0 [] 147)]) [.box 147 .leaf] (.con (.fn 286 0 [])) [] F138_c376g (F138_c376c)
def F285_c286(m:List PV)(t:Unit):Option Bool:=(F94_c376 m () ()).bind λo=>some (!o.1)
def F285_c286c:KT:=xj 285 ⟨2,[],[.slice 73,(.con (.fn 286 0 []))]⟩ f0 (u2 F285_c286) [F94_c376c]
def F294(m:PV):Option Bool:=(F289 (m.fld 0).asStr).bind λo=>some o
def F294c:KT:=xj 294 f81 f0 F294 [F289c]
def F382(m:PV)(t z:Unit):Option (Bool×Unit):=(F294 m).bind λo=>some ((!o),())
def F382c:KT:=xj 382 ⟨2,bx33,[.data 90,(.con (.ref 0 [] 303)),(.con (.fn 294 0 []))]⟩ ⟨1,bx33,[.bool,(.con (.fn 294 0 []))]⟩ (u3 F382) [F294c]
def F374_c382g(e:PV)(c:Unit):Option (Bool×Unit):=F382 e () c
def F374_c382c:KT:=ixK 374 90 (.fn 382 0 [(.ref 0 [] 303)]) [.box 303 .leaf] (.con (.fn 294 0 [])) [] F374_c382g (F382c)
def F280_c382(m:List PV)(t o:Unit):Option (Bool×Unit):=cfF F374_c382g m o
def F280_c382c:KT:=cfK 280 90 (.fn 382 0 [(.ref 0 [] 303)]) [.box 303 .leaf] (.con (.fn 294 0 [])) [] F374_c382g (F374_c382c)
def F293_c294(m:List PV)(t:Unit):Option Bool:=(F280_c382 m () ()).bind λo=>some (!o.1)
def F293_c294c:KT:=xj 293 ⟨2,[],[.slice 90,(.con (.fn 294 0 []))]⟩ f0 (u2 F293_c294) [F280_c382c]
def F292(m:PV):Option Bool:=(F284 (m.fld 0).asStr).bind λo=>(cond o (F293_c294 (m.fld 2).asList ()) (some false)).bind λt=>some (cond o t false)
def F292c:KT:=xj 292 f23 f0 F292 [F284c,F293_c294c]
def F381(m:PV)(t z:Unit):Option (Bool×Unit):=(F292 m).bind λo=>some ((!o),())
def F381c:KT:=xj 381 ⟨2,bx34,[.data 88,(.con (.ref 0 [] 308)),(.con (.fn 292 0 []))]⟩ ⟨1,bx34,[.bool,(.con (.fn 292 0 []))]⟩ (u3 F381) [F292c]
def F409_c381g(e:PV)(c:Unit):Option (Bool×Unit):=F381 e () c
def F409_c381c:KT:=ixK 409 88 (.fn 381 0 [(.ref 0 [] 308)]) [.box 308 .leaf] (.con (.fn 292 0 [])) [] F409_c381g (F381c)
def F380_c381(m:List PV)(t o:Unit):Option (Bool×Unit):=cfF F409_c381g m o
def F380_c381c:KT:=cfK 380 88 (.fn 381 0 [(.ref 0 [] 308)]) [.box 308 .leaf] (.con (.fn 292 0 [])) [] F409_c381g (F409_c381c)
def F291_c292(m:List PV)(t:Unit):Option Bool:=(F380_c381 m () ()).bind λo=>some (!o.1)
def F291_c292c:KT:=xj 291 ⟨2,[],[.slice 88,(.con (.fn 292 0 []))]⟩ f0 (u2 F291_c292) [F380_c381c]
def F298(m:PV):Option Bool:=(F289 (m.fld 0).asStr).bind λt=>(cond t (F299 (m.fld 1).asStr) (some false)).bind λz=>let o:=cond t z false;(cond o (F299 (m.fld 2).asStr) (some false)).bind λG=>some (cond (cond (cond o G false) (!((m.fld 1).asStr==([115,116,114,101,97,109]:Bn))) false) (!((m.fld 2).asStr==([115,116,114,101,97,109]:Bn))) false)
def F298c:KT:=xj 298 ⟨1,[],[.data 95]⟩ f0 F298 [F289c,F299c]
def F386(m:PV)(t z:Unit):Option (Bool×Unit):=(F298 m).bind λo=>some ((!o),())
def F386c:KT:=xj 386 ⟨2,bx35,[.data 95,(.con (.ref 0 [] 311)),(.con (.fn 298 0 []))]⟩ ⟨1,bx35,[.bool,(.con (.fn 298 0 []))]⟩ (u3 F386) [F298c]
def F434_c386g(e:PV)(c:Unit):Option (Bool×Unit):=F386 e () c
def F434_c386c:KT:=ixK 434 95 (.fn 386 0 [(.ref 0 [] 311)]) [.box 311 .leaf] (.con (.fn 298 0 [])) [] F434_c386g (F386c)
def F385_c386(m:List PV)(t o:Unit):Option (Bool×Unit):=cfF F434_c386g m o
def F385_c386c:KT:=cfK 385 95 (.fn 386 0 [(.ref 0 [] 311)]) [.box 311 .leaf] (.con (.fn 298 0 [])) [] F434_c386g (F434_c386c)
def F297_c298(m:List PV)(t:Unit):Option Bool:=(F385_c386 m () ()).bind λo=>some (!o.1)
def F297_c298c:KT:=xj 297 ⟨2,[],[.slice 95,(.con (.fn 298 0 []))]⟩ f0 (u2 F297_c298) [F385_c386c]
def F296(m:PV):Option Bool:=(F284 (m.fld 0).asStr).bind λo=>(cond o (F297_c298 (m.fld 1).asList ()) (some false)).bind λt=>some (cond o t false)
def F296c:KT:=xj 296 f33 f0 F296 [F284c,F297_c298c]
def F384(m:PV)(t z:Unit):Option (Bool×Unit):=(F296 m).bind λo=>some ((!o),())
def F384c:KT:=xj 384 ⟨2,bx36,[.data 93,(.con (.ref 0 [] 312)),(.con (.fn 296 0 []))]⟩ ⟨1,bx36,[.bool,(.con (.fn 296 0 []))]⟩ (u3 F384) [F296c]
def F433_c384g(e:PV)(c:Unit):Option (Bool×Unit):=F384 e () c
def F433_c384c:KT:=ixK 433 93 (.fn 384 0 [(.ref 0 [] 312)]) [.box 312 .leaf] (.con (.fn 296 0 [])) [] F433_c384g (F384c)
def F383_c384(m:List PV)(t o:Unit):Option (Bool×Unit):=cfF F433_c384g m o
def F383_c384c:KT:=cfK 383 93 (.fn 384 0 [(.ref 0 [] 312)]) [.box 312 .leaf] (.con (.fn 296 0 [])) [] F433_c384g (F433_c384c)
def F295_c296(m:List PV)(t:Unit):Option Bool:=(F383_c384 m () ()).bind λo=>some (!o.1)
def F295_c296c:KT:=xj 295 ⟨2,[],[.slice 93,(.con (.fn 296 0 []))]⟩ f0 (u2 F295_c296) [F383_c384c]
def F200(m:PV):Option Bool:=let G:=!((m.fld 1).asStr==([]:Bn));(cond G (F284 (m.fld 1).asStr) (some false)).bind λI=>cond (cond G (!I) false) (some false) ((F285_c286 (m.fld 3).asList ()).bind λH=>(cond H (F291_c292 (m.fld 4).asList ()) (some false)).bind λt=>let o:=cond H t false;(cond o (F295_c296 (m.fld 5).asList ()) (some false)).bind λz=>some (cond o z false))
def F200c:KT:=xj 200 f7 f0 F200 [F284c,F285_c286c,F291_c292c,F295_c296c]
def F388(o m:Int):Option Bool:=cond (o != 5) (some (m==0)) (some (cond (cond (decide (m>=1)) (decide (m<=7)) false) (m != 6) false))
def F388c:KT:=xj 388 ⟨2,[],sv28⟩ f0 (u2 F388) []
def F436(m:PV):Option Bool:=some (cond (cond (cond ((m.fld 0).asInt==0) ((m.fld 1).asInt==0) false) ((m.fld 2).asStr==([]:Bn)) false) ((IntKind.wrap .i64 ((IntKind.wrap .i64 ((IntKind.wrap .i64 (((m.fld 3).asList.length:Int)+((m.fld 4).asList.length:Int)))+((m.fld 5).asList.length:Int)))+((m.fld 6).asList.length:Int)))==0) false)
def F436c:KT:=xj 436 f9 f0 F436 []
def F437(m:PV):Option Bool:=let o:=(m.fld 0).asInt==9;(cond o (F289 (m.fld 2).asStr) (some false)).bind λt=>some (cond (cond (cond o t false) ((m.fld 1).asInt==0) false) ((IntKind.wrap .i64 ((IntKind.wrap .i64 ((IntKind.wrap .i64 (((m.fld 3).asList.length:Int)+((m.fld 4).asList.length:Int)))+((m.fld 5).asList.length:Int)))+((m.fld 6).asList.length:Int)))==0) false)
def F437c:KT:=xj 437 f9 f0 F437 [F289c]
def F389(m:PV):Option Bool:=cond (!(m.fld 6).asBool) ((F436 (m.fld 7)).bind λG=>some G) (cond ((m.fld 2).asInt==5) (some false) (cond ((((m.fld 4).fld 0).asInt)==0) ((F437 (m.fld 7)).bind λo=>some o) ((F371 (m.fld 7)).bind λt=>(F370 (((m.fld 4).fld 0).asInt) (m.fld 7)).bind λz=>some (cond z ((t.fld 1).asInt==(((m.fld 7).fld 1).asInt)) false))))
def F389c:KT:=xj 389 f13 f0 F389 [F436c,F437c,F371c,F370c]
def F301(m:PV):Option Bool:=let o:=cond (cond (cond (decide (((m.fld 0).asInt)>=0)) (decide ((m.fld 0).asInt<=65535)) false) (decide (((m.fld 2).asInt)>=1)) false) (decide ((m.fld 2).asInt<=5)) false;(cond o (F388 (m.fld 2).asInt (m.fld 3).asInt) (some false)).bind λH=>let t:=cond o H false;let z:=(((m.fld 4).fld 0).asInt)==0;(cond (cond (!z) t false) (F378 (((m.fld 4).fld 0).asInt)) (some false)).bind λI=>let G:=cond (cond t (cond z true I) false) (cond ((m.fld 5).asStr==([]:Bn)) true (cond ((m.fld 2).asInt==2) (!(m.fld 6).asBool) false)) false;(cond G (F389 m) (some false)).bind λJ=>some (cond G J false)
def F301c:KT:=xj 301 f13 f0 F301 [F388c,F378c,F389c]
def F377_v1(m:PV)(t z:Unit):Option (Bool×Unit):=(F301 m).bind λo=>some ((!o),())
def F377_v1c:KT:=xj 377 ⟨2,bx31,[.data 85,(.con (.ref 0 [] 283)),(.con (.fn 301 0 []))]⟩ ⟨1,bx31,[.bool,(.con (.fn 301 0 []))]⟩ (u3 F377_v1) [F301c]
def F426_c377_v1g(e:PV)(c:Unit):Option (Bool×Unit):=F377_v1 e () c
def F426_c377_v1c:KT:=ixK 426 85 (.fn 377 0 [(.ref 0 [] 283)]) [.box 283 .leaf] (.con (.fn 301 0 [])) [] F426_c377_v1g (F377_v1c)
def F364_c377_v1(m:List PV)(t o:Unit):Option (Bool×Unit):=cfF F426_c377_v1g m o
def F364_c377_v1c:KT:=cfK 364 85 (.fn 377 0 [(.ref 0 [] 283)]) [.box 283 .leaf] (.con (.fn 301 0 [])) [] F426_c377_v1g (F426_c377_v1c)
def F287_c301(m:List PV)(t:Unit):Option Bool:=(F364_c377_v1 m () ()).bind λo=>some (!o.1)
def F287_c301c:KT:=xj 287 ⟨2,[],[.slice 85,(.con (.fn 301 0 []))]⟩ f0 (u2 F287_c301) [F364_c377_v1c]
def S302_6(m:List PV)(t J M G o:Int):Option (T97a⊕((Bool)⊕((List PV)×Int×Int))):=cond (decide (o<G)) (cond (aab o m.length) (cond (aab t m.length) (let H:=((m.getD o.toNat .bad).fld 5).asStr==((m.getD t.toNat .bad).fld 5).asStr;cond (imp H (aab t m.length)) (let z:=cond H (!(((m.getD t.toNat .bad).fld 5).asStr==([]:Bn))) false;let I:=IntKind.wrap .i64 (t-1);cond (imp z (aab I m.length)) (cond (imp z (aab t m.length)) (cond (cond z (!(((m.getD I.toNat .bad).fld 5).asStr==((m.getD t.toNat .bad).fld 5).asStr)) false) (some (.inr (.inl false))) (some (.inl (m,t,J,M,G,(IntKind.wrap .i64 (o+1)))))) none) none) none) none) none) (some (.inr (.inr (m,J,M))))
def S302_3(H:List PV)(G o:Int):Option (T20a⊕T23a):=cond (decide (o<G)) ((aad 0 (Y6 S302_6) (H,o,G,o,o,(0:Int))).bind λz=>sumE (λt=>some (.inr (.inl t)) ) (λm=>some (.inl (m.1,m.2.1,(IntKind.wrap .i64 (m.2.2+1)))) ) z) (some (.inr (.inr ())))
def F302(o:List PV):Option Bool:=(aad 0 (Y3 S302_3) (o,(o.length:Int),(0:Int))).bind λz=>sumE (λm=>some m ) (λt=>some true ) z
def S302_6l:LoopE:=⟨6,⟨[0,3,6,7,10,11],[],(.slice 85)::(.int .i64)::(.int .i64)::(.int .i64)::sv28⟩,[(.ret,f10),(.exit 2,⟨[0,6,7],[],sv55⟩)],(Y6 S302_6)⟩
def S302_3l:LoopE:=⟨3,⟨[0,6,7],[],sv55⟩,[(.ret,f10),(.exit 0,f8)],(Y3 S302_3)⟩
def F302c:KT:=xf 302 f76 f0 F302 [] [S302_6l,S302_3l] (L1 (xl S302_3l (L1 (xl S302_6l L0))))
def F391(m:PV)(H:Unit)(o:Int):Option (Bool×Int):=let x1:=(m.fld 0).asInt;let t:=(m.fld 1).asInt;let z:=(m.fld 0).asInt;let G:=(m.fld 1).asInt;some ((cond (decide ((if t<x1 then t else x1)>=0)) (decide ((if G>z then G else z)<=o)) false),o)
def F391c:KT:=xj 391 f32 f35 (u3 F391) []
def F438(o:PV)(z G:Unit)(t:Int):Option (Bool×Unit×Int):=(F391 o () t).bind λm=>some ((!m.1),(),m.2)
def F438c:KT:=xj 438 ⟨2,[.box 305 .leaf,.box 3 .leaf],[.data 133,(.con (.ref 0 [] 305)),(.con (.fn 391 0 [(.ref 1 [] 3)])),.int .i64]⟩ ⟨1,[.box 305 .leaf,.box 3 .leaf],[.bool,(.con (.fn 391 0 [(.ref 1 [] 3)])),.int .i64]⟩ (u4 F438) [F391c]
def F375_c438g(e:PV)(c:Unit×Int):Option (Bool×Unit×Int):=F438 e () c.1 c.2
def F375_c438c:KT:=ixK 375 133 (.fn 438 0 [(.ref 0 [] 305)]) [.box 305 .leaf,.box 3 .leaf] (.con (.fn 391 0 [(.ref 1 [] 3)])) [.int .i64] F375_c438g (F438c)
def F282_c438(m:List PV)(z o:Unit)(t:Int):Option (Bool×Unit×Int):=cfF F375_c438g m (o,t)
def F282_c438c:KT:=cfK 282 133 (.fn 438 0 [(.ref 0 [] 305)]) [.box 305 .leaf,.box 3 .leaf] (.con (.fn 391 0 [(.ref 1 [] 3)])) [.int .i64] F375_c438g (F375_c438c)
def F390_c391(o:List PV)(z:Unit)(t:Int):Option (Bool×Int):=(F282_c438 o () () t).bind λm=>some ((!m.1),m.2.2)
def F390_c391c:KT:=xj 390 ⟨2,[.box 3 .leaf],[.slice 133,(.con (.fn 391 0 [(.ref 0 [] 3)])),.int .i64]⟩ f35 (u3 F390_c391) [F282_c438c]
def F303(m:List PV)(o:Int):Option Bool:=(F390_c391 m () o).bind λt=>some t.1
def F303c:KT:=xj 303 f86 f0 (u2 F303) [F390_c391c]
def F300(m:PV):Option Bool:=(F287_c301 (m.fld 1).asList ()).bind λt=>(cond t (F302 (m.fld 1).asList) (some false)).bind λz=>let o:=cond t z false;(cond o (F303 (m.fld 2).asList (65535:Int)) (some false)).bind λG=>some (cond o G false)
def F300c:KT:=xj 300 f22 f0 F300 [F287_c301c,F302c,F303c]
def F376_v1(m:PV)(t z:Unit):Option (Bool×Unit):=(F300 m).bind λo=>some ((!o),())
def F376_v1c:KT:=xj 376 ⟨2,bx32,[.data 73,(.con (.ref 0 [] 147)),(.con (.fn 300 0 []))]⟩ ⟨1,bx32,[.bool,(.con (.fn 300 0 []))]⟩ (u3 F376_v1) [F300c]
def F138_c376_v1g(e:PV)(c:Unit):Option (Bool×Unit):=F376_v1 e () c
def F138_c376_v1c:KT:=ixK 138 73 (.fn 376 0 [(.ref 0 [] 147)]) [.box 147 .leaf] (.con (.fn 300 0 [])) [] F138_c376_v1g (F376_v1c)
def F94_c376_v1(m:List PV)(t o:Unit):Option (Bool×Unit):=cfF F138_c376_v1g m o
def F94_c376_v1c:KT:=cfK 94 73 (.fn 376 0 [(.ref 0 [] 147)]) [.box 147 .leaf] (.con (.fn 300 0 [])) [] F138_c376_v1g (F138_c376_v1c)
def F285_c300(m:List PV)(t:Unit):Option Bool:=(F94_c376_v1 m () ()).bind λo=>some (!o.1)
def F285_c300c:KT:=xj 285 ⟨2,[],[.slice 73,(.con (.fn 300 0 []))]⟩ f0 (u2 F285_c300) [F94_c376_v1c]
def F305(m:PV):Option Bool:=some (cond (decide (((m.fld 1).asInt)>=0)) (decide ((m.fld 1).asInt<=2147483647)) false)
def F305c:KT:=xj 305 f81 f0 F305 []
def F382_v1(m:PV)(t z:Unit):Option (Bool×Unit):=(F305 m).bind λo=>some ((!o),())
def F382_v1c:KT:=xj 382 ⟨2,bx33,[.data 90,(.con (.ref 0 [] 303)),(.con (.fn 305 0 []))]⟩ ⟨1,bx33,[.bool,(.con (.fn 305 0 []))]⟩ (u3 F382_v1) [F305c]
def F374_c382_v1g(e:PV)(c:Unit):Option (Bool×Unit):=F382_v1 e () c
def F374_c382_v1c:KT:=ixK 374 90 (.fn 382 0 [(.ref 0 [] 303)]) [.box 303 .leaf] (.con (.fn 305 0 [])) [] F374_c382_v1g (F382_v1c)
def F280_c382_v1(m:List PV)(t o:Unit):Option (Bool×Unit):=cfF F374_c382_v1g m o
def F280_c382_v1c:KT:=cfK 280 90 (.fn 382 0 [(.ref 0 [] 303)]) [.box 303 .leaf] (.con (.fn 305 0 [])) [] F374_c382_v1g (F374_c382_v1c)
def F293_c305(m:List PV)(t:Unit):Option Bool:=(F280_c382_v1 m () ()).bind λo=>some (!o.1)
def F293_c305c:KT:=xj 293 ⟨2,[],[.slice 90,(.con (.fn 305 0 []))]⟩ f0 (u2 F293_c305) [F280_c382_v1c]
def F304(m:PV):Option Bool:=(F303 (m.fld 3).asList (2147483647:Int)).bind λo=>(cond o (F293_c305 (m.fld 2).asList ()) (some false)).bind λt=>some (cond o t false)
def F304c:KT:=xj 304 f23 f0 F304 [F303c,F293_c305c]
def F381_v1(m:PV)(t z:Unit):Option (Bool×Unit):=(F304 m).bind λo=>some ((!o),())
def F381_v1c:KT:=xj 381 ⟨2,bx34,[.data 88,(.con (.ref 0 [] 308)),(.con (.fn 304 0 []))]⟩ ⟨1,bx34,[.bool,(.con (.fn 304 0 []))]⟩ (u3 F381_v1) [F304c]
def F409_c381_v1g(e:PV)(c:Unit):Option (Bool×Unit):=F381_v1 e () c
def F409_c381_v1c:KT:=ixK 409 88 (.fn 381 0 [(.ref 0 [] 308)]) [.box 308 .leaf] (.con (.fn 304 0 [])) [] F409_c381_v1g (F381_v1c)
def F380_c381_v1(m:List PV)(t o:Unit):Option (Bool×Unit):=cfF F409_c381_v1g m o
def F380_c381_v1c:KT:=cfK 380 88 (.fn 381 0 [(.ref 0 [] 308)]) [.box 308 .leaf] (.con (.fn 304 0 [])) [] F409_c381_v1g (F409_c381_v1c)
def F291_c304(m:List PV)(t:Unit):Option Bool:=(F380_c381_v1 m () ()).bind λo=>some (!o.1)
def F291_c304c:KT:=xj 291 ⟨2,[],[.slice 88,(.con (.fn 304 0 []))]⟩ f0 (u2 F291_c304) [F380_c381_v1c]
def F307(m:PV):Option Bool:=some (cond (decide (((m.fld 3).asInt)>=1)) (decide ((m.fld 3).asInt<=4)) false)
def F307c:KT:=xj 307 ⟨1,[],[.data 95]⟩ f0 F307 []
def F386_v1(m:PV)(t z:Unit):Option (Bool×Unit):=(F307 m).bind λo=>some ((!o),())
def F386_v1c:KT:=xj 386 ⟨2,bx35,[.data 95,(.con (.ref 0 [] 311)),(.con (.fn 307 0 []))]⟩ ⟨1,bx35,[.bool,(.con (.fn 307 0 []))]⟩ (u3 F386_v1) [F307c]
def F434_c386_v1g(e:PV)(c:Unit):Option (Bool×Unit):=F386_v1 e () c
def F434_c386_v1c:KT:=ixK 434 95 (.fn 386 0 [(.ref 0 [] 311)]) [.box 311 .leaf] (.con (.fn 307 0 [])) [] F434_c386_v1g (F386_v1c)
def F385_c386_v1(m:List PV)(t o:Unit):Option (Bool×Unit):=cfF F434_c386_v1g m o
def F385_c386_v1c:KT:=cfK 385 95 (.fn 386 0 [(.ref 0 [] 311)]) [.box 311 .leaf] (.con (.fn 307 0 [])) [] F434_c386_v1g (F434_c386_v1c)
def F297_c307(m:List PV)(t:Unit):Option Bool:=(F385_c386_v1 m () ()).bind λo=>some (!o.1)
def F297_c307c:KT:=xj 297 ⟨2,[],[.slice 95,(.con (.fn 307 0 []))]⟩ f0 (u2 F297_c307) [F385_c386_v1c]
def F306(m:PV):Option Bool:=(F297_c307 (m.fld 1).asList ()).bind λo=>some o
def F306c:KT:=xj 306 f33 f0 F306 [F297_c307c]
def F384_v1(m:PV)(t z:Unit):Option (Bool×Unit):=(F306 m).bind λo=>some ((!o),())
def F384_v1c:KT:=xj 384 ⟨2,bx36,[.data 93,(.con (.ref 0 [] 312)),(.con (.fn 306 0 []))]⟩ ⟨1,bx36,[.bool,(.con (.fn 306 0 []))]⟩ (u3 F384_v1) [F306c]
def F433_c384_v1g(e:PV)(c:Unit):Option (Bool×Unit):=F384_v1 e () c
def F433_c384_v1c:KT:=ixK 433 93 (.fn 384 0 [(.ref 0 [] 312)]) [.box 312 .leaf] (.con (.fn 306 0 [])) [] F433_c384_v1g (F384_v1c)
def F383_c384_v1(m:List PV)(t o:Unit):Option (Bool×Unit):=cfF F433_c384_v1g m o
def F383_c384_v1c:KT:=cfK 383 93 (.fn 384 0 [(.ref 0 [] 312)]) [.box 312 .leaf] (.con (.fn 306 0 [])) [] F433_c384_v1g (F433_c384_v1c)
def F295_c306(m:List PV)(t:Unit):Option Bool:=(F383_c384_v1 m () ()).bind λo=>some (!o.1)
def F295_c306c:KT:=xj 295 ⟨2,[],[.slice 93,(.con (.fn 306 0 []))]⟩ f0 (u2 F295_c306) [F383_c384_v1c]
def F201(m:PV):Option Bool:=(F285_c300 (m.fld 3).asList ()).bind λt=>(cond t (F291_c304 (m.fld 4).asList ()) (some false)).bind λz=>let o:=cond t z false;(cond o (F295_c306 (m.fld 5).asList ()) (some false)).bind λG=>some (cond o G false)
def F201c:KT:=xj 201 f7 f0 F201 [F285_c300c,F291_c304c,F295_c306c]
def F392(m:Bn)(t z:Unit):Option (Bool×Unit):=(F193 m).bind λo=>some ((!o),())
def F392c:KT:=xj 392 ⟨2,[.box 66 .leaf],[.str,(.con (.ref 0 [] 66)),(.con (.fn 193 0 []))]⟩ ⟨1,[.box 66 .leaf],[.bool,(.con (.fn 193 0 []))]⟩ (u3 F392) [F193c]
def F268_c392g(e:PV)(c:Unit):Option (Bool×Unit):=F392 e.asStr () c
def F268_c392c:KT:=ixK 268 9 (.fn 392 0 [(.ref 0 [] 66)]) [.box 66 .leaf] (.con (.fn 193 0 [])) [] F268_c392g (F392c)
def F184_c392(m:List PV)(t o:Unit):Option (Bool×Unit):=cfF F268_c392g m o
def F184_c392c:KT:=cfK 184 9 (.fn 392 0 [(.ref 0 [] 66)]) [.box 66 .leaf] (.con (.fn 193 0 [])) [] F268_c392g (F268_c392c)
def F308_c193(m:List PV)(t:Unit):Option Bool:=(F184_c392 m () ()).bind λo=>some (!o.1)
def F308_c193c:KT:=xj 308 ⟨2,[],[.slice 9,(.con (.fn 193 0 []))]⟩ f0 (u2 F308_c193) [F184_c392c]
def F309(m:PV):Option Bool:=(F308_c193 (m.fld 3).asList ()).bind λo=>some o
def F309c:KT:=xj 309 f22 f0 F309 [F308_c193c]
def F376_v2(m:PV)(t z:Unit):Option (Bool×Unit):=(F309 m).bind λo=>some ((!o),())
def F376_v2c:KT:=xj 376 ⟨2,bx32,[.data 73,(.con (.ref 0 [] 147)),(.con (.fn 309 0 []))]⟩ ⟨1,bx32,[.bool,(.con (.fn 309 0 []))]⟩ (u3 F376_v2) [F309c]
def F138_c376_v2g(e:PV)(c:Unit):Option (Bool×Unit):=F376_v2 e () c
def F138_c376_v2c:KT:=ixK 138 73 (.fn 376 0 [(.ref 0 [] 147)]) [.box 147 .leaf] (.con (.fn 309 0 [])) [] F138_c376_v2g (F376_v2c)
def F94_c376_v2(m:List PV)(t o:Unit):Option (Bool×Unit):=cfF F138_c376_v2g m o
def F94_c376_v2c:KT:=cfK 94 73 (.fn 376 0 [(.ref 0 [] 147)]) [.box 147 .leaf] (.con (.fn 309 0 [])) [] F138_c376_v2g (F138_c376_v2c)
def F285_c309(m:List PV)(t:Unit):Option Bool:=(F94_c376_v2 m () ()).bind λo=>some (!o.1)
def F285_c309c:KT:=xj 285 ⟨2,[],[.slice 73,(.con (.fn 309 0 []))]⟩ f0 (u2 F285_c309) [F94_c376_v2c]
def F202(m:PV):Option Bool:=(F308_c193 (m.fld 2).asList ()).bind λo=>(cond o (F285_c309 (m.fld 3).asList ()) (some false)).bind λt=>some (cond o t false)
def F202c:KT:=xj 202 f7 f0 F202 [F308_c193c,F285_c309c]
def S203_8(U:Unit)(o z:List PV)(G H:Int)(t:List PV)(I m:Int)(J M:PV):Option (T19a⊕T87a):=cond (decide (m<I)) (cond (aab m t.length) (let O:=((t.getD m.toNat .bad).fld 8).asList;cond (decide (o.length+[(PV.agg [.slice O,.int 2])].length<=accMax)) (some (.inl ((),(o++[(PV.agg [.slice O,.int 2])]),z,G,H,t,I,(IntKind.wrap .i64 (m+1)),J,M))) none) none) (some (.inr ((),o,z,G,H,J,M)))
def S203_4(O:Unit)(H I:List PV)(J G:Int)(M:PV):Option (T43a⊕(Unit×(List PV)×PV)):=cond (decide (G<J)) (cond (aab G I.length) (let o:=I.getD G.toNat .bad;let t:=(o.fld 4).asList;cond (decide (H.length+[(PV.agg [.slice t,.int 1])].length<=accMax)) (let z:=(o.fld 1).asList;(aad 0 (Y10 S203_8) ((),(H++[(PV.agg [.slice t,.int 1])]),I,J,G,z,(z.length:Int),(0:Int),M,o)).bind λm=>some (.inl ((),m.2.1,m.2.2.1,m.2.2.2.1,(IntKind.wrap .i64 (m.2.2.2.2.1+1)),m.2.2.2.2.2.1))) none) none) (some (.inr ((),H,M)))
def S203_18(U:Unit)(o z:List PV)(G H:Int)(t:List PV)(I m:Int)(J M:PV):Option (T19a⊕T87a):=cond (decide (m<I)) (cond (aab m t.length) (let O:=((t.getD m.toNat .bad).fld 2).asList;cond (decide (o.length+[(PV.agg [.slice O,.int 4])].length<=accMax)) (some (.inl ((),(o++[(PV.agg [.slice O,.int 4])]),z,G,H,t,I,(IntKind.wrap .i64 (m+1)),J,M))) none) none) (some (.inr ((),o,z,G,H,J,M)))
def S203_14(O:Unit)(t z:List PV)(H o:Int)(I:PV):Option (T43a⊕(Unit×(List PV)×PV)):=cond (decide (o<H)) (cond (aab o z.length) (let G:=z.getD o.toNat .bad;let J:=(G.fld 4).asList;cond (decide (t.length+[(PV.agg [.slice J,.int 3])].length<=accMax)) (let M:=(G.fld 2).asList;(aad 0 (Y10 S203_18) ((),(t++[(PV.agg [.slice J,.int 3])]),z,H,o,M,(M.length:Int),(0:Int),I,G)).bind λm=>some (.inl ((),m.2.1,m.2.2.1,m.2.2.2.1,(IntKind.wrap .i64 (m.2.2.2.2.1+1)),m.2.2.2.2.2.1))) none) none) (some (.inr ((),t,I)))
def S203_28(o z:List PV)(G H:Int)(t:List PV)(I m:Int)(J M:PV):Option (T68a⊕((List PV)×(List PV)×Int×Int×PV×PV)):=cond (decide (m<I)) (cond (aab m t.length) (let O:=((t.getD m.toNat .bad).fld 4).asList;cond (decide (o.length+[(PV.agg [.slice O,.int 6])].length<=accMax)) (some (.inl ((o++[(PV.agg [.slice O,.int 6])]),z,G,H,t,I,(IntKind.wrap .i64 (m+1)),J,M))) none) none) (some (.inr (o,z,G,H,J,M)))
def S203_24(t z:List PV)(H o:Int)(I:PV):Option (T57a⊕T115a):=cond (decide (o<H)) (cond (aab o z.length) (let G:=z.getD o.toNat .bad;let J:=(G.fld 2).asList;cond (decide (t.length+[(PV.agg [.slice J,.int 5])].length<=accMax)) (let M:=(G.fld 1).asList;(aad 0 (Y9 S203_28) ((t++[(PV.agg [.slice J,.int 5])]),z,H,o,M,(M.length:Int),(0:Int),I,G)).bind λm=>some (.inl (m.1,m.2.1,m.2.2.1,(IntKind.wrap .i64 (m.2.2.2.1+1)),m.2.2.2.2.1))) none) none) (some (.inr (t,I)))
def F203(H:PV):Option ((List PV)):=let x1:=(H.fld 3).asList;(aad 0 (Y6 S203_4) ((),[],x1,(x1.length:Int),(0:Int),H)).bind λm=>let t:=(m.2.2.fld 4).asList;(aad 0 (Y6 S203_14) ((),m.2.1,t,(t.length:Int),(0:Int),m.2.2)).bind λo=>let z:=(o.2.2.fld 5).asList;(aad 0 (Y5 S203_24) (o.2.1,z,(z.length:Int),(0:Int),o.2.2)).bind λG=>some G.1
def S203_8l:LoopE:=⟨8,⟨[1,3,17,18,19,30,31,32],[.box 142 .leaf,.acc,.box 73 .leaf],(.con (.ref 0 [] 142))::(.acc 1 252)::(.slice 73)::(.int .i64)::(.int .i64)::(.slice 85)::(.int .i64)::sv56⟩,[(.exit 2,⟨[1,3,17,18,19],[.box 142 .leaf,.acc,.box 73 .leaf],(.con (.ref 0 [] 142))::(.acc 1 252)::(.slice 73)::(.int .i64)::sv56⟩)],(Y10 S203_8)⟩
def S203_4l:LoopE:=⟨4,⟨[1,3,17,18,19],bx37,(.con (.ref 0 [] 142))::(.acc 1 252)::(.slice 73)::sv57⟩,[(.exit 0,f55)],(Y6 S203_4)⟩
def S203_18l:LoopE:=⟨18,⟨[1,3,45,46,47,58,59,60],[.box 142 .leaf,.acc,.box 88 .leaf],[(.con (.ref 0 [] 142)),.acc 1 252,.slice 88,.int .i64,.int .i64,.slice 90,.int .i64,.int .i64,.data 142,.data 88]⟩,[(.exit 6,⟨[1,3,45,46,47],[.box 142 .leaf,.acc,.box 88 .leaf],[(.con (.ref 0 [] 142)),.acc 1 252,.slice 88,.int .i64,.int .i64,.data 142,.data 88]⟩)],(Y10 S203_18)⟩
def S203_14l:LoopE:=⟨14,⟨[1,3,45,46,47],bx37,(.con (.ref 0 [] 142))::(.acc 1 252)::(.slice 88)::sv57⟩,[(.exit 4,f55)],(Y6 S203_14)⟩
def S203_28l:LoopE:=⟨28,⟨[3,73,74,75,86,87,88],[.box 142 .leaf,.acc,.box 93 .leaf],[.acc 1 252,.slice 93,.int .i64,.int .i64,.slice 95,.int .i64,.int .i64,.data 142,.data 93]⟩,[(.exit 10,⟨[3,73,74,75],[.box 142 .leaf,.acc,.box 93 .leaf],[.acc 1 252,.slice 93,.int .i64,.int .i64,.data 142,.data 93]⟩)],(Y9 S203_28)⟩
def S203_24l:LoopE:=⟨24,⟨[3,73,74,75],bx37,(.acc 1 252)::(.slice 93)::sv57⟩,[(.exit 8,⟨[3],bx37,sv58⟩)],(Y5 S203_24)⟩
def F203c:KT:=xf 203 f7 ⟨1,[],[.slice 252]⟩ F203 [] [S203_8l,S203_4l,S203_18l,S203_14l,S203_28l,S203_24l] (L3 (xl S203_4l (L1 (xl S203_8l L0))) (xl S203_14l (L1 (xl S203_18l L0))) (xl S203_24l (L1 (xl S203_28l L0))))
def F311(m:PV):Option Bool:=let o:=((m.fld 2).asList.length:Int);let t:=((m.fld 3).asList.length:Int);some (cond (decide (((m.fld 1).asList.length:Int)<=64)) (decide ((if t>o then t else o)<=16)) false)
def F311c:KT:=xj 311 f22 f0 F311 []
def F376_v3(m:PV)(t z:Unit):Option (Bool×Unit):=(F311 m).bind λo=>some ((!o),())
def F376_v3c:KT:=xj 376 ⟨2,bx32,[.data 73,(.con (.ref 0 [] 147)),(.con (.fn 311 0 []))]⟩ ⟨1,bx32,[.bool,(.con (.fn 311 0 []))]⟩ (u3 F376_v3) [F311c]
def F138_c376_v3g(e:PV)(c:Unit):Option (Bool×Unit):=F376_v3 e () c
def F138_c376_v3c:KT:=ixK 138 73 (.fn 376 0 [(.ref 0 [] 147)]) [.box 147 .leaf] (.con (.fn 311 0 [])) [] F138_c376_v3g (F376_v3c)
def F94_c376_v3(m:List PV)(t o:Unit):Option (Bool×Unit):=cfF F138_c376_v3g m o
def F94_c376_v3c:KT:=cfK 94 73 (.fn 376 0 [(.ref 0 [] 147)]) [.box 147 .leaf] (.con (.fn 311 0 [])) [] F138_c376_v3g (F138_c376_v3c)
def F285_c311(m:List PV)(t:Unit):Option Bool:=(F94_c376_v3 m () ()).bind λo=>some (!o.1)
def F285_c311c:KT:=xj 285 ⟨2,[],[.slice 73,(.con (.fn 311 0 []))]⟩ f0 (u2 F285_c311) [F94_c376_v3c]
def F312(m:PV):Option Bool:=some (cond (decide (((m.fld 2).asList.length:Int)<=64)) (decide (((m.fld 3).asList.length:Int)<=16)) false)
def F312c:KT:=xj 312 f23 f0 F312 []
def F381_v2(m:PV)(t z:Unit):Option (Bool×Unit):=(F312 m).bind λo=>some ((!o),())
def F381_v2c:KT:=xj 381 ⟨2,bx34,[.data 88,(.con (.ref 0 [] 308)),(.con (.fn 312 0 []))]⟩ ⟨1,bx34,[.bool,(.con (.fn 312 0 []))]⟩ (u3 F381_v2) [F312c]
def F409_c381_v2g(e:PV)(c:Unit):Option (Bool×Unit):=F381_v2 e () c
def F409_c381_v2c:KT:=ixK 409 88 (.fn 381 0 [(.ref 0 [] 308)]) [.box 308 .leaf] (.con (.fn 312 0 [])) [] F409_c381_v2g (F381_v2c)
def F380_c381_v2(m:List PV)(t o:Unit):Option (Bool×Unit):=cfF F409_c381_v2g m o
def F380_c381_v2c:KT:=cfK 380 88 (.fn 381 0 [(.ref 0 [] 308)]) [.box 308 .leaf] (.con (.fn 312 0 [])) [] F409_c381_v2g (F409_c381_v2c)
def F291_c312(m:List PV)(t:Unit):Option Bool:=(F380_c381_v2 m () ()).bind λo=>some (!o.1)
def F291_c312c:KT:=xj 291 ⟨2,[],[.slice 88,(.con (.fn 312 0 []))]⟩ f0 (u2 F291_c312) [F380_c381_v2c]
def F313(m:PV):Option Bool:=some (decide (((m.fld 1).asList.length:Int)<=64))
def F313c:KT:=xj 313 f33 f0 F313 []
def F384_v2(m:PV)(t z:Unit):Option (Bool×Unit):=(F313 m).bind λo=>some ((!o),())
def F384_v2c:KT:=xj 384 ⟨2,bx36,[.data 93,(.con (.ref 0 [] 312)),(.con (.fn 313 0 []))]⟩ ⟨1,bx36,[.bool,(.con (.fn 313 0 []))]⟩ (u3 F384_v2) [F313c]
def F433_c384_v2g(e:PV)(c:Unit):Option (Bool×Unit):=F384_v2 e () c
def F433_c384_v2c:KT:=ixK 433 93 (.fn 384 0 [(.ref 0 [] 312)]) [.box 312 .leaf] (.con (.fn 313 0 [])) [] F433_c384_v2g (F384_v2c)
def F383_c384_v2(m:List PV)(t o:Unit):Option (Bool×Unit):=cfF F433_c384_v2g m o
def F383_c384_v2c:KT:=cfK 383 93 (.fn 384 0 [(.ref 0 [] 312)]) [.box 312 .leaf] (.con (.fn 313 0 [])) [] F433_c384_v2g (F433_c384_v2c)
def F295_c313(m:List PV)(t:Unit):Option Bool:=(F383_c384_v2 m () ()).bind λo=>some (!o.1)
def F295_c313c:KT:=xj 295 ⟨2,[],[.slice 93,(.con (.fn 313 0 []))]⟩ f0 (u2 F295_c313) [F383_c384_v2c]
def F205(m:PV):Option Bool:=let z:=((m.fld 3).asList.length:Int);let G:=((m.fld 4).asList.length:Int);let M:=((m.fld 5).asList.length:Int);let H:=if M>(if G>z then G else z)then M else(if G>z then G else z);cond (cond (decide (((m.fld 2).asList.length:Int)>16)) true (decide (H>64))) (some false) ((F285_c311 (m.fld 3).asList ()).bind λt=>(cond t (F291_c312 (m.fld 4).asList ()) (some false)).bind λI=>let o:=cond t I false;(cond o (F295_c313 (m.fld 5).asList ()) (some false)).bind λJ=>some (cond o J false))
def F205c:KT:=xj 205 f7 f0 F205 [F285_c311c,F291_c312c,F295_c313c]
def F206(I:Unit)(z:Int)(m G:Bn):Option Bn:=(ah6 0 ([32,32]:Bn) z).bind λt=>cond (decide (t.length+m.length<=aac)) (let o:=t++m;cond (decide (o.length+([10]:Bn).length<=aac)) ((aa3 0 (o++([10]:Bn)) G).bind λH=>some H.2.2) none) none
def F206c:KT:=xj 206 ⟨3,bx38,[(.con (.bref 0 260)),.int .i64,.str,.str]⟩ f45 (u4 F206) [⟨aop 0,ao7 0⟩,⟨ab0 0,ab8 0⟩]
def F399(m:Int):Option Bn:=let x1:=m.fdiv (2^(min (4:Int).toNat (IntKind.bits .u8)));let o:=IntKind.wrap .u8 ((m.fdiv (2^(min (4:Int).toNat (IntKind.bits .u8))))+1);cond (decide (0<=x1/\x1<=o/\o<=(([48,49,50,51,52,53,54,55,56,57,97,98,99,100,101,102]:Bn).length:Int))) (let t:=(([48,49,50,51,52,53,54,55,56,57,97,98,99,100,101,102]:Bn).take o.toNat).drop x1.toNat;cond (decide (([92,120]:Bn).length+t.length<=aac)) (let z:=aer .and .u8 m (15:Int);let G:=IntKind.wrap .u8 ((aer .and .u8 m (15:Int))+1);cond (decide (0<=z/\z<=G/\G<=(([48,49,50,51,52,53,54,55,56,57,97,98,99,100,101,102]:Bn).length:Int))) (let H:=(([48,49,50,51,52,53,54,55,56,57,97,98,99,100,101,102]:Bn).take G.toNat).drop z.toNat;cond (decide ((([92,120]:Bn)++t).length+H.length<=aac)) (some ((([92,120]:Bn)++t)++H)) none) none) none) none
def F399c:KT:=xj 399 f59 f4 F399 []
def F316(o:Bn)(t m:Int):Option Bn:=cond (m==34) (some ([92,34]:Bn)) (cond (m==92) (some ([92,92]:Bn)) (cond (m==10) (some ([92,110]:Bn)) (cond (m==9) (some ([92,116]:Bn)) (cond (m==13) (some ([92,114]:Bn)) (let G:=cond (decide (m<32)) true (m==127);(cond (!G) (F373 o t m) (some false)).bind λH=>cond (cond G true H) (cond (aab t o.length) ((F399 ((o.getD t.toNat 0).toNat:Int)).bind λz=>some z) none) (some ((Utf8.encode m).data.toList)))))))
def F316c:KT:=xj 316 f67 f4 (u3 F316) [F373c,F399c]
def S207_5(G:Bn)(I J:Unit)(H o:Bn)(m:Int):Option (T72a⊕(Unit×Bn×Bn×Int)):=cond (decide (m.toNat<o.length)) (cond (decide (m.toNat<o.length)) (cond (decide (m.toNat<o.length)) ((F316 G (m.toNat:Int) ((Utf8.decode ⟨o.toArray⟩ m.toNat).1:Int)).bind λt=>(aa3 0 t H).bind λz=>some (.inl (G,(),(),z.2.2,o,((cond (decide (m.toNat<o.length)) (m.toNat+(Utf8.decode ⟨o.toArray⟩ m.toNat).2) m.toNat:Nat):Int)))) none) none) (some (.inr ((),H,o,((cond (decide (m.toNat<o.length)) (m.toNat+(Utf8.decode ⟨o.toArray⟩ m.toNat).2) m.toNat:Nat):Int))))
def F207(z:Bn):Option Bn:=(aa3 0 ([34]:Bn) []).bind λG=>(aad 0 (Y6 S207_5) (z,(),(),G.2.2,z,((0:Nat):Int))).bind λm=>(aa3 0 ([34]:Bn) m.2.1).bind λo=>(ah7 0 o.2.2).bind λt=>some t.1
def S207_5l:LoopE:=⟨5,⟨[0,3,8],[.bld 258,.iter],.str::(.con (.bref 0 258))::(.con (.iref 1))::sv19⟩,[(.exit 0,⟨[3],[.bld 258,.iter],(.con (.bref 0 258))::sv19⟩)],(Y6 S207_5)⟩
def F207c:KT:=xf 207 f4 f4 F207 [⟨ad9 0,afm 0⟩,F316c,⟨ah8 0,ak5 0⟩] [S207_5l] (L1 (xl S207_5l L0))
def F465(m:Bool):Option Bn:=cond m (some ([116,114,117,101]:Bn)) (some ([102,97,108,115,101]:Bn))
def F465c:KT:=xj 465 f0 f4 F465 []
def F455(m:Bool):Option Bn:=(F465 m).bind λo=>some o
def F455c:KT:=xj 455 f0 f4 F455 [F465c]
def F458(m o:Int):Option Bn:=(Lfmt 0 m o).bind λt=>some t
def F458c:KT:=xj 458 ⟨2,[],sv0⟩ f4 (u2 F458) [⟨bjj 0,bjk 0⟩]
def F456(o:Int):Option Bn:=(F431 o).bind λt=>cond (t==0) (some ([110,97,110]:Bn)) (cond (cond (t==1) ((aer .and .u64 o (9223372036854775808:Int)) != 0) false) (some ([45,105,110,102]:Bn)) (cond (t==1) (some ([105,110,102]:Bn)) ((F458 o (16:Int)).bind λz=>(ah6 0 ([48]:Bn) (IntKind.wrap .i64 ((16:Int)-(z.length:Int)))).bind λm=>cond (decide (([48,120]:Bn).length+m.length<=aac)) (cond (decide ((([48,120]:Bn)++m).length+z.length<=aac)) (some ((([48,120]:Bn)++m)++z)) none) none)))
def F456c:KT:=xj 456 f18 f4 F456 [F431c,F458c,⟨aop 0,ao7 0⟩]
def S457_4(o:Bn)(I:List PV)(J m:Int):Option (T63a⊕(List PV)):=cond (decide (m<J)) (cond (aab m o.length) (let t:=((o.getD m.toNat 0).toNat:Int).fdiv (2^(min (4:Int).toNat (IntKind.bits .u8)));cond (aab t (([48,49,50,51,52,53,54,55,56,57,97,98,99,100,101,102]:Bn).length)) (let z:=((([48,49,50,51,52,53,54,55,56,57,97,98,99,100,101,102]:Bn).getD t.toNat 0).toNat:Int);cond (aab m o.length) (let G:=aer .and .u8 ((o.getD m.toNat 0).toNat:Int) (15:Int);cond (aab G (([48,49,50,51,52,53,54,55,56,57,97,98,99,100,101,102]:Bn).length)) (let H:=((([48,49,50,51,52,53,54,55,56,57,97,98,99,100,101,102]:Bn).getD G.toNat 0).toNat:Int);cond (decide (I.length+[(PV.int z),(PV.int H)].length<=accMax)) (some (.inl (o,(I++[(PV.int z),(PV.int H)]),J,(IntKind.wrap .i64 (m+1))))) none) none) none) none) none) (some (.inr I))
def F457(m:Bn):Option Bn:=let t:=IntKind.wrap .i64 ((2:Int)*(m.length:Int));cond (decide (0<=t/\t<=accMax)) ((aad 0 (Y4 S457_4) (m,[],(m.length:Int),(0:Int))).bind λo=>some (o.map aa5)) none
def S457_4l:LoopE:=⟨4,⟨[0,3,10,11],[.acc],.str::(.acc 0 5)::sv28⟩,[(.exit 0,⟨[3],[.acc],[.acc 0 5]⟩)],(Y4 S457_4)⟩
def F457c:KT:=xf 457 f4 f4 F457 [] [S457_4l] (L1 (xl S457_4l L0))
def F445(m:PV):Option Bn:=(F370 (m.fld 0).asInt m).bind λO=>cond (!O) (some ([]:Bn)) (let o:=(m.fld 0).asInt;cond (o==1) ((F455 ((m.fld 1).asInt==1)).bind λU=>some U) (cond (o==2) ((ak4 0 (IntKind.wrap .i64 (m.fld 1).asInt)).bind λz=>some z) (cond (o==3) ((ak4 0 (IntKind.wrap .i64 (m.fld 1).asInt)).bind λG=>some G) (cond (o==6) ((F456 (m.fld 1).asInt).bind λH=>some H) (cond (o==7) ((F207 (m.fld 2).asStr).bind λI=>some I) (cond (o==8) ((F457 (m.fld 2).asStr).bind λJ=>(F207 J).bind λt=>cond (decide (([120]:Bn).length+t.length<=aac)) (some (([120]:Bn)++t)) none) ((F458 (m.fld 1).asInt (10:Int)).bind λM=>some M)))))))
def F445c:KT:=xj 445 f9 f4 F445 [F370c,F455c,⟨as0 0,ao5 0⟩,F456c,F207c,F457c,F458c]
def S400_4(H I:List PV)(M G:Int):Option (T33a⊕((Bn)⊕((List PV)))):=cond (decide (G<M)) (cond (aab G I.length) (let J:=I.getD G.toNat .bad;(F394 J).bind λO=>cond (!O) (some (.inr (.inl ([]:Bn)))) (let m:=(J.fld 0).asStr;cond (decide (m.length+([32,61,32]:Bn).length<=aac)) (let o:=m++([32,61,32]:Bn);(F445 (J.fld 1)).bind λz=>cond (decide (o.length+z.length<=aac)) (let t:=o++z;cond (decide (H.length+[(PV.str t)].length<=accMax)) (some (.inl ((H++[(PV.str t)]),I,M,(IntKind.wrap .i64 (G+1))))) none) none) none)) none) (some (.inr (.inr H)))
def F400(G:List PV):Option Bn:=(aad 0 (Y4 S400_4) ([],G,(G.length:Int),(0:Int))).bind λz=>sumE (λt=>some t ) (λo=>cond ((o.length:Int)==0) (some ([]:Bn)) ((amr 0 o ([44,32]:Bn)).bind λm=>cond (decide (([91]:Bn).length+m.length<=aac)) (cond (decide ((([91]:Bn)++m).length+([93]:Bn).length<=aac)) (some ((([91]:Bn)++m)++([93]:Bn))) none) none) ) z
def S400_4l:LoopE:=⟨4,⟨[3,6,7,8],[.acc],(.acc 0 9)::sv1⟩,[(.ret,⟨[2],[.acc],[.str]⟩),(.exit 0,⟨[3],[.acc],[.acc 0 9]⟩)],(Y4 S400_4)⟩
def F400c:KT:=xf 400 f17 f4 F400 [F394c,F445c,⟨as2 0,ao6 0⟩] [S400_4l] (L1 (xl S400_4l L0))
def F318(m:List PV):Option Bn:=cond ((m.length:Int)==0) (some ([]:Bn)) ((F400 m).bind λo=>cond (decide (([32]:Bn).length+o.length<=aac)) (some (([32]:Bn)++o)) none)
def F318c:KT:=xj 318 f17 f4 F318 [F400c]
def F402(m:Int):Option Bn:=cond (cond (decide (m<1)) true (decide (m>8))) (some ([]:Bn)) (F432.bind λt=>let o:=IntKind.wrap .i64 (m-1);cond (aab o 8) (some (t.fld o.toNat).asStr) none)
def F402c:KT:=xj 402 f5 f4 F402 [F432c]
def F401(m:PV):Option Bn:=(F378 (m.fld 0).asInt).bind λz=>cond (cond z ((m.fld 1).asStr==([]:Bn)) false) ((F402 (m.fld 0).asInt).bind λG=>some G) (let o:=cond (cond ((m.fld 0).asInt==0) true ((m.fld 0).asInt==9)) true ((m.fld 0).asInt==10);(cond o (F299 (m.fld 1).asStr) (some false)).bind λt=>cond (cond o t false) (some (m.fld 1).asStr) (some ([]:Bn)))
def F401c:KT:=xj 401 f58 f4 F401 [F378c,F402c,F299c]
def F403(m:PV):Option Bn:=(F437 m).bind λG=>cond G (some (m.fld 2).asStr) ((F370 (m.fld 0).asInt m).bind λH=>cond (!H) (some ([]:Bn)) (cond (cond ((m.fld 0).asInt==6) true ((m.fld 0).asInt==8)) ((F445 m).bind λo=>(F207 o).bind λt=>some t) ((F445 m).bind λz=>some z)))
def F403c:KT:=xj 403 f9 f4 F403 [F437c,F370c,F445c,F207c]
def F319(m:PV):Option Bn:=(F401 (m.fld 4)).bind λU=>cond ((m.fld 2).asInt==5) ((F402 (m.fld 3).asInt).bind λy6=>cond (decide (([109,97,112,60]:Bn).length+y6.length<=aac)) (cond (decide ((([109,97,112,60]:Bn)++y6).length+([44,32]:Bn).length<=aac)) (let x7:=(([109,97,112,60]:Bn)++y6)++([44,32]:Bn);cond (decide (x7.length+U.length<=aac)) (let x8:=x7++U;cond (decide (x8.length+([62]:Bn).length<=aac)) (let x9:=x8++([62]:Bn);let G:=(m.fld 1).asStr;cond (decide (([32]:Bn).length+G.length<=aac)) (cond (decide ((([32]:Bn)++G).length+([32,61,32]:Bn).length<=aac)) (let V:=(([32]:Bn)++G)++([32,61,32]:Bn);(ak4 0 (m.fld 0).asInt).bind λao=>cond (decide (V.length+ao.length<=aac)) (let W:=V++ao;cond (decide (x9.length+W.length<=aac)) (let o:=x9++W;cond ((m.fld 6).asBool) ((F403 (m.fld 7)).bind λJ=>cond (decide (([32,100,101,102,97,117,108,116,32]:Bn).length+J.length<=aac)) (cond (decide (o.length+(([32,100,101,102,97,117,108,116,32]:Bn)++J).length<=aac)) (let X:=o++(([32,100,101,102,97,117,108,116,32]:Bn)++J);(F318 (m.fld 8).asList).bind λap=>cond (decide (X.length+ap.length<=aac)) (let Y:=X++ap;cond (decide (Y.length+([59]:Bn).length<=aac)) (some (Y++([59]:Bn))) none) none) none) none) ((F318 (m.fld 8).asList).bind λaq=>cond (decide (o.length+aq.length<=aac)) (let Z:=o++aq;cond (decide (Z.length+([59]:Bn).length<=aac)) (some (Z++([59]:Bn))) none) none)) none) none) none) none) none) none) none) none) (cond ((m.fld 5).asStr==([]:Bn)) (let az:=(PV.agg [.str ([]:Bn),.str ([114,101,113,117,105,114,101,100,32]:Bn),.str ([111,112,116,105,111,110,97,108,32]:Bn),.str ([112,108,97,105,110,32]:Bn),.str ([108,105,115,116,32]:Bn)]);let aa:=(m.fld 2).asInt;cond (aab aa 5) (let ab:=(az.fld aa.toNat).asStr;cond (decide (ab.length+U.length<=aac)) (let ad:=ab++U;let H:=(m.fld 1).asStr;cond (decide (([32]:Bn).length+H.length<=aac)) (cond (decide ((([32]:Bn)++H).length+([32,61,32]:Bn).length<=aac)) (let ae:=(([32]:Bn)++H)++([32,61,32]:Bn);(ak4 0 (m.fld 0).asInt).bind λar=>cond (decide (ae.length+ar.length<=aac)) (let af:=ae++ar;cond (decide (ad.length+af.length<=aac)) (let t:=ad++af;cond ((m.fld 6).asBool) ((F403 (m.fld 7)).bind λM=>cond (decide (([32,100,101,102,97,117,108,116,32]:Bn).length+M.length<=aac)) (cond (decide (t.length+(([32,100,101,102,97,117,108,116,32]:Bn)++M).length<=aac)) (let ag:=t++(([32,100,101,102,97,117,108,116,32]:Bn)++M);(F318 (m.fld 8).asList).bind λau=>cond (decide (ag.length+au.length<=aac)) (let ah:=ag++au;cond (decide (ah.length+([59]:Bn).length<=aac)) (some (ah++([59]:Bn))) none) none) none) none) ((F318 (m.fld 8).asList).bind λav=>cond (decide (t.length+av.length<=aac)) (let ai:=t++av;cond (decide (ai.length+([59]:Bn).length<=aac)) (some (ai++([59]:Bn))) none) none)) none) none) none) none) none) none) (let I:=(m.fld 1).asStr;cond (decide (([32]:Bn).length+I.length<=aac)) (cond (decide ((([32]:Bn)++I).length+([32,61,32]:Bn).length<=aac)) (let aj:=(([32]:Bn)++I)++([32,61,32]:Bn);(ak4 0 (m.fld 0).asInt).bind λaw=>cond (decide (aj.length+aw.length<=aac)) (let ak:=aj++aw;cond (decide (U.length+ak.length<=aac)) (let z:=U++ak;cond ((m.fld 6).asBool) ((F403 (m.fld 7)).bind λO=>cond (decide (([32,100,101,102,97,117,108,116,32]:Bn).length+O.length<=aac)) (cond (decide (z.length+(([32,100,101,102,97,117,108,116,32]:Bn)++O).length<=aac)) (let al:=z++(([32,100,101,102,97,117,108,116,32]:Bn)++O);(F318 (m.fld 8).asList).bind λax=>cond (decide (al.length+ax.length<=aac)) (let am:=al++ax;cond (decide (am.length+([59]:Bn).length<=aac)) (some (am++([59]:Bn))) none) none) none) none) ((F318 (m.fld 8).asList).bind λay=>cond (decide (z.length+ay.length<=aac)) (let an:=z++ay;cond (decide (an.length+([59]:Bn).length<=aac)) (some (an++([59]:Bn))) none) none)) none) none) none) none))
def F319c:KT:=xj 319 f13 f4 F319 [F401c,F402c,⟨as0 0,ao5 0⟩,F403c,F318c]
def S320_3(O:Unit)(t H:List PV)(J z:Int)(M:Bn):Option (T82a⊕(Unit×(List PV)×Bn)):=cond (decide (z<J)) (cond (aab z H.length) (let I:=H.getD z.toNat .bad;(ak4 0 (I.fld 0).asInt).bind λm=>cond ((I.fld 0).asInt != (I.fld 1).asInt) ((ak4 0 (I.fld 1).asInt).bind λo=>cond (decide (([32,45,32]:Bn).length+o.length<=aac)) (cond (decide (m.length+(([32,45,32]:Bn)++o).length<=aac)) (let G:=m++(([32,45,32]:Bn)++o);cond (decide (t.length+[(PV.str G)].length<=accMax)) (some (.inl ((),(t++[(PV.str G)]),H,J,(IntKind.wrap .i64 (z+1)),M))) none) none) none) (cond (decide (t.length+[(PV.str m)].length<=accMax)) (some (.inl ((),(t++[(PV.str m)]),H,J,(IntKind.wrap .i64 (z+1)),M))) none)) none) (some (.inr ((),t,M)))
def F320(I:Unit)(G:List PV)(H:Bn):Option Bn:=(aad 0 (Y6 S320_3) ((),[],G,(G.length:Int),(0:Int),H)).bind λm=>cond (decide ((m.2.1.length:Int)>0)) ((amr 0 m.2.1 ([44,32]:Bn)).bind λo=>cond (decide (([114,101,115,101,114,118,101,100,32]:Bn).length+o.length<=aac)) (cond (decide ((([114,101,115,101,114,118,101,100,32]:Bn)++o).length+([59]:Bn).length<=aac)) (let t:=(([114,101,115,101,114,118,101,100,32]:Bn)++o)++([59]:Bn);(F206 () (1:Int) t m.2.2).bind λz=>some z) none) none) (some m.2.2)
def S320_3l:LoopE:=⟨3,⟨[0,4,8,9,10],[.bld 260,.acc],(.con (.bref 0 260))::(.acc 1 9)::(.slice 133)::sv59⟩,[(.exit 0,⟨[0,4],[.bld 260,.acc],[(.con (.bref 0 260)),.acc 1 9,.str]⟩)],(Y6 S320_3)⟩
def F320c:KT:=xf 320 ⟨2,bx38,[(.con (.bref 0 260)),.slice 133,.str]⟩ f45 (u3 F320) [⟨as0 0,ao5 0⟩,⟨as2 0,ao6 0⟩,F206c] [S320_3l] (L1 (xl S320_3l L0))
def S209_5(a9 av:Unit)(H:Bn)(t:List PV)(z o:Int)(I:Bn)(G:PV):Option (T67a⊕(Unit×Unit×Bn×Bn×PV)):=cond (decide (o<z)) (cond (aab o t.length) (let m:=t.getD o.toNat .bad;cond (cond (!(H==([]:Bn))) (!((m.fld 5).asStr==H)) false) ((F206 () (1:Int) ([125]:Bn) I).bind λX=>cond (cond (!((m.fld 5).asStr==([]:Bn))) (!((m.fld 5).asStr==H)) false) (let J:=(m.fld 5).asStr;cond (decide (([117,110,105,111,110,32]:Bn).length+J.length<=aac)) (cond (decide ((([117,110,105,111,110,32]:Bn)++J).length+([32,123]:Bn).length<=aac)) (let aa:=(([117,110,105,111,110,32]:Bn)++J)++([32,123]:Bn);(F206 () (1:Int) aa X).bind λY=>let M:=(m.fld 5).asStr;cond (M==([]:Bn)) ((F319 m).bind λad=>(F206 () (1:Int) ad Y).bind λae=>some (.inl ((),(),M,t,z,(IntKind.wrap .i64 (o+1)),ae,G))) ((F319 m).bind λaf=>(F206 () (2:Int) af Y).bind λag=>some (.inl ((),(),M,t,z,(IntKind.wrap .i64 (o+1)),ag,G)))) none) none) (let O:=(m.fld 5).asStr;cond (O==([]:Bn)) ((F319 m).bind λah=>(F206 () (1:Int) ah X).bind λai=>some (.inl ((),(),O,t,z,(IntKind.wrap .i64 (o+1)),ai,G))) ((F319 m).bind λaj=>(F206 () (2:Int) aj X).bind λak=>some (.inl ((),(),O,t,z,(IntKind.wrap .i64 (o+1)),ak,G))))) (cond (cond (!((m.fld 5).asStr==([]:Bn))) (!((m.fld 5).asStr==H)) false) (let U:=(m.fld 5).asStr;cond (decide (([117,110,105,111,110,32]:Bn).length+U.length<=aac)) (cond (decide ((([117,110,105,111,110,32]:Bn)++U).length+([32,123]:Bn).length<=aac)) (let ab:=(([117,110,105,111,110,32]:Bn)++U)++([32,123]:Bn);(F206 () (1:Int) ab I).bind λZ=>let V:=(m.fld 5).asStr;cond (V==([]:Bn)) ((F319 m).bind λal=>(F206 () (1:Int) al Z).bind λam=>some (.inl ((),(),V,t,z,(IntKind.wrap .i64 (o+1)),am,G))) ((F319 m).bind λan=>(F206 () (2:Int) an Z).bind λao=>some (.inl ((),(),V,t,z,(IntKind.wrap .i64 (o+1)),ao,G)))) none) none) (let W:=(m.fld 5).asStr;cond (W==([]:Bn)) ((F319 m).bind λap=>(F206 () (1:Int) ap I).bind λaq=>some (.inl ((),(),W,t,z,(IntKind.wrap .i64 (o+1)),aq,G))) ((F319 m).bind λar=>(F206 () (2:Int) ar I).bind λau=>some (.inl ((),(),W,t,z,(IntKind.wrap .i64 (o+1)),au,G)))))) none) (some (.inr ((),(),H,I,G)))
def S209_21(J:Unit)(o t:List PV)(z m:Int)(G:Bn)(H:PV):Option (T77a⊕(Unit×(List PV)×Bn×PV)):=cond (decide (m<z)) (cond (aab m t.length) ((F207 (t.getD m.toNat .bad).asStr).bind λI=>cond (decide (o.length+[(PV.str I)].length<=accMax)) (some (.inl ((),(o++[(PV.str I)]),t,z,(IntKind.wrap .i64 (m+1)),G,H))) none) none) (some (.inr ((),o,G,H)))
def F209(a0:Unit)(Z:PV)(a2:Bn):Option Bn:=let x1:=(Z.fld 0).asStr;cond (decide (([109,101,115,115,97,103,101,32]:Bn).length+x1.length<=aac)) ((F318 (Z.fld 4).asList).bind λy3=>cond (decide ((([109,101,115,115,97,103,101,32]:Bn)++x1).length+y3.length<=aac)) (let x4:=(([109,101,115,115,97,103,101,32]:Bn)++x1)++y3;cond (decide (x4.length+([32,123]:Bn).length<=aac)) ((F206 () (0:Int) (x4++([32,123]:Bn)) a2).bind λy6=>let x7:=(Z.fld 1).asList;(aad 0 (Y8 S209_5) ((),(),([]:Bn),x7,(x7.length:Int),(0:Int),y6,Z)).bind λm=>cond (!(m.2.2.1==([]:Bn))) ((F206 () (1:Int) ([125]:Bn) m.2.2.2.1).bind λab=>(F320 () (m.2.2.2.2.fld 2).asList ab).bind λad=>let J:=(m.2.2.2.2.fld 3).asList;(aad 0 (Y7 S209_21) ((),[],J,(J.length:Int),(0:Int),ad,m.2.2.2.2)).bind λz=>cond (decide ((z.2.1.length:Int)>0)) ((amr 0 z.2.1 ([44,32]:Bn)).bind λH=>cond (decide (([114,101,115,101,114,118,101,100,32]:Bn).length+H.length<=aac)) (cond (decide ((([114,101,115,101,114,118,101,100,32]:Bn)++H).length+([59]:Bn).length<=aac)) (let aa:=(([114,101,115,101,114,118,101,100,32]:Bn)++H)++([59]:Bn);(F206 () (1:Int) aa z.2.2.1).bind λM=>(F206 () (0:Int) ([125]:Bn) M).bind λO=>some O) none) none) ((F206 () (0:Int) ([125]:Bn) z.2.2.1).bind λU=>some U)) ((F320 () (m.2.2.2.2.fld 2).asList m.2.2.2.1).bind λV=>let G:=(m.2.2.2.2.fld 3).asList;(aad 0 (Y7 S209_21) ((),[],G,(G.length:Int),(0:Int),V,m.2.2.2.2)).bind λo=>cond (decide ((o.2.1.length:Int)>0)) ((amr 0 o.2.1 ([44,32]:Bn)).bind λt=>cond (decide (([114,101,115,101,114,118,101,100,32]:Bn).length+t.length<=aac)) (cond (decide ((([114,101,115,101,114,118,101,100,32]:Bn)++t).length+([59]:Bn).length<=aac)) (let I:=(([114,101,115,101,114,118,101,100,32]:Bn)++t)++([59]:Bn);(F206 () (1:Int) I o.2.2.1).bind λW=>(F206 () (0:Int) ([125]:Bn) W).bind λX=>some X) none) none) ((F206 () (0:Int) ([125]:Bn) o.2.2.1).bind λY=>some Y))) none) none) none
def S209_5l:LoopE:=⟨5,⟨[0,3,4,21,22,23],[.bld 260,.box 73 .leaf],(.con (.bref 0 260))::(.con (.ref 1 [] 73))::.str::(.slice 85)::(.int .i64)::(.int .i64)::sv60⟩,[(.exit 0,⟨[0,3,4],[.bld 260,.box 73 .leaf],(.con (.bref 0 260))::(.con (.ref 1 [] 73))::.str::sv60⟩)],(Y8 S209_5)⟩
def S209_21l:LoopE:=⟨21,⟨[0,7,74,75,76],[.bld 260,.box 73 .leaf,.acc],(.con (.bref 0 260))::(.acc 2 9)::(.slice 9)::(.int .i64)::(.int .i64)::sv60⟩,[(.exit 2,⟨[0,7],[.bld 260,.box 73 .leaf,.acc],(.con (.bref 0 260))::(.acc 2 9)::sv60⟩)],(Y7 S209_21)⟩
def F209c:KT:=xf 209 ⟨2,bx38,[(.con (.bref 0 260)),.data 73,.str]⟩ f45 (u3 F209) [F318c,F206c,F319c,F320c,F207c,⟨as2 0,ao6 0⟩] [S209_5l,S209_21l] (L2 (xl S209_5l L0) (xl S209_21l L0))
end
end Go.Ab
