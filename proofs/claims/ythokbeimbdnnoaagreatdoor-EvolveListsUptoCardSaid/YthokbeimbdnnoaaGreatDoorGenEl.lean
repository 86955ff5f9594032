/- A part of the proof: lemmas on how the program runs over plain data. -/
import Derived.Test.YthokbeimbdnnoaaGreatDoorAbEvoE
import Derived.Test.YthokbeimbdnnoaaGreatDoorAbLoop
import Derived.KernelRfl
set_option linter.unusedVariables false
set_option linter.unusedSimpArgs false
set_option linter.unnecessarySimpa false
namespace Go.Ab
open Go Go.Proofs
set_option maxRecDepth 100000
noncomputable section

/-- wireschema/desc.Message$1 -/
def F86 (fuel : Nat) (a0 : PV) (a1 : Unit) (a2 : List UInt8) : Option (Bool × (List UInt8)) :=
 some ((((a0.fld 0).asStr) == a2), a2)

def F86c (fuel : Nat) : CallE := ⟨86, ⟨2, [.box 9 .leaf], [(.data 63), (.con (.ref 0 [] 9)), .str]⟩, ⟨1, [.box 9 .leaf], [.bool, .str]⟩, fun x => F86 fuel x.1 x.2.1 x.2.2, (false, [])⟩

theorem F86ok (fuel : Nat) : (F86c fuel).Ok Tryz.prog := okJ Tryz.f86 8 1 fuel [] [] false (q0) (p0) L0

def S85_3 (fuel : Nat) (a2 : Unit) (a3 : Unit) (a4 : List PV) (a5 : Int) (a6 : Int) (a7 : List UInt8) (a8 : PV) : Option ((Unit × Unit × (List PV) × Int × Int × (List UInt8) × PV) ⊕ ((Unit × Bool × (List UInt8) × PV) ⊕ (Unit × (List UInt8) × PV))) :=
 bif (decide (a6 < a5)) then
 bif inRange a6 a4.length then
 let x10 := a4.getD a6.toNat .bad
 (F86 fuel x10 () a7).bind fun y11 =>
 bif y11.1 then
 some (.inr (.inl ((), true, y11.2, x10)))
 else
 some (.inl ((), (), a4, a5, (IntKind.wrap .i64 (a6 + (1 : Int))), y11.2, a8))
 else none
 else
 some (.inr (.inr ((), a7, a8)))

def S85_3step (fuel : Nat) (x : Unit × Unit × (List PV) × Int × Int × (List UInt8) × PV) : Option ((Unit × Unit × (List PV) × Int × Int × (List UInt8) × PV) ⊕ ((Unit × Bool × (List UInt8) × PV) ⊕ (Unit × (List UInt8) × PV))) := S85_3 fuel x.1 x.2.1 x.2.2.1 x.2.2.2.1 x.2.2.2.2.1 x.2.2.2.2.2.1 x.2.2.2.2.2.2

/-- wireschema/desc.first[wireschema/api.Message] -/
def F85 (fuel : Nat) (a0 : List PV) (a1 : Unit) (a2 : List UInt8) : Option (PV × Bool × (List UInt8)) :=
 (loopQ fuel (S85_3step fuel) ((), (), a0, (a0.length : Int), (0 : Int), a2, (PV.agg [(PV.str ([] : List UInt8)), (PV.slice []), (PV.slice []), (PV.slice []), (PV.slice [])]))).bind fun z => sumE (fun y13 =>
 some (y13.2.2.2, y13.2.1, y13.2.2.1)
 ) (fun y14 =>
 some ((PV.agg [(PV.str ([] : List UInt8)), (PV.slice []), (PV.slice []), (PV.slice []), (PV.slice [])]), false, y14.2.1)
 ) z

def S85_3l (fuel : Nat) : LoopE := ⟨3, ⟨[1, 4, 9, 10, 11], [.box 9 .leaf, .box 63 .leaf], [(.con (.fn 86 0 [(.ref 0 [] 9)])), (.con (.ref 1 [] 63)), (.slice 63), (.int .i64), (.int .i64), .str, (.data 63)]⟩, [(.ret, ⟨[4, 5], [.box 9 .leaf, .box 63 .leaf], [(.con (.ref 1 [] 63)), .bool, .str, (.data 63)]⟩), (.exit 0, ⟨[4], [.box 9 .leaf, .box 63 .leaf], [(.con (.ref 1 [] 63)), .str, (.data 63)]⟩)], S85_3step fuel⟩

def F85C (fuel : Nat) : Cfg := cfg Tryz.prog 21 1 [F86c fuel] [S85_3l fuel] fuel

def F85c (fuel : Nat) : CallE := ⟨85, ⟨2, [.box 9 .leaf], [(.slice 63), (.con (.fn 86 0 [(.ref 0 [] 9)])), .str]⟩, ⟨2, [.box 9 .leaf], [(.data 63), .bool, .str]⟩, fun x => F85 fuel x.1 x.2.1 x.2.2, (PV.bad, false, [])⟩

theorem F85k (fuel : Nat) : CallOk (F85C fuel) := cfg_callOkP (qc (F86ok fuel) <| q0) (p0)

theorem S85_3ok (fuel : Nat) : LoopOk (F85C fuel) (lp (bodyOf Tryz.f85) 0) := okL (F85k fuel) fuel (S85_3l fuel) L0

theorem F85ok (fuel : Nat) : (F85c fuel).Ok Tryz.prog := okE Tryz.f85 (F85k fuel) (L1 (S85_3ok fuel))

/-- wireschema/desc.Message -/
def F35 (fuel : Nat) (a0 : PV) (a1 : List UInt8) : Option (PV × Bool) :=
 (F85 fuel ((a0.fld 0).asList) () a1).bind fun y2 =>
 some (y2.1, y2.2.1)

def F35c (fuel : Nat) : CallE := ⟨35, ⟨2, [], [(.data 26), .str]⟩, ⟨2, [], [(.data 63), .bool]⟩, fun x => F35 fuel x.1 x.2, (PV.bad, false)⟩

theorem F35ok (fuel : Nat) : (F35c fuel).Ok Tryz.prog := okJ Tryz.f35 12 0 fuel [F85c fuel] [] false (qc (F85ok fuel) <| q0) (p0) L0

/-- wireschema/desc.Field$1 -/
def F194 (fuel : Nat) (a0 : PV) (a1 : Unit) (a2 : Int) : Option (Bool × Int) :=
 some ((((a0.fld 0).asInt) == a2), a2)

def F194c (fuel : Nat) : CallE := ⟨194, ⟨2, [.box 3 .leaf], [(.data 59), (.con (.ref 0 [] 3)), (.int .i64)]⟩, ⟨1, [.box 3 .leaf], [.bool, (.int .i64)]⟩, fun x => F194 fuel x.1 x.2.1 x.2.2, (false, 0)⟩

theorem F194ok (fuel : Nat) : (F194c fuel).Ok Tryz.prog := okJ Tryz.f194 8 1 fuel [] [] false (q0) (p0) L0

def S193_3 (fuel : Nat) (a2 : Unit) (a3 : Unit) (a4 : List PV) (a5 : Int) (a6 : Int) (a7 : Int) (a8 : PV) : Option ((Unit × Unit × (List PV) × Int × Int × Int × PV) ⊕ ((Unit × Bool × Int × PV) ⊕ (Unit × Int × PV))) :=
 bif (decide (a6 < a5)) then
 bif inRange a6 a4.length then
 let x10 := a4.getD a6.toNat .bad
 (F194 fuel x10 () a7).bind fun y11 =>
 bif y11.1 then
 some (.inr (.inl ((), true, y11.2, x10)))
 else
 some (.inl ((), (), a4, a5, (IntKind.wrap .i64 (a6 + (1 : Int))), y11.2, a8))
 else none
 else
 some (.inr (.inr ((), a7, a8)))

def S193_3step (fuel : Nat) (x : Unit × Unit × (List PV) × Int × Int × Int × PV) : Option ((Unit × Unit × (List PV) × Int × Int × Int × PV) ⊕ ((Unit × Bool × Int × PV) ⊕ (Unit × Int × PV))) := S193_3 fuel x.1 x.2.1 x.2.2.1 x.2.2.2.1 x.2.2.2.2.1 x.2.2.2.2.2.1 x.2.2.2.2.2.2

/-- wireschema/desc.first[wireschema/api.Field] -/
def F193 (fuel : Nat) (a0 : List PV) (a1 : Unit) (a2 : Int) : Option (PV × Bool × Int) :=
 (loopQ fuel (S193_3step fuel) ((), (), a0, (a0.length : Int), (0 : Int), a2, (PV.agg [(PV.int (0 : Int)), (PV.str ([] : List UInt8)), (PV.int (0 : Int)), (PV.int (0 : Int)), (PV.agg [(PV.int (0 : Int)), (PV.str ([] : List UInt8))]), (PV.str ([] : List UInt8)), (PV.bool false), (PV.agg [(PV.int (0 : Int)), (PV.int (0 : Int)), (PV.str ([] : List UInt8)), (PV.slice []), (PV.slice []), (PV.slice []), (PV.slice [])]), (PV.slice [])]))).bind fun z => sumE (fun y13 =>
 some (y13.2.2.2, y13.2.1, y13.2.2.1)
 ) (fun y14 =>
 some ((PV.agg [(PV.int (0 : Int)), (PV.str ([] : List UInt8)), (PV.int (0 : Int)), (PV.int (0 : Int)), (PV.agg [(PV.int (0 : Int)), (PV.str ([] : List UInt8))]), (PV.str ([] : List UInt8)), (PV.bool false), (PV.agg [(PV.int (0 : Int)), (PV.int (0 : Int)), (PV.str ([] : List UInt8)), (PV.slice []), (PV.slice []), (PV.slice []), (PV.slice [])]), (PV.slice [])]), false, y14.2.1)
 ) z

def S193_3l (fuel : Nat) : LoopE := ⟨3, ⟨[1, 4, 9, 10, 11], [.box 3 .leaf, .box 59 .leaf], [(.con (.fn 194 0 [(.ref 0 [] 3)])), (.con (.ref 1 [] 59)), (.slice 59), (.int .i64), (.int .i64), (.int .i64), (.data 59)]⟩, [(.ret, ⟨[4, 5], [.box 3 .leaf, .box 59 .leaf], [(.con (.ref 1 [] 59)), .bool, (.int .i64), (.data 59)]⟩), (.exit 0, ⟨[4], [.box 3 .leaf, .box 59 .leaf], [(.con (.ref 1 [] 59)), (.int .i64), (.data 59)]⟩)], S193_3step fuel⟩

def F193C (fuel : Nat) : Cfg := cfg Tryz.prog 21 1 [F194c fuel] [S193_3l fuel] fuel

def F193c (fuel : Nat) : CallE := ⟨193, ⟨2, [.box 3 .leaf], [(.slice 59), (.con (.fn 194 0 [(.ref 0 [] 3)])), (.int .i64)]⟩, ⟨2, [.box 3 .leaf], [(.data 59), .bool, (.int .i64)]⟩, fun x => F193 fuel x.1 x.2.1 x.2.2, (PV.bad, false, 0)⟩

theorem F193k (fuel : Nat) : CallOk (F193C fuel) := cfg_callOkP (qc (F194ok fuel) <| q0) (p0)

theorem S193_3ok (fuel : Nat) : LoopOk (F193C fuel) (lp (bodyOf Tryz.f193) 0) := okL (F193k fuel) fuel (S193_3l fuel) L0

theorem F193ok (fuel : Nat) : (F193c fuel).Ok Tryz.prog := okE Tryz.f193 (F193k fuel) (L1 (S193_3ok fuel))

/-- wireschema/desc.Field -/
def F129 (fuel : Nat) (a0 : PV) (a1 : Int) : Option (PV × Bool) :=
 (F193 fuel ((a0.fld 1).asList) () a1).bind fun y2 =>
 some (y2.1, y2.2.1)

def F129c (fuel : Nat) : CallE := ⟨129, ⟨2, [], [(.data 63), (.int .i64)]⟩, ⟨2, [], [(.data 59), .bool]⟩, fun x => F129 fuel x.1 x.2, (PV.bad, false)⟩

theorem F129ok (fuel : Nat) : (F129c fuel).Ok Tryz.prog := okJ Tryz.f129 12 0 fuel [F193c fuel] [] false (qc (F193ok fuel) <| q0) (p0) L0

/-- (*wireschema/evolve.collector).add -/
def F36 (fuel : Nat) (a0 : Unit) (a1 : List PV) (a2 : List PV) : Option ((List PV)) :=
 bif decide (a2.length + a1.length ≤ accMax) then
 some (a2 ++ a1)
 else none

def F36c (fuel : Nat) : CallE := ⟨36, ⟨2, [.box 66 (.agg 66 [.leaf]), .acc], [(.con (.ref 0 [] 66)), (.slice 34), (.acc 1 34)]⟩, ⟨0, [.box 66 (.agg 66 [.leaf]), .acc], [(.acc 1 34)]⟩, fun x => F36 fuel x.1 x.2.1 x.2.2, []⟩

theorem F36ok (fuel : Nat) : (F36c fuel).Ok Tryz.prog := okJ Tryz.f36 13 2 fuel [] [] false (q0) (p0) L0

/-- (*wireschema/evolve.collector).differ -/
def F153 (fuel : Nat) (a0 : Unit) (a1 : Int) (a2 : List UInt8) (a3 : Int) (a4 : List UInt8) (a5 : List UInt8) (a6 : Bool) (a7 : List PV) : Option ((List PV)) :=
 bif a6 then
 (F36 fuel () [(PV.agg [(PV.int a1), (PV.str a2), (PV.int a3), (PV.str a4), (PV.str a5)])] a7).bind fun y1 =>
 some y1
 else
 some a7

def F153c (fuel : Nat) : CallE := ⟨153, ⟨7, [.box 66 (.agg 66 [.leaf]), .acc], [(.con (.ref 0 [] 66)), (.int .i64), .str, (.int .i64), .str, .str, .bool, (.acc 1 34)]⟩, ⟨0, [.box 66 (.agg 66 [.leaf]), .acc], [(.acc 1 34)]⟩, fun x => F153 fuel x.1 x.2.1 x.2.2.1 x.2.2.2.1 x.2.2.2.2.1 x.2.2.2.2.2.1 x.2.2.2.2.2.2.1 x.2.2.2.2.2.2.2, []⟩

theorem F153ok (fuel : Nat) : (F153c fuel).Ok Tryz.prog := okJ Tryz.f153 24 2 fuel [F36c fuel] [] false (qc (F36ok fuel) <| q0) (p0) L0

/-- wireschema/format.plain -/
def F247 (fuel : Nat) (a0 : Int) : Option (Bool) :=
 some (bif (decide (a0 ≥ (1 : Int))) then (decide (a0 ≤ (8 : Int))) else false)

def F247c (fuel : Nat) : CallE := ⟨247, ⟨1, [], [(.int .i64)]⟩, ⟨1, [], [.bool]⟩, fun x => F247 fuel x, false⟩

theorem F247ok (fuel : Nat) : (F247c fuel).Ok Tryz.prog := okJ Tryz.f247 9 0 fuel [] [] false (q0) (p0) L0

/-- wireschema/parse.words -/
def F249 (fuel : Nat)  : Option (PV) :=
 let x1 := (PV.agg [(PV.str ([98, 111, 111, 108] : List UInt8)), (PV.str ([105, 51, 50] : List UInt8)), (PV.str ([105, 54, 52] : List UInt8)), (PV.str ([117, 51, 50] : List UInt8)), (PV.str ([117, 54, 52] : List UInt8)), (PV.str ([100, 111, 117, 98, 108, 101] : List UInt8)), (PV.str ([116, 101, 120, 116] : List UInt8)), (PV.str ([98, 121, 116, 101, 115] : List UInt8))])
 some x1

def F249c (fuel : Nat) : CallE := ⟨249, ⟨0, [], []⟩, ⟨1, [], [(.data 299)]⟩, fun x => F249 fuel , PV.bad⟩

theorem F249ok (fuel : Nat) : (F249c fuel).Ok Tryz.prog := okJ Tryz.f249 2 0 fuel [] [] false (q0) (p0) L0

/-- wireschema/parse.Word -/
def F214 (fuel : Nat) (a0 : Int) : Option ((List UInt8)) :=
 bif (bif (decide (a0 < (1 : Int))) then true else (decide (a0 > (8 : Int)))) then
 some ([] : List UInt8)
 else
 (F249 fuel).bind fun y4 =>
 let x5 := IntKind.wrap .i64 (a0 - (1 : Int))
 bif inRange x5 8 then
 some ((y4.fld x5.toNat).asStr)
 else none

def F214c (fuel : Nat) : CallE := ⟨214, ⟨1, [], [(.int .i64)]⟩, ⟨1, [], [.str]⟩, fun x => F214 fuel x, []⟩

theorem F214ok (fuel : Nat) : (F214c fuel).Ok Tryz.prog := okJ Tryz.f214 13 0 fuel [F249c fuel] [] false (qc (F249ok fuel) <| q0) (p0) L0

/-- wireschema/format.Type -/
def F212 (fuel : Nat) (a0 : PV) : Option ((List UInt8)) :=
 (F247 fuel ((a0.fld 0).asInt)).bind fun y2 =>
 bif (bif y2 then (((a0.fld 1).asStr) == ([] : List UInt8)) else false) then
 (F214 fuel ((a0.fld 0).asInt)).bind fun y7 =>
 some y7
 else
 none

def F212c (fuel : Nat) : CallE := ⟨212, ⟨1, [], [(.data 49)]⟩, ⟨1, [], [.str]⟩, fun x => F212 fuel x, []⟩

theorem F212ok (fuel : Nat) : (F212c fuel).Ok Tryz.prog := okJ Tryz.f212 36 0 fuel [F247c fuel, F214c fuel] [] false (qc (F247ok fuel) <| qc (F214ok fuel) <| q0) (p0) L0

/-- wireschema/evolve.cardWord -/
def F213 (fuel : Nat) (a0 : Int) : Option ((List UInt8)) :=
 bif (a0 == (1 : Int)) then
 some ([114, 101, 113, 117, 105, 114, 101, 100] : List UInt8)
 else
 bif (a0 == (2 : Int)) then
 some ([111, 112, 116, 105, 111, 110, 97, 108] : List UInt8)
 else
 bif (a0 == (3 : Int)) then
 some ([112, 108, 97, 105, 110] : List UInt8)
 else
 bif (a0 == (4 : Int)) then
 some ([108, 105, 115, 116] : List UInt8)
 else
 bif (a0 == (5 : Int)) then
 some ([109, 97, 112] : List UInt8)
 else
 some ([] : List UInt8)

def F213c (fuel : Nat) : CallE := ⟨213, ⟨1, [], [(.int .i64)]⟩, ⟨1, [], [.str]⟩, fun x => F213 fuel x, []⟩

theorem F213ok (fuel : Nat) : (F213c fuel).Ok Tryz.prog := okJ Tryz.f213 14 0 fuel [] [] false (q0) (p0) L0

/-- wireschema/evolve.literal -/
def F215 (fuel : Nat) (a0 : PV) : Option ((List UInt8)) :=
 bif (!((a0.fld 6).asBool)) then
 some ([] : List UInt8)
 else
 none

def F215c (fuel : Nat) : CallE := ⟨215, ⟨1, [], [(.data 59)]⟩, ⟨1, [], [.str]⟩, fun x => F215 fuel x, []⟩

theorem F215ok (fuel : Nat) : (F215c fuel).Ok Tryz.prog := okJ Tryz.f215 9 0 fuel [] [] false (q0) (p0) L0

/-- (*wireschema/evolve.collector).field -/
def F152 (fuel : Nat) (a0 : Unit) (a1 : List UInt8) (a2 : PV) (a3 : PV) (a4 : List PV) : Option ((List PV)) :=
 (F153 fuel () (5 : Int) a1 ((a2.fld 0).asInt) ((a2.fld 1).asStr) ((a3.fld 1).asStr) (!(((a2.fld 1).asStr) == ((a3.fld 1).asStr))) a4).bind fun y7 =>
 (F212 fuel (a2.fld 4)).bind fun y10 =>
 (F212 fuel (a3.fld 4)).bind fun y12 =>
 (F153 fuel () (6 : Int) a1 ((a2.fld 0).asInt) y10 y12 (bif ((((a2.fld 4).fld 0).asInt) != (((a3.fld 4).fld 0).asInt)) then true else (!((((a2.fld 4).fld 1).asStr) == (((a3.fld 4).fld 1).asStr)))) y7).bind fun y20 =>
 (F213 fuel ((a2.fld 2).asInt)).bind fun y23 =>
 (F213 fuel ((a3.fld 2).asInt)).bind fun y25 =>
 (F153 fuel () (7 : Int) a1 ((a2.fld 0).asInt) y23 y25 (((a2.fld 2).asInt) != ((a3.fld 2).asInt)) y20).bind fun y29 =>
 (F214 fuel ((a2.fld 3).asInt)).bind fun y32 =>
 (F214 fuel ((a3.fld 3).asInt)).bind fun y34 =>
 (F153 fuel () (8 : Int) a1 ((a2.fld 0).asInt) y32 y34 (((a2.fld 3).asInt) != ((a3.fld 3).asInt)) y29).bind fun y38 =>
 (F153 fuel () (9 : Int) a1 ((a2.fld 0).asInt) ((a2.fld 5).asStr) ((a3.fld 5).asStr) (!(((a2.fld 5).asStr) == ((a3.fld 5).asStr))) y38).bind fun y45 =>
 let x46 := a2.fld 7
 let x47 := a3.fld 7
 (F215 fuel a2).bind fun y49 =>
 (F215 fuel a3).bind fun y50 =>
 (F153 fuel () (10 : Int) a1 ((a2.fld 0).asInt) y49 y50 (bif (bif (bif (!(((a2.fld 6).asBool) == ((a3.fld 6).asBool))) then true else (((x46.fld 0).asInt) != ((x47.fld 0).asInt))) then true else (((x46.fld 1).asInt) != ((x47.fld 1).asInt))) then true else (!(((x46.fld 2).asStr) == ((x47.fld 2).asStr)))) y45).bind fun y66 =>
 some y66

def F152c (fuel : Nat) : CallE := ⟨152, ⟨4, [.box 66 (.agg 66 [.leaf]), .acc], [(.con (.ref 0 [] 66)), .str, (.data 59), (.data 59), (.acc 1 34)]⟩, ⟨0, [.box 66 (.agg 66 [.leaf]), .acc], [(.acc 1 34)]⟩, fun x => F152 fuel x.1 x.2.1 x.2.2.1 x.2.2.2.1 x.2.2.2.2, []⟩

theorem F152ok (fuel : Nat) : (F152c fuel).Ok Tryz.prog := okJ Tryz.f152 136 2 fuel [F153c fuel, F212c fuel, F213c fuel, F214c fuel, F215c fuel] [] false (qc (F153ok fuel) <| qc (F212ok fuel) <| qc (F213ok fuel) <| qc (F214ok fuel) <| qc (F215ok fuel) <| q0) (p0) L0

def S82_3 (fuel : Nat) (a3 : Unit) (a4 : Unit) (a5 : Unit) (a6 : List PV) (a7 : Int) (a8 : Int) (a9 : List PV) (a10 : PV) (a11 : PV) : Option ((Unit × Unit × Unit × (List PV) × Int × Int × (List PV) × PV × PV) ⊕ ((Unit × Unit × Unit × (List PV) × PV × PV))) :=
 bif (decide (a8 < a7)) then
 bif inRange a8 a6.length then
 let x13 := a6.getD a8.toNat .bad
 (F129 fuel a11 ((x13.fld 0).asInt)).bind fun y15 =>
 bif y15.2 then
 (F152 fuel () ((a10.fld 0).asStr) x13 y15.1 a9).bind fun y19 =>
 some (.inl ((), (), (), a6, a7, (IntKind.wrap .i64 (a8 + (1 : Int))), y19, a10, a11))
 else
 (F36 fuel () [(PV.agg [(PV.int (3 : Int)), (PV.str ((a10.fld 0).asStr)), (PV.int ((x13.fld 0).asInt)), (PV.str ((x13.fld 1).asStr)), (PV.str ([] : List UInt8))])] a9).bind fun y24 =>
 some (.inl ((), (), (), a6, a7, (IntKind.wrap .i64 (a8 + (1 : Int))), y24, a10, a11))
 else none
 else
 some (.inr ((), (), (), a9, a10, a11))

def S82_3step (fuel : Nat) (x : Unit × Unit × Unit × (List PV) × Int × Int × (List PV) × PV × PV) : Option ((Unit × Unit × Unit × (List PV) × Int × Int × (List PV) × PV × PV) ⊕ ((Unit × Unit × Unit × (List PV) × PV × PV))) := S82_3 fuel x.1 x.2.1 x.2.2.1 x.2.2.2.1 x.2.2.2.2.1 x.2.2.2.2.2.1 x.2.2.2.2.2.2.1 x.2.2.2.2.2.2.2.1 x.2.2.2.2.2.2.2.2

def S82_11 (fuel : Nat) (a29 : Unit) (a30 : Unit) (a31 : List PV) (a32 : Int) (a33 : Int) (a34 : List PV) (a35 : PV) (a36 : PV) : Option ((Unit × Unit × (List PV) × Int × Int × (List PV) × PV × PV) ⊕ (((List PV) × PV × PV))) :=
 bif (decide (a33 < a32)) then
 bif inRange a33 a31.length then
 let x38 := a31.getD a33.toNat .bad
 (F129 fuel a35 ((x38.fld 0).asInt)).bind fun y40 =>
 bif (!y40.2) then
 (F36 fuel () [(PV.agg [(PV.int (4 : Int)), (PV.str ((a35.fld 0).asStr)), (PV.int ((x38.fld 0).asInt)), (PV.str ([] : List UInt8)), (PV.str ((x38.fld 1).asStr))])] a34).bind fun y47 =>
 some (.inl ((), (), a31, a32, (IntKind.wrap .i64 (a33 + (1 : Int))), y47, a35, a36))
 else
 some (.inl ((), (), a31, a32, (IntKind.wrap .i64 (a33 + (1 : Int))), a34, a35, a36))
 else none
 else
 some (.inr (a34, a35, a36))

def S82_11step (fuel : Nat) (x : Unit × Unit × (List PV) × Int × Int × (List PV) × PV × PV) : Option ((Unit × Unit × (List PV) × Int × Int × (List PV) × PV × PV) ⊕ (((List PV) × PV × PV))) := S82_11 fuel x.1 x.2.1 x.2.2.1 x.2.2.2.1 x.2.2.2.2.1 x.2.2.2.2.2.1 x.2.2.2.2.2.2.1 x.2.2.2.2.2.2.2

/-- (*wireschema/evolve.collector).fields -/
def F82 (fuel : Nat) (a0 : Unit) (a1 : PV) (a2 : PV) (a3 : List PV) : Option ((List PV)) :=
 let x1 := (a1.fld 1).asList
 (loopQ fuel (S82_3step fuel) ((), (), (), x1, (x1.length : Int), (0 : Int), a3, a1, a2)).bind fun y26 =>
 let x27 := (y26.2.2.2.2.2.fld 1).asList
 (loopQ fuel (S82_11step fuel) ((), (), x27, (x27.length : Int), (0 : Int), y26.2.2.2.1, y26.2.2.2.2.1, y26.2.2.2.2.2)).bind fun y50 =>
 some y50.1

def S82_3l (fuel : Nat) : LoopE := ⟨3, ⟨[0, 4, 5, 15, 16, 17], [.box 66 (.agg 66 [.leaf]), .acc, .box 63 .leaf, .box 63 .leaf], [(.con (.ref 0 [] 66)), (.con (.ref 2 [] 63)), (.con (.ref 3 [] 63)), (.slice 59), (.int .i64), (.int .i64), (.acc 1 34), (.data 63), (.data 63)]⟩, [(.exit 0, ⟨[0, 4, 5], [.box 66 (.agg 66 [.leaf]), .acc, .box 63 .leaf, .box 63 .leaf], [(.con (.ref 0 [] 66)), (.con (.ref 2 [] 63)), (.con (.ref 3 [] 63)), (.acc 1 34), (.data 63), (.data 63)]⟩)], S82_3step fuel⟩

def S82_11l (fuel : Nat) : LoopE := ⟨11, ⟨[0, 4, 47, 48, 49], [.box 66 (.agg 66 [.leaf]), .acc, .box 63 .leaf, .box 63 .leaf], [(.con (.ref 0 [] 66)), (.con (.ref 2 [] 63)), (.slice 59), (.int .i64), (.int .i64), (.acc 1 34), (.data 63), (.data 63)]⟩, [(.exit 2, ⟨[], [.box 66 (.agg 66 [.leaf]), .acc, .box 63 .leaf, .box 63 .leaf], [(.acc 1 34), (.data 63), (.data 63)]⟩)], S82_11step fuel⟩

def F82C (fuel : Nat) : Cfg := cfg Tryz.prog 73 2 [F129c fuel, F152c fuel, F36c fuel] [S82_3l fuel, S82_11l fuel] fuel

def F82c (fuel : Nat) : CallE := ⟨82, ⟨3, [.box 66 (.agg 66 [.leaf]), .acc], [(.con (.ref 0 [] 66)), (.data 63), (.data 63), (.acc 1 34)]⟩, ⟨0, [.box 66 (.agg 66 [.leaf]), .acc], [(.acc 1 34)]⟩, fun x => F82 fuel x.1 x.2.1 x.2.2.1 x.2.2.2, []⟩

theorem F82k (fuel : Nat) : CallOk (F82C fuel) := cfg_callOkP (qc (F129ok fuel) <| qc (F152ok fuel) <| qc (F36ok fuel) <| q0) (p0)

theorem S82_3ok (fuel : Nat) : LoopOk (F82C fuel) (lp (bodyOf Tryz.f82) 0) := okL (F82k fuel) fuel (S82_3l fuel) L0

theorem S82_11ok (fuel : Nat) : LoopOk (F82C fuel) (lp (bodyOf Tryz.f82) 1) := okL (F82k fuel) fuel (S82_11l fuel) L0

theorem F82ok (fuel : Nat) : (F82c fuel).Ok Tryz.prog := okE Tryz.f82 (F82k fuel) (L2 (S82_3ok fuel) (S82_11ok fuel))

/-- wireschema/desc.Enum$1 -/
def F88 (fuel : Nat) (a0 : PV) (a1 : Unit) (a2 : List UInt8) : Option (Bool × (List UInt8)) :=
 some ((((a0.fld 0).asStr) == a2), a2)

def F88c (fuel : Nat) : CallE := ⟨88, ⟨2, [.box 9 .leaf], [(.data 73), (.con (.ref 0 [] 9)), .str]⟩, ⟨1, [.box 9 .leaf], [.bool, .str]⟩, fun x => F88 fuel x.1 x.2.1 x.2.2, (false, [])⟩

theorem F88ok (fuel : Nat) : (F88c fuel).Ok Tryz.prog := okJ Tryz.f88 8 1 fuel [] [] false (q0) (p0) L0

def S87_3 (fuel : Nat) (a2 : Unit) (a3 : Unit) (a4 : List PV) (a5 : Int) (a6 : Int) (a7 : List UInt8) (a8 : PV) : Option ((Unit × Unit × (List PV) × Int × Int × (List UInt8) × PV) ⊕ ((Unit × Bool × (List UInt8) × PV) ⊕ (Unit × (List UInt8) × PV))) :=
 bif (decide (a6 < a5)) then
 bif inRange a6 a4.length then
 let x10 := a4.getD a6.toNat .bad
 (F88 fuel x10 () a7).bind fun y11 =>
 bif y11.1 then
 some (.inr (.inl ((), true, y11.2, x10)))
 else
 some (.inl ((), (), a4, a5, (IntKind.wrap .i64 (a6 + (1 : Int))), y11.2, a8))
 else none
 else
 some (.inr (.inr ((), a7, a8)))

def S87_3step (fuel : Nat) (x : Unit × Unit × (List PV) × Int × Int × (List UInt8) × PV) : Option ((Unit × Unit × (List PV) × Int × Int × (List UInt8) × PV) ⊕ ((Unit × Bool × (List UInt8) × PV) ⊕ (Unit × (List UInt8) × PV))) := S87_3 fuel x.1 x.2.1 x.2.2.1 x.2.2.2.1 x.2.2.2.2.1 x.2.2.2.2.2.1 x.2.2.2.2.2.2

/-- wireschema/desc.first[wireschema/api.Enum] -/
def F87 (fuel : Nat) (a0 : List PV) (a1 : Unit) (a2 : List UInt8) : Option (PV × Bool × (List UInt8)) :=
 (loopQ fuel (S87_3step fuel) ((), (), a0, (a0.length : Int), (0 : Int), a2, (PV.agg [(PV.str ([] : List UInt8)), (PV.bool false), (PV.slice []), (PV.slice []), (PV.slice [])]))).bind fun z => sumE (fun y13 =>
 some (y13.2.2.2, y13.2.1, y13.2.2.1)
 ) (fun y14 =>
 some ((PV.agg [(PV.str ([] : List UInt8)), (PV.bool false), (PV.slice []), (PV.slice []), (PV.slice [])]), false, y14.2.1)
 ) z

def S87_3l (fuel : Nat) : LoopE := ⟨3, ⟨[1, 4, 9, 10, 11], [.box 9 .leaf, .box 73 .leaf], [(.con (.fn 88 0 [(.ref 0 [] 9)])), (.con (.ref 1 [] 73)), (.slice 73), (.int .i64), (.int .i64), .str, (.data 73)]⟩, [(.ret, ⟨[4, 5], [.box 9 .leaf, .box 73 .leaf], [(.con (.ref 1 [] 73)), .bool, .str, (.data 73)]⟩), (.exit 0, ⟨[4], [.box 9 .leaf, .box 73 .leaf], [(.con (.ref 1 [] 73)), .str, (.data 73)]⟩)], S87_3step fuel⟩

def F87C (fuel : Nat) : Cfg := cfg Tryz.prog 21 1 [F88c fuel] [S87_3l fuel] fuel

def F87c (fuel : Nat) : CallE := ⟨87, ⟨2, [.box 9 .leaf], [(.slice 73), (.con (.fn 88 0 [(.ref 0 [] 9)])), .str]⟩, ⟨2, [.box 9 .leaf], [(.data 73), .bool, .str]⟩, fun x => F87 fuel x.1 x.2.1 x.2.2, (PV.bad, false, [])⟩

theorem F87k (fuel : Nat) : CallOk (F87C fuel) := cfg_callOkP (qc (F88ok fuel) <| q0) (p0)

theorem S87_3ok (fuel : Nat) : LoopOk (F87C fuel) (lp (bodyOf Tryz.f87) 0) := okL (F87k fuel) fuel (S87_3l fuel) L0

theorem F87ok (fuel : Nat) : (F87c fuel).Ok Tryz.prog := okE Tryz.f87 (F87k fuel) (L1 (S87_3ok fuel))

/-- wireschema/desc.Enum -/
def F37 (fuel : Nat) (a0 : PV) (a1 : List UInt8) : Option (PV × Bool) :=
 (F87 fuel ((a0.fld 1).asList) () a1).bind fun y2 =>
 some (y2.1, y2.2.1)

def F37c (fuel : Nat) : CallE := ⟨37, ⟨2, [], [(.data 26), .str]⟩, ⟨2, [], [(.data 73), .bool]⟩, fun x => F37 fuel x.1 x.2, (PV.bad, false)⟩

theorem F37ok (fuel : Nat) : (F37c fuel).Ok Tryz.prog := okJ Tryz.f37 12 0 fuel [F87c fuel] [] false (qc (F87ok fuel) <| q0) (p0) L0

/-- wireschema/evolve.openWord -/
def F154 (fuel : Nat) (a0 : Bool) : Option ((List UInt8)) :=
 bif a0 then
 some ([111, 112, 101, 110] : List UInt8)
 else
 some ([99, 108, 111, 115, 101, 100] : List UInt8)

def F154c (fuel : Nat) : CallE := ⟨154, ⟨1, [], [.bool]⟩, ⟨1, [], [.str]⟩, fun x => F154 fuel x, []⟩

theorem F154ok (fuel : Nat) : (F154c fuel).Ok Tryz.prog := okJ Tryz.f154 4 0 fuel [] [] false (q0) (p0) L0

/-- wireschema/desc.Item$1 -/
def F196 (fuel : Nat) (a0 : PV) (a1 : Unit) (a2 : Int) : Option (Bool × Int) :=
 some ((((a0.fld 1).asInt) == a2), a2)

def F196c (fuel : Nat) : CallE := ⟨196, ⟨2, [.box 3 .leaf], [(.data 103), (.con (.ref 0 [] 3)), (.int .i64)]⟩, ⟨1, [.box 3 .leaf], [.bool, (.int .i64)]⟩, fun x => F196 fuel x.1 x.2.1 x.2.2, (false, 0)⟩

theorem F196ok (fuel : Nat) : (F196c fuel).Ok Tryz.prog := okJ Tryz.f196 8 1 fuel [] [] false (q0) (p0) L0

def S195_3 (fuel : Nat) (a2 : Unit) (a3 : Unit) (a4 : List PV) (a5 : Int) (a6 : Int) (a7 : Int) (a8 : PV) : Option ((Unit × Unit × (List PV) × Int × Int × Int × PV) ⊕ ((Unit × Bool × Int × PV) ⊕ (Unit × Int × PV))) :=
 bif (decide (a6 < a5)) then
 bif inRange a6 a4.length then
 let x10 := a4.getD a6.toNat .bad
 (F196 fuel x10 () a7).bind fun y11 =>
 bif y11.1 then
 some (.inr (.inl ((), true, y11.2, x10)))
 else
 some (.inl ((), (), a4, a5, (IntKind.wrap .i64 (a6 + (1 : Int))), y11.2, a8))
 else none
 else
 some (.inr (.inr ((), a7, a8)))

def S195_3step (fuel : Nat) (x : Unit × Unit × (List PV) × Int × Int × Int × PV) : Option ((Unit × Unit × (List PV) × Int × Int × Int × PV) ⊕ ((Unit × Bool × Int × PV) ⊕ (Unit × Int × PV))) := S195_3 fuel x.1 x.2.1 x.2.2.1 x.2.2.2.1 x.2.2.2.2.1 x.2.2.2.2.2.1 x.2.2.2.2.2.2

/-- wireschema/desc.first[wireschema/api.Item] -/
def F195 (fuel : Nat) (a0 : List PV) (a1 : Unit) (a2 : Int) : Option (PV × Bool × Int) :=
 (loopQ fuel (S195_3step fuel) ((), (), a0, (a0.length : Int), (0 : Int), a2, (PV.agg [(PV.str ([] : List UInt8)), (PV.int (0 : Int)), (PV.slice [])]))).bind fun z => sumE (fun y13 =>
 some (y13.2.2.2, y13.2.1, y13.2.2.1)
 ) (fun y14 =>
 some ((PV.agg [(PV.str ([] : List UInt8)), (PV.int (0 : Int)), (PV.slice [])]), false, y14.2.1)
 ) z

def S195_3l (fuel : Nat) : LoopE := ⟨3, ⟨[1, 4, 9, 10, 11], [.box 3 .leaf, .box 103 .leaf], [(.con (.fn 196 0 [(.ref 0 [] 3)])), (.con (.ref 1 [] 103)), (.slice 103), (.int .i64), (.int .i64), (.int .i64), (.data 103)]⟩, [(.ret, ⟨[4, 5], [.box 3 .leaf, .box 103 .leaf], [(.con (.ref 1 [] 103)), .bool, (.int .i64), (.data 103)]⟩), (.exit 0, ⟨[4], [.box 3 .leaf, .box 103 .leaf], [(.con (.ref 1 [] 103)), (.int .i64), (.data 103)]⟩)], S195_3step fuel⟩

def F195C (fuel : Nat) : Cfg := cfg Tryz.prog 21 1 [F196c fuel] [S195_3l fuel] fuel

def F195c (fuel : Nat) : CallE := ⟨195, ⟨2, [.box 3 .leaf], [(.slice 103), (.con (.fn 196 0 [(.ref 0 [] 3)])), (.int .i64)]⟩, ⟨2, [.box 3 .leaf], [(.data 103), .bool, (.int .i64)]⟩, fun x => F195 fuel x.1 x.2.1 x.2.2, (PV.bad, false, 0)⟩

theorem F195k (fuel : Nat) : CallOk (F195C fuel) := cfg_callOkP (qc (F196ok fuel) <| q0) (p0)

theorem S195_3ok (fuel : Nat) : LoopOk (F195C fuel) (lp (bodyOf Tryz.f195) 0) := okL (F195k fuel) fuel (S195_3l fuel) L0

theorem F195ok (fuel : Nat) : (F195c fuel).Ok Tryz.prog := okE Tryz.f195 (F195k fuel) (L1 (S195_3ok fuel))

/-- wireschema/desc.Item -/
def F130 (fuel : Nat) (a0 : PV) (a1 : Int) : Option (PV × Bool) :=
 (F195 fuel ((a0.fld 2).asList) () a1).bind fun y2 =>
 some (y2.1, y2.2.1)

def F130c (fuel : Nat) : CallE := ⟨130, ⟨2, [], [(.data 73), (.int .i64)]⟩, ⟨2, [], [(.data 103), .bool]⟩, fun x => F130 fuel x.1 x.2, (PV.bad, false)⟩

theorem F130ok (fuel : Nat) : (F130c fuel).Ok Tryz.prog := okJ Tryz.f130 12 0 fuel [F195c fuel] [] false (qc (F195ok fuel) <| q0) (p0) L0

def S83_4 (fuel : Nat) (a12 : Unit) (a13 : Unit) (a14 : Unit) (a15 : List PV) (a16 : Int) (a17 : Int) (a18 : List PV) (a19 : PV) (a20 : PV) : Option ((Unit × Unit × Unit × (List PV) × Int × Int × (List PV) × PV × PV) ⊕ ((Unit × Unit × Unit × (List PV) × PV × PV))) :=
 bif (decide (a17 < a16)) then
 bif inRange a17 a15.length then
 let x22 := a15.getD a17.toNat .bad
 (F130 fuel a20 ((x22.fld 1).asInt)).bind fun y24 =>
 let x25 := y24.1
 bif y24.2 then
 (F153 fuel () (16 : Int) ((a19.fld 0).asStr) ((x22.fld 1).asInt) ((x22.fld 0).asStr) ((x25.fld 0).asStr) (!(((x22.fld 0).asStr) == ((x25.fld 0).asStr))) a18).bind fun y34 =>
 some (.inl ((), (), (), a15, a16, (IntKind.wrap .i64 (a17 + (1 : Int))), y34, a19, a20))
 else
 (F36 fuel () [(PV.agg [(PV.int (14 : Int)), (PV.str ((a19.fld 0).asStr)), (PV.int ((x22.fld 1).asInt)), (PV.str ((x22.fld 0).asStr)), (PV.str ([] : List UInt8))])] a18).bind fun y39 =>
 some (.inl ((), (), (), a15, a16, (IntKind.wrap .i64 (a17 + (1 : Int))), y39, a19, a20))
 else none
 else
 some (.inr ((), (), (), a18, a19, a20))

def S83_4step (fuel : Nat) (x : Unit × Unit × Unit × (List PV) × Int × Int × (List PV) × PV × PV) : Option ((Unit × Unit × Unit × (List PV) × Int × Int × (List PV) × PV × PV) ⊕ ((Unit × Unit × Unit × (List PV) × PV × PV))) := S83_4 fuel x.1 x.2.1 x.2.2.1 x.2.2.2.1 x.2.2.2.2.1 x.2.2.2.2.2.1 x.2.2.2.2.2.2.1 x.2.2.2.2.2.2.2.1 x.2.2.2.2.2.2.2.2

def S83_12 (fuel : Nat) (a44 : Unit) (a45 : Unit) (a46 : List PV) (a47 : Int) (a48 : Int) (a49 : List PV) (a50 : PV) (a51 : PV) : Option ((Unit × Unit × (List PV) × Int × Int × (List PV) × PV × PV) ⊕ (((List PV) × PV × PV))) :=
 bif (decide (a48 < a47)) then
 bif inRange a48 a46.length then
 let x53 := a46.getD a48.toNat .bad
 (F130 fuel a50 ((x53.fld 1).asInt)).bind fun y55 =>
 bif (!y55.2) then
 (F36 fuel () [(PV.agg [(PV.int (15 : Int)), (PV.str ((a50.fld 0).asStr)), (PV.int ((x53.fld 1).asInt)), (PV.str ([] : List UInt8)), (PV.str ((x53.fld 0).asStr))])] a49).bind fun y62 =>
 some (.inl ((), (), a46, a47, (IntKind.wrap .i64 (a48 + (1 : Int))), y62, a50, a51))
 else
 some (.inl ((), (), a46, a47, (IntKind.wrap .i64 (a48 + (1 : Int))), a49, a50, a51))
 else none
 else
 some (.inr (a49, a50, a51))

def S83_12step (fuel : Nat) (x : Unit × Unit × (List PV) × Int × Int × (List PV) × PV × PV) : Option ((Unit × Unit × (List PV) × Int × Int × (List PV) × PV × PV) ⊕ (((List PV) × PV × PV))) := S83_12 fuel x.1 x.2.1 x.2.2.1 x.2.2.2.1 x.2.2.2.2.1 x.2.2.2.2.2.1 x.2.2.2.2.2.2.1 x.2.2.2.2.2.2.2

/-- (*wireschema/evolve.collector).items -/
def F83 (fuel : Nat) (a0 : Unit) (a1 : PV) (a2 : PV) (a3 : List PV) : Option ((List PV)) :=
 (F154 fuel ((a1.fld 1).asBool)).bind fun y3 =>
 (F154 fuel ((a2.fld 1).asBool)).bind fun y5 =>
 (F153 fuel () (13 : Int) ((a1.fld 0).asStr) (-1 : Int) y3 y5 (!(((a1.fld 1).asBool) == ((a2.fld 1).asBool))) a3).bind fun y9 =>
 let x10 := (a1.fld 2).asList
 (loopQ fuel (S83_4step fuel) ((), (), (), x10, (x10.length : Int), (0 : Int), y9, a1, a2)).bind fun y41 =>
 let x42 := (y41.2.2.2.2.2.fld 2).asList
 (loopQ fuel (S83_12step fuel) ((), (), x42, (x42.length : Int), (0 : Int), y41.2.2.2.1, y41.2.2.2.2.1, y41.2.2.2.2.2)).bind fun y65 =>
 some y65.1

def S83_4l (fuel : Nat) : LoopE := ⟨4, ⟨[0, 4, 5, 30, 31, 32], [.box 66 (.agg 66 [.leaf]), .acc, .box 73 .leaf, .box 73 .leaf], [(.con (.ref 0 [] 66)), (.con (.ref 2 [] 73)), (.con (.ref 3 [] 73)), (.slice 103), (.int .i64), (.int .i64), (.acc 1 34), (.data 73), (.data 73)]⟩, [(.exit 0, ⟨[0, 4, 5], [.box 66 (.agg 66 [.leaf]), .acc, .box 73 .leaf, .box 73 .leaf], [(.con (.ref 0 [] 66)), (.con (.ref 2 [] 73)), (.con (.ref 3 [] 73)), (.acc 1 34), (.data 73), (.data 73)]⟩)], S83_4step fuel⟩

def S83_12l (fuel : Nat) : LoopE := ⟨12, ⟨[0, 4, 71, 72, 73], [.box 66 (.agg 66 [.leaf]), .acc, .box 73 .leaf, .box 73 .leaf], [(.con (.ref 0 [] 66)), (.con (.ref 2 [] 73)), (.slice 103), (.int .i64), (.int .i64), (.acc 1 34), (.data 73), (.data 73)]⟩, [(.exit 2, ⟨[], [.box 66 (.agg 66 [.leaf]), .acc, .box 73 .leaf, .box 73 .leaf], [(.acc 1 34), (.data 73), (.data 73)]⟩)], S83_12step fuel⟩

def F83C (fuel : Nat) : Cfg := cfg Tryz.prog 97 2 [F154c fuel, F153c fuel, F130c fuel, F36c fuel] [S83_4l fuel, S83_12l fuel] fuel

def F83c (fuel : Nat) : CallE := ⟨83, ⟨3, [.box 66 (.agg 66 [.leaf]), .acc], [(.con (.ref 0 [] 66)), (.data 73), (.data 73), (.acc 1 34)]⟩, ⟨0, [.box 66 (.agg 66 [.leaf]), .acc], [(.acc 1 34)]⟩, fun x => F83 fuel x.1 x.2.1 x.2.2.1 x.2.2.2, []⟩

theorem F83k (fuel : Nat) : CallOk (F83C fuel) := cfg_callOkP (qc (F154ok fuel) <| qc (F153ok fuel) <| qc (F130ok fuel) <| qc (F36ok fuel) <| q0) (p0)

theorem S83_4ok (fuel : Nat) : LoopOk (F83C fuel) (lp (bodyOf Tryz.f83) 0) := okL (F83k fuel) fuel (S83_4l fuel) L0

theorem S83_12ok (fuel : Nat) : LoopOk (F83C fuel) (lp (bodyOf Tryz.f83) 1) := okL (F83k fuel) fuel (S83_12l fuel) L0

theorem F83ok (fuel : Nat) : (F83c fuel).Ok Tryz.prog := okE Tryz.f83 (F83k fuel) (L2 (S83_4ok fuel) (S83_12ok fuel))

/-- wireschema/desc.Service$1 -/
def F90 (fuel : Nat) (a0 : PV) (a1 : Unit) (a2 : List UInt8) : Option (Bool × (List UInt8)) :=
 some ((((a0.fld 0).asStr) == a2), a2)

def F90c (fuel : Nat) : CallE := ⟨90, ⟨2, [.box 9 .leaf], [(.data 78), (.con (.ref 0 [] 9)), .str]⟩, ⟨1, [.box 9 .leaf], [.bool, .str]⟩, fun x => F90 fuel x.1 x.2.1 x.2.2, (false, [])⟩

theorem F90ok (fuel : Nat) : (F90c fuel).Ok Tryz.prog := okJ Tryz.f90 8 1 fuel [] [] false (q0) (p0) L0

def S89_3 (fuel : Nat) (a2 : Unit) (a3 : Unit) (a4 : List PV) (a5 : Int) (a6 : Int) (a7 : List UInt8) (a8 : PV) : Option ((Unit × Unit × (List PV) × Int × Int × (List UInt8) × PV) ⊕ ((Unit × Bool × (List UInt8) × PV) ⊕ (Unit × (List UInt8) × PV))) :=
 bif (decide (a6 < a5)) then
 bif inRange a6 a4.length then
 let x10 := a4.getD a6.toNat .bad
 (F90 fuel x10 () a7).bind fun y11 =>
 bif y11.1 then
 some (.inr (.inl ((), true, y11.2, x10)))
 else
 some (.inl ((), (), a4, a5, (IntKind.wrap .i64 (a6 + (1 : Int))), y11.2, a8))
 else none
 else
 some (.inr (.inr ((), a7, a8)))

def S89_3step (fuel : Nat) (x : Unit × Unit × (List PV) × Int × Int × (List UInt8) × PV) : Option ((Unit × Unit × (List PV) × Int × Int × (List UInt8) × PV) ⊕ ((Unit × Bool × (List UInt8) × PV) ⊕ (Unit × (List UInt8) × PV))) := S89_3 fuel x.1 x.2.1 x.2.2.1 x.2.2.2.1 x.2.2.2.2.1 x.2.2.2.2.2.1 x.2.2.2.2.2.2

/-- wireschema/desc.first[wireschema/api.Service] -/
def F89 (fuel : Nat) (a0 : List PV) (a1 : Unit) (a2 : List UInt8) : Option (PV × Bool × (List UInt8)) :=
 (loopQ fuel (S89_3step fuel) ((), (), a0, (a0.length : Int), (0 : Int), a2, (PV.agg [(PV.str ([] : List UInt8)), (PV.slice []), (PV.slice [])]))).bind fun z => sumE (fun y13 =>
 some (y13.2.2.2, y13.2.1, y13.2.2.1)
 ) (fun y14 =>
 some ((PV.agg [(PV.str ([] : List UInt8)), (PV.slice []), (PV.slice [])]), false, y14.2.1)
 ) z

def S89_3l (fuel : Nat) : LoopE := ⟨3, ⟨[1, 4, 9, 10, 11], [.box 9 .leaf, .box 78 .leaf], [(.con (.fn 90 0 [(.ref 0 [] 9)])), (.con (.ref 1 [] 78)), (.slice 78), (.int .i64), (.int .i64), .str, (.data 78)]⟩, [(.ret, ⟨[4, 5], [.box 9 .leaf, .box 78 .leaf], [(.con (.ref 1 [] 78)), .bool, .str, (.data 78)]⟩), (.exit 0, ⟨[4], [.box 9 .leaf, .box 78 .leaf], [(.con (.ref 1 [] 78)), .str, (.data 78)]⟩)], S89_3step fuel⟩

def F89C (fuel : Nat) : Cfg := cfg Tryz.prog 21 1 [F90c fuel] [S89_3l fuel] fuel

def F89c (fuel : Nat) : CallE := ⟨89, ⟨2, [.box 9 .leaf], [(.slice 78), (.con (.fn 90 0 [(.ref 0 [] 9)])), .str]⟩, ⟨2, [.box 9 .leaf], [(.data 78), .bool, .str]⟩, fun x => F89 fuel x.1 x.2.1 x.2.2, (PV.bad, false, [])⟩

theorem F89k (fuel : Nat) : CallOk (F89C fuel) := cfg_callOkP (qc (F90ok fuel) <| q0) (p0)

theorem S89_3ok (fuel : Nat) : LoopOk (F89C fuel) (lp (bodyOf Tryz.f89) 0) := okL (F89k fuel) fuel (S89_3l fuel) L0

theorem F89ok (fuel : Nat) : (F89c fuel).Ok Tryz.prog := okE Tryz.f89 (F89k fuel) (L1 (S89_3ok fuel))

/-- wireschema/desc.Service -/
def F38 (fuel : Nat) (a0 : PV) (a1 : List UInt8) : Option (PV × Bool) :=
 (F89 fuel ((a0.fld 2).asList) () a1).bind fun y2 =>
 some (y2.1, y2.2.1)

def F38c (fuel : Nat) : CallE := ⟨38, ⟨2, [], [(.data 26), .str]⟩, ⟨2, [], [(.data 78), .bool]⟩, fun x => F38 fuel x.1 x.2, (PV.bad, false)⟩

theorem F38ok (fuel : Nat) : (F38c fuel).Ok Tryz.prog := okJ Tryz.f38 12 0 fuel [F89c fuel] [] false (qc (F89ok fuel) <| q0) (p0) L0

def S155_3 (fuel : Nat) (a3 : List UInt8) (a4 : Unit) (a5 : List PV) (a6 : Int) (a7 : Int) (a8 : PV) (a9 : PV) : Option (((List UInt8) × Unit × (List PV) × Int × Int × PV × PV) ⊕ ((Unit × Bool × PV × PV) ⊕ (Unit × PV × PV))) :=
 bif (decide (a7 < a6)) then
 bif inRange a7 a5.length then
 let x11 := a5.getD a7.toNat .bad
 bif (((x11.fld 0).asStr) == a3) then
 some (.inr (.inl ((), true, a8, x11)))
 else
 some (.inl (a3, (), a5, a6, (IntKind.wrap .i64 (a7 + (1 : Int))), a8, a9))
 else none
 else
 some (.inr (.inr ((), a8, a9)))

def S155_3step (fuel : Nat) (x : (List UInt8) × Unit × (List PV) × Int × Int × PV × PV) : Option (((List UInt8) × Unit × (List PV) × Int × Int × PV × PV) ⊕ ((Unit × Bool × PV × PV) ⊕ (Unit × PV × PV))) := S155_3 fuel x.1 x.2.1 x.2.2.1 x.2.2.2.1 x.2.2.2.2.1 x.2.2.2.2.2.1 x.2.2.2.2.2.2

/-- wireschema/evolve.methodOf -/
def F155 (fuel : Nat) (a0 : PV) (a1 : List UInt8) : Option (PV × Bool) :=
 let x1 := (a0.fld 1).asList
 (loopQ fuel (S155_3step fuel) (a1, (), x1, (x1.length : Int), (0 : Int), a0, (PV.agg [(PV.str ([] : List UInt8)), (PV.str ([] : List UInt8)), (PV.str ([] : List UInt8)), (PV.int (0 : Int)), (PV.slice [])]))).bind fun z => sumE (fun y15 =>
 some (y15.2.2.2, y15.2.1)
 ) (fun y16 =>
 some ((PV.agg [(PV.str ([] : List UInt8)), (PV.str ([] : List UInt8)), (PV.str ([] : List UInt8)), (PV.int (0 : Int)), (PV.slice [])]), false)
 ) z

def S155_3l (fuel : Nat) : LoopE := ⟨3, ⟨[1, 4, 9, 10, 11], [.box 78 .leaf, .box 105 .leaf], [.str, (.con (.ref 1 [] 105)), (.slice 105), (.int .i64), (.int .i64), (.data 78), (.data 105)]⟩, [(.ret, ⟨[4, 5], [.box 78 .leaf, .box 105 .leaf], [(.con (.ref 1 [] 105)), .bool, (.data 78), (.data 105)]⟩), (.exit 0, ⟨[4], [.box 78 .leaf, .box 105 .leaf], [(.con (.ref 1 [] 105)), (.data 78), (.data 105)]⟩)], S155_3step fuel⟩

def F155C (fuel : Nat) : Cfg := cfg Tryz.prog 22 0 [] [S155_3l fuel] fuel

def F155c (fuel : Nat) : CallE := ⟨155, ⟨2, [], [(.data 78), .str]⟩, ⟨2, [], [(.data 105), .bool]⟩, fun x => F155 fuel x.1 x.2, (PV.bad, false)⟩

theorem F155k (fuel : Nat) : CallOk (F155C fuel) := cfg_callOkP (q0) (p0)

theorem S155_3ok (fuel : Nat) : LoopOk (F155C fuel) (lp (bodyOf Tryz.f155) 0) := okL (F155k fuel) fuel (S155_3l fuel) L0

theorem F155ok (fuel : Nat) : (F155c fuel).Ok Tryz.prog := okE Tryz.f155 (F155k fuel) (L1 (S155_3ok fuel))

/-- wireschema/evolve.sides -/
def F156 (fuel : Nat) (a0 : PV) : Option ((List UInt8)) :=
 let x1 := (a0.fld 0).asStr
 bif decide (x1.length + ([58, 32] : List UInt8).length ≤ strMax) then
 let x2 := x1 ++ ([58, 32] : List UInt8)
 let x3 := (a0.fld 1).asStr
 bif decide (x2.length + x3.length ≤ strMax) then
 let x4 := x2 ++ x3
 bif decide (x4.length + ([32, 45, 62, 32] : List UInt8).length ≤ strMax) then
 let x5 := x4 ++ ([32, 45, 62, 32] : List UInt8)
 let x6 := (a0.fld 2).asStr
 bif decide (x5.length + x6.length ≤ strMax) then
 some (x5 ++ x6)
 else none
 else none
 else none
 else none

def F156c (fuel : Nat) : CallE := ⟨156, ⟨1, [], [(.data 105)]⟩, ⟨1, [], [.str]⟩, fun x => F156 fuel x, []⟩

theorem F156ok (fuel : Nat) : (F156c fuel).Ok Tryz.prog := okJ Tryz.f156 13 0 fuel [] [] false (q0) (p0) L0

/-- wireschema/evolve.shapeWord -/
def F157 (fuel : Nat) (a0 : Int) : Option ((List UInt8)) :=
 bif (a0 == (1 : Int)) then
 some ([117, 110, 97, 114, 121] : List UInt8)
 else
 bif (a0 == (2 : Int)) then
 some ([115, 101, 114, 118, 101, 114] : List UInt8)
 else
 bif (a0 == (3 : Int)) then
 some ([99, 108, 105, 101, 110, 116] : List UInt8)
 else
 bif (a0 == (4 : Int)) then
 some ([98, 111, 116, 104] : List UInt8)
 else
 some ([] : List UInt8)

def F157c (fuel : Nat) : CallE := ⟨157, ⟨1, [], [(.int .i64)]⟩, ⟨1, [], [.str]⟩, fun x => F157 fuel x, []⟩

theorem F157ok (fuel : Nat) : (F157c fuel).Ok Tryz.prog := okJ Tryz.f157 12 0 fuel [] [] false (q0) (p0) L0

def S84_3 (fuel : Nat) (a3 : Unit) (a4 : Unit) (a5 : Unit) (a6 : List PV) (a7 : Int) (a8 : Int) (a9 : List PV) (a10 : PV) (a11 : PV) : Option ((Unit × Unit × Unit × (List PV) × Int × Int × (List PV) × PV × PV) ⊕ ((Unit × Unit × Unit × (List PV) × PV × PV))) :=
 bif (decide (a8 < a7)) then
 bif inRange a8 a6.length then
 let x13 := a6.getD a8.toNat .bad
 (F155 fuel a11 ((x13.fld 0).asStr)).bind fun y15 =>
 let x16 := y15.1
 bif (!y15.2) then
 (F36 fuel () [(PV.agg [(PV.int (19 : Int)), (PV.str ((a10.fld 0).asStr)), (PV.int (-1 : Int)), (PV.str ((x13.fld 0).asStr)), (PV.str ([] : List UInt8))])] a9).bind fun y21 =>
 some (.inl ((), (), (), a6, a7, (IntKind.wrap .i64 (a8 + (1 : Int))), y21, a10, a11))
 else
 (F156 fuel x13).bind fun y24 =>
 (F156 fuel x16).bind fun y25 =>
 (F153 fuel () (21 : Int) ((a10.fld 0).asStr) (-1 : Int) y24 y25 (bif (!(((x13.fld 1).asStr) == ((x16.fld 1).asStr))) then true else (!(((x13.fld 2).asStr) == ((x16.fld 2).asStr)))) a9).bind fun y33 =>
 let x35 := (x13.fld 0).asStr
 bif decide (x35.length + ([58, 32] : List UInt8).length ≤ strMax) then
 let x36 := x35 ++ ([58, 32] : List UInt8)
 (F157 fuel ((x13.fld 3).asInt)).bind fun y38 =>
 bif decide (x36.length + y38.length ≤ strMax) then
 let x40 := (x13.fld 0).asStr
 bif decide (x40.length + ([58, 32] : List UInt8).length ≤ strMax) then
 let x41 := x40 ++ ([58, 32] : List UInt8)
 (F157 fuel ((x16.fld 3).asInt)).bind fun y43 =>
 bif decide (x41.length + y43.length ≤ strMax) then
 (F153 fuel () (22 : Int) ((a10.fld 0).asStr) (-1 : Int) (x36 ++ y38) (x41 ++ y43) (((x13.fld 3).asInt) != ((x16.fld 3).asInt)) y33).bind fun y48 =>
 some (.inl ((), (), (), a6, a7, (IntKind.wrap .i64 (a8 + (1 : Int))), y48, a10, a11))
 else none
 else none
 else none
 else none
 else none
 else
 some (.inr ((), (), (), a9, a10, a11))

def S84_3step (fuel : Nat) (x : Unit × Unit × Unit × (List PV) × Int × Int × (List PV) × PV × PV) : Option ((Unit × Unit × Unit × (List PV) × Int × Int × (List PV) × PV × PV) ⊕ ((Unit × Unit × Unit × (List PV) × PV × PV))) := S84_3 fuel x.1 x.2.1 x.2.2.1 x.2.2.2.1 x.2.2.2.2.1 x.2.2.2.2.2.1 x.2.2.2.2.2.2.1 x.2.2.2.2.2.2.2.1 x.2.2.2.2.2.2.2.2

def S84_12 (fuel : Nat) (a53 : Unit) (a54 : Unit) (a55 : List PV) (a56 : Int) (a57 : Int) (a58 : List PV) (a59 : PV) (a60 : PV) : Option ((Unit × Unit × (List PV) × Int × Int × (List PV) × PV × PV) ⊕ (((List PV) × PV × PV))) :=
 bif (decide (a57 < a56)) then
 bif inRange a57 a55.length then
 let x62 := a55.getD a57.toNat .bad
 (F155 fuel a59 ((x62.fld 0).asStr)).bind fun y64 =>
 bif (!y64.2) then
 (F36 fuel () [(PV.agg [(PV.int (20 : Int)), (PV.str ((a59.fld 0).asStr)), (PV.int (-1 : Int)), (PV.str ([] : List UInt8)), (PV.str ((x62.fld 0).asStr))])] a58).bind fun y70 =>
 some (.inl ((), (), a55, a56, (IntKind.wrap .i64 (a57 + (1 : Int))), y70, a59, a60))
 else
 some (.inl ((), (), a55, a56, (IntKind.wrap .i64 (a57 + (1 : Int))), a58, a59, a60))
 else none
 else
 some (.inr (a58, a59, a60))

def S84_12step (fuel : Nat) (x : Unit × Unit × (List PV) × Int × Int × (List PV) × PV × PV) : Option ((Unit × Unit × (List PV) × Int × Int × (List PV) × PV × PV) ⊕ (((List PV) × PV × PV))) := S84_12 fuel x.1 x.2.1 x.2.2.1 x.2.2.2.1 x.2.2.2.2.1 x.2.2.2.2.2.1 x.2.2.2.2.2.2.1 x.2.2.2.2.2.2.2

/-- (*wireschema/evolve.collector).methods -/
def F84 (fuel : Nat) (a0 : Unit) (a1 : PV) (a2 : PV) (a3 : List PV) : Option ((List PV)) :=
 let x1 := (a1.fld 1).asList
 (loopQ fuel (S84_3step fuel) ((), (), (), x1, (x1.length : Int), (0 : Int), a3, a1, a2)).bind fun y50 =>
 let x51 := (y50.2.2.2.2.2.fld 1).asList
 (loopQ fuel (S84_12step fuel) ((), (), x51, (x51.length : Int), (0 : Int), y50.2.2.2.1, y50.2.2.2.2.1, y50.2.2.2.2.2)).bind fun y73 =>
 some y73.1

def S84_3l (fuel : Nat) : LoopE := ⟨3, ⟨[0, 4, 5, 15, 16, 17], [.box 66 (.agg 66 [.leaf]), .acc, .box 78 .leaf, .box 78 .leaf], [(.con (.ref 0 [] 66)), (.con (.ref 2 [] 78)), (.con (.ref 3 [] 78)), (.slice 105), (.int .i64), (.int .i64), (.acc 1 34), (.data 78), (.data 78)]⟩, [(.exit 0, ⟨[0, 4, 5], [.box 66 (.agg 66 [.leaf]), .acc, .box 78 .leaf, .box 78 .leaf], [(.con (.ref 0 [] 66)), (.con (.ref 2 [] 78)), (.con (.ref 3 [] 78)), (.acc 1 34), (.data 78), (.data 78)]⟩)], S84_3step fuel⟩

def S84_12l (fuel : Nat) : LoopE := ⟨12, ⟨[0, 4, 83, 84, 85], [.box 66 (.agg 66 [.leaf]), .acc, .box 78 .leaf, .box 78 .leaf], [(.con (.ref 0 [] 66)), (.con (.ref 2 [] 78)), (.slice 105), (.int .i64), (.int .i64), (.acc 1 34), (.data 78), (.data 78)]⟩, [(.exit 2, ⟨[], [.box 66 (.agg 66 [.leaf]), .acc, .box 78 .leaf, .box 78 .leaf], [(.acc 1 34), (.data 78), (.data 78)]⟩)], S84_12step fuel⟩

def F84C (fuel : Nat) : Cfg := cfg Tryz.prog 107 2 [F155c fuel, F36c fuel, F156c fuel, F153c fuel, F157c fuel] [S84_3l fuel, S84_12l fuel] fuel

def F84c (fuel : Nat) : CallE := ⟨84, ⟨3, [.box 66 (.agg 66 [.leaf]), .acc], [(.con (.ref 0 [] 66)), (.data 78), (.data 78), (.acc 1 34)]⟩, ⟨0, [.box 66 (.agg 66 [.leaf]), .acc], [(.acc 1 34)]⟩, fun x => F84 fuel x.1 x.2.1 x.2.2.1 x.2.2.2, []⟩

theorem F84k (fuel : Nat) : CallOk (F84C fuel) := cfg_callOkP (qc (F155ok fuel) <| qc (F36ok fuel) <| qc (F156ok fuel) <| qc (F153ok fuel) <| qc (F157ok fuel) <| q0) (p0)

theorem S84_3ok (fuel : Nat) : LoopOk (F84C fuel) (lp (bodyOf Tryz.f84) 0) := okL (F84k fuel) fuel (S84_3l fuel) L0

theorem S84_12ok (fuel : Nat) : LoopOk (F84C fuel) (lp (bodyOf Tryz.f84) 1) := okL (F84k fuel) fuel (S84_12l fuel) L0

theorem F84ok (fuel : Nat) : (F84c fuel).Ok Tryz.prog := okE Tryz.f84 (F84k fuel) (L2 (S84_3ok fuel) (S84_12ok fuel))

def S34_3 (fuel : Nat) (a3 : Unit) (a4 : Unit) (a5 : Unit) (a6 : List PV) (a7 : Int) (a8 : Int) (a9 : List PV) (a10 : PV) (a11 : PV) : Option ((Unit × Unit × Unit × (List PV) × Int × Int × (List PV) × PV × PV) ⊕ ((Unit × Unit × Unit × (List PV) × PV × PV))) :=
 bif (decide (a8 < a7)) then
 bif inRange a8 a6.length then
 let x13 := a6.getD a8.toNat .bad
 (F35 fuel a11 ((x13.fld 0).asStr)).bind fun y15 =>
 bif y15.2 then
 (F82 fuel () x13 y15.1 a9).bind fun y18 =>
 some (.inl ((), (), (), a6, a7, (IntKind.wrap .i64 (a8 + (1 : Int))), y18, a10, a11))
 else
 (F36 fuel () [(PV.agg [(PV.int (1 : Int)), (PV.str ((x13.fld 0).asStr)), (PV.int (-1 : Int)), (PV.str ([] : List UInt8)), (PV.str ([] : List UInt8))])] a9).bind fun y21 =>
 some (.inl ((), (), (), a6, a7, (IntKind.wrap .i64 (a8 + (1 : Int))), y21, a10, a11))
 else none
 else
 some (.inr ((), (), (), a9, a10, a11))

def S34_3step (fuel : Nat) (x : Unit × Unit × Unit × (List PV) × Int × Int × (List PV) × PV × PV) : Option ((Unit × Unit × Unit × (List PV) × Int × Int × (List PV) × PV × PV) ⊕ ((Unit × Unit × Unit × (List PV) × PV × PV))) := S34_3 fuel x.1 x.2.1 x.2.2.1 x.2.2.2.1 x.2.2.2.2.1 x.2.2.2.2.2.1 x.2.2.2.2.2.2.1 x.2.2.2.2.2.2.2.1 x.2.2.2.2.2.2.2.2

def S34_11 (fuel : Nat) (a26 : Unit) (a27 : Unit) (a28 : Unit) (a29 : List PV) (a30 : Int) (a31 : Int) (a32 : List PV) (a33 : PV) (a34 : PV) : Option ((Unit × Unit × Unit × (List PV) × Int × Int × (List PV) × PV × PV) ⊕ ((Unit × Unit × Unit × (List PV) × PV × PV))) :=
 bif (decide (a31 < a30)) then
 bif inRange a31 a29.length then
 let x36 := a29.getD a31.toNat .bad
 (F37 fuel a34 ((x36.fld 0).asStr)).bind fun y38 =>
 bif y38.2 then
 (F83 fuel () x36 y38.1 a32).bind fun y41 =>
 some (.inl ((), (), (), a29, a30, (IntKind.wrap .i64 (a31 + (1 : Int))), y41, a33, a34))
 else
 (F36 fuel () [(PV.agg [(PV.int (11 : Int)), (PV.str ((x36.fld 0).asStr)), (PV.int (-1 : Int)), (PV.str ([] : List UInt8)), (PV.str ([] : List UInt8))])] a32).bind fun y44 =>
 some (.inl ((), (), (), a29, a30, (IntKind.wrap .i64 (a31 + (1 : Int))), y44, a33, a34))
 else none
 else
 some (.inr ((), (), (), a32, a33, a34))

def S34_11step (fuel : Nat) (x : Unit × Unit × Unit × (List PV) × Int × Int × (List PV) × PV × PV) : Option ((Unit × Unit × Unit × (List PV) × Int × Int × (List PV) × PV × PV) ⊕ ((Unit × Unit × Unit × (List PV) × PV × PV))) := S34_11 fuel x.1 x.2.1 x.2.2.1 x.2.2.2.1 x.2.2.2.2.1 x.2.2.2.2.2.1 x.2.2.2.2.2.2.1 x.2.2.2.2.2.2.2.1 x.2.2.2.2.2.2.2.2

def S34_19 (fuel : Nat) (a49 : Unit) (a50 : Unit) (a51 : List PV) (a52 : Int) (a53 : Int) (a54 : List PV) (a55 : PV) (a56 : PV) : Option ((Unit × Unit × (List PV) × Int × Int × (List PV) × PV × PV) ⊕ (((List PV) × PV × PV))) :=
 bif (decide (a53 < a52)) then
 bif inRange a53 a51.length then
 let x58 := a51.getD a53.toNat .bad
 (F38 fuel a56 ((x58.fld 0).asStr)).bind fun y60 =>
 bif y60.2 then
 (F84 fuel () x58 y60.1 a54).bind fun y63 =>
 some (.inl ((), (), a51, a52, (IntKind.wrap .i64 (a53 + (1 : Int))), y63, a55, a56))
 else
 (F36 fuel () [(PV.agg [(PV.int (17 : Int)), (PV.str ((x58.fld 0).asStr)), (PV.int (-1 : Int)), (PV.str ([] : List UInt8)), (PV.str ([] : List UInt8))])] a54).bind fun y66 =>
 some (.inl ((), (), a51, a52, (IntKind.wrap .i64 (a53 + (1 : Int))), y66, a55, a56))
 else none
 else
 some (.inr (a54, a55, a56))

def S34_19step (fuel : Nat) (x : Unit × Unit × (List PV) × Int × Int × (List PV) × PV × PV) : Option ((Unit × Unit × (List PV) × Int × Int × (List PV) × PV × PV) ⊕ (((List PV) × PV × PV))) := S34_19 fuel x.1 x.2.1 x.2.2.1 x.2.2.2.1 x.2.2.2.2.1 x.2.2.2.2.2.1 x.2.2.2.2.2.2.1 x.2.2.2.2.2.2.2

/-- (*wireschema/evolve.collector).gone -/
def F34 (fuel : Nat) (a0 : Unit) (a1 : PV) (a2 : PV) (a3 : List PV) : Option ((List PV)) :=
 let x1 := (a1.fld 0).asList
 (loopQ fuel (S34_3step fuel) ((), (), (), x1, (x1.length : Int), (0 : Int), a3, a1, a2)).bind fun y23 =>
 let x24 := (y23.2.2.2.2.1.fld 1).asList
 (loopQ fuel (S34_11step fuel) ((), (), (), x24, (x24.length : Int), (0 : Int), y23.2.2.2.1, y23.2.2.2.2.1, y23.2.2.2.2.2)).bind fun y46 =>
 let x47 := (y46.2.2.2.2.1.fld 2).asList
 (loopQ fuel (S34_19step fuel) ((), (), x47, (x47.length : Int), (0 : Int), y46.2.2.2.1, y46.2.2.2.2.1, y46.2.2.2.2.2)).bind fun y68 =>
 some y68.1

def S34_3l (fuel : Nat) : LoopE := ⟨3, ⟨[0, 4, 5, 19, 20, 21], [.box 66 (.agg 66 [.leaf]), .acc, .box 26 .leaf, .box 26 .leaf], [(.con (.ref 0 [] 66)), (.con (.ref 2 [] 26)), (.con (.ref 3 [] 26)), (.slice 63), (.int .i64), (.int .i64), (.acc 1 34), (.data 26), (.data 26)]⟩, [(.exit 0, ⟨[0, 4, 5], [.box 66 (.agg 66 [.leaf]), .acc, .box 26 .leaf, .box 26 .leaf], [(.con (.ref 0 [] 66)), (.con (.ref 2 [] 26)), (.con (.ref 3 [] 26)), (.acc 1 34), (.data 26), (.data 26)]⟩)], S34_3step fuel⟩

def S34_11l (fuel : Nat) : LoopE := ⟨11, ⟨[0, 4, 5, 45, 46, 47], [.box 66 (.agg 66 [.leaf]), .acc, .box 26 .leaf, .box 26 .leaf], [(.con (.ref 0 [] 66)), (.con (.ref 2 [] 26)), (.con (.ref 3 [] 26)), (.slice 73), (.int .i64), (.int .i64), (.acc 1 34), (.data 26), (.data 26)]⟩, [(.exit 2, ⟨[0, 4, 5], [.box 66 (.agg 66 [.leaf]), .acc, .box 26 .leaf, .box 26 .leaf], [(.con (.ref 0 [] 66)), (.con (.ref 2 [] 26)), (.con (.ref 3 [] 26)), (.acc 1 34), (.data 26), (.data 26)]⟩)], S34_11step fuel⟩

def S34_19l (fuel : Nat) : LoopE := ⟨19, ⟨[0, 5, 71, 72, 73], [.box 66 (.agg 66 [.leaf]), .acc, .box 26 .leaf, .box 26 .leaf], [(.con (.ref 0 [] 66)), (.con (.ref 3 [] 26)), (.slice 78), (.int .i64), (.int .i64), (.acc 1 34), (.data 26), (.data 26)]⟩, [(.exit 4, ⟨[], [.box 66 (.agg 66 [.leaf]), .acc, .box 26 .leaf, .box 26 .leaf], [(.acc 1 34), (.data 26), (.data 26)]⟩)], S34_19step fuel⟩

def F34C (fuel : Nat) : Cfg := cfg Tryz.prog 96 2 [F35c fuel, F82c fuel, F36c fuel, F37c fuel, F83c fuel, F38c fuel, F84c fuel] [S34_3l fuel, S34_11l fuel, S34_19l fuel] fuel

def F34c (fuel : Nat) : CallE := ⟨34, ⟨3, [.box 66 (.agg 66 [.leaf]), .acc], [(.con (.ref 0 [] 66)), (.data 26), (.data 26), (.acc 1 34)]⟩, ⟨0, [.box 66 (.agg 66 [.leaf]), .acc], [(.acc 1 34)]⟩, fun x => F34 fuel x.1 x.2.1 x.2.2.1 x.2.2.2, []⟩

theorem F34k (fuel : Nat) : CallOk (F34C fuel) := cfg_callOkP (qc (F35ok fuel) <| qc (F82ok fuel) <| qc (F36ok fuel) <| qc (F37ok fuel) <| qc (F83ok fuel) <| qc (F38ok fuel) <| qc (F84ok fuel) <| q0) (p0)

theorem S34_3ok (fuel : Nat) : LoopOk (F34C fuel) (lp (bodyOf Tryz.f34) 0) := okL (F34k fuel) fuel (S34_3l fuel) L0

theorem S34_11ok (fuel : Nat) : LoopOk (F34C fuel) (lp (bodyOf Tryz.f34) 1) := okL (F34k fuel) fuel (S34_11l fuel) L0

theorem S34_19ok (fuel : Nat) : LoopOk (F34C fuel) (lp (bodyOf Tryz.f34) 2) := okL (F34k fuel) fuel (S34_19l fuel) L0

theorem F34ok (fuel : Nat) : (F34c fuel).Ok Tryz.prog := okE Tryz.f34 (F34k fuel) (L3 (S34_3ok fuel) (S34_11ok fuel) (S34_19ok fuel))

/-- slices.Clone[[]wireschema/api.Change,wireschema/api.Change] -/
def F91 (fuel : Nat) (a0 : Unit) : Option (Unit) :=
 some ()

def F91c (fuel : Nat) : CallE := ⟨91, ⟨1, [], [(.con .nils)]⟩, ⟨1, [], [(.con .nils)]⟩, fun x => F91 fuel x, ()⟩

theorem F91ok (fuel : Nat) : (F91c fuel).Ok Tryz.prog := okJ Tryz.f91 8 0 fuel [] [] true (q0) (p0) L0

/-- slices.Clone[[]wireschema/api.Change,wireschema/api.Change] -/
def F91_v1 (fuel : Nat) (a0 : List PV) : Option (Unit × (List PV)) :=
 bif decide (a0.length ≤ accMax) then
 some ((), a0)
 else none

def F91_v1c (fuel : Nat) : CallE := ⟨91, ⟨1, [], [(.sln 34)]⟩, ⟨1, [.arr 34 1], [(.con (.arr 0 1 34)), (.slice 34)]⟩, fun x => F91_v1 fuel x, ((), [])⟩

theorem F91_v1ok (fuel : Nat) : (F91_v1c fuel).Ok Tryz.prog := okJ Tryz.f91 8 0 fuel [] [] true (q0) (p0) L0

/-- slices.Clone[[]wireschema/api.Change,wireschema/api.Change] -/
def F91_v2 (fuel : Nat) (a0 : List PV) : Option (Unit × (List PV)) := F91_v1 fuel a0

def F91_v2c (fuel : Nat) : CallE := ⟨91, ⟨1, [], [(.slice 34)]⟩, ⟨1, [.arr 34 1], [(.con (.arr 0 1 34)), (.slice 34)]⟩, fun x => F91_v2 fuel x, ((), [])⟩

theorem F91_v2ok (fuel : Nat) : (F91_v2c fuel).Ok Tryz.prog := by
  intro x y h
  have h : F91_v1 fuel x = some y := h
  have h2 := F91_v1ok fuel x y h
  unfold F91_v1 at h
  obtain ⟨hb, rfl⟩ := cond_some h
  exact meets_split (fun _ => F91ok fuel () () rfl) h2

/-- wireschema/evolve.group -/
def F125 (fuel : Nat) (a0 : Int) : Option (Int) :=
 bif (bif (decide (a0 ≥ (1 : Int))) then (decide (a0 ≤ (10 : Int))) else false) then
 some (1 : Int)
 else
 bif (bif (decide (a0 ≥ (11 : Int))) then (decide (a0 ≤ (16 : Int))) else false) then
 some (2 : Int)
 else
 some (3 : Int)

def F125c (fuel : Nat) : CallE := ⟨125, ⟨1, [], [(.int .i64)]⟩, ⟨1, [], [(.int .i64)]⟩, fun x => F125 fuel x, 0⟩

theorem F125ok (fuel : Nat) : (F125c fuel).Ok Tryz.prog := okJ Tryz.f125 17 0 fuel [] [] false (q0) (p0) L0

/-- cmp.isNaN[int] -/
def F189 (fuel : Nat) (a0 : Int) : Option (Bool) :=
 some (a0 != a0)

def F189c (fuel : Nat) : CallE := ⟨189, ⟨1, [], [(.int .i64)]⟩, ⟨1, [], [.bool]⟩, fun x => F189 fuel x, false⟩

theorem F189ok (fuel : Nat) : (F189c fuel).Ok Tryz.prog := okJ Tryz.f189 6 0 fuel [] [] false (q0) (p0) L0

/-- cmp.Compare[int] -/
def F124 (fuel : Nat) (a0 : Int) (a1 : Int) : Option (Int) :=
 (F189 fuel a0).bind fun y1 =>
 (F189 fuel a1).bind fun y2 =>
 bif y1 then
 bif y2 then
 some (0 : Int)
 else
 some (-1 : Int)
 else
 bif y2 then
 some (1 : Int)
 else
 bif (decide (a0 < a1)) then
 some (-1 : Int)
 else
 bif (decide (a0 > a1)) then
 some (1 : Int)
 else
 some (0 : Int)

def F124c (fuel : Nat) : CallE := ⟨124, ⟨2, [], [(.int .i64), (.int .i64)]⟩, ⟨1, [], [(.int .i64)]⟩, fun x => F124 fuel x.1 x.2, 0⟩

theorem F124ok (fuel : Nat) : (F124c fuel).Ok Tryz.prog := okJ Tryz.f124 20 0 fuel [F189c fuel] [] false (qc (F189ok fuel) <| q0) (p0) L0

/-- cmp.isNaN[string] -/
def F190 (fuel : Nat) (a0 : List UInt8) : Option (Bool) :=
 some (!(a0 == a0))

def F190c (fuel : Nat) : CallE := ⟨190, ⟨1, [], [.str]⟩, ⟨1, [], [.bool]⟩, fun x => F190 fuel x, false⟩

theorem F190ok (fuel : Nat) : (F190c fuel).Ok Tryz.prog := okJ Tryz.f190 6 0 fuel [] [] false (q0) (p0) L0

/-- cmp.Compare[string] -/
def F126 (fuel : Nat) (a0 : List UInt8) (a1 : List UInt8) : Option (Int) :=
 (F190 fuel a0).bind fun y1 =>
 (F190 fuel a1).bind fun y2 =>
 bif y1 then
 bif y2 then
 some (0 : Int)
 else
 some (-1 : Int)
 else
 bif y2 then
 some (1 : Int)
 else
 bif (Op.bytesLess a0 a1) then
 some (-1 : Int)
 else
 bif (!(Op.bytesLess a0 a1 || a0 == a1)) then
 some (1 : Int)
 else
 some (0 : Int)

def F126c (fuel : Nat) : CallE := ⟨126, ⟨2, [], [.str, .str]⟩, ⟨1, [], [(.int .i64)]⟩, fun x => F126 fuel x.1 x.2, 0⟩

theorem F126ok (fuel : Nat) : (F126c fuel).Ok Tryz.prog := okJ Tryz.f126 20 0 fuel [F190c fuel] [] false (qc (F190ok fuel) <| q0) (p0) L0

/-- wireschema/evolve.method -/
def F127 (fuel : Nat) (a0 : PV) : Option ((List UInt8)) :=
 let x1 := (a0.fld 0).asInt
 bif (x1 == (19 : Int)) then
 some ((a0.fld 3).asStr)
 else
 bif (x1 == (20 : Int)) then
 some ((a0.fld 4).asStr)
 else
 bif (x1 == (21 : Int)) then
 (Lcut fuel ((a0.fld 3).asStr) ([58, 32] : List UInt8)).bind fun y8 =>
 some y8.1
 else
 bif (x1 == (22 : Int)) then
 (Lcut fuel ((a0.fld 3).asStr) ([58, 32] : List UInt8)).bind fun y14 =>
 some y14.1
 else
 some ([] : List UInt8)

def F127c (fuel : Nat) : CallE := ⟨127, ⟨1, [], [(.data 34)]⟩, ⟨1, [], [.str]⟩, fun x => F127 fuel x, []⟩

theorem F127ok (fuel : Nat) : (F127c fuel).Ok Tryz.prog := okJ Tryz.f127 27 0 fuel [Lcutc fuel] [] false (qc (Lcutok fuel) <| q0) (p0) L0

def S123_4 (fuel : Nat) (a2 : Int) (a3 : List PV) (a4 : Int) (a5 : Int) : Option ((Int × (List PV) × Int × Int) ⊕ ((Int) ⊕ (Int))) :=
 bif (decide (a5 < a4)) then
 bif inRange a5 a3.length then
 let x8 := (a3.getD a5.toNat .bad).asInt
 bif (x8 != a2) then
 some (.inr (.inl x8))
 else
 some (.inl (a2, a3, a4, (IntKind.wrap .i64 (a5 + (1 : Int)))))
 else none
 else
 some (.inr (.inr a2))

def S123_4step (fuel : Nat) (x : Int × (List PV) × Int × Int) : Option ((Int × (List PV) × Int × Int) ⊕ ((Int) ⊕ (Int))) := S123_4 fuel x.1 x.2.1 x.2.2.1 x.2.2.2

/-- cmp.Or[int] -/
def F123 (fuel : Nat) (a0 : List PV) : Option (Int) :=
 (loopQ fuel (S123_4step fuel) ((0 : Int), a0, (a0.length : Int), (0 : Int))).bind fun z => sumE (fun y11 =>
 some y11
 ) (fun y12 =>
 some y12
 ) z

def S123_4l (fuel : Nat) : LoopE := ⟨4, ⟨[3, 6, 7, 8], [], [(.int .i64), (.slice 3), (.int .i64), (.int .i64)]⟩, [(.ret, ⟨[2], [], [(.int .i64)]⟩), (.exit 0, ⟨[3], [], [(.int .i64)]⟩)], S123_4step fuel⟩

def F123C (fuel : Nat) : Cfg := cfg Tryz.prog 18 0 [] [S123_4l fuel] fuel

def F123c (fuel : Nat) : CallE := ⟨123, ⟨1, [], [(.slice 3)]⟩, ⟨1, [], [(.int .i64)]⟩, fun x => F123 fuel x, 0⟩

theorem F123k (fuel : Nat) : CallOk (F123C fuel) := cfg_callOkP (q0) (p0)

theorem S123_4ok (fuel : Nat) : LoopOk (F123C fuel) (lp (bodyOf Tryz.f123) 0) := okL (F123k fuel) fuel (S123_4l fuel) L0

theorem F123ok (fuel : Nat) : (F123c fuel).Ok Tryz.prog := okE Tryz.f123 (F123k fuel) (L1 (S123_4ok fuel))

/-- wireschema/evolve.compare -/
def F65 (fuel : Nat) (a0 : PV) (a1 : PV) : Option (Int) :=
 (F125 fuel ((a0.fld 0).asInt)).bind fun y2 =>
 (F125 fuel ((a1.fld 0).asInt)).bind fun y4 =>
 (F124 fuel y2 y4).bind fun y5 =>
 (F126 fuel ((a0.fld 1).asStr) ((a1.fld 1).asStr)).bind fun y8 =>
 (F124 fuel ((a0.fld 2).asInt) ((a1.fld 2).asInt)).bind fun y11 =>
 (F127 fuel a0).bind fun y12 =>
 (F127 fuel a1).bind fun y13 =>
 (F126 fuel y12 y13).bind fun y14 =>
 (F124 fuel ((a0.fld 0).asInt) ((a1.fld 0).asInt)).bind fun y17 =>
 (F126 fuel ((a0.fld 3).asStr) ((a1.fld 3).asStr)).bind fun y20 =>
 (F126 fuel ((a0.fld 4).asStr) ((a1.fld 4).asStr)).bind fun y23 =>
 (F123 fuel [(PV.int y5), (PV.int y8), (PV.int y11), (PV.int y14), (PV.int y17), (PV.int y20), (PV.int y23)]).bind fun y24 =>
 some y24

def F65c (fuel : Nat) : CallE := ⟨65, ⟨2, [], [(.data 34), (.data 34)]⟩, ⟨1, [], [(.int .i64)]⟩, fun x => F65 fuel x.1 x.2, 0⟩

theorem F65ok (fuel : Nat) : (F65c fuel).Ok Tryz.prog := okJ Tryz.f65 44 0 fuel [F125c fuel, F124c fuel, F126c fuel, F127c fuel, F123c fuel] [] false (qc (F125ok fuel) <| qc (F124ok fuel) <| qc (F126ok fuel) <| qc (F127ok fuel) <| qc (F123ok fuel) <| q0) (p0) L0

def S216_5 (fuel : Nat) (a9 : Unit) (a10 : Int) (a11 : Int) (a12 : Unit) (a13 : Int) (a14 : Int) (a15 : List PV) : Option ((Unit × Int × Int × Unit × Int × Int × (List PV)) ⊕ ((Unit × Int × Int × Unit × Int × (List PV)))) :=
 let x16 := decide (a14 > a10)
 bif imp x16 (inRange a14 a15.length) then
 let x18 := IntKind.wrap .i64 (a14 - (1 : Int))
 bif imp x16 (inRange x18 a15.length) then
 (bif x16 then F65 fuel (a15.getD a14.toNat .bad) (a15.getD x18.toNat .bad) else some 0).bind fun y20 =>
 bif (bif x16 then (decide (y20 < (0 : Int))) else false) then
 let x23 := IntKind.wrap .i64 (a14 - (1 : Int))
 let x24 := IntKind.wrap .i64 (a14 - (1 : Int))
 bif inRange x24 a15.length then
 bif inRange a14 a15.length then
 bif inRange a14 a15.length then
 let x27 := a15.set a14.toNat (a15.getD x24.toNat .bad)
 bif inRange x23 x27.length then
 some (.inl ((), a10, a11, (), a13, (IntKind.wrap .i64 (a14 - (1 : Int))), (x27.set x23.toNat (a15.getD a14.toNat .bad))))
 else none
 else none
 else none
 else none
 else
 some (.inr ((), a10, a11, (), a13, a15))
 else none
 else none

def S216_5step (fuel : Nat) (x : Unit × Int × Int × Unit × Int × Int × (List PV)) : Option ((Unit × Int × Int × Unit × Int × Int × (List PV)) ⊕ ((Unit × Int × Int × Unit × Int × (List PV)))) := S216_5 fuel x.1 x.2.1 x.2.2.1 x.2.2.2.1 x.2.2.2.2.1 x.2.2.2.2.2.1 x.2.2.2.2.2.2

def S216_2 (fuel : Nat) (a2 : Unit) (a3 : Int) (a4 : Int) (a5 : Unit) (a6 : Int) (a7 : List PV) : Option ((Unit × Int × Int × Unit × Int × (List PV)) ⊕ (((List PV)))) :=
 bif (decide (a6 < a4)) then
 (loopQ fuel (S216_5step fuel) ((), a3, a4, (), a6, a6, a7)).bind fun y30 =>
 some (.inl ((), y30.2.1, y30.2.2.1, (), (IntKind.wrap .i64 (y30.2.2.2.2.1 + (1 : Int))), y30.2.2.2.2.2))
 else
 some (.inr a7)

def S216_2step (fuel : Nat) (x : Unit × Int × Int × Unit × Int × (List PV)) : Option ((Unit × Int × Int × Unit × Int × (List PV)) ⊕ (((List PV)))) := S216_2 fuel x.1 x.2.1 x.2.2.1 x.2.2.2.1 x.2.2.2.2.1 x.2.2.2.2.2

/-- slices.insertionSortCmpFunc[wireschema/api.Change] -/
def F216 (fuel : Nat) (a0 : Unit) (a1 : Int) (a2 : Int) (a3 : Unit) (a4 : List PV) : Option ((List PV)) :=
 (loopQ fuel (S216_2step fuel) ((), a1, a2, (), (IntKind.wrap .i64 (a1 + (1 : Int))), a4)).bind fun y33 =>
 some y33

def S216_5l (fuel : Nat) : LoopE := ⟨5, ⟨[0, 1, 2, 3, 8, 9], [.arr 34 0], [(.con (.arr 0 0 34)), (.int .i64), (.int .i64), (.con (.fn 65 0 [])), (.int .i64), (.int .i64), (.slice 34)]⟩, [(.exit 2, ⟨[0, 1, 2, 3, 8], [.arr 34 0], [(.con (.arr 0 0 34)), (.int .i64), (.int .i64), (.con (.fn 65 0 [])), (.int .i64), (.slice 34)]⟩)], S216_5step fuel⟩

def S216_2l (fuel : Nat) : LoopE := ⟨2, ⟨[0, 1, 2, 3, 8], [.arr 34 0], [(.con (.arr 0 0 34)), (.int .i64), (.int .i64), (.con (.fn 65 0 [])), (.int .i64), (.slice 34)]⟩, [(.exit 0, ⟨[], [.arr 34 0], [(.slice 34)]⟩)], S216_2step fuel⟩

def F216C (fuel : Nat) : Cfg := cfg Tryz.prog 53 1 [F65c fuel] [S216_5l fuel, S216_2l fuel] fuel

def F216c (fuel : Nat) : CallE := ⟨216, ⟨4, [.arr 34 0], [(.con (.arr 0 0 34)), (.int .i64), (.int .i64), (.con (.fn 65 0 [])), (.slice 34)]⟩, ⟨0, [.arr 34 0], [(.slice 34)]⟩, fun x => F216 fuel x.1 x.2.1 x.2.2.1 x.2.2.2.1 x.2.2.2.2, []⟩

theorem F216k (fuel : Nat) : CallOk (F216C fuel) := cfg_callOkP (qc (F65ok fuel) <| q0) (p0)

theorem S216_5ok (fuel : Nat) : LoopOk (F216C fuel) (lp (lp (bodyOf Tryz.f216) 0) 0) := okL (F216k fuel) fuel (S216_5l fuel) L0

theorem S216_2ok (fuel : Nat) : LoopOk (F216C fuel) (lp (bodyOf Tryz.f216) 0) := okL (F216k fuel) fuel (S216_2l fuel) (L1 (S216_5ok fuel))

theorem F216ok (fuel : Nat) : (F216c fuel).Ok Tryz.prog := okE Tryz.f216 (F216k fuel) (L1 (S216_2ok fuel))

def S285_2 (fuel : Nat) (a1 : Unit) (a2 : Int) (a3 : Int) (a4 : Int) (a5 : Int) (a6 : List PV) : Option ((Unit × Int × Int × Int × Int × (List PV)) ⊕ (((List PV)))) :=
 bif (decide (a5 < a4)) then
 let x8 := IntKind.wrap .i64 (a2 + a5)
 let x9 := IntKind.wrap .i64 (a3 + a5)
 let x10 := IntKind.wrap .i64 (a3 + a5)
 bif inRange x10 a6.length then
 let x12 := IntKind.wrap .i64 (a2 + a5)
 bif inRange x12 a6.length then
 bif inRange x8 a6.length then
 let x14 := a6.set x8.toNat (a6.getD x10.toNat .bad)
 bif inRange x9 x14.length then
 some (.inl ((), a2, a3, a4, (IntKind.wrap .i64 (a5 + (1 : Int))), (x14.set x9.toNat (a6.getD x12.toNat .bad))))
 else none
 else none
 else none
 else none
 else
 some (.inr a6)

def S285_2step (fuel : Nat) (x : Unit × Int × Int × Int × Int × (List PV)) : Option ((Unit × Int × Int × Int × Int × (List PV)) ⊕ (((List PV)))) := S285_2 fuel x.1 x.2.1 x.2.2.1 x.2.2.2.1 x.2.2.2.2.1 x.2.2.2.2.2

/-- slices.swapRangeCmpFunc[wireschema/api.Change] -/
def F285 (fuel : Nat) (a0 : Unit) (a1 : Int) (a2 : Int) (a3 : Int) (a4 : Unit) (a5 : List PV) : Option ((List PV)) :=
 (loopQ fuel (S285_2step fuel) ((), a1, a2, a3, (0 : Int), a5)).bind fun y17 =>
 some y17

def S285_2l (fuel : Nat) : LoopE := ⟨2, ⟨[0, 1, 2, 3, 10], [.arr 34 0], [(.con (.arr 0 0 34)), (.int .i64), (.int .i64), (.int .i64), (.int .i64), (.slice 34)]⟩, [(.exit 0, ⟨[], [.arr 34 0], [(.slice 34)]⟩)], S285_2step fuel⟩

def F285C (fuel : Nat) : Cfg := cfg Tryz.prog 38 1 [] [S285_2l fuel] fuel

def F285c (fuel : Nat) : CallE := ⟨285, ⟨5, [.arr 34 0], [(.con (.arr 0 0 34)), (.int .i64), (.int .i64), (.int .i64), (.con (.fn 65 0 [])), (.slice 34)]⟩, ⟨0, [.arr 34 0], [(.slice 34)]⟩, fun x => F285 fuel x.1 x.2.1 x.2.2.1 x.2.2.2.1 x.2.2.2.2.1 x.2.2.2.2.2, []⟩

theorem F285k (fuel : Nat) : CallOk (F285C fuel) := cfg_callOkP (q0) (p0)

theorem S285_2ok (fuel : Nat) : LoopOk (F285C fuel) (lp (bodyOf Tryz.f285) 0) := okL (F285k fuel) fuel (S285_2l fuel) L0

theorem F285ok (fuel : Nat) : (F285c fuel).Ok Tryz.prog := okE Tryz.f285 (F285k fuel) (L1 (S285_2ok fuel))

def S251_3 (fuel : Nat) (a3 : Unit) (a4 : Int) (a5 : Unit) (a6 : Int) (a7 : Int) (a8 : List PV) : Option ((Unit × Int × Unit × Int × Int × (List PV)) ⊕ ((Unit × Int × Unit × Int × (List PV)))) :=
 bif (a6 != a7) then
 bif (decide (a6 > a7)) then
 (F285 fuel () (IntKind.wrap .i64 (a4 - a6)) a4 a7 () a8).bind fun y12 =>
 some (.inl ((), a4, (), (IntKind.wrap .i64 (a6 - a7)), a7, y12))
 else
 (F285 fuel () (IntKind.wrap .i64 (a4 - a6)) (IntKind.wrap .i64 ((IntKind.wrap .i64 (a4 + a7)) - a6)) a6 () a8).bind fun y17 =>
 some (.inl ((), a4, (), a6, (IntKind.wrap .i64 (a7 - a6)), y17))
 else
 some (.inr ((), a4, (), a6, a8))

def S251_3step (fuel : Nat) (x : Unit × Int × Unit × Int × Int × (List PV)) : Option ((Unit × Int × Unit × Int × Int × (List PV)) ⊕ ((Unit × Int × Unit × Int × (List PV)))) := S251_3 fuel x.1 x.2.1 x.2.2.1 x.2.2.2.1 x.2.2.2.2.1 x.2.2.2.2.2

/-- slices.rotateCmpFunc[wireschema/api.Change] -/
def F251 (fuel : Nat) (a0 : Unit) (a1 : Int) (a2 : Int) (a3 : Int) (a4 : Unit) (a5 : List PV) : Option ((List PV)) :=
 (loopQ fuel (S251_3step fuel) ((), a2, (), (IntKind.wrap .i64 (a2 - a1)), (IntKind.wrap .i64 (a3 - a2)), a5)).bind fun y19 =>
 (F285 fuel () (IntKind.wrap .i64 (y19.2.1 - y19.2.2.2.1)) y19.2.1 y19.2.2.2.1 () y19.2.2.2.2).bind fun y25 =>
 some y25

def S251_3l (fuel : Nat) : LoopE := ⟨3, ⟨[0, 2, 4, 10, 11], [.arr 34 0], [(.con (.arr 0 0 34)), (.int .i64), (.con (.fn 65 0 [])), (.int .i64), (.int .i64), (.slice 34)]⟩, [(.exit 0, ⟨[0, 2, 4, 10], [.arr 34 0], [(.con (.arr 0 0 34)), (.int .i64), (.con (.fn 65 0 [])), (.int .i64), (.slice 34)]⟩)], S251_3step fuel⟩

def F251C (fuel : Nat) : Cfg := cfg Tryz.prog 58 1 [F285c fuel] [S251_3l fuel] fuel

def F251c (fuel : Nat) : CallE := ⟨251, ⟨5, [.arr 34 0], [(.con (.arr 0 0 34)), (.int .i64), (.int .i64), (.int .i64), (.con (.fn 65 0 [])), (.slice 34)]⟩, ⟨0, [.arr 34 0], [(.slice 34)]⟩, fun x => F251 fuel x.1 x.2.1 x.2.2.1 x.2.2.2.1 x.2.2.2.2.1 x.2.2.2.2.2, []⟩

theorem F251k (fuel : Nat) : CallOk (F251C fuel) := cfg_callOkP (qc (F285ok fuel) <| q0) (p0)

theorem S251_3ok (fuel : Nat) : LoopOk (F251C fuel) (lp (bodyOf Tryz.f251) 0) := okL (F251k fuel) fuel (S251_3l fuel) L0

theorem F251ok (fuel : Nat) : (F251c fuel).Ok Tryz.prog := okE Tryz.f251 (F251k fuel) (L1 (S251_3ok fuel))

def B217c (r : (Unit × Int × Int × Int × Unit × (List PV)) → Option ((List PV))) : CallE := ⟨217, ⟨5, [.arr 34 0], [(.con (.arr 0 0 34)), (.int .i64), (.int .i64), (.int .i64), (.con (.fn 65 0 [])), (.slice 34)]⟩, ⟨0, [.arr 34 0], [(.slice 34)]⟩, r, []⟩

def B217_4 (fuel : Nat) (r0 : (Unit × Int × Int × Int × Unit × (List PV)) → Option ((List PV))) (a3 : Unit) (a4 : Int) (a5 : Unit) (a6 : Int) (a7 : Int) (a8 : List PV) : Option ((Unit × Int × Unit × Int × Int × (List PV)) ⊕ ((Unit × Int × Int × (List PV)))) :=
 bif (decide (a6 < a7)) then
 let x13 := IntKind.wrap .i64 ((IntKind.wrap .u64 (IntKind.wrap .i64 (a6 + a7))).fdiv (2 ^ (min (1 : Int).toNat (IntKind.bits .u64))))
 bif inRange x13 a8.length then
 bif inRange a4 a8.length then
 (F65 fuel (a8.getD x13.toNat .bad) (a8.getD a4.toNat .bad)).bind fun y16 =>
 bif (decide (y16 < (0 : Int))) then
 some (.inl ((), a4, (), (IntKind.wrap .i64 (x13 + (1 : Int))), a7, a8))
 else
 some (.inl ((), a4, (), a6, x13, a8))
 else none
 else none
 else
 some (.inr ((), a4, a6, a8))

def B217_4step (fuel : Nat) (r0 : (Unit × Int × Int × Int × Unit × (List PV)) → Option ((List PV))) (x : Unit × Int × Unit × Int × Int × (List PV)) : Option ((Unit × Int × Unit × Int × Int × (List PV)) ⊕ ((Unit × Int × Int × (List PV)))) := B217_4 fuel r0 x.1 x.2.1 x.2.2.1 x.2.2.2.1 x.2.2.2.2.1 x.2.2.2.2.2

def B217_10 (fuel : Nat) (r0 : (Unit × Int × Int × Int × Unit × (List PV)) → Option ((List PV))) (a21 : Unit) (a22 : Int) (a23 : Int) (a24 : List PV) : Option ((Unit × Int × Int × (List PV)) ⊕ (((List PV)))) :=
 bif (decide (a23 < (IntKind.wrap .i64 (a22 - (1 : Int))))) then
 let x27 := IntKind.wrap .i64 (a23 + (1 : Int))
 let x28 := IntKind.wrap .i64 (a23 + (1 : Int))
 bif inRange x28 a24.length then
 bif inRange a23 a24.length then
 bif inRange a23 a24.length then
 let x31 := a24.set a23.toNat (a24.getD x28.toNat .bad)
 bif inRange x27 x31.length then
 some (.inl ((), a22, (IntKind.wrap .i64 (a23 + (1 : Int))), (x31.set x27.toNat (a24.getD a23.toNat .bad))))
 else none
 else none
 else none
 else none
 else
 some (.inr a24)

def B217_10step (fuel : Nat) (r0 : (Unit × Int × Int × Int × Unit × (List PV)) → Option ((List PV))) (x : Unit × Int × Int × (List PV)) : Option ((Unit × Int × Int × (List PV)) ⊕ (((List PV)))) := B217_10 fuel r0 x.1 x.2.1 x.2.2.1 x.2.2.2

def B217_16 (fuel : Nat) (r0 : (Unit × Int × Int × Int × Unit × (List PV)) → Option ((List PV))) (a37 : Unit) (a38 : Int) (a39 : Unit) (a40 : Int) (a41 : Int) (a42 : List PV) : Option ((Unit × Int × Unit × Int × Int × (List PV)) ⊕ ((Unit × Int × Int × (List PV)))) :=
 bif (decide (a40 < a41)) then
 let x47 := IntKind.wrap .i64 ((IntKind.wrap .u64 (IntKind.wrap .i64 (a40 + a41))).fdiv (2 ^ (min (1 : Int).toNat (IntKind.bits .u64))))
 bif inRange a38 a42.length then
 bif inRange x47 a42.length then
 (F65 fuel (a42.getD a38.toNat .bad) (a42.getD x47.toNat .bad)).bind fun y50 =>
 bif (!(decide (y50 < (0 : Int)))) then
 some (.inl ((), a38, (), (IntKind.wrap .i64 (x47 + (1 : Int))), a41, a42))
 else
 some (.inl ((), a38, (), a40, x47, a42))
 else none
 else none
 else
 some (.inr ((), a38, a40, a42))

def B217_16step (fuel : Nat) (r0 : (Unit × Int × Int × Int × Unit × (List PV)) → Option ((List PV))) (x : Unit × Int × Unit × Int × Int × (List PV)) : Option ((Unit × Int × Unit × Int × Int × (List PV)) ⊕ ((Unit × Int × Int × (List PV)))) := B217_16 fuel r0 x.1 x.2.1 x.2.2.1 x.2.2.2.1 x.2.2.2.2.1 x.2.2.2.2.2

def B217_22 (fuel : Nat) (r0 : (Unit × Int × Int × Int × Unit × (List PV)) → Option ((List PV))) (a56 : Unit) (a57 : Int) (a58 : Int) (a59 : List PV) : Option ((Unit × Int × Int × (List PV)) ⊕ (((List PV)))) :=
 bif (decide (a58 > a57)) then
 let x61 := IntKind.wrap .i64 (a58 - (1 : Int))
 let x62 := IntKind.wrap .i64 (a58 - (1 : Int))
 bif inRange x62 a59.length then
 bif inRange a58 a59.length then
 bif inRange a58 a59.length then
 let x65 := a59.set a58.toNat (a59.getD x62.toNat .bad)
 bif inRange x61 x65.length then
 some (.inl ((), a57, (IntKind.wrap .i64 (a58 - (1 : Int))), (x65.set x61.toNat (a59.getD a58.toNat .bad))))
 else none
 else none
 else none
 else none
 else
 some (.inr a59)

def B217_22step (fuel : Nat) (r0 : (Unit × Int × Int × Int × Unit × (List PV)) → Option ((List PV))) (x : Unit × Int × Int × (List PV)) : Option ((Unit × Int × Int × (List PV)) ⊕ (((List PV)))) := B217_22 fuel r0 x.1 x.2.1 x.2.2.1 x.2.2.2

def B217_34 (fuel : Nat) (r0 : (Unit × Int × Int × Int × Unit × (List PV)) → Option ((List PV))) (a77 : Unit) (a78 : Int) (a79 : Int) (a80 : Int) (a81 : Unit) (a82 : Int) (a83 : Int) (a84 : Int) (a85 : Int) (a86 : Int) (a87 : List PV) : Option ((Unit × Int × Int × Int × Unit × Int × Int × Int × Int × Int × (List PV)) ⊕ ((Unit × Int × Int × Int × Unit × Int × Int × Int × (List PV)))) :=
 bif (decide (a84 < a85)) then
 let x92 := IntKind.wrap .i64 ((IntKind.wrap .u64 (IntKind.wrap .i64 (a84 + a85))).fdiv (2 ^ (min (1 : Int).toNat (IntKind.bits .u64))))
 let x93 := IntKind.wrap .i64 (a86 - x92)
 bif inRange x93 a87.length then
 bif inRange x92 a87.length then
 (F65 fuel (a87.getD x93.toNat .bad) (a87.getD x92.toNat .bad)).bind fun y96 =>
 bif (!(decide (y96 < (0 : Int)))) then
 some (.inl ((), a78, a79, a80, (), a82, a83, (IntKind.wrap .i64 (x92 + (1 : Int))), a85, a86, a87))
 else
 some (.inl ((), a78, a79, a80, (), a82, a83, a84, x92, a86, a87))
 else none
 else none
 else
 some (.inr ((), a78, a79, a80, (), a82, a83, a84, a87))

def B217_34step (fuel : Nat) (r0 : (Unit × Int × Int × Int × Unit × (List PV)) → Option ((List PV))) (x : Unit × Int × Int × Int × Unit × Int × Int × Int × Int × Int × (List PV)) : Option ((Unit × Int × Int × Int × Unit × Int × Int × Int × Int × Int × (List PV)) ⊕ ((Unit × Int × Int × Int × Unit × Int × Int × Int × (List PV)))) := B217_34 fuel r0 x.1 x.2.1 x.2.2.1 x.2.2.2.1 x.2.2.2.2.1 x.2.2.2.2.2.1 x.2.2.2.2.2.2.1 x.2.2.2.2.2.2.2.1 x.2.2.2.2.2.2.2.2.1 x.2.2.2.2.2.2.2.2.2.1 x.2.2.2.2.2.2.2.2.2.2

/-- slices.symMergeCmpFunc[wireschema/api.Change] -/
def B217 (fuel : Nat) (r0 : (Unit × Int × Int × Int × Unit × (List PV)) → Option ((List PV))) (a0 : Unit) (a1 : Int) (a2 : Int) (a3 : Int) (a4 : Unit) (a5 : List PV) : Option ((List PV)) :=
 bif ((IntKind.wrap .i64 (a2 - a1)) == (1 : Int)) then
 (loopQ fuel (B217_4step fuel r0) ((), a1, (), a2, a3, a5)).bind fun y19 =>
 (loopQ fuel (B217_10step fuel r0) ((), y19.2.2.1, y19.2.1, y19.2.2.2)).bind fun y34 =>
 some y34
 else
 bif ((IntKind.wrap .i64 (a3 - a2)) == (1 : Int)) then
 (loopQ fuel (B217_16step fuel r0) ((), a2, (), a1, a2, a5)).bind fun y54 =>
 (loopQ fuel (B217_22step fuel r0) ((), y54.2.2.1, y54.2.1, y54.2.2.2)).bind fun y68 =>
 some y68
 else
 let x72 := IntKind.wrap .i64 ((IntKind.wrap .u64 (IntKind.wrap .i64 (a1 + a3))).fdiv (2 ^ (min (1 : Int).toNat (IntKind.bits .u64))))
 let x73 := IntKind.wrap .i64 (x72 + a2)
 bif (decide (a2 > x72)) then
 (loopQ fuel (B217_34step fuel r0) ((), a1, a2, a3, (), x72, x73, (IntKind.wrap .i64 (x73 - a3)), x72, (IntKind.wrap .i64 (x73 - (1 : Int))), a5)).bind fun y100 =>
 let x103 := IntKind.wrap .i64 (y100.2.2.2.2.2.2.1 - y100.2.2.2.2.2.2.2.1)
 bif (bif (decide (y100.2.2.2.2.2.2.2.1 < y100.2.2.1)) then (decide (y100.2.2.1 < x103)) else false) then
 (F251 fuel () y100.2.2.2.2.2.2.2.1 y100.2.2.1 x103 () y100.2.2.2.2.2.2.2.2).bind fun y112 =>
 bif (bif (decide (y100.2.1 < y100.2.2.2.2.2.2.2.1)) then (decide (y100.2.2.2.2.2.2.2.1 < y100.2.2.2.2.2.1)) else false) then
 (r0 ((), y100.2.1, y100.2.2.2.2.2.2.2.1, y100.2.2.2.2.2.1, (), y112)).bind fun y123 =>
 bif (bif (decide (y100.2.2.2.2.2.1 < x103)) then (decide (x103 < y100.2.2.2.1)) else false) then
 (r0 ((), y100.2.2.2.2.2.1, x103, y100.2.2.2.1, (), y123)).bind fun y131 =>
 some y131
 else
 some y123
 else
 bif (bif (decide (y100.2.2.2.2.2.1 < x103)) then (decide (x103 < y100.2.2.2.1)) else false) then
 (r0 ((), y100.2.2.2.2.2.1, x103, y100.2.2.2.1, (), y112)).bind fun y139 =>
 some y139
 else
 some y112
 else
 bif (bif (decide (y100.2.1 < y100.2.2.2.2.2.2.2.1)) then (decide (y100.2.2.2.2.2.2.2.1 < y100.2.2.2.2.2.1)) else false) then
 (r0 ((), y100.2.1, y100.2.2.2.2.2.2.2.1, y100.2.2.2.2.2.1, (), y100.2.2.2.2.2.2.2.2)).bind fun y150 =>
 bif (bif (decide (y100.2.2.2.2.2.1 < x103)) then (decide (x103 < y100.2.2.2.1)) else false) then
 (r0 ((), y100.2.2.2.2.2.1, x103, y100.2.2.2.1, (), y150)).bind fun y158 =>
 some y158
 else
 some y150
 else
 bif (bif (decide (y100.2.2.2.2.2.1 < x103)) then (decide (x103 < y100.2.2.2.1)) else false) then
 (r0 ((), y100.2.2.2.2.2.1, x103, y100.2.2.2.1, (), y100.2.2.2.2.2.2.2.2)).bind fun y166 =>
 some y166
 else
 some y100.2.2.2.2.2.2.2.2
 else
 (loopQ fuel (B217_34step fuel r0) ((), a1, a2, a3, (), x72, x73, a1, a2, (IntKind.wrap .i64 (x73 - (1 : Int))), a5)).bind fun y168 =>
 let x171 := IntKind.wrap .i64 (y168.2.2.2.2.2.2.1 - y168.2.2.2.2.2.2.2.1)
 bif (bif (decide (y168.2.2.2.2.2.2.2.1 < y168.2.2.1)) then (decide (y168.2.2.1 < x171)) else false) then
 (F251 fuel () y168.2.2.2.2.2.2.2.1 y168.2.2.1 x171 () y168.2.2.2.2.2.2.2.2).bind fun y180 =>
 bif (bif (decide (y168.2.1 < y168.2.2.2.2.2.2.2.1)) then (decide (y168.2.2.2.2.2.2.2.1 < y168.2.2.2.2.2.1)) else false) then
 (r0 ((), y168.2.1, y168.2.2.2.2.2.2.2.1, y168.2.2.2.2.2.1, (), y180)).bind fun y191 =>
 bif (bif (decide (y168.2.2.2.2.2.1 < x171)) then (decide (x171 < y168.2.2.2.1)) else false) then
 (r0 ((), y168.2.2.2.2.2.1, x171, y168.2.2.2.1, (), y191)).bind fun y199 =>
 some y199
 else
 some y191
 else
 bif (bif (decide (y168.2.2.2.2.2.1 < x171)) then (decide (x171 < y168.2.2.2.1)) else false) then
 (r0 ((), y168.2.2.2.2.2.1, x171, y168.2.2.2.1, (), y180)).bind fun y207 =>
 some y207
 else
 some y180
 else
 bif (bif (decide (y168.2.1 < y168.2.2.2.2.2.2.2.1)) then (decide (y168.2.2.2.2.2.2.2.1 < y168.2.2.2.2.2.1)) else false) then
 (r0 ((), y168.2.1, y168.2.2.2.2.2.2.2.1, y168.2.2.2.2.2.1, (), y168.2.2.2.2.2.2.2.2)).bind fun y218 =>
 bif (bif (decide (y168.2.2.2.2.2.1 < x171)) then (decide (x171 < y168.2.2.2.1)) else false) then
 (r0 ((), y168.2.2.2.2.2.1, x171, y168.2.2.2.1, (), y218)).bind fun y226 =>
 some y226
 else
 some y218
 else
 bif (bif (decide (y168.2.2.2.2.2.1 < x171)) then (decide (x171 < y168.2.2.2.1)) else false) then
 (r0 ((), y168.2.2.2.2.2.1, x171, y168.2.2.2.1, (), y168.2.2.2.2.2.2.2.2)).bind fun y234 =>
 some y234
 else
 some y168.2.2.2.2.2.2.2.2

def B217_4l (fuel : Nat) (r0 : (Unit × Int × Int × Int × Unit × (List PV)) → Option ((List PV))) : LoopE := ⟨4, ⟨[0, 1, 4, 10, 11], [.arr 34 0], [(.con (.arr 0 0 34)), (.int .i64), (.con (.fn 65 0 [])), (.int .i64), (.int .i64), (.slice 34)]⟩, [(.exit 0, ⟨[0, 1, 10], [.arr 34 0], [(.con (.arr 0 0 34)), (.int .i64), (.int .i64), (.slice 34)]⟩)], B217_4step fuel r0⟩

def B217_10l (fuel : Nat) (r0 : (Unit × Int × Int × Int × Unit × (List PV)) → Option ((List PV))) : LoopE := ⟨10, ⟨[0, 10, 13], [.arr 34 0], [(.con (.arr 0 0 34)), (.int .i64), (.int .i64), (.slice 34)]⟩, [(.exit 2, ⟨[], [.arr 34 0], [(.slice 34)]⟩)], B217_10step fuel r0⟩

def B217_16l (fuel : Nat) (r0 : (Unit × Int × Int × Int × Unit × (List PV)) → Option ((List PV))) : LoopE := ⟨16, ⟨[0, 2, 4, 14, 15], [.arr 34 0], [(.con (.arr 0 0 34)), (.int .i64), (.con (.fn 65 0 [])), (.int .i64), (.int .i64), (.slice 34)]⟩, [(.exit 4, ⟨[0, 2, 14], [.arr 34 0], [(.con (.arr 0 0 34)), (.int .i64), (.int .i64), (.slice 34)]⟩)], B217_16step fuel r0⟩

def B217_22l (fuel : Nat) (r0 : (Unit × Int × Int × Int × Unit × (List PV)) → Option ((List PV))) : LoopE := ⟨22, ⟨[0, 14, 17], [.arr 34 0], [(.con (.arr 0 0 34)), (.int .i64), (.int .i64), (.slice 34)]⟩, [(.exit 6, ⟨[], [.arr 34 0], [(.slice 34)]⟩)], B217_22step fuel r0⟩

def B217_34l (fuel : Nat) (r0 : (Unit × Int × Int × Int × Unit × (List PV)) → Option ((List PV))) : LoopE := ⟨34, ⟨[0, 1, 2, 3, 4, 18, 19, 20, 21, 22], [.arr 34 0], [(.con (.arr 0 0 34)), (.int .i64), (.int .i64), (.int .i64), (.con (.fn 65 0 [])), (.int .i64), (.int .i64), (.int .i64), (.int .i64), (.int .i64), (.slice 34)]⟩, [(.exit 8, ⟨[0, 1, 2, 3, 4, 18, 19, 20], [.arr 34 0], [(.con (.arr 0 0 34)), (.int .i64), (.int .i64), (.int .i64), (.con (.fn 65 0 [])), (.int .i64), (.int .i64), (.int .i64), (.slice 34)]⟩)], B217_34step fuel r0⟩

def B217C (fuel : Nat) (r0 : (Unit × Int × Int × Int × Unit × (List PV)) → Option ((List PV))) : Cfg := cfg Tryz.prog 220 1 [F65c fuel, F251c fuel, B217c r0] [B217_4l fuel r0, B217_10l fuel r0, B217_16l fuel r0, B217_22l fuel r0, B217_34l fuel r0] fuel

theorem B217k (fuel : Nat) (r0 : (Unit × Int × Int × Int × Unit × (List PV)) → Option ((List PV))) (h0 : (B217c r0).Ok Tryz.prog) : CallOk (B217C fuel r0) := cfg_callOkP (qc (F65ok fuel) <| qc (F251ok fuel) <| qc h0 <| q0) (p0)

theorem B217_4ok (fuel : Nat) (r0 : (Unit × Int × Int × Int × Unit × (List PV)) → Option ((List PV))) (h0 : (B217c r0).Ok Tryz.prog) : LoopOk (B217C fuel r0) (lp (bodyOf Tryz.f217) 0) := okL (B217k fuel r0 h0) fuel (B217_4l fuel r0) L0

theorem B217_10ok (fuel : Nat) (r0 : (Unit × Int × Int × Int × Unit × (List PV)) → Option ((List PV))) (h0 : (B217c r0).Ok Tryz.prog) : LoopOk (B217C fuel r0) (lp (bodyOf Tryz.f217) 1) := okL (B217k fuel r0 h0) fuel (B217_10l fuel r0) L0

theorem B217_16ok (fuel : Nat) (r0 : (Unit × Int × Int × Int × Unit × (List PV)) → Option ((List PV))) (h0 : (B217c r0).Ok Tryz.prog) : LoopOk (B217C fuel r0) (lp (bodyOf Tryz.f217) 2) := okL (B217k fuel r0 h0) fuel (B217_16l fuel r0) L0

theorem B217_22ok (fuel : Nat) (r0 : (Unit × Int × Int × Int × Unit × (List PV)) → Option ((List PV))) (h0 : (B217c r0).Ok Tryz.prog) : LoopOk (B217C fuel r0) (lp (bodyOf Tryz.f217) 3) := okL (B217k fuel r0 h0) fuel (B217_22l fuel r0) L0

theorem B217_34ok (fuel : Nat) (r0 : (Unit × Int × Int × Int × Unit × (List PV)) → Option ((List PV))) (h0 : (B217c r0).Ok Tryz.prog) : LoopOk (B217C fuel r0) (lp (bodyOf Tryz.f217) 4) := okL (B217k fuel r0 h0) fuel (B217_34l fuel r0) L0

theorem B217ok (fuel : Nat) (r0 : (Unit × Int × Int × Int × Unit × (List PV)) → Option ((List PV))) (h0 : (B217c r0).Ok Tryz.prog) : (B217c (fun x => B217 fuel r0 x.1 x.2.1 x.2.2.1 x.2.2.2.1 x.2.2.2.2.1 x.2.2.2.2.2)).Ok Tryz.prog := okE Tryz.f217 (B217k fuel r0 h0) (loopsN 5 (by kernel_rfl) fun i hi => match i, hi with | 0, _ => (B217_4ok fuel r0 h0) | 1, _ => (B217_10ok fuel r0 h0) | 2, _ => (B217_16ok fuel r0 h0) | 3, _ => (B217_22ok fuel r0 h0) | 4, _ => (B217_34ok fuel r0 h0) | n + 5, h => absurd h (by omega))

def G217 (fuel : Nat) : Nat → ((Unit × Int × Int × Int × Unit × (List PV)) → Option ((List PV)))
  | 0 => fun _ => none
  | d + 1 => fun x => B217 fuel (G217 fuel d) x.1 x.2.1 x.2.2.1 x.2.2.2.1 x.2.2.2.2.1 x.2.2.2.2.2

theorem G217ok (fuel : Nat) : ∀ d, (B217c (G217 fuel d)).Ok Tryz.prog
  | 0 => okNone
  | d + 1 => B217ok fuel (G217 fuel d) (G217ok fuel d)

/-- slices.symMergeCmpFunc[wireschema/api.Change] -/
def F217 (fuel : Nat) (a0 : Unit) (a1 : Int) (a2 : Int) (a3 : Int) (a4 : Unit) (a5 : List PV) : Option ((List PV)) := limQ fuel (fun d => (G217 fuel d)) (a0, a1, a2, a3, a4, a5)

def F217c (fuel : Nat) : CallE := ⟨217, ⟨5, [.arr 34 0], [(.con (.arr 0 0 34)), (.int .i64), (.int .i64), (.int .i64), (.con (.fn 65 0 [])), (.slice 34)]⟩, ⟨0, [.arr 34 0], [(.slice 34)]⟩, fun x => F217 fuel x.1 x.2.1 x.2.2.1 x.2.2.2.1 x.2.2.2.2.1 x.2.2.2.2.2, []⟩

theorem F217ok (fuel : Nat) : (F217c fuel).Ok Tryz.prog := okLim (F217c fuel) (G := (fun d => (G217 fuel d))) (fun x => rfl) (fun d => (G217ok fuel d))

def S158_3 (fuel : Nat) (a1 : Unit) (a2 : Int) (a3 : Unit) (a4 : Int) (a5 : Int) (a6 : Int) (a7 : List PV) : Option ((Unit × Int × Unit × Int × Int × Int × (List PV)) ⊕ ((Unit × Int × Unit × Int × Int × (List PV)))) :=
 bif (decide (a6 ≤ a2)) then
 (F216 fuel () a5 a6 () a7).bind fun y9 =>
 some (.inl ((), a2, (), a4, a6, (IntKind.wrap .i64 (a6 + a4)), y9))
 else
 some (.inr ((), a2, (), a4, a5, a7))

def S158_3step (fuel : Nat) (x : Unit × Int × Unit × Int × Int × Int × (List PV)) : Option ((Unit × Int × Unit × Int × Int × Int × (List PV)) ⊕ ((Unit × Int × Unit × Int × Int × (List PV)))) := S158_3 fuel x.1 x.2.1 x.2.2.1 x.2.2.2.1 x.2.2.2.2.1 x.2.2.2.2.2.1 x.2.2.2.2.2.2

def S158_10 (fuel : Nat) (a22 : Unit) (a23 : Int) (a24 : Unit) (a25 : Int) (a26 : Int) (a27 : Int) (a28 : List PV) : Option ((Unit × Int × Unit × Int × Int × Int × (List PV)) ⊕ ((Unit × Int × Unit × Int × Int × (List PV)))) :=
 bif (decide (a27 ≤ a23)) then
 (F217 fuel () a26 (IntKind.wrap .i64 (a26 + a25)) a27 () a28).bind fun y31 =>
 some (.inl ((), a23, (), a25, a27, (IntKind.wrap .i64 (a27 + (IntKind.wrap .i64 ((2 : Int) * a25)))), y31))
 else
 some (.inr ((), a23, (), a25, a26, a28))

def S158_10step (fuel : Nat) (x : Unit × Int × Unit × Int × Int × Int × (List PV)) : Option ((Unit × Int × Unit × Int × Int × Int × (List PV)) ⊕ ((Unit × Int × Unit × Int × Int × (List PV)))) := S158_10 fuel x.1 x.2.1 x.2.2.1 x.2.2.2.1 x.2.2.2.2.1 x.2.2.2.2.2.1 x.2.2.2.2.2.2

def S158_8 (fuel : Nat) (a15 : Unit) (a16 : Int) (a17 : Unit) (a18 : Int) (a19 : List PV) : Option ((Unit × Int × Unit × Int × (List PV)) ⊕ (((List PV)))) :=
 bif (decide (a18 < a16)) then
 (loopQ fuel (S158_10step fuel) ((), a16, (), a18, (0 : Int), (IntKind.wrap .i64 ((2 : Int) * a18)), a19)).bind fun y34 =>
 let x37 := IntKind.wrap .i64 (y34.2.2.2.2.1 + y34.2.2.2.1)
 bif (decide (x37 < y34.2.1)) then
 (F217 fuel () y34.2.2.2.2.1 x37 y34.2.1 () y34.2.2.2.2.2).bind fun y42 =>
 some (.inl ((), y34.2.1, (), (IntKind.wrap .i64 (y34.2.2.2.1 * (2 : Int))), y42))
 else
 some (.inl ((), y34.2.1, (), (IntKind.wrap .i64 (y34.2.2.2.1 * (2 : Int))), y34.2.2.2.2.2))
 else
 some (.inr a19)

def S158_8step (fuel : Nat) (x : Unit × Int × Unit × Int × (List PV)) : Option ((Unit × Int × Unit × Int × (List PV)) ⊕ (((List PV)))) := S158_8 fuel x.1 x.2.1 x.2.2.1 x.2.2.2.1 x.2.2.2.2

/-- slices.stableCmpFunc[wireschema/api.Change] -/
def F158 (fuel : Nat) (a0 : Unit) (a1 : Int) (a2 : Unit) (a3 : List PV) : Option ((List PV)) :=
 (loopQ fuel (S158_3step fuel) ((), a1, (), (20 : Int), (0 : Int), (20 : Int), a3)).bind fun y11 =>
 (F216 fuel () y11.2.2.2.2.1 y11.2.1 () y11.2.2.2.2.2).bind fun y14 =>
 (loopQ fuel (S158_8step fuel) ((), y11.2.1, (), y11.2.2.2.1, y14)).bind fun y47 =>
 some y47

def S158_3l (fuel : Nat) : LoopE := ⟨3, ⟨[0, 1, 2, 6, 7, 8], [.arr 34 0], [(.con (.arr 0 0 34)), (.int .i64), (.con (.fn 65 0 [])), (.int .i64), (.int .i64), (.int .i64), (.slice 34)]⟩, [(.exit 0, ⟨[0, 1, 2, 6, 7], [.arr 34 0], [(.con (.arr 0 0 34)), (.int .i64), (.con (.fn 65 0 [])), (.int .i64), (.int .i64), (.slice 34)]⟩)], S158_3step fuel⟩

def S158_10l (fuel : Nat) : LoopE := ⟨10, ⟨[0, 1, 2, 6, 7, 8], [.arr 34 0], [(.con (.arr 0 0 34)), (.int .i64), (.con (.fn 65 0 [])), (.int .i64), (.int .i64), (.int .i64), (.slice 34)]⟩, [(.exit 4, ⟨[0, 1, 2, 6, 7], [.arr 34 0], [(.con (.arr 0 0 34)), (.int .i64), (.con (.fn 65 0 [])), (.int .i64), (.int .i64), (.slice 34)]⟩)], S158_10step fuel⟩

def S158_8l (fuel : Nat) : LoopE := ⟨8, ⟨[0, 1, 2, 6], [.arr 34 0], [(.con (.arr 0 0 34)), (.int .i64), (.con (.fn 65 0 [])), (.int .i64), (.slice 34)]⟩, [(.exit 2, ⟨[], [.arr 34 0], [(.slice 34)]⟩)], S158_8step fuel⟩

def F158C (fuel : Nat) : Cfg := cfg Tryz.prog 63 1 [F216c fuel, F217c fuel] [S158_3l fuel, S158_10l fuel, S158_8l fuel] fuel

def F158c (fuel : Nat) : CallE := ⟨158, ⟨3, [.arr 34 0], [(.con (.arr 0 0 34)), (.int .i64), (.con (.fn 65 0 [])), (.slice 34)]⟩, ⟨0, [.arr 34 0], [(.slice 34)]⟩, fun x => F158 fuel x.1 x.2.1 x.2.2.1 x.2.2.2, []⟩

theorem F158k (fuel : Nat) : CallOk (F158C fuel) := cfg_callOkP (qc (F216ok fuel) <| qc (F217ok fuel) <| q0) (p0)

theorem S158_3ok (fuel : Nat) : LoopOk (F158C fuel) (lp (bodyOf Tryz.f158) 0) := okL (F158k fuel) fuel (S158_3l fuel) L0

theorem S158_10ok (fuel : Nat) : LoopOk (F158C fuel) (lp (lp (bodyOf Tryz.f158) 1) 0) := okL (F158k fuel) fuel (S158_10l fuel) L0

theorem S158_8ok (fuel : Nat) : LoopOk (F158C fuel) (lp (bodyOf Tryz.f158) 1) := okL (F158k fuel) fuel (S158_8l fuel) (L1 (S158_10ok fuel))

theorem F158ok (fuel : Nat) : (F158c fuel).Ok Tryz.prog := okE Tryz.f158 (F158k fuel) (L2 (S158_3ok fuel) (S158_8ok fuel))

/-- slices.SortStableFunc[[]wireschema/api.Change,wireschema/api.Change] -/
def F92 (fuel : Nat) (a0 : Unit) (a1 : Unit) (a2 : List PV) : Option ((List PV)) :=
 (F158 fuel () (a2.length : Int) () a2).bind fun y2 =>
 some y2

def F92c (fuel : Nat) : CallE := ⟨92, ⟨2, [.arr 34 0], [(.con (.arr 0 0 34)), (.con (.fn 65 0 [])), (.slice 34)]⟩, ⟨0, [.arr 34 0], [(.slice 34)]⟩, fun x => F92 fuel x.1 x.2.1 x.2.2, []⟩

theorem F92ok (fuel : Nat) : (F92c fuel).Ok Tryz.prog := okJ Tryz.f92 9 1 fuel [F158c fuel] [] false (qc (F158ok fuel) <| q0) (p0) L0

/-- wireschema/evolve.sorted -/
def F39 (fuel : Nat) (a0 : List PV) : Option ((List PV)) :=
 (F91_v2 fuel a0).bind fun y1 =>
 (F92 fuel () () y1.2).bind fun y2 =>
 some y2

def F39c (fuel : Nat) : CallE := ⟨39, ⟨1, [], [(.slice 34)]⟩, ⟨1, [], [(.slice 34)]⟩, fun x => F39 fuel x, []⟩

theorem F39ok (fuel : Nat) : (F39c fuel).Ok Tryz.prog := okJ Tryz.f39 9 0 fuel [F91_v2c fuel, F92c fuel] [] false (qc (F91_v2ok fuel) <| qc (F92ok fuel) <| q0) (p0) L0

def S14_5 (fuel : Nat) (a4 : Unit) (a5 : Unit) (a6 : Unit) (a7 : List PV) (a8 : Int) (a9 : Int) (a10 : PV) (a11 : PV) (a12 : List PV) : Option ((Unit × Unit × Unit × (List PV) × Int × Int × PV × PV × (List PV)) ⊕ ((Unit × Unit × Unit × PV × PV × (List PV)))) :=
 bif (decide (a9 < a8)) then
 bif inRange a9 a7.length then
 let x14 := a7.getD a9.toNat .bad
 (F35 fuel a10 ((x14.fld 0).asStr)).bind fun y16 =>
 bif (!y16.2) then
 (F36 fuel () [(PV.agg [(PV.int (2 : Int)), (PV.str ((x14.fld 0).asStr)), (PV.int (-1 : Int)), (PV.str ([] : List UInt8)), (PV.str ([] : List UInt8))])] a12).bind fun y21 =>
 some (.inl ((), (), (), a7, a8, (IntKind.wrap .i64 (a9 + (1 : Int))), a10, a11, y21))
 else
 some (.inl ((), (), (), a7, a8, (IntKind.wrap .i64 (a9 + (1 : Int))), a10, a11, a12))
 else none
 else
 some (.inr ((), (), (), a10, a11, a12))

def S14_5step (fuel : Nat) (x : Unit × Unit × Unit × (List PV) × Int × Int × PV × PV × (List PV)) : Option ((Unit × Unit × Unit × (List PV) × Int × Int × PV × PV × (List PV)) ⊕ ((Unit × Unit × Unit × PV × PV × (List PV)))) := S14_5 fuel x.1 x.2.1 x.2.2.1 x.2.2.2.1 x.2.2.2.2.1 x.2.2.2.2.2.1 x.2.2.2.2.2.2.1 x.2.2.2.2.2.2.2.1 x.2.2.2.2.2.2.2.2

def S14_12 (fuel : Nat) (a27 : Unit) (a28 : Unit) (a29 : Unit) (a30 : List PV) (a31 : Int) (a32 : Int) (a33 : PV) (a34 : PV) (a35 : List PV) : Option ((Unit × Unit × Unit × (List PV) × Int × Int × PV × PV × (List PV)) ⊕ ((Unit × Unit × Unit × PV × PV × (List PV)))) :=
 bif (decide (a32 < a31)) then
 bif inRange a32 a30.length then
 let x37 := a30.getD a32.toNat .bad
 (F37 fuel a33 ((x37.fld 0).asStr)).bind fun y39 =>
 bif (!y39.2) then
 (F36 fuel () [(PV.agg [(PV.int (12 : Int)), (PV.str ((x37.fld 0).asStr)), (PV.int (-1 : Int)), (PV.str ([] : List UInt8)), (PV.str ([] : List UInt8))])] a35).bind fun y44 =>
 some (.inl ((), (), (), a30, a31, (IntKind.wrap .i64 (a32 + (1 : Int))), a33, a34, y44))
 else
 some (.inl ((), (), (), a30, a31, (IntKind.wrap .i64 (a32 + (1 : Int))), a33, a34, a35))
 else none
 else
 some (.inr ((), (), (), a33, a34, a35))

def S14_12step (fuel : Nat) (x : Unit × Unit × Unit × (List PV) × Int × Int × PV × PV × (List PV)) : Option ((Unit × Unit × Unit × (List PV) × Int × Int × PV × PV × (List PV)) ⊕ ((Unit × Unit × Unit × PV × PV × (List PV)))) := S14_12 fuel x.1 x.2.1 x.2.2.1 x.2.2.2.1 x.2.2.2.2.1 x.2.2.2.2.2.1 x.2.2.2.2.2.2.1 x.2.2.2.2.2.2.2.1 x.2.2.2.2.2.2.2.2

def S14_19 (fuel : Nat) (a50 : Unit) (a51 : Unit) (a52 : List PV) (a53 : Int) (a54 : Int) (a55 : PV) (a56 : PV) (a57 : List PV) : Option ((Unit × Unit × (List PV) × Int × Int × PV × PV × (List PV)) ⊕ ((Unit × PV × PV × (List PV)))) :=
 bif (decide (a54 < a53)) then
 bif inRange a54 a52.length then
 let x59 := a52.getD a54.toNat .bad
 (F38 fuel a55 ((x59.fld 0).asStr)).bind fun y61 =>
 bif (!y61.2) then
 (F36 fuel () [(PV.agg [(PV.int (18 : Int)), (PV.str ((x59.fld 0).asStr)), (PV.int (-1 : Int)), (PV.str ([] : List UInt8)), (PV.str ([] : List UInt8))])] a57).bind fun y66 =>
 some (.inl ((), (), a52, a53, (IntKind.wrap .i64 (a54 + (1 : Int))), a55, a56, y66))
 else
 some (.inl ((), (), a52, a53, (IntKind.wrap .i64 (a54 + (1 : Int))), a55, a56, a57))
 else none
 else
 some (.inr ((), a55, a56, a57))

def S14_19step (fuel : Nat) (x : Unit × Unit × (List PV) × Int × Int × PV × PV × (List PV)) : Option ((Unit × Unit × (List PV) × Int × Int × PV × PV × (List PV)) ⊕ ((Unit × PV × PV × (List PV)))) := S14_19 fuel x.1 x.2.1 x.2.2.1 x.2.2.2.1 x.2.2.2.2.1 x.2.2.2.2.2.1 x.2.2.2.2.2.2.1 x.2.2.2.2.2.2.2

/-- wireschema/evolve.Compare -/
def F14 (fuel : Nat) (a0 : PV) (a1 : PV) : Option ((List PV)) :=
 (F34 fuel () a0 a1 []).bind fun y1 =>
 let x2 := (a1.fld 0).asList
 (loopQ fuel (S14_5step fuel) ((), (), (), x2, (x2.length : Int), (0 : Int), a0, a1, y1)).bind fun y24 =>
 let x25 := (y24.2.2.2.2.1.fld 1).asList
 (loopQ fuel (S14_12step fuel) ((), (), (), x25, (x25.length : Int), (0 : Int), y24.2.2.2.1, y24.2.2.2.2.1, y24.2.2.2.2.2)).bind fun y47 =>
 let x48 := (y47.2.2.2.2.1.fld 2).asList
 (loopQ fuel (S14_19step fuel) ((), (), x48, (x48.length : Int), (0 : Int), y47.2.2.2.1, y47.2.2.2.2.1, y47.2.2.2.2.2)).bind fun y69 =>
 (F39 fuel y69.2.2.2).bind fun y71 =>
 some y71

def S14_5l (fuel : Nat) : LoopE := ⟨5, ⟨[2, 3, 5, 25, 26, 27], [.box 26 .leaf, .box 26 .leaf, .box 66 (.agg 66 [.leaf]), .acc], [(.con (.ref 0 [] 26)), (.con (.ref 1 [] 26)), (.con (.ref 2 [] 66)), (.slice 63), (.int .i64), (.int .i64), (.data 26), (.data 26), (.acc 3 34)]⟩, [(.exit 0, ⟨[2, 3, 5], [.box 26 .leaf, .box 26 .leaf, .box 66 (.agg 66 [.leaf]), .acc], [(.con (.ref 0 [] 26)), (.con (.ref 1 [] 26)), (.con (.ref 2 [] 66)), (.data 26), (.data 26), (.acc 3 34)]⟩)], S14_5step fuel⟩

def S14_12l (fuel : Nat) : LoopE := ⟨12, ⟨[2, 3, 5, 48, 49, 50], [.box 26 .leaf, .box 26 .leaf, .box 66 (.agg 66 [.leaf]), .acc], [(.con (.ref 0 [] 26)), (.con (.ref 1 [] 26)), (.con (.ref 2 [] 66)), (.slice 73), (.int .i64), (.int .i64), (.data 26), (.data 26), (.acc 3 34)]⟩, [(.exit 2, ⟨[2, 3, 5], [.box 26 .leaf, .box 26 .leaf, .box 66 (.agg 66 [.leaf]), .acc], [(.con (.ref 0 [] 26)), (.con (.ref 1 [] 26)), (.con (.ref 2 [] 66)), (.data 26), (.data 26), (.acc 3 34)]⟩)], S14_12step fuel⟩

def S14_19l (fuel : Nat) : LoopE := ⟨19, ⟨[2, 5, 71, 72, 73], [.box 26 .leaf, .box 26 .leaf, .box 66 (.agg 66 [.leaf]), .acc], [(.con (.ref 0 [] 26)), (.con (.ref 2 [] 66)), (.slice 78), (.int .i64), (.int .i64), (.data 26), (.data 26), (.acc 3 34)]⟩, [(.exit 4, ⟨[5], [.box 26 .leaf, .box 26 .leaf, .box 66 (.agg 66 [.leaf]), .acc], [(.con (.ref 2 [] 66)), (.data 26), (.data 26), (.acc 3 34)]⟩)], S14_19step fuel⟩

def F14C (fuel : Nat) : Cfg := cfg Tryz.prog 98 0 [F34c fuel, F35c fuel, F36c fuel, F37c fuel, F38c fuel, F39c fuel] [S14_5l fuel, S14_12l fuel, S14_19l fuel] fuel

def F14c (fuel : Nat) : CallE := ⟨14, ⟨2, [], [(.data 26), (.data 26)]⟩, ⟨1, [], [(.slice 34)]⟩, fun x => F14 fuel x.1 x.2, []⟩

theorem F14k (fuel : Nat) : CallOk (F14C fuel) := cfg_callOkP (qc (F34ok fuel) <| qc (F35ok fuel) <| qc (F36ok fuel) <| qc (F37ok fuel) <| qc (F38ok fuel) <| qc (F39ok fuel) <| q0) (p0)

theorem S14_5ok (fuel : Nat) : LoopOk (F14C fuel) (lp (bodyOf Tryz.f14) 0) := okL (F14k fuel) fuel (S14_5l fuel) L0

theorem S14_12ok (fuel : Nat) : LoopOk (F14C fuel) (lp (bodyOf Tryz.f14) 1) := okL (F14k fuel) fuel (S14_12l fuel) L0

theorem S14_19ok (fuel : Nat) : LoopOk (F14C fuel) (lp (bodyOf Tryz.f14) 2) := okL (F14k fuel) fuel (S14_19l fuel) L0

theorem F14ok (fuel : Nat) : (F14c fuel).Ok Tryz.prog := okE Tryz.f14 (F14k fuel) (L3 (S14_5ok fuel) (S14_12ok fuel) (S14_19ok fuel))

def S114_4 (fuel : Nat) (a3 : Unit) (a4 : Unit) (a5 : Unit) (a6 : List PV) (a7 : Int) (a8 : Int) (a9 : PV) (a10 : PV) (a11 : List (PV × PV)) (a12 : List (PV × PV)) (a13 : Unit) (a14 : Unit) : Option ((Unit × Unit × Unit × (List PV) × Int × Int × PV × PV × (List (PV × PV)) × (List (PV × PV)) × Unit × Unit) ⊕ ((Unit × Unit × Unit × PV × PV × (List (PV × PV)) × (List (PV × PV)) × Unit × Unit))) :=
 bif (decide (a8 < a7)) then
 bif inRange a8 a6.length then
 let x16 := a6.getD a8.toNat .bad
 bif (!(PV.mhas a11 (PV.str ((x16.fld 0).asStr)))) then
 some (.inl ((), (), (), a6, a7, (IntKind.wrap .i64 (a8 + (1 : Int))), a9, a10, PV.mput a11 (PV.str ((x16.fld 0).asStr)) x16, a12, (), ()))
 else
 some (.inl ((), (), (), a6, a7, (IntKind.wrap .i64 (a8 + (1 : Int))), a9, a10, a11, a12, (), ()))
 else none
 else
 some (.inr ((), (), (), a9, a10, a11, a12, (), ()))

def S114_4step (fuel : Nat) (x : Unit × Unit × Unit × (List PV) × Int × Int × PV × PV × (List (PV × PV)) × (List (PV × PV)) × Unit × Unit) : Option ((Unit × Unit × Unit × (List PV) × Int × Int × PV × PV × (List (PV × PV)) × (List (PV × PV)) × Unit × Unit) ⊕ ((Unit × Unit × Unit × PV × PV × (List (PV × PV)) × (List (PV × PV)) × Unit × Unit))) := S114_4 fuel x.1 x.2.1 x.2.2.1 x.2.2.2.1 x.2.2.2.2.1 x.2.2.2.2.2.1 x.2.2.2.2.2.2.1 x.2.2.2.2.2.2.2.1 x.2.2.2.2.2.2.2.2.1 x.2.2.2.2.2.2.2.2.2.1 x.2.2.2.2.2.2.2.2.2.2.1 x.2.2.2.2.2.2.2.2.2.2.2

def S114_11 (fuel : Nat) (a27 : Unit) (a28 : Unit) (a29 : List PV) (a30 : Int) (a31 : Int) (a32 : PV) (a33 : PV) (a34 : List (PV × PV)) (a35 : List (PV × PV)) (a36 : Unit) (a37 : Unit) : Option ((Unit × Unit × (List PV) × Int × Int × PV × PV × (List (PV × PV)) × (List (PV × PV)) × Unit × Unit) ⊕ ((Unit × Unit × PV × PV × (List (PV × PV)) × (List (PV × PV)) × Unit × Unit))) :=
 bif (decide (a31 < a30)) then
 bif inRange a31 a29.length then
 some (.inl ((), (), a29, a30, (IntKind.wrap .i64 (a31 + (1 : Int))), a32, a33, a34, PV.mput a35 (PV.str (((a29.getD a31.toNat .bad).fld 0).asStr)) (PV.bool true), (), ()))
 else none
 else
 some (.inr ((), (), a32, a33, a34, a35, (), ()))

def S114_11step (fuel : Nat) (x : Unit × Unit × (List PV) × Int × Int × PV × PV × (List (PV × PV)) × (List (PV × PV)) × Unit × Unit) : Option ((Unit × Unit × (List PV) × Int × Int × PV × PV × (List (PV × PV)) × (List (PV × PV)) × Unit × Unit) ⊕ ((Unit × Unit × PV × PV × (List (PV × PV)) × (List (PV × PV)) × Unit × Unit))) := S114_11 fuel x.1 x.2.1 x.2.2.1 x.2.2.2.1 x.2.2.2.2.1 x.2.2.2.2.2.1 x.2.2.2.2.2.2.1 x.2.2.2.2.2.2.2.1 x.2.2.2.2.2.2.2.2.1 x.2.2.2.2.2.2.2.2.2.1 x.2.2.2.2.2.2.2.2.2.2

/-- wireschema/graph.weave -/
def F114 (fuel : Nat) (a0 : PV) : Option (PV) :=
 let x1 := (a0.fld 0).asList
 (loopQ fuel (S114_4step fuel) ((), (), (), x1, (x1.length : Int), (0 : Int), a0, (PV.agg [(PV.map []), (PV.map [])]), [], [], (), ())).bind fun y24 =>
 let x25 := (y24.2.2.2.1.fld 1).asList
 (loopQ fuel (S114_11step fuel) ((), (), x25, (x25.length : Int), (0 : Int), y24.2.2.2.1, y24.2.2.2.2.1, y24.2.2.2.2.2.1, y24.2.2.2.2.2.2.1, (), ())).bind fun y42 =>
 some (PV.agg [(PV.map y42.2.2.2.2.1), (PV.map y42.2.2.2.2.2.1)])

def S114_4l (fuel : Nat) : LoopE := ⟨4, ⟨[1, 2, 3, 14, 15, 16], [.box 26 .leaf, .box 179 .leaf, .map 9 63, .map 9 4, .box 179 (.agg 179 [.leaf, .leaf])], [(.con (.ref 0 [] 26)), (.con (.ref 1 [] 179)), (.con (.ref 4 [] 179)), (.slice 63), (.int .i64), (.int .i64), (.data 26), (.data 179), (.map 9 63), (.map 9 4), (.con (.mref 2)), (.con (.mref 3))]⟩, [(.exit 0, ⟨[1, 2, 3], [.box 26 .leaf, .box 179 .leaf, .map 9 63, .map 9 4, .box 179 (.agg 179 [.leaf, .leaf])], [(.con (.ref 0 [] 26)), (.con (.ref 1 [] 179)), (.con (.ref 4 [] 179)), (.data 26), (.data 179), (.map 9 63), (.map 9 4), (.con (.mref 2)), (.con (.mref 3))]⟩)], S114_4step fuel⟩

def S114_11l (fuel : Nat) : LoopE := ⟨11, ⟨[2, 3, 37, 38, 39], [.box 26 .leaf, .box 179 .leaf, .map 9 63, .map 9 4, .box 179 (.agg 179 [.leaf, .leaf])], [(.con (.ref 1 [] 179)), (.con (.ref 4 [] 179)), (.slice 73), (.int .i64), (.int .i64), (.data 26), (.data 179), (.map 9 63), (.map 9 4), (.con (.mref 2)), (.con (.mref 3))]⟩, [(.exit 2, ⟨[2, 3], [.box 26 .leaf, .box 179 .leaf, .map 9 63, .map 9 4, .box 179 (.agg 179 [.leaf, .leaf])], [(.con (.ref 1 [] 179)), (.con (.ref 4 [] 179)), (.data 26), (.data 179), (.map 9 63), (.map 9 4), (.con (.mref 2)), (.con (.mref 3))]⟩)], S114_11step fuel⟩

def F114C (fuel : Nat) : Cfg := cfg Tryz.prog 49 0 [] [S114_4l fuel, S114_11l fuel] fuel

def F114c (fuel : Nat) : CallE := ⟨114, ⟨1, [], [(.data 26)]⟩, ⟨1, [], [(.data 179)]⟩, fun x => F114 fuel x, PV.bad⟩

theorem F114k (fuel : Nat) : CallOk (F114C fuel) := cfg_callOkP (q0) (p0)

theorem S114_4ok (fuel : Nat) : LoopOk (F114C fuel) (lp (bodyOf Tryz.f114) 0) := okL (F114k fuel) fuel (S114_4l fuel) L0

theorem S114_11ok (fuel : Nat) : LoopOk (F114C fuel) (lp (bodyOf Tryz.f114) 1) := okL (F114k fuel) fuel (S114_11l fuel) L0

theorem F114ok (fuel : Nat) : (F114c fuel).Ok Tryz.prog := okE Tryz.f114 (F114k fuel) (L2 (S114_4ok fuel) (S114_11ok fuel))

/-- (wireschema/graph.web).to -/
def F228 (fuel : Nat) (a0 : PV) (a1 : PV) : Option (Bool) :=
 some (bif (PV.mhas ((a0.fld 0).asMap) (PV.str (((a1.fld 4).fld 1).asStr))) then ((((a1.fld 4).fld 0).asInt) == (10 : Int)) else false)

def F228c (fuel : Nat) : CallE := ⟨228, ⟨2, [], [(.data 179), (.data 59)]⟩, ⟨1, [], [.bool]⟩, fun x => F228 fuel x.1 x.2, false⟩

theorem F228ok (fuel : Nat) : (F228c fuel).Ok Tryz.prog := okJ Tryz.f228 23 0 fuel [] [] false (q0) (p0) L0

/-- (wireschema/graph.web).leads -/
def F173 (fuel : Nat) (a0 : PV) (a1 : PV) : Option (Bool) :=
 (F228 fuel a0 a1).bind fun y1 =>
 some (bif y1 then true else (bif ((((a1.fld 4).fld 0).asInt) == (9 : Int)) then (((PV.mget ((a0.fld 1).asMap) (PV.str (((a1.fld 4).fld 1).asStr))).getD (PV.bool false)).asBool) else false))

def F173c (fuel : Nat) : CallE := ⟨173, ⟨2, [], [(.data 179), (.data 59)]⟩, ⟨1, [], [.bool]⟩, fun x => F173 fuel x.1 x.2, false⟩

theorem F173ok (fuel : Nat) : (F173c fuel).Ok Tryz.prog := okJ Tryz.f173 22 0 fuel [F228c fuel] [] false (qc (F228ok fuel) <| q0) (p0) L0

/-- math/bits.Len64 -/
def F185 (fuel : Nat) (a0 : Int) : Option (Int) :=
 bif (decide (a0 ≥ (4294967296 : Int))) then
 let x2 := a0.fdiv (2 ^ (min (32 : Int).toNat (IntKind.bits .u64)))
 bif (decide (x2 ≥ (65536 : Int))) then
 let x4 := x2.fdiv (2 ^ (min (16 : Int).toNat (IntKind.bits .u64)))
 let x5 := IntKind.wrap .i64 ((32 : Int) + (16 : Int))
 bif (decide (x4 ≥ (256 : Int))) then
 let x9 := IntKind.wrap .u8 (x4.fdiv (2 ^ (min (8 : Int).toNat (IntKind.bits .u64))))
 bif inRange x9 (([0, 1, 2, 2, 3, 3, 3, 3, 4, 4, 4, 4, 4, 4, 4, 4, 5, 5, 5, 5, 5, 5, 5, 5, 5, 5, 5, 5, 5, 5, 5, 5, 6, 6, 6, 6, 6, 6, 6, 6, 6, 6, 6, 6, 6, 6, 6, 6, 6, 6, 6, 6, 6, 6, 6, 6, 6, 6, 6, 6, 6, 6, 6, 6, 7, 7, 7, 7, 7, 7, 7, 7, 7, 7, 7, 7, 7, 7, 7, 7, 7, 7, 7, 7, 7, 7, 7, 7, 7, 7, 7, 7, 7, 7, 7, 7, 7, 7, 7, 7, 7, 7, 7, 7, 7, 7, 7, 7, 7, 7, 7, 7, 7, 7, 7, 7, 7, 7, 7, 7, 7, 7, 7, 7, 7, 7, 7, 7, 8, 8, 8, 8, 8, 8, 8, 8, 8, 8, 8, 8, 8, 8, 8, 8, 8, 8, 8, 8, 8, 8, 8, 8, 8, 8, 8, 8, 8, 8, 8, 8, 8, 8, 8, 8, 8, 8, 8, 8, 8, 8, 8, 8, 8, 8, 8, 8, 8, 8, 8, 8, 8, 8, 8, 8, 8, 8, 8, 8, 8, 8, 8, 8, 8, 8, 8, 8, 8, 8, 8, 8, 8, 8, 8, 8, 8, 8, 8, 8, 8, 8, 8, 8, 8, 8, 8, 8, 8, 8, 8, 8, 8, 8, 8, 8, 8, 8, 8, 8, 8, 8, 8, 8, 8, 8, 8, 8, 8, 8, 8, 8, 8, 8, 8, 8, 8, 8, 8, 8, 8, 8, 8, 8, 8, 8, 8, 8] : List UInt8).length) then
 let x10 := ((([0, 1, 2, 2, 3, 3, 3, 3, 4, 4, 4, 4, 4, 4, 4, 4, 5, 5, 5, 5, 5, 5, 5, 5, 5, 5, 5, 5, 5, 5, 5, 5, 6, 6, 6, 6, 6, 6, 6, 6, 6, 6, 6, 6, 6, 6, 6, 6, 6, 6, 6, 6, 6, 6, 6, 6, 6, 6, 6, 6, 6, 6, 6, 6, 7, 7, 7, 7, 7, 7, 7, 7, 7, 7, 7, 7, 7, 7, 7, 7, 7, 7, 7, 7, 7, 7, 7, 7, 7, 7, 7, 7, 7, 7, 7, 7, 7, 7, 7, 7, 7, 7, 7, 7, 7, 7, 7, 7, 7, 7, 7, 7, 7, 7, 7, 7, 7, 7, 7, 7, 7, 7, 7, 7, 7, 7, 7, 7, 8, 8, 8, 8, 8, 8, 8, 8, 8, 8, 8, 8, 8, 8, 8, 8, 8, 8, 8, 8, 8, 8, 8, 8, 8, 8, 8, 8, 8, 8, 8, 8, 8, 8, 8, 8, 8, 8, 8, 8, 8, 8, 8, 8, 8, 8, 8, 8, 8, 8, 8, 8, 8, 8, 8, 8, 8, 8, 8, 8, 8, 8, 8, 8, 8, 8, 8, 8, 8, 8, 8, 8, 8, 8, 8, 8, 8, 8, 8, 8, 8, 8, 8, 8, 8, 8, 8, 8, 8, 8, 8, 8, 8, 8, 8, 8, 8, 8, 8, 8, 8, 8, 8, 8, 8, 8, 8, 8, 8, 8, 8, 8, 8, 8, 8, 8, 8, 8, 8, 8, 8, 8, 8, 8, 8, 8, 8, 8] : List UInt8).getD x9.toNat 0).toNat : Int)
 some (IntKind.wrap .i64 ((IntKind.wrap .i64 (x5 + (8 : Int))) + (IntKind.wrap .i64 x10)))
 else none
 else
 let x13 := IntKind.wrap .u8 x4
 bif inRange x13 (([0, 1, 2, 2, 3, 3, 3, 3, 4, 4, 4, 4, 4, 4, 4, 4, 5, 5, 5, 5, 5, 5, 5, 5, 5, 5, 5, 5, 5, 5, 5, 5, 6, 6, 6, 6, 6, 6, 6, 6, 6, 6, 6, 6, 6, 6, 6, 6, 6, 6, 6, 6, 6, 6, 6, 6, 6, 6, 6, 6, 6, 6, 6, 6, 7, 7, 7, 7, 7, 7, 7, 7, 7, 7, 7, 7, 7, 7, 7, 7, 7, 7, 7, 7, 7, 7, 7, 7, 7, 7, 7, 7, 7, 7, 7, 7, 7, 7, 7, 7, 7, 7, 7, 7, 7, 7, 7, 7, 7, 7, 7, 7, 7, 7, 7, 7, 7, 7, 7, 7, 7, 7, 7, 7, 7, 7, 7, 7, 8, 8, 8, 8, 8, 8, 8, 8, 8, 8, 8, 8, 8, 8, 8, 8, 8, 8, 8, 8, 8, 8, 8, 8, 8, 8, 8, 8, 8, 8, 8, 8, 8, 8, 8, 8, 8, 8, 8, 8, 8, 8, 8, 8, 8, 8, 8, 8, 8, 8, 8, 8, 8, 8, 8, 8, 8, 8, 8, 8, 8, 8, 8, 8, 8, 8, 8, 8, 8, 8, 8, 8, 8, 8, 8, 8, 8, 8, 8, 8, 8, 8, 8, 8, 8, 8, 8, 8, 8, 8, 8, 8, 8, 8, 8, 8, 8, 8, 8, 8, 8, 8, 8, 8, 8, 8, 8, 8, 8, 8, 8, 8, 8, 8, 8, 8, 8, 8, 8, 8, 8, 8, 8, 8, 8, 8, 8, 8] : List UInt8).length) then
 let x14 := ((([0, 1, 2, 2, 3, 3, 3, 3, 4, 4, 4, 4, 4, 4, 4, 4, 5, 5, 5, 5, 5, 5, 5, 5, 5, 5, 5, 5, 5, 5, 5, 5, 6, 6, 6, 6, 6, 6, 6, 6, 6, 6, 6, 6, 6, 6, 6, 6, 6, 6, 6, 6, 6, 6, 6, 6, 6, 6, 6, 6, 6, 6, 6, 6, 7, 7, 7, 7, 7, 7, 7, 7, 7, 7, 7, 7, 7, 7, 7, 7, 7, 7, 7, 7, 7, 7, 7, 7, 7, 7, 7, 7, 7, 7, 7, 7, 7, 7, 7, 7, 7, 7, 7, 7, 7, 7, 7, 7, 7, 7, 7, 7, 7, 7, 7, 7, 7, 7, 7, 7, 7, 7, 7, 7, 7, 7, 7, 7, 8, 8, 8, 8, 8, 8, 8, 8, 8, 8, 8, 8, 8, 8, 8, 8, 8, 8, 8, 8, 8, 8, 8, 8, 8, 8, 8, 8, 8, 8, 8, 8, 8, 8, 8, 8, 8, 8, 8, 8, 8, 8, 8, 8, 8, 8, 8, 8, 8, 8, 8, 8, 8, 8, 8, 8, 8, 8, 8, 8, 8, 8, 8, 8, 8, 8, 8, 8, 8, 8, 8, 8, 8, 8, 8, 8, 8, 8, 8, 8, 8, 8, 8, 8, 8, 8, 8, 8, 8, 8, 8, 8, 8, 8, 8, 8, 8, 8, 8, 8, 8, 8, 8, 8, 8, 8, 8, 8, 8, 8, 8, 8, 8, 8, 8, 8, 8, 8, 8, 8, 8, 8, 8, 8, 8, 8, 8, 8] : List UInt8).getD x13.toNat 0).toNat : Int)
 some (IntKind.wrap .i64 (x5 + (IntKind.wrap .i64 x14)))
 else none
 else
 bif (decide (x2 ≥ (256 : Int))) then
 let x20 := IntKind.wrap .u8 (x2.fdiv (2 ^ (min (8 : Int).toNat (IntKind.bits .u64))))
 bif inRange x20 (([0, 1, 2, 2, 3, 3, 3, 3, 4, 4, 4, 4, 4, 4, 4, 4, 5, 5, 5, 5, 5, 5, 5, 5, 5, 5, 5, 5, 5, 5, 5, 5, 6, 6, 6, 6, 6, 6, 6, 6, 6, 6, 6, 6, 6, 6, 6, 6, 6, 6, 6, 6, 6, 6, 6, 6, 6, 6, 6, 6, 6, 6, 6, 6, 7, 7, 7, 7, 7, 7, 7, 7, 7, 7, 7, 7, 7, 7, 7, 7, 7, 7, 7, 7, 7, 7, 7, 7, 7, 7, 7, 7, 7, 7, 7, 7, 7, 7, 7, 7, 7, 7, 7, 7, 7, 7, 7, 7, 7, 7, 7, 7, 7, 7, 7, 7, 7, 7, 7, 7, 7, 7, 7, 7, 7, 7, 7, 7, 8, 8, 8, 8, 8, 8, 8, 8, 8, 8, 8, 8, 8, 8, 8, 8, 8, 8, 8, 8, 8, 8, 8, 8, 8, 8, 8, 8, 8, 8, 8, 8, 8, 8, 8, 8, 8, 8, 8, 8, 8, 8, 8, 8, 8, 8, 8, 8, 8, 8, 8, 8, 8, 8, 8, 8, 8, 8, 8, 8, 8, 8, 8, 8, 8, 8, 8, 8, 8, 8, 8, 8, 8, 8, 8, 8, 8, 8, 8, 8, 8, 8, 8, 8, 8, 8, 8, 8, 8, 8, 8, 8, 8, 8, 8, 8, 8, 8, 8, 8, 8, 8, 8, 8, 8, 8, 8, 8, 8, 8, 8, 8, 8, 8, 8, 8, 8, 8, 8, 8, 8, 8, 8, 8, 8, 8, 8, 8] : List UInt8).length) then
 let x21 := ((([0, 1, 2, 2, 3, 3, 3, 3, 4, 4, 4, 4, 4, 4, 4, 4, 5, 5, 5, 5, 5, 5, 5, 5, 5, 5, 5, 5, 5, 5, 5, 5, 6, 6, 6, 6, 6, 6, 6, 6, 6, 6, 6, 6, 6, 6, 6, 6, 6, 6, 6, 6, 6, 6, 6, 6, 6, 6, 6, 6, 6, 6, 6, 6, 7, 7, 7, 7, 7, 7, 7, 7, 7, 7, 7, 7, 7, 7, 7, 7, 7, 7, 7, 7, 7, 7, 7, 7, 7, 7, 7, 7, 7, 7, 7, 7, 7, 7, 7, 7, 7, 7, 7, 7, 7, 7, 7, 7, 7, 7, 7, 7, 7, 7, 7, 7, 7, 7, 7, 7, 7, 7, 7, 7, 7, 7, 7, 7, 8, 8, 8, 8, 8, 8, 8, 8, 8, 8, 8, 8, 8, 8, 8, 8, 8, 8, 8, 8, 8, 8, 8, 8, 8, 8, 8, 8, 8, 8, 8, 8, 8, 8, 8, 8, 8, 8, 8, 8, 8, 8, 8, 8, 8, 8, 8, 8, 8, 8, 8, 8, 8, 8, 8, 8, 8, 8, 8, 8, 8, 8, 8, 8, 8, 8, 8, 8, 8, 8, 8, 8, 8, 8, 8, 8, 8, 8, 8, 8, 8, 8, 8, 8, 8, 8, 8, 8, 8, 8, 8, 8, 8, 8, 8, 8, 8, 8, 8, 8, 8, 8, 8, 8, 8, 8, 8, 8, 8, 8, 8, 8, 8, 8, 8, 8, 8, 8, 8, 8, 8, 8, 8, 8, 8, 8, 8, 8] : List UInt8).getD x20.toNat 0).toNat : Int)
 some (IntKind.wrap .i64 ((IntKind.wrap .i64 ((32 : Int) + (8 : Int))) + (IntKind.wrap .i64 x21)))
 else none
 else
 let x24 := IntKind.wrap .u8 x2
 bif inRange x24 (([0, 1, 2, 2, 3, 3, 3, 3, 4, 4, 4, 4, 4, 4, 4, 4, 5, 5, 5, 5, 5, 5, 5, 5, 5, 5, 5, 5, 5, 5, 5, 5, 6, 6, 6, 6, 6, 6, 6, 6, 6, 6, 6, 6, 6, 6, 6, 6, 6, 6, 6, 6, 6, 6, 6, 6, 6, 6, 6, 6, 6, 6, 6, 6, 7, 7, 7, 7, 7, 7, 7, 7, 7, 7, 7, 7, 7, 7, 7, 7, 7, 7, 7, 7, 7, 7, 7, 7, 7, 7, 7, 7, 7, 7, 7, 7, 7, 7, 7, 7, 7, 7, 7, 7, 7, 7, 7, 7, 7, 7, 7, 7, 7, 7, 7, 7, 7, 7, 7, 7, 7, 7, 7, 7, 7, 7, 7, 7, 8, 8, 8, 8, 8, 8, 8, 8, 8, 8, 8, 8, 8, 8, 8, 8, 8, 8, 8, 8, 8, 8, 8, 8, 8, 8, 8, 8, 8, 8, 8, 8, 8, 8, 8, 8, 8, 8, 8, 8, 8, 8, 8, 8, 8, 8, 8, 8, 8, 8, 8, 8, 8, 8, 8, 8, 8, 8, 8, 8, 8, 8, 8, 8, 8, 8, 8, 8, 8, 8, 8, 8, 8, 8, 8, 8, 8, 8, 8, 8, 8, 8, 8, 8, 8, 8, 8, 8, 8, 8, 8, 8, 8, 8, 8, 8, 8, 8, 8, 8, 8, 8, 8, 8, 8, 8, 8, 8, 8, 8, 8, 8, 8, 8, 8, 8, 8, 8, 8, 8, 8, 8, 8, 8, 8, 8, 8, 8] : List UInt8).length) then
 let x25 := ((([0, 1, 2, 2, 3, 3, 3, 3, 4, 4, 4, 4, 4, 4, 4, 4, 5, 5, 5, 5, 5, 5, 5, 5, 5, 5, 5, 5, 5, 5, 5, 5, 6, 6, 6, 6, 6, 6, 6, 6, 6, 6, 6, 6, 6, 6, 6, 6, 6, 6, 6, 6, 6, 6, 6, 6, 6, 6, 6, 6, 6, 6, 6, 6, 7, 7, 7, 7, 7, 7, 7, 7, 7, 7, 7, 7, 7, 7, 7, 7, 7, 7, 7, 7, 7, 7, 7, 7, 7, 7, 7, 7, 7, 7, 7, 7, 7, 7, 7, 7, 7, 7, 7, 7, 7, 7, 7, 7, 7, 7, 7, 7, 7, 7, 7, 7, 7, 7, 7, 7, 7, 7, 7, 7, 7, 7, 7, 7, 8, 8, 8, 8, 8, 8, 8, 8, 8, 8, 8, 8, 8, 8, 8, 8, 8, 8, 8, 8, 8, 8, 8, 8, 8, 8, 8, 8, 8, 8, 8, 8, 8, 8, 8, 8, 8, 8, 8, 8, 8, 8, 8, 8, 8, 8, 8, 8, 8, 8, 8, 8, 8, 8, 8, 8, 8, 8, 8, 8, 8, 8, 8, 8, 8, 8, 8, 8, 8, 8, 8, 8, 8, 8, 8, 8, 8, 8, 8, 8, 8, 8, 8, 8, 8, 8, 8, 8, 8, 8, 8, 8, 8, 8, 8, 8, 8, 8, 8, 8, 8, 8, 8, 8, 8, 8, 8, 8, 8, 8, 8, 8, 8, 8, 8, 8, 8, 8, 8, 8, 8, 8, 8, 8, 8, 8, 8, 8] : List UInt8).getD x24.toNat 0).toNat : Int)
 some (IntKind.wrap .i64 ((32 : Int) + (IntKind.wrap .i64 x25)))
 else none
 else
 bif (decide (a0 ≥ (65536 : Int))) then
 let x29 := a0.fdiv (2 ^ (min (16 : Int).toNat (IntKind.bits .u64)))
 let x30 := IntKind.wrap .i64 ((0 : Int) + (16 : Int))
 bif (decide (x29 ≥ (256 : Int))) then
 let x34 := IntKind.wrap .u8 (x29.fdiv (2 ^ (min (8 : Int).toNat (IntKind.bits .u64))))
 bif inRange x34 (([0, 1, 2, 2, 3, 3, 3, 3, 4, 4, 4, 4, 4, 4, 4, 4, 5, 5, 5, 5, 5, 5, 5, 5, 5, 5, 5, 5, 5, 5, 5, 5, 6, 6, 6, 6, 6, 6, 6, 6, 6, 6, 6, 6, 6, 6, 6, 6, 6, 6, 6, 6, 6, 6, 6, 6, 6, 6, 6, 6, 6, 6, 6, 6, 7, 7, 7, 7, 7, 7, 7, 7, 7, 7, 7, 7, 7, 7, 7, 7, 7, 7, 7, 7, 7, 7, 7, 7, 7, 7, 7, 7, 7, 7, 7, 7, 7, 7, 7, 7, 7, 7, 7, 7, 7, 7, 7, 7, 7, 7, 7, 7, 7, 7, 7, 7, 7, 7, 7, 7, 7, 7, 7, 7, 7, 7, 7, 7, 8, 8, 8, 8, 8, 8, 8, 8, 8, 8, 8, 8, 8, 8, 8, 8, 8, 8, 8, 8, 8, 8, 8, 8, 8, 8, 8, 8, 8, 8, 8, 8, 8, 8, 8, 8, 8, 8, 8, 8, 8, 8, 8, 8, 8, 8, 8, 8, 8, 8, 8, 8, 8, 8, 8, 8, 8, 8, 8, 8, 8, 8, 8, 8, 8, 8, 8, 8, 8, 8, 8, 8, 8, 8, 8, 8, 8, 8, 8, 8, 8, 8, 8, 8, 8, 8, 8, 8, 8, 8, 8, 8, 8, 8, 8, 8, 8, 8, 8, 8, 8, 8, 8, 8, 8, 8, 8, 8, 8, 8, 8, 8, 8, 8, 8, 8, 8, 8, 8, 8, 8, 8, 8, 8, 8, 8, 8, 8] : List UInt8).length) then
 let x35 := ((([0, 1, 2, 2, 3, 3, 3, 3, 4, 4, 4, 4, 4, 4, 4, 4, 5, 5, 5, 5, 5, 5, 5, 5, 5, 5, 5, 5, 5, 5, 5, 5, 6, 6, 6, 6, 6, 6, 6, 6, 6, 6, 6, 6, 6, 6, 6, 6, 6, 6, 6, 6, 6, 6, 6, 6, 6, 6, 6, 6, 6, 6, 6, 6, 7, 7, 7, 7, 7, 7, 7, 7, 7, 7, 7, 7, 7, 7, 7, 7, 7, 7, 7, 7, 7, 7, 7, 7, 7, 7, 7, 7, 7, 7, 7, 7, 7, 7, 7, 7, 7, 7, 7, 7, 7, 7, 7, 7, 7, 7, 7, 7, 7, 7, 7, 7, 7, 7, 7, 7, 7, 7, 7, 7, 7, 7, 7, 7, 8, 8, 8, 8, 8, 8, 8, 8, 8, 8, 8, 8, 8, 8, 8, 8, 8, 8, 8, 8, 8, 8, 8, 8, 8, 8, 8, 8, 8, 8, 8, 8, 8, 8, 8, 8, 8, 8, 8, 8, 8, 8, 8, 8, 8, 8, 8, 8, 8, 8, 8, 8, 8, 8, 8, 8, 8, 8, 8, 8, 8, 8, 8, 8, 8, 8, 8, 8, 8, 8, 8, 8, 8, 8, 8, 8, 8, 8, 8, 8, 8, 8, 8, 8, 8, 8, 8, 8, 8, 8, 8, 8, 8, 8, 8, 8, 8, 8, 8, 8, 8, 8, 8, 8, 8, 8, 8, 8, 8, 8, 8, 8, 8, 8, 8, 8, 8, 8, 8, 8, 8, 8, 8, 8, 8, 8, 8, 8] : List UInt8).getD x34.toNat 0).toNat : Int)
 some (IntKind.wrap .i64 ((IntKind.wrap .i64 (x30 + (8 : Int))) + (IntKind.wrap .i64 x35)))
 else none
 else
 let x38 := IntKind.wrap .u8 x29
 bif inRange x38 (([0, 1, 2, 2, 3, 3, 3, 3, 4, 4, 4, 4, 4, 4, 4, 4, 5, 5, 5, 5, 5, 5, 5, 5, 5, 5, 5, 5, 5, 5, 5, 5, 6, 6, 6, 6, 6, 6, 6, 6, 6, 6, 6, 6, 6, 6, 6, 6, 6, 6, 6, 6, 6, 6, 6, 6, 6, 6, 6, 6, 6, 6, 6, 6, 7, 7, 7, 7, 7, 7, 7, 7, 7, 7, 7, 7, 7, 7, 7, 7, 7, 7, 7, 7, 7, 7, 7, 7, 7, 7, 7, 7, 7, 7, 7, 7, 7, 7, 7, 7, 7, 7, 7, 7, 7, 7, 7, 7, 7, 7, 7, 7, 7, 7, 7, 7, 7, 7, 7, 7, 7, 7, 7, 7, 7, 7, 7, 7, 8, 8, 8, 8, 8, 8, 8, 8, 8, 8, 8, 8, 8, 8, 8, 8, 8, 8, 8, 8, 8, 8, 8, 8, 8, 8, 8, 8, 8, 8, 8, 8, 8, 8, 8, 8, 8, 8, 8, 8, 8, 8, 8, 8, 8, 8, 8, 8, 8, 8, 8, 8, 8, 8, 8, 8, 8, 8, 8, 8, 8, 8, 8, 8, 8, 8, 8, 8, 8, 8, 8, 8, 8, 8, 8, 8, 8, 8, 8, 8, 8, 8, 8, 8, 8, 8, 8, 8, 8, 8, 8, 8, 8, 8, 8, 8, 8, 8, 8, 8, 8, 8, 8, 8, 8, 8, 8, 8, 8, 8, 8, 8, 8, 8, 8, 8, 8, 8, 8, 8, 8, 8, 8, 8, 8, 8, 8, 8] : List UInt8).length) then
 let x39 := ((([0, 1, 2, 2, 3, 3, 3, 3, 4, 4, 4, 4, 4, 4, 4, 4, 5, 5, 5, 5, 5, 5, 5, 5, 5, 5, 5, 5, 5, 5, 5, 5, 6, 6, 6, 6, 6, 6, 6, 6, 6, 6, 6, 6, 6, 6, 6, 6, 6, 6, 6, 6, 6, 6, 6, 6, 6, 6, 6, 6, 6, 6, 6, 6, 7, 7, 7, 7, 7, 7, 7, 7, 7, 7, 7, 7, 7, 7, 7, 7, 7, 7, 7, 7, 7, 7, 7, 7, 7, 7, 7, 7, 7, 7, 7, 7, 7, 7, 7, 7, 7, 7, 7, 7, 7, 7, 7, 7, 7, 7, 7, 7, 7, 7, 7, 7, 7, 7, 7, 7, 7, 7, 7, 7, 7, 7, 7, 7, 8, 8, 8, 8, 8, 8, 8, 8, 8, 8, 8, 8, 8, 8, 8, 8, 8, 8, 8, 8, 8, 8, 8, 8, 8, 8, 8, 8, 8, 8, 8, 8, 8, 8, 8, 8, 8, 8, 8, 8, 8, 8, 8, 8, 8, 8, 8, 8, 8, 8, 8, 8, 8, 8, 8, 8, 8, 8, 8, 8, 8, 8, 8, 8, 8, 8, 8, 8, 8, 8, 8, 8, 8, 8, 8, 8, 8, 8, 8, 8, 8, 8, 8, 8, 8, 8, 8, 8, 8, 8, 8, 8, 8, 8, 8, 8, 8, 8, 8, 8, 8, 8, 8, 8, 8, 8, 8, 8, 8, 8, 8, 8, 8, 8, 8, 8, 8, 8, 8, 8, 8, 8, 8, 8, 8, 8, 8, 8] : List UInt8).getD x38.toNat 0).toNat : Int)
 some (IntKind.wrap .i64 (x30 + (IntKind.wrap .i64 x39)))
 else none
 else
 bif (decide (a0 ≥ (256 : Int))) then
 let x45 := IntKind.wrap .u8 (a0.fdiv (2 ^ (min (8 : Int).toNat (IntKind.bits .u64))))
 bif inRange x45 (([0, 1, 2, 2, 3, 3, 3, 3, 4, 4, 4, 4, 4, 4, 4, 4, 5, 5, 5, 5, 5, 5, 5, 5, 5, 5, 5, 5, 5, 5, 5, 5, 6, 6, 6, 6, 6, 6, 6, 6, 6, 6, 6, 6, 6, 6, 6, 6, 6, 6, 6, 6, 6, 6, 6, 6, 6, 6, 6, 6, 6, 6, 6, 6, 7, 7, 7, 7, 7, 7, 7, 7, 7, 7, 7, 7, 7, 7, 7, 7, 7, 7, 7, 7, 7, 7, 7, 7, 7, 7, 7, 7, 7, 7, 7, 7, 7, 7, 7, 7, 7, 7, 7, 7, 7, 7, 7, 7, 7, 7, 7, 7, 7, 7, 7, 7, 7, 7, 7, 7, 7, 7, 7, 7, 7, 7, 7, 7, 8, 8, 8, 8, 8, 8, 8, 8, 8, 8, 8, 8, 8, 8, 8, 8, 8, 8, 8, 8, 8, 8, 8, 8, 8, 8, 8, 8, 8, 8, 8, 8, 8, 8, 8, 8, 8, 8, 8, 8, 8, 8, 8, 8, 8, 8, 8, 8, 8, 8, 8, 8, 8, 8, 8, 8, 8, 8, 8, 8, 8, 8, 8, 8, 8, 8, 8, 8, 8, 8, 8, 8, 8, 8, 8, 8, 8, 8, 8, 8, 8, 8, 8, 8, 8, 8, 8, 8, 8, 8, 8, 8, 8, 8, 8, 8, 8, 8, 8, 8, 8, 8, 8, 8, 8, 8, 8, 8, 8, 8, 8, 8, 8, 8, 8, 8, 8, 8, 8, 8, 8, 8, 8, 8, 8, 8, 8, 8] : List UInt8).length) then
 let x46 := ((([0, 1, 2, 2, 3, 3, 3, 3, 4, 4, 4, 4, 4, 4, 4, 4, 5, 5, 5, 5, 5, 5, 5, 5, 5, 5, 5, 5, 5, 5, 5, 5, 6, 6, 6, 6, 6, 6, 6, 6, 6, 6, 6, 6, 6, 6, 6, 6, 6, 6, 6, 6, 6, 6, 6, 6, 6, 6, 6, 6, 6, 6, 6, 6, 7, 7, 7, 7, 7, 7, 7, 7, 7, 7, 7, 7, 7, 7, 7, 7, 7, 7, 7, 7, 7, 7, 7, 7, 7, 7, 7, 7, 7, 7, 7, 7, 7, 7, 7, 7, 7, 7, 7, 7, 7, 7, 7, 7, 7, 7, 7, 7, 7, 7, 7, 7, 7, 7, 7, 7, 7, 7, 7, 7, 7, 7, 7, 7, 8, 8, 8, 8, 8, 8, 8, 8, 8, 8, 8, 8, 8, 8, 8, 8, 8, 8, 8, 8, 8, 8, 8, 8, 8, 8, 8, 8, 8, 8, 8, 8, 8, 8, 8, 8, 8, 8, 8, 8, 8, 8, 8, 8, 8, 8, 8, 8, 8, 8, 8, 8, 8, 8, 8, 8, 8, 8, 8, 8, 8, 8, 8, 8, 8, 8, 8, 8, 8, 8, 8, 8, 8, 8, 8, 8, 8, 8, 8, 8, 8, 8, 8, 8, 8, 8, 8, 8, 8, 8, 8, 8, 8, 8, 8, 8, 8, 8, 8, 8, 8, 8, 8, 8, 8, 8, 8, 8, 8, 8, 8, 8, 8, 8, 8, 8, 8, 8, 8, 8, 8, 8, 8, 8, 8, 8, 8, 8] : List UInt8).getD x45.toNat 0).toNat : Int)
 some (IntKind.wrap .i64 ((IntKind.wrap .i64 ((0 : Int) + (8 : Int))) + (IntKind.wrap .i64 x46)))
 else none
 else
 let x49 := IntKind.wrap .u8 a0
 bif inRange x49 (([0, 1, 2, 2, 3, 3, 3, 3, 4, 4, 4, 4, 4, 4, 4, 4, 5, 5, 5, 5, 5, 5, 5, 5, 5, 5, 5, 5, 5, 5, 5, 5, 6, 6, 6, 6, 6, 6, 6, 6, 6, 6, 6, 6, 6, 6, 6, 6, 6, 6, 6, 6, 6, 6, 6, 6, 6, 6, 6, 6, 6, 6, 6, 6, 7, 7, 7, 7, 7, 7, 7, 7, 7, 7, 7, 7, 7, 7, 7, 7, 7, 7, 7, 7, 7, 7, 7, 7, 7, 7, 7, 7, 7, 7, 7, 7, 7, 7, 7, 7, 7, 7, 7, 7, 7, 7, 7, 7, 7, 7, 7, 7, 7, 7, 7, 7, 7, 7, 7, 7, 7, 7, 7, 7, 7, 7, 7, 7, 8, 8, 8, 8, 8, 8, 8, 8, 8, 8, 8, 8, 8, 8, 8, 8, 8, 8, 8, 8, 8, 8, 8, 8, 8, 8, 8, 8, 8, 8, 8, 8, 8, 8, 8, 8, 8, 8, 8, 8, 8, 8, 8, 8, 8, 8, 8, 8, 8, 8, 8, 8, 8, 8, 8, 8, 8, 8, 8, 8, 8, 8, 8, 8, 8, 8, 8, 8, 8, 8, 8, 8, 8, 8, 8, 8, 8, 8, 8, 8, 8, 8, 8, 8, 8, 8, 8, 8, 8, 8, 8, 8, 8, 8, 8, 8, 8, 8, 8, 8, 8, 8, 8, 8, 8, 8, 8, 8, 8, 8, 8, 8, 8, 8, 8, 8, 8, 8, 8, 8, 8, 8, 8, 8, 8, 8, 8, 8] : List UInt8).length) then
 let x50 := ((([0, 1, 2, 2, 3, 3, 3, 3, 4, 4, 4, 4, 4, 4, 4, 4, 5, 5, 5, 5, 5, 5, 5, 5, 5, 5, 5, 5, 5, 5, 5, 5, 6, 6, 6, 6, 6, 6, 6, 6, 6, 6, 6, 6, 6, 6, 6, 6, 6, 6, 6, 6, 6, 6, 6, 6, 6, 6, 6, 6, 6, 6, 6, 6, 7, 7, 7, 7, 7, 7, 7, 7, 7, 7, 7, 7, 7, 7, 7, 7, 7, 7, 7, 7, 7, 7, 7, 7, 7, 7, 7, 7, 7, 7, 7, 7, 7, 7, 7, 7, 7, 7, 7, 7, 7, 7, 7, 7, 7, 7, 7, 7, 7, 7, 7, 7, 7, 7, 7, 7, 7, 7, 7, 7, 7, 7, 7, 7, 8, 8, 8, 8, 8, 8, 8, 8, 8, 8, 8, 8, 8, 8, 8, 8, 8, 8, 8, 8, 8, 8, 8, 8, 8, 8, 8, 8, 8, 8, 8, 8, 8, 8, 8, 8, 8, 8, 8, 8, 8, 8, 8, 8, 8, 8, 8, 8, 8, 8, 8, 8, 8, 8, 8, 8, 8, 8, 8, 8, 8, 8, 8, 8, 8, 8, 8, 8, 8, 8, 8, 8, 8, 8, 8, 8, 8, 8, 8, 8, 8, 8, 8, 8, 8, 8, 8, 8, 8, 8, 8, 8, 8, 8, 8, 8, 8, 8, 8, 8, 8, 8, 8, 8, 8, 8, 8, 8, 8, 8, 8, 8, 8, 8, 8, 8, 8, 8, 8, 8, 8, 8, 8, 8, 8, 8, 8, 8] : List UInt8).getD x49.toNat 0).toNat : Int)
 some (IntKind.wrap .i64 ((0 : Int) + (IntKind.wrap .i64 x50)))
 else none

def F185c (fuel : Nat) : CallE := ⟨185, ⟨1, [], [(.int .u64)]⟩, ⟨1, [], [(.int .i64)]⟩, fun x => F185 fuel x, 0⟩

theorem F185ok (fuel : Nat) : (F185c fuel).Ok Tryz.prog := okJ Tryz.f185 25 0 fuel [] [] false (q0) (p0) L0

/-- math/bits.Len -/
def F118 (fuel : Nat) (a0 : Int) : Option (Int) :=
 (F185 fuel a0).bind fun y1 =>
 some y1

def F118c (fuel : Nat) : CallE := ⟨118, ⟨1, [], [(.int .u64)]⟩, ⟨1, [], [(.int .i64)]⟩, fun x => F118 fuel x, 0⟩

theorem F118ok (fuel : Nat) : (F118c fuel).Ok Tryz.prog := okJ Tryz.f118 8 0 fuel [F185c fuel] [] false (qc (F185ok fuel) <| q0) (p0) L0

/-- cmp.Less[string] -/
def F181 (fuel : Nat) (a0 : List UInt8) (a1 : List UInt8) : Option (Bool) :=
 (F190 fuel a0).bind fun y1 =>
 (bif y1 then F190 fuel a1 else some false).bind fun y2 =>
 some (bif (bif y1 then (!y2) else false) then true else (Op.bytesLess a0 a1))

def F181c (fuel : Nat) : CallE := ⟨181, ⟨2, [], [.str, .str]⟩, ⟨1, [], [.bool]⟩, fun x => F181 fuel x.1 x.2, false⟩

theorem F181ok (fuel : Nat) : (F181c fuel).Ok Tryz.prog := okJ Tryz.f181 17 0 fuel [F190c fuel] [] false (qc (F190ok fuel) <| q0) (p0) L0

def S175_5 (fuel : Nat) (a8 : Unit) (a9 : Int) (a10 : Int) (a11 : Int) (a12 : Int) (a13 : List PV) : Option ((Unit × Int × Int × Int × Int × (List PV)) ⊕ ((Unit × Int × Int × Int × (List PV)))) :=
 let x14 := decide (a12 > a9)
 bif imp x14 (inRange a12 a13.length) then
 let x16 := IntKind.wrap .i64 (a12 - (1 : Int))
 bif imp x14 (inRange x16 a13.length) then
 (bif x14 then F181 fuel ((a13.getD a12.toNat .bad).asStr) ((a13.getD x16.toNat .bad).asStr) else some false).bind fun y18 =>
 bif (bif x14 then y18 else false) then
 let x20 := IntKind.wrap .i64 (a12 - (1 : Int))
 let x21 := IntKind.wrap .i64 (a12 - (1 : Int))
 bif inRange x21 a13.length then
 bif inRange a12 a13.length then
 bif inRange a12 a13.length then
 let x24 := a13.set a12.toNat (PV.str ((a13.getD x21.toNat .bad).asStr))
 bif inRange x20 x24.length then
 some (.inl ((), a9, a10, a11, (IntKind.wrap .i64 (a12 - (1 : Int))), (x24.set x20.toNat (PV.str ((a13.getD a12.toNat .bad).asStr)))))
 else none
 else none
 else none
 else none
 else
 some (.inr ((), a9, a10, a11, a13))
 else none
 else none

def S175_5step (fuel : Nat) (x : Unit × Int × Int × Int × Int × (List PV)) : Option ((Unit × Int × Int × Int × Int × (List PV)) ⊕ ((Unit × Int × Int × Int × (List PV)))) := S175_5 fuel x.1 x.2.1 x.2.2.1 x.2.2.2.1 x.2.2.2.2.1 x.2.2.2.2.2

def S175_2 (fuel : Nat) (a2 : Unit) (a3 : Int) (a4 : Int) (a5 : Int) (a6 : List PV) : Option ((Unit × Int × Int × Int × (List PV)) ⊕ (((List PV)))) :=
 bif (decide (a5 < a4)) then
 (loopQ fuel (S175_5step fuel) ((), a3, a4, a5, a5, a6)).bind fun y27 =>
 some (.inl ((), y27.2.1, y27.2.2.1, (IntKind.wrap .i64 (y27.2.2.2.1 + (1 : Int))), y27.2.2.2.2))
 else
 some (.inr a6)

def S175_2step (fuel : Nat) (x : Unit × Int × Int × Int × (List PV)) : Option ((Unit × Int × Int × Int × (List PV)) ⊕ (((List PV)))) := S175_2 fuel x.1 x.2.1 x.2.2.1 x.2.2.2.1 x.2.2.2.2

/-- slices.insertionSortOrdered[string] -/
def F175 (fuel : Nat) (a0 : Unit) (a1 : Int) (a2 : Int) (a3 : List PV) : Option ((List PV)) :=
 (loopQ fuel (S175_2step fuel) ((), a1, a2, (IntKind.wrap .i64 (a1 + (1 : Int))), a3)).bind fun y30 =>
 some y30

def S175_5l (fuel : Nat) : LoopE := ⟨5, ⟨[0, 1, 2, 6, 7], [.arr 9 0], [(.con (.arr 0 0 9)), (.int .i64), (.int .i64), (.int .i64), (.int .i64), (.slice 9)]⟩, [(.exit 2, ⟨[0, 1, 2, 6], [.arr 9 0], [(.con (.arr 0 0 9)), (.int .i64), (.int .i64), (.int .i64), (.slice 9)]⟩)], S175_5step fuel⟩

def S175_2l (fuel : Nat) : LoopE := ⟨2, ⟨[0, 1, 2, 6], [.arr 9 0], [(.con (.arr 0 0 9)), (.int .i64), (.int .i64), (.int .i64), (.slice 9)]⟩, [(.exit 0, ⟨[], [.arr 9 0], [(.slice 9)]⟩)], S175_2step fuel⟩

def F175C (fuel : Nat) : Cfg := cfg Tryz.prog 49 1 [F181c fuel] [S175_5l fuel, S175_2l fuel] fuel

def F175c (fuel : Nat) : CallE := ⟨175, ⟨3, [.arr 9 0], [(.con (.arr 0 0 9)), (.int .i64), (.int .i64), (.slice 9)]⟩, ⟨0, [.arr 9 0], [(.slice 9)]⟩, fun x => F175 fuel x.1 x.2.1 x.2.2.1 x.2.2.2, []⟩

theorem F175k (fuel : Nat) : CallOk (F175C fuel) := cfg_callOkP (qc (F181ok fuel) <| q0) (p0)

theorem S175_5ok (fuel : Nat) : LoopOk (F175C fuel) (lp (lp (bodyOf Tryz.f175) 0) 0) := okL (F175k fuel) fuel (S175_5l fuel) L0

theorem S175_2ok (fuel : Nat) : LoopOk (F175C fuel) (lp (bodyOf Tryz.f175) 0) := okL (F175k fuel) fuel (S175_2l fuel) (L1 (S175_5ok fuel))

theorem F175ok (fuel : Nat) : (F175c fuel).Ok Tryz.prog := okE Tryz.f175 (F175k fuel) (L1 (S175_2ok fuel))

def B117c (r : (Unit × Int × Int × Int × (List PV)) → Option ((List PV))) : CallE := ⟨117, ⟨4, [.arr 9 0], [(.con (.arr 0 0 9)), (.int .i64), (.int .i64), (.int .i64), (.slice 9)]⟩, ⟨0, [.arr 9 0], [(.slice 9)]⟩, r, []⟩

def B117_3 (fuel : Nat) (r0 : (Unit × Int × Int × Int × (List PV)) → Option ((List PV))) (a1 : Unit) (a2 : Int) (a3 : Int) (a4 : Int) (a5 : Bool) (a6 : Bool) (a7 : List PV) : Option ((Unit × Int × Int × Int × Bool × Bool × (List PV)) ⊕ (((List PV)))) :=
 bif (decide ((IntKind.wrap .i64 (a3 - a2)) ≤ (12 : Int))) then
 (F175 fuel () a2 a3 a7).bind fun y10 =>
 some (.inr y10)
 else
 bif (a4 == (0 : Int)) then
 none
 else
 bif (!a5) then
 none
 else
 none

def B117_3step (fuel : Nat) (r0 : (Unit × Int × Int × Int × (List PV)) → Option ((List PV))) (x : Unit × Int × Int × Int × Bool × Bool × (List PV)) : Option ((Unit × Int × Int × Int × Bool × Bool × (List PV)) ⊕ (((List PV)))) := B117_3 fuel r0 x.1 x.2.1 x.2.2.1 x.2.2.2.1 x.2.2.2.2.1 x.2.2.2.2.2.1 x.2.2.2.2.2.2

/-- slices.pdqsortOrdered[string] -/
def B117 (fuel : Nat) (r0 : (Unit × Int × Int × Int × (List PV)) → Option ((List PV))) (a0 : Unit) (a1 : Int) (a2 : Int) (a3 : Int) (a4 : List PV) : Option ((List PV)) :=
 (loopQ fuel (B117_3step fuel r0) ((), a1, a2, a3, true, true, a4)).bind fun y13 =>
 some y13

def B117_3l (fuel : Nat) (r0 : (Unit × Int × Int × Int × (List PV)) → Option ((List PV))) : LoopE := ⟨3, ⟨[0, 1, 2, 3, 8, 9], [.arr 9 0], [(.con (.arr 0 0 9)), (.int .i64), (.int .i64), (.int .i64), .bool, .bool, (.slice 9)]⟩, [(.ret, ⟨[], [.arr 9 0], [(.slice 9)]⟩)], B117_3step fuel r0⟩

def B117C (fuel : Nat) (r0 : (Unit × Int × Int × Int × (List PV)) → Option ((List PV))) : Cfg := cfg Tryz.prog 134 1 [F175c fuel] [B117_3l fuel r0] fuel

theorem B117k (fuel : Nat) (r0 : (Unit × Int × Int × Int × (List PV)) → Option ((List PV))) (h0 : (B117c r0).Ok Tryz.prog) : CallOk (B117C fuel r0) := cfg_callOkP (qc (F175ok fuel) <| q0) (p0)

theorem B117_3ok (fuel : Nat) (r0 : (Unit × Int × Int × Int × (List PV)) → Option ((List PV))) (h0 : (B117c r0).Ok Tryz.prog) : LoopOk (B117C fuel r0) (lp (bodyOf Tryz.f117) 0) := okL (B117k fuel r0 h0) fuel (B117_3l fuel r0) L0

theorem B117ok (fuel : Nat) (r0 : (Unit × Int × Int × Int × (List PV)) → Option ((List PV))) (h0 : (B117c r0).Ok Tryz.prog) : (B117c (fun x => B117 fuel r0 x.1 x.2.1 x.2.2.1 x.2.2.2.1 x.2.2.2.2)).Ok Tryz.prog := okE Tryz.f117 (B117k fuel r0 h0) (L1 (B117_3ok fuel r0 h0))

def G117 (fuel : Nat) : Nat → ((Unit × Int × Int × Int × (List PV)) → Option ((List PV)))
  | 0 => fun _ => none
  | d + 1 => fun x => B117 fuel (G117 fuel d) x.1 x.2.1 x.2.2.1 x.2.2.2.1 x.2.2.2.2

theorem G117ok (fuel : Nat) : ∀ d, (B117c (G117 fuel d)).Ok Tryz.prog
  | 0 => okNone
  | d + 1 => B117ok fuel (G117 fuel d) (G117ok fuel d)

/-- slices.pdqsortOrdered[string] -/
def F117 (fuel : Nat) (a0 : Unit) (a1 : Int) (a2 : Int) (a3 : Int) (a4 : List PV) : Option ((List PV)) := limQ fuel (fun d => (G117 fuel d)) (a0, a1, a2, a3, a4)

def F117c (fuel : Nat) : CallE := ⟨117, ⟨4, [.arr 9 0], [(.con (.arr 0 0 9)), (.int .i64), (.int .i64), (.int .i64), (.slice 9)]⟩, ⟨0, [.arr 9 0], [(.slice 9)]⟩, fun x => F117 fuel x.1 x.2.1 x.2.2.1 x.2.2.2.1 x.2.2.2.2, []⟩

theorem F117ok (fuel : Nat) : (F117c fuel).Ok Tryz.prog := okLim (F117c fuel) (G := (fun d => (G117 fuel d))) (fun x => rfl) (fun d => (G117ok fuel d))

/-- slices.Sort[[]string,string] -/
def F62 (fuel : Nat) (a0 : Unit) (a1 : List PV) : Option ((List PV)) :=
 let x1 := (a1.length : Int)
 (F118 fuel (IntKind.wrap .u64 x1)).bind fun y3 =>
 (F117 fuel () (0 : Int) x1 y3 a1).bind fun y4 =>
 some y4

def F62c (fuel : Nat) : CallE := ⟨62, ⟨1, [.arr 9 0], [(.con (.arr 0 0 9)), (.slice 9)]⟩, ⟨0, [.arr 9 0], [(.slice 9)]⟩, fun x => F62 fuel x.1 x.2, []⟩

theorem F62ok (fuel : Nat) : (F62c fuel).Ok Tryz.prog := okJ Tryz.f62 11 1 fuel [F118c fuel, F117c fuel] [] false (qc (F118ok fuel) <| qc (F117ok fuel) <| q0) (p0) L0

def S115_4 (fuel : Nat) (a18 : Unit) (a19 : Unit) (a20 : List PV) (a21 : Int) (a22 : Int) (a23 : PV) (a24 : List PV) : Option ((Unit × Unit × (List PV) × Int × Int × PV × (List PV)) ⊕ ((Unit × PV × (List PV)))) :=
 bif (decide (a22 < a21)) then
 bif inRange a22 a20.length then
 let x26 := a20.getD a22.toNat .bad
 (F173 fuel a23 x26).bind fun y27 =>
 bif y27 then
 let x28 := ((x26.fld 4).fld 1).asStr
 bif decide (a24.length + [(PV.str x28)].length ≤ accMax) then
 some (.inl ((), (), a20, a21, (IntKind.wrap .i64 (a22 + (1 : Int))), a23, (a24 ++ [(PV.str x28)])))
 else none
 else
 some (.inl ((), (), a20, a21, (IntKind.wrap .i64 (a22 + (1 : Int))), a23, a24))
 else none
 else
 some (.inr ((), a23, a24))

def S115_4step (fuel : Nat) (x : Unit × Unit × (List PV) × Int × Int × PV × (List PV)) : Option ((Unit × Unit × (List PV) × Int × Int × PV × (List PV)) ⊕ ((Unit × PV × (List PV)))) := S115_4 fuel x.1 x.2.1 x.2.2.1 x.2.2.2.1 x.2.2.2.2.1 x.2.2.2.2.2.1 x.2.2.2.2.2.2

/-- (wireschema/graph.web).uses -/
def F115 (fuel : Nat) (a0 : PV) (a1 : List UInt8) : Option ((List PV)) :=
 let x2 := (PV.mget ((a0.fld 0).asMap) (PV.str a1)).getD (PV.agg [(PV.str ([] : List UInt8)), (PV.slice []), (PV.slice []), (PV.slice []), (PV.slice [])])
 let x3 := (x2.fld 1).asList
 (loopQ fuel (S115_4step fuel) ((), (), x3, (x3.length : Int), (0 : Int), a0, [])).bind fun y32 =>
 (F62 fuel () y32.2.2).bind fun y33 =>
 (Lcompact fuel y33).bind fun y34 =>
 some y34.2

def S115_4l (fuel : Nat) : LoopE := ⟨4, ⟨[2, 5, 12, 13, 14], [.box 179 .leaf, .arr 9 1], [(.con (.ref 0 [] 179)), (.con (.arr 1 1 9)), (.slice 59), (.int .i64), (.int .i64), (.data 179), (.slice 9)]⟩, [(.exit 0, ⟨[5], [.box 179 .leaf, .arr 9 1], [(.con (.arr 1 1 9)), (.data 179), (.slice 9)]⟩)], S115_4step fuel⟩

def F115C (fuel : Nat) : Cfg := cfg Tryz.prog 32 0 [F173c fuel, F62c fuel, Lcompact_0c fuel] [S115_4l fuel] fuel

def F115c (fuel : Nat) : CallE := ⟨115, ⟨2, [], [(.data 179), .str]⟩, ⟨1, [], [(.slice 9)]⟩, fun x => F115 fuel x.1 x.2, []⟩

theorem F115k (fuel : Nat) : CallOk (F115C fuel) := cfg_callOkP (qc (F173ok fuel) <| qc (F62ok fuel) <| qc (Lcompact_0ok fuel) <| q0) (p0)

theorem S115_4ok (fuel : Nat) : LoopOk (F115C fuel) (lp (bodyOf Tryz.f115) 0) := okL (F115k fuel) fuel (S115_4l fuel) L0

theorem F115ok (fuel : Nat) : (F115c fuel).Ok Tryz.prog := okE Tryz.f115 (F115k fuel) (L1 (S115_4ok fuel))

def S174_4 (fuel : Nat) (a5 : Unit) (a6 : List PV) (a7 : List PV) (a8 : Int) (a9 : Int) (a10 : PV) : Option ((Unit × (List PV) × (List PV) × Int × Int × PV) ⊕ (((List PV) × PV))) :=
 bif (decide (a9 < a8)) then
 bif inRange a9 a7.length then
 let x12 := a7.getD a9.toNat .bad
 (F228 fuel a10 x12).bind fun y13 =>
 bif y13 then
 let x14 := ((x12.fld 4).fld 1).asStr
 bif decide (a6.length + [(PV.str x14)].length ≤ accMax) then
 some (.inl ((), (a6 ++ [(PV.str x14)]), a7, a8, (IntKind.wrap .i64 (a9 + (1 : Int))), a10))
 else none
 else
 some (.inl ((), a6, a7, a8, (IntKind.wrap .i64 (a9 + (1 : Int))), a10))
 else none
 else
 some (.inr (a6, a10))

def S174_4step (fuel : Nat) (x : Unit × (List PV) × (List PV) × Int × Int × PV) : Option ((Unit × (List PV) × (List PV) × Int × Int × PV) ⊕ (((List PV) × PV))) := S174_4 fuel x.1 x.2.1 x.2.2.1 x.2.2.2.1 x.2.2.2.2.1 x.2.2.2.2.2

/-- (wireschema/graph.web).next -/
def F174 (fuel : Nat) (a0 : PV) (a1 : List UInt8) : Option ((List PV)) :=
 let x2 := (PV.mget ((a0.fld 0).asMap) (PV.str a1)).getD (PV.agg [(PV.str ([] : List UInt8)), (PV.slice []), (PV.slice []), (PV.slice []), (PV.slice [])])
 let x3 := (x2.fld 1).asList
 (loopQ fuel (S174_4step fuel) ((), [], x3, (x3.length : Int), (0 : Int), a0)).bind fun y18 =>
 some y18.1

def S174_4l (fuel : Nat) : LoopE := ⟨4, ⟨[2, 5, 12, 13, 14], [.box 179 .leaf, .acc], [(.con (.ref 0 [] 179)), (.acc 1 9), (.slice 59), (.int .i64), (.int .i64), (.data 179)]⟩, [(.exit 0, ⟨[5], [.box 179 .leaf, .acc], [(.acc 1 9), (.data 179)]⟩)], S174_4step fuel⟩

def F174C (fuel : Nat) : Cfg := cfg Tryz.prog 29 0 [F228c fuel] [S174_4l fuel] fuel

def F174c (fuel : Nat) : CallE := ⟨174, ⟨2, [], [(.data 179), .str]⟩, ⟨1, [], [(.slice 9)]⟩, fun x => F174 fuel x.1 x.2, []⟩

theorem F174k (fuel : Nat) : CallOk (F174C fuel) := cfg_callOkP (qc (F228ok fuel) <| q0) (p0)

theorem S174_4ok (fuel : Nat) : LoopOk (F174C fuel) (lp (bodyOf Tryz.f174) 0) := okL (F174k fuel) fuel (S174_4l fuel) L0

theorem F174ok (fuel : Nat) : (F174c fuel).Ok Tryz.prog := okE Tryz.f174 (F174k fuel) (L1 (S174_4ok fuel))

def S116_4 (fuel : Nat) (a2 : Unit) (a3 : Unit) (a4 : List PV) (a5 : PV) (a6 : List (PV × PV)) : Option ((Unit × Unit × (List PV) × PV × (List (PV × PV))) ⊕ ((Unit × PV × (List (PV × PV))))) :=
 bif (decide ((a4.length : Int) > (0 : Int))) then
 bif inRange (0 : Int) a4.length then
 let x10 := (a4.getD (0 : Int).toNat .bad).asStr
 bif (!(((PV.mget a6 (PV.str x10)).getD (PV.bool false)).asBool)) then
 (F174 fuel a5 x10).bind fun y13 =>
 none
 else
 bif decide (0 ≤ (1 : Int) ∧ (1 : Int) ≤ (a4.length : Int) ∧ (a4.length : Int) ≤ (a4.length : Int)) then
 some (.inl ((), (), ((a4.take (a4.length : Int).toNat).drop (1 : Int).toNat), a5, a6))
 else none
 else none
 else
 some (.inr ((), a5, a6))

def S116_4step (fuel : Nat) (x : Unit × Unit × (List PV) × PV × (List (PV × PV))) : Option ((Unit × Unit × (List PV) × PV × (List (PV × PV))) ⊕ ((Unit × PV × (List (PV × PV))))) := S116_4 fuel x.1 x.2.1 x.2.2.1 x.2.2.2.1 x.2.2.2.2

/-- (wireschema/graph.web).reach -/
def F116 (fuel : Nat) (a0 : PV) (a1 : List UInt8) : Option ((List (PV × PV))) :=
 (F174 fuel a0 a1).bind fun y1 =>
 (loopQ fuel (S116_4step fuel) ((), (), y1, a0, [])).bind fun y15 =>
 some y15.2.2

def S116_4l (fuel : Nat) : LoopE := ⟨4, ⟨[2, 5, 6], [.box 179 .leaf, .map 9 4], [(.con (.ref 0 [] 179)), (.con (.mref 1)), (.slice 9), (.data 179), (.map 9 4)]⟩, [(.exit 0, ⟨[5], [.box 179 .leaf, .map 9 4], [(.con (.mref 1)), (.data 179), (.map 9 4)]⟩)], S116_4step fuel⟩

def F116C (fuel : Nat) : Cfg := cfg Tryz.prog 32 0 [F174c fuel] [S116_4l fuel] fuel

def F116c (fuel : Nat) : CallE := ⟨116, ⟨2, [], [(.data 179), .str]⟩, ⟨1, [], [(.map 9 4)]⟩, fun x => F116 fuel x.1 x.2, []⟩

theorem F116k (fuel : Nat) : CallOk (F116C fuel) := cfg_callOkP (qc (F174ok fuel) <| q0) (p0)

theorem S116_4ok (fuel : Nat) : LoopOk (F116C fuel) (lp (bodyOf Tryz.f116) 0) := okL (F116k fuel) fuel (S116_4l fuel) L0

theorem F116ok (fuel : Nat) : (F116c fuel).Ok Tryz.prog := okE Tryz.f116 (F116k fuel) (L1 (S116_4ok fuel))

def S61_13 (fuel : Nat) (a46 : Unit) (a47 : Unit) (a48 : List PV) (a49 : Int) (a50 : Int) (a51 : Unit) (a52 : PV) (a53 : PV) (a54 : List PV) (a55 : PV) (a56 : List (PV × PV)) : Option ((Unit × Unit × (List PV) × Int × Int × Unit × PV × PV × (List PV) × PV × (List (PV × PV))) ⊕ ((Unit × Unit × (List PV) × Int × Int × PV × PV × (List PV) × PV × (List (PV × PV))))) :=
 bif a56.isEmpty then
 some (.inr ((), (), a48, a49, a50, a52, a53, a54, a55, a56))
 else none

def S61_13step (fuel : Nat) (x : Unit × Unit × (List PV) × Int × Int × Unit × PV × PV × (List PV) × PV × (List (PV × PV))) : Option ((Unit × Unit × (List PV) × Int × Int × Unit × PV × PV × (List PV) × PV × (List (PV × PV))) ⊕ ((Unit × Unit × (List PV) × Int × Int × PV × PV × (List PV) × PV × (List (PV × PV))))) := S61_13 fuel x.1 x.2.1 x.2.2.1 x.2.2.2.1 x.2.2.2.2.1 x.2.2.2.2.2.1 x.2.2.2.2.2.2.1 x.2.2.2.2.2.2.2.1 x.2.2.2.2.2.2.2.2.1 x.2.2.2.2.2.2.2.2.2.1 x.2.2.2.2.2.2.2.2.2.2

def S61_5 (fuel : Nat) (a22 : Unit) (a23 : Unit) (a24 : List PV) (a25 : Int) (a26 : Int) (a27 : PV) (a28 : PV) (a29 : List PV) : Option ((Unit × Unit × (List PV) × Int × Int × PV × PV × (List PV)) ⊕ ((Unit × PV × PV × (List PV)))) :=
 bif (decide (a26 < a25)) then
 bif inRange a26 a24.length then
 let x32 := (a24.getD a26.toNat .bad).asStr
 let x33 := (a28.fld 0).asMap
 let x34 := (PV.mget x33 (PV.str x32)).getD (PV.agg [(PV.str ([] : List UInt8)), (PV.slice []), (PV.slice []), (PV.slice []), (PV.slice [])])
 bif (!(PV.mhas x33 (PV.str x32))) then
 bif (((PV.mget ((a28.fld 1).asMap) (PV.str x32)).getD (PV.bool false)).asBool) then
 bif decide (a29.length + [(PV.str x32)].length ≤ accMax) then
 some (.inl ((), (), a24, a25, (IntKind.wrap .i64 (a26 + (1 : Int))), a27, a28, (a29 ++ [(PV.str x32)])))
 else none
 else
 some (.inl ((), (), a24, a25, (IntKind.wrap .i64 (a26 + (1 : Int))), a27, a28, a29))
 else
 bif decide (a29.length + [(PV.str x32)].length ≤ accMax) then
 let x42 := a29 ++ [(PV.str x32)]
 (F115 fuel a28 x32).bind fun y43 =>
 bif decide (x42.length + y43.length ≤ accMax) then
 (F116 fuel a28 x32).bind fun y45 =>
 (loopQ fuel (S61_13step fuel) ((), (), a24, a25, a26, (), a27, a28, (x42 ++ y43), x34, y45)).bind fun y57 =>
 some (.inl ((), (), y57.2.2.1, y57.2.2.2.1, (IntKind.wrap .i64 (y57.2.2.2.2.1 + (1 : Int))), y57.2.2.2.2.2.1, y57.2.2.2.2.2.2.1, y57.2.2.2.2.2.2.2.1))
 else none
 else none
 else none
 else
 some (.inr ((), a27, a28, a29))

def S61_5step (fuel : Nat) (x : Unit × Unit × (List PV) × Int × Int × PV × PV × (List PV)) : Option ((Unit × Unit × (List PV) × Int × Int × PV × PV × (List PV)) ⊕ ((Unit × PV × PV × (List PV)))) := S61_5 fuel x.1 x.2.1 x.2.2.1 x.2.2.2.1 x.2.2.2.2.1 x.2.2.2.2.2.1 x.2.2.2.2.2.2.1 x.2.2.2.2.2.2.2

/-- wireschema/graph.Closure -/
def F61 (fuel : Nat) (a0 : PV) (a1 : List PV) : Option (Unit × (List PV)) :=
 (F114 fuel a0).bind fun y1 =>
 (loopQ fuel (S61_5step fuel) ((), (), a1, (a1.length : Int), (0 : Int), a0, y1, [])).bind fun y59 =>
 (F62 fuel () y59.2.2.2).bind fun y60 =>
 (Lcompact fuel y60).bind fun y61 =>
 some ((), y61.2)

def S61_13l (fuel : Nat) : LoopE := ⟨13, ⟨[5, 6, 14, 15, 16, 48], [.box 26 .leaf, .box 179 .leaf, .arr 9 1, .box 63 .leaf, .mit 9 4], [(.con (.ref 1 [] 179)), (.con (.arr 2 1 9)), (.slice 9), (.int .i64), (.int .i64), (.con (.mitr 4)), (.data 26), (.data 179), (.slice 9), (.data 63), (.map 9 4)]⟩, [(.exit 2, ⟨[5, 6, 14, 15, 16], [.box 26 .leaf, .box 179 .leaf, .arr 9 1, .box 63 .leaf, .mit 9 4], [(.con (.ref 1 [] 179)), (.con (.arr 2 1 9)), (.slice 9), (.int .i64), (.int .i64), (.data 26), (.data 179), (.slice 9), (.data 63), (.map 9 4)]⟩)], S61_13step fuel⟩

def S61_5l (fuel : Nat) : LoopE := ⟨5, ⟨[5, 6, 14, 15, 16], [.box 26 .leaf, .box 179 .leaf, .arr 9 1], [(.con (.ref 1 [] 179)), (.con (.arr 2 1 9)), (.slice 9), (.int .i64), (.int .i64), (.data 26), (.data 179), (.slice 9)]⟩, [(.exit 0, ⟨[6], [.box 26 .leaf, .box 179 .leaf, .arr 9 1], [(.con (.arr 2 1 9)), (.data 26), (.data 179), (.slice 9)]⟩)], S61_5step fuel⟩

def F61C (fuel : Nat) : Cfg := cfg Tryz.prog 66 0 [F114c fuel, F115c fuel, F116c fuel, F62c fuel, Lcompact_0c fuel] [S61_13l fuel, S61_5l fuel] fuel [] true

def F61c (fuel : Nat) : CallE := ⟨61, ⟨2, [], [(.data 26), (.slice 9)]⟩, ⟨1, [.arr 9 1], [(.con (.arr 0 1 9)), (.slice 9)]⟩, fun x => F61 fuel x.1 x.2, ((), [])⟩

theorem F61k (fuel : Nat) : CallOk (F61C fuel) := cfg_callOkP (qc (F114ok fuel) <| qc (F115ok fuel) <| qc (F116ok fuel) <| qc (F62ok fuel) <| qc (Lcompact_0ok fuel) <| q0) (p0)

theorem S61_13ok (fuel : Nat) : LoopOk (F61C fuel) (lp (lp (bodyOf Tryz.f61) 0) 0) := okL (F61k fuel) fuel (S61_13l fuel) L0

theorem S61_5ok (fuel : Nat) : LoopOk (F61C fuel) (lp (bodyOf Tryz.f61) 0) := okL (F61k fuel) fuel (S61_5l fuel) (L1 (S61_13ok fuel))

theorem F61ok (fuel : Nat) : (F61c fuel).Ok Tryz.prog := okE Tryz.f61 (F61k fuel) (L1 (S61_5ok fuel))

def S20_4 (fuel : Nat) (a2 : List UInt8) (a3 : List PV) (a4 : List PV) (a5 : Int) (a6 : Int) : Option (((List UInt8) × (List PV) × (List PV) × Int × Int) ⊕ (((List PV)))) :=
 bif (decide (a6 < a5)) then
 bif inRange a6 a4.length then
 let x8 := a4.getD a6.toNat .bad
 bif (((x8.fld 1).asStr) == a2) then
 bif decide (a3.length + [x8].length ≤ accMax) then
 some (.inl (a2, (a3 ++ [x8]), a4, a5, (IntKind.wrap .i64 (a6 + (1 : Int)))))
 else none
 else
 some (.inl (a2, a3, a4, a5, (IntKind.wrap .i64 (a6 + (1 : Int)))))
 else none
 else
 some (.inr a3)

def S20_4step (fuel : Nat) (x : (List UInt8) × (List PV) × (List PV) × Int × Int) : Option (((List UInt8) × (List PV) × (List PV) × Int × Int) ⊕ (((List PV)))) := S20_4 fuel x.1 x.2.1 x.2.2.1 x.2.2.2.1 x.2.2.2.2

/-- wireschema/evolve.Of -/
def F20 (fuel : Nat) (a0 : List PV) (a1 : List UInt8) : Option ((List PV)) :=
 (loopQ fuel (S20_4step fuel) (a1, [], a0, (a0.length : Int), (0 : Int))).bind fun y14 =>
 some y14

def S20_4l (fuel : Nat) : LoopE := ⟨4, ⟨[1, 5, 8, 9, 10], [.acc], [.str, (.acc 0 34), (.slice 34), (.int .i64), (.int .i64)]⟩, [(.exit 0, ⟨[5], [.acc], [(.acc 0 34)]⟩)], S20_4step fuel⟩

def F20C (fuel : Nat) : Cfg := cfg Tryz.prog 24 0 [] [S20_4l fuel] fuel

def F20c (fuel : Nat) : CallE := ⟨20, ⟨2, [], [(.slice 34), .str]⟩, ⟨1, [], [(.slice 34)]⟩, fun x => F20 fuel x.1 x.2, []⟩

theorem F20k (fuel : Nat) : CallOk (F20C fuel) := cfg_callOkP (q0) (p0)

theorem S20_4ok (fuel : Nat) : LoopOk (F20C fuel) (lp (bodyOf Tryz.f20) 0) := okL (F20k fuel) fuel (S20_4l fuel) L0

theorem F20ok (fuel : Nat) : (F20c fuel).Ok Tryz.prog := okE Tryz.f20 (F20k fuel) (L1 (S20_4ok fuel))

def S24_7 (fuel : Nat) (a8 : List PV) (a9 : List PV) (a10 : Unit) (a11 : Int) (a12 : Int) (a13 : PV) (a14 : PV) (a15 : List PV) (a16 : List PV) : Option (((List PV) × (List PV) × Unit × Int × Int × PV × PV × (List PV) × (List PV)) ⊕ (((List PV) × PV × PV × (List PV) × (List PV)))) :=
 bif (decide (a12 < a11)) then
 bif inRange a12 a15.length then
 let x18 := (a15.getD a12.toNat .bad).asStr
 (F20 fuel a8 x18).bind fun y19 =>
 bif (decide ((y19.length : Int) > (0 : Int))) then
 bif decide (a9.length + [(PV.str x18)].length ≤ accMax) then
 some (.inl (a8, (a9 ++ [(PV.str x18)]), (), a11, (IntKind.wrap .i64 (a12 + (1 : Int))), a13, a14, a15, a16))
 else none
 else
 some (.inl (a8, a9, (), a11, (IntKind.wrap .i64 (a12 + (1 : Int))), a13, a14, a15, a16))
 else none
 else
 some (.inr (a9, a13, a14, a15, a16))

def S24_7step (fuel : Nat) (x : (List PV) × (List PV) × Unit × Int × Int × PV × PV × (List PV) × (List PV)) : Option (((List PV) × (List PV) × Unit × Int × Int × PV × PV × (List PV) × (List PV)) ⊕ (((List PV) × PV × PV × (List PV) × (List PV)))) := S24_7 fuel x.1 x.2.1 x.2.2.1 x.2.2.2.1 x.2.2.2.2.1 x.2.2.2.2.2.1 x.2.2.2.2.2.2.1 x.2.2.2.2.2.2.2.1 x.2.2.2.2.2.2.2.2

/-- wireschema/evolve.Touched -/
def F24 (fuel : Nat) (a0 : PV) (a1 : PV) (a2 : List UInt8) : Option ((List PV)) :=
 (F61 fuel a0 [(PV.str a2)]).bind fun y1 =>
 (F61 fuel a1 [(PV.str a2)]).bind fun y2 =>
 bif decide (y1.2.length + y2.2.length ≤ accMax) then
 (F62 fuel () (y1.2 ++ y2.2)).bind fun y4 =>
 (F14 fuel a0 a1).bind fun y5 =>
 (Lcompact fuel y4).bind fun y6 =>
 (loopQ fuel (S24_7step fuel) (y5, [], (), (y6.2.length : Int), (0 : Int), a0, a1, y6.2, y2.2)).bind fun y25 =>
 some y25.1
 else none

def S24_7l (fuel : Nat) : LoopE := ⟨7, ⟨[8, 9, 27, 28, 29], [.box 26 .leaf, .box 26 .leaf, .arr 9 1, .arr 9 0, .acc], [(.slice 34), (.acc 4 9), (.con (.arr 2 1 9)), (.int .i64), (.int .i64), (.data 26), (.data 26), (.slice 9), (.slice 9)]⟩, [(.exit 0, ⟨[9], [.box 26 .leaf, .box 26 .leaf, .arr 9 1, .arr 9 0, .acc], [(.acc 4 9), (.data 26), (.data 26), (.slice 9), (.slice 9)]⟩)], S24_7step fuel⟩

def F24C (fuel : Nat) : Cfg := cfg Tryz.prog 44 0 [F61c fuel, F62c fuel, F14c fuel, Lcompact_0c fuel, F20c fuel] [S24_7l fuel] fuel

def F24c (fuel : Nat) : CallE := ⟨24, ⟨3, [], [(.data 26), (.data 26), .str]⟩, ⟨1, [], [(.slice 9)]⟩, fun x => F24 fuel x.1 x.2.1 x.2.2, []⟩

theorem F24k (fuel : Nat) : CallOk (F24C fuel) := cfg_callOkP (qc (F61ok fuel) <| qc (F62ok fuel) <| qc (F14ok fuel) <| qc (Lcompact_0ok fuel) <| qc (F20ok fuel) <| q0) (p0)

theorem S24_7ok (fuel : Nat) : LoopOk (F24C fuel) (lp (bodyOf Tryz.f24) 0) := okL (F24k fuel) fuel (S24_7l fuel) L0

theorem F24ok (fuel : Nat) : (F24c fuel).Ok Tryz.prog := okE Tryz.f24 (F24k fuel) (L1 (S24_7ok fuel))

/-- wireschema/evolve.word -/
def F51 (fuel : Nat) (a0 : Int) : Option ((List UInt8)) :=
 let x1 := (PV.agg [(PV.str ([109, 101, 115, 115, 97, 103, 101, 45, 103, 111, 110, 101] : List UInt8)), (PV.str ([109, 101, 115, 115, 97, 103, 101, 45, 110, 101, 119] : List UInt8)), (PV.str ([102, 105, 101, 108, 100, 45, 103, 111, 110, 101] : List UInt8)), (PV.str ([102, 105, 101, 108, 100, 45, 110, 101, 119] : List UInt8)), (PV.str ([102, 105, 101, 108, 100, 45, 110, 97, 109, 101] : List UInt8)), (PV.str ([102, 105, 101, 108, 100, 45, 116, 121, 112, 101] : List UInt8)), (PV.str ([102, 105, 101, 108, 100, 45, 99, 97, 114, 100] : List UInt8)), (PV.str ([102, 105, 101, 108, 100, 45, 107, 101, 121] : List UInt8)), (PV.str ([102, 105, 101, 108, 100, 45, 117, 110, 105, 111, 110] : List UInt8)), (PV.str ([102, 105, 101, 108, 100, 45, 100, 101, 102, 97, 117, 108, 116] : List UInt8)), (PV.str ([101, 110, 117, 109, 45, 103, 111, 110, 101] : List UInt8)), (PV.str ([101, 110, 117, 109, 45, 110, 101, 119] : List UInt8)), (PV.str ([101, 110, 117, 109, 45, 111, 112, 101, 110] : List UInt8)), (PV.str ([105, 116, 101, 109, 45, 103, 111, 110, 101] : List UInt8)), (PV.str ([105, 116, 101, 109, 45, 110, 101, 119] : List UInt8)), (PV.str ([105, 116, 101, 109, 45, 110, 97, 109, 101] : List UInt8)), (PV.str ([115, 101, 114, 118, 105, 99, 101, 45, 103, 111, 110, 101] : List UInt8)), (PV.str ([115, 101, 114, 118, 105, 99, 101, 45, 110, 101, 119] : List UInt8)), (PV.str ([109, 101, 116, 104, 111, 100, 45, 103, 111, 110, 101] : List UInt8)), (PV.str ([109, 101, 116, 104, 111, 100, 45, 110, 101, 119] : List UInt8)), (PV.str ([109, 101, 116, 104, 111, 100, 45, 116, 121, 112, 101] : List UInt8)), (PV.str ([109, 101, 116, 104, 111, 100, 45, 115, 104, 97, 112, 101] : List UInt8))])
 bif (bif (decide (a0 < (1 : Int))) then true else (decide (a0 > (22 : Int)))) then
 some ([117, 110, 107, 110, 111, 119, 110] : List UInt8)
 else
 let x5 := IntKind.wrap .i64 (a0 - (1 : Int))
 bif inRange x5 22 then
 some ((x1.fld x5.toNat).asStr)
 else none

def F51c (fuel : Nat) : CallE := ⟨51, ⟨1, [], [(.int .i64)]⟩, ⟨1, [], [.str]⟩, fun x => F51 fuel x, []⟩

theorem F51ok (fuel : Nat) : (F51c fuel).Ok Tryz.prog := okJ Tryz.f51 15 0 fuel [] [] false (q0) (p0) L0

/-- internal/stringslite.HasPrefix -/
def F257 (fuel : Nat) (a0 : List UInt8) (a1 : List UInt8) : Option (Bool) :=
 let x3 := decide ((a0.length : Int) ≥ (a1.length : Int))
 let x4 := (a1.length : Int)
 bif imp x3 (decide (0 ≤ (0 : Int) ∧ (0 : Int) ≤ x4 ∧ x4 ≤ (a0.length : Int))) then
 some (bif x3 then (((a0.take x4.toNat).drop (0 : Int).toNat) == a1) else false)
 else none

def F257c (fuel : Nat) : CallE := ⟨257, ⟨2, [], [.str, .str]⟩, ⟨1, [], [.bool]⟩, fun x => F257 fuel x.1 x.2, false⟩

theorem F257ok (fuel : Nat) : (F257c fuel).Ok Tryz.prog := okJ Tryz.f257 18 0 fuel [] [] false (q0) (p0) L0

/-- strings.HasPrefix -/
def F227 (fuel : Nat) (a0 : List UInt8) (a1 : List UInt8) : Option (Bool) :=
 (F257 fuel a0 a1).bind fun y1 =>
 some y1

def F227c (fuel : Nat) : CallE := ⟨227, ⟨2, [], [.str, .str]⟩, ⟨1, [], [.bool]⟩, fun x => F227 fuel x.1 x.2, false⟩

theorem F227ok (fuel : Nat) : (F227c fuel).Ok Tryz.prog := okJ Tryz.f227 8 0 fuel [F257c fuel] [] false (qc (F257ok fuel) <| q0) (p0) L0

/-- wireschema/utf.wrong -/
def F166 (fuel : Nat) (a0 : List UInt8) (a1 : Int) (a2 : Int) : Option (Bool) :=
 let x1 := a2 == (65533 : Int)
 bif imp x1 (decide (0 ≤ a1 ∧ a1 ≤ (a0.length : Int) ∧ (a0.length : Int) ≤ (a0.length : Int))) then
 (bif x1 then F227 fuel ((a0.take (a0.length : Int).toNat).drop a1.toNat) ([239, 191, 189] : List UInt8) else some false).bind fun y3 =>
 some (bif x1 then (!y3) else false)
 else none

def F166c (fuel : Nat) : CallE := ⟨166, ⟨3, [], [.str, (.int .i64), (.int .i32)]⟩, ⟨1, [], [.bool]⟩, fun x => F166 fuel x.1 x.2.1 x.2.2, false⟩

theorem F166ok (fuel : Nat) : (F166c fuel).Ok Tryz.prog := okJ Tryz.f166 16 0 fuel [F227c fuel] [] false (qc (F227ok fuel) <| q0) (p0) L0

/-- wireschema/utf.escape -/
def F167 (fuel : Nat) (a0 : Int) : Option ((List UInt8)) :=
 let x1 := a0.fdiv (2 ^ (min (4 : Int).toNat (IntKind.bits .u8)))
 let x3 := IntKind.wrap .u8 ((a0.fdiv (2 ^ (min (4 : Int).toNat (IntKind.bits .u8)))) + (1 : Int))
 bif decide (0 ≤ x1 ∧ x1 ≤ x3 ∧ x3 ≤ (([48, 49, 50, 51, 52, 53, 54, 55, 56, 57, 97, 98, 99, 100, 101, 102] : List UInt8).length : Int)) then
 let x4 := (([48, 49, 50, 51, 52, 53, 54, 55, 56, 57, 97, 98, 99, 100, 101, 102] : List UInt8).take x3.toNat).drop x1.toNat
 bif decide (([92, 120] : List UInt8).length + x4.length ≤ strMax) then
 let x5 := bitsI .and .u8 a0 (15 : Int)
 let x7 := IntKind.wrap .u8 ((bitsI .and .u8 a0 (15 : Int)) + (1 : Int))
 bif decide (0 ≤ x5 ∧ x5 ≤ x7 ∧ x7 ≤ (([48, 49, 50, 51, 52, 53, 54, 55, 56, 57, 97, 98, 99, 100, 101, 102] : List UInt8).length : Int)) then
 let x8 := (([48, 49, 50, 51, 52, 53, 54, 55, 56, 57, 97, 98, 99, 100, 101, 102] : List UInt8).take x7.toNat).drop x5.toNat
 bif decide ((([92, 120] : List UInt8) ++ x4).length + x8.length ≤ strMax) then
 some ((([92, 120] : List UInt8) ++ x4) ++ x8)
 else none
 else none
 else none
 else none

def F167c (fuel : Nat) : CallE := ⟨167, ⟨1, [], [(.int .u8)]⟩, ⟨1, [], [.str]⟩, fun x => F167 fuel x, []⟩

theorem F167ok (fuel : Nat) : (F167c fuel).Ok Tryz.prog := okJ Tryz.f167 17 0 fuel [] [] false (q0) (p0) L0

/-- wireschema/utf.form -/
def F103 (fuel : Nat) (a0 : List UInt8) (a1 : Int) (a2 : Int) : Option ((List UInt8)) :=
 bif (a2 == (34 : Int)) then
 some ([92, 34] : List UInt8)
 else
 bif (a2 == (92 : Int)) then
 some ([92, 92] : List UInt8)
 else
 bif (a2 == (10 : Int)) then
 some ([92, 110] : List UInt8)
 else
 bif (a2 == (9 : Int)) then
 some ([92, 116] : List UInt8)
 else
 bif (a2 == (13 : Int)) then
 some ([92, 114] : List UInt8)
 else
 let x8 := bif (decide (a2 < (32 : Int))) then true else (a2 == (127 : Int))
 (bif !x8 then F166 fuel a0 a1 a2 else some false).bind fun y9 =>
 bif (bif x8 then true else y9) then
 bif inRange a1 a0.length then
 (F167 fuel ((a0.getD a1.toNat 0).toNat : Int)).bind fun y12 =>
 some y12
 else none
 else
 some ((Utf8.encode a2).data.toList)

def F103c (fuel : Nat) : CallE := ⟨103, ⟨3, [], [.str, (.int .i64), (.int .i32)]⟩, ⟨1, [], [.str]⟩, fun x => F103 fuel x.1 x.2.1 x.2.2, []⟩

theorem F103ok (fuel : Nat) : (F103c fuel).Ok Tryz.prog := okJ Tryz.f103 41 0 fuel [F166c fuel, F167c fuel] [] false (qc (F166ok fuel) <| qc (F167ok fuel) <| q0) (p0) L0

def S53_5 (fuel : Nat) (a2 : List UInt8) (a3 : Unit) (a4 : Unit) (a5 : List UInt8) (a6 : List UInt8) (a7 : Int) : Option (((List UInt8) × Unit × Unit × (List UInt8) × (List UInt8) × Int) ⊕ ((Unit × (List UInt8) × (List UInt8) × Int))) :=
 bif (decide (a7.toNat < a6.length)) then
 bif decide (a7.toNat < a6.length) then
 bif decide (a7.toNat < a6.length) then
 (F103 fuel a2 (a7.toNat : Int) ((Utf8.decode ⟨a6.toArray⟩ a7.toNat).1 : Int)).bind fun y11 =>
 (LwriteString fuel y11 a5).bind fun y12 =>
 some (.inl (a2, (), (), y12.2.2, a6, ((bif decide (a7.toNat < a6.length) then a7.toNat + (Utf8.decode ⟨a6.toArray⟩ a7.toNat).2 else a7.toNat : Nat) : Int)))
 else none
 else none
 else
 some (.inr ((), a5, a6, ((bif decide (a7.toNat < a6.length) then a7.toNat + (Utf8.decode ⟨a6.toArray⟩ a7.toNat).2 else a7.toNat : Nat) : Int)))

def S53_5step (fuel : Nat) (x : (List UInt8) × Unit × Unit × (List UInt8) × (List UInt8) × Int) : Option (((List UInt8) × Unit × Unit × (List UInt8) × (List UInt8) × Int) ⊕ ((Unit × (List UInt8) × (List UInt8) × Int))) := S53_5 fuel x.1 x.2.1 x.2.2.1 x.2.2.2.1 x.2.2.2.2.1 x.2.2.2.2.2

/-- wireschema/utf.Quote -/
def F53 (fuel : Nat) (a0 : List UInt8) : Option ((List UInt8)) :=
 (LwriteString fuel ([34] : List UInt8) []).bind fun y1 =>
 (loopQ fuel (S53_5step fuel) (a0, (), (), y1.2.2, a0, ((0 : Nat) : Int))).bind fun y13 =>
 (LwriteString fuel ([34] : List UInt8) y13.2.1).bind fun y14 =>
 (Lstring fuel y14.2.2).bind fun y15 =>
 some y15.1

def S53_5l (fuel : Nat) : LoopE := ⟨5, ⟨[0, 3, 8], [.bld 89, .iter], [.str, (.con (.bref 0 89)), (.con (.iref 1)), .str, .str, (.int .i64)]⟩, [(.exit 0, ⟨[3], [.bld 89, .iter], [(.con (.bref 0 89)), .str, .str, (.int .i64)]⟩)], S53_5step fuel⟩

def F53C (fuel : Nat) : Cfg := cfg Tryz.prog 20 0 [LwriteString_89c fuel, F103c fuel, Lstring_89c fuel] [S53_5l fuel] fuel

def F53c (fuel : Nat) : CallE := ⟨53, ⟨1, [], [.str]⟩, ⟨1, [], [.str]⟩, fun x => F53 fuel x, []⟩

theorem F53k (fuel : Nat) : CallOk (F53C fuel) := cfg_callOkP (qc (LwriteString_89ok fuel) <| qc (F103ok fuel) <| qc (Lstring_89ok fuel) <| q0) (p0)

theorem S53_5ok (fuel : Nat) : LoopOk (F53C fuel) (lp (bodyOf Tryz.f53) 0) := okL (F53k fuel) fuel (S53_5l fuel) L0

theorem F53ok (fuel : Nat) : (F53c fuel).Ok Tryz.prog := okE Tryz.f53 (F53k fuel) (L1 (S53_5ok fuel))

def S18_4 (fuel : Nat) (a2 : Unit) (a3 : List PV) (a4 : Int) (a5 : Int) (a6 : List UInt8) : Option ((Unit × (List PV) × Int × Int × (List UInt8)) ⊕ ((Unit × (List UInt8)))) :=
 bif (decide (a5 < a4)) then
 bif inRange a5 a3.length then
 let x8 := a3.getD a5.toNat .bad
 (F51 fuel ((x8.fld 0).asInt)).bind fun y10 =>
 (Litoa fuel ((x8.fld 2).asInt)).bind fun y13 =>
 (F53 fuel ((x8.fld 3).asStr)).bind fun y15 =>
 (F53 fuel ((x8.fld 4).asStr)).bind fun y17 =>
 (Ljoin fuel [(PV.str y10), (PV.str ((x8.fld 1).asStr)), (PV.str y13), (PV.str y15), (PV.str y17)] ([32] : List UInt8)).bind fun y18 =>
 bif decide (y18.length + ([10] : List UInt8).length ≤ strMax) then
 (LwriteString fuel (y18 ++ ([10] : List UInt8)) a6).bind fun y20 =>
 some (.inl ((), a3, a4, (IntKind.wrap .i64 (a5 + (1 : Int))), y20.2.2))
 else none
 else none
 else
 some (.inr ((), a6))

def S18_4step (fuel : Nat) (x : Unit × (List PV) × Int × Int × (List UInt8)) : Option ((Unit × (List PV) × Int × Int × (List UInt8)) ⊕ ((Unit × (List UInt8)))) := S18_4 fuel x.1 x.2.1 x.2.2.1 x.2.2.2.1 x.2.2.2.2

/-- wireschema/evolve.Text -/
def F18 (fuel : Nat) (a0 : List PV) : Option ((List UInt8)) :=
 (loopQ fuel (S18_4step fuel) ((), a0, (a0.length : Int), (0 : Int), [])).bind fun y22 =>
 (Lstring fuel y22.2).bind fun y23 =>
 some y23.1

def S18_4l (fuel : Nat) : LoopE := ⟨4, ⟨[3, 6, 7, 8], [.bld 89], [(.con (.bref 0 89)), (.slice 34), (.int .i64), (.int .i64), .str]⟩, [(.exit 0, ⟨[3], [.bld 89], [(.con (.bref 0 89)), .str]⟩)], S18_4step fuel⟩

def F18C (fuel : Nat) : Cfg := cfg Tryz.prog 32 0 [F51c fuel, Litoac fuel, F53c fuel, Ljoinc fuel, LwriteString_89c fuel, Lstring_89c fuel] [S18_4l fuel] fuel

def F18c (fuel : Nat) : CallE := ⟨18, ⟨1, [], [(.slice 34)]⟩, ⟨1, [], [.str]⟩, fun x => F18 fuel x, []⟩

theorem F18k (fuel : Nat) : CallOk (F18C fuel) := cfg_callOkP (qc (F51ok fuel) <| qc (Litoaok fuel) <| qc (F53ok fuel) <| qc (Ljoinok fuel) <| qc (LwriteString_89ok fuel) <| qc (Lstring_89ok fuel) <| q0) (p0)

theorem S18_4ok (fuel : Nat) : LoopOk (F18C fuel) (lp (bodyOf Tryz.f18) 0) := okL (F18k fuel) fuel (S18_4l fuel) L0

theorem F18ok (fuel : Nat) : (F18c fuel).Ok Tryz.prog := okE Tryz.f18 (F18k fuel) (L1 (S18_4ok fuel))

/-- wireschema/evolve.turned -/
def F47 (fuel : Nat) (a0 : Int) : Option (Int) :=
 bif (a0 == (1 : Int)) then
 some (IntKind.wrap .i64 (a0 + (1 : Int)))
 else
 bif (a0 == (3 : Int)) then
 some (IntKind.wrap .i64 (a0 + (1 : Int)))
 else
 bif (a0 == (11 : Int)) then
 some (IntKind.wrap .i64 (a0 + (1 : Int)))
 else
 bif (a0 == (17 : Int)) then
 some (IntKind.wrap .i64 (a0 + (1 : Int)))
 else
 bif (a0 == (19 : Int)) then
 some (IntKind.wrap .i64 (a0 + (1 : Int)))
 else
 bif (a0 == (14 : Int)) then
 some (IntKind.wrap .i64 (a0 + (1 : Int)))
 else
 bif (a0 == (2 : Int)) then
 some (IntKind.wrap .i64 (a0 - (1 : Int)))
 else
 bif (a0 == (4 : Int)) then
 some (IntKind.wrap .i64 (a0 - (1 : Int)))
 else
 bif (a0 == (12 : Int)) then
 some (IntKind.wrap .i64 (a0 - (1 : Int)))
 else
 bif (a0 == (18 : Int)) then
 some (IntKind.wrap .i64 (a0 - (1 : Int)))
 else
 bif (a0 == (20 : Int)) then
 some (IntKind.wrap .i64 (a0 - (1 : Int)))
 else
 bif (a0 == (15 : Int)) then
 some (IntKind.wrap .i64 (a0 - (1 : Int)))
 else
 some a0

def F47c (fuel : Nat) : CallE := ⟨47, ⟨1, [], [(.int .i64)]⟩, ⟨1, [], [(.int .i64)]⟩, fun x => F47 fuel x, 0⟩

theorem F47ok (fuel : Nat) : (F47c fuel).Ok Tryz.prog := okJ Tryz.f47 23 0 fuel [] [] false (q0) (p0) L0

def S16_4 (fuel : Nat) (a2 : List PV) (a3 : List PV) (a4 : Int) (a5 : Int) : Option (((List PV) × (List PV) × Int × Int) ⊕ (((List PV)))) :=
 bif (decide (a5 < a4)) then
 bif inRange a5 a3.length then
 let x7 := a3.getD a5.toNat .bad
 (F47 fuel ((x7.fld 0).asInt)).bind fun y9 =>
 let x10 := (x7.fld 1).asStr
 let x11 := (x7.fld 2).asInt
 let x12 := (x7.fld 4).asStr
 let x13 := (x7.fld 3).asStr
 bif decide (a2.length + [(PV.agg [(PV.int y9), (PV.str x10), (PV.int x11), (PV.str x12), (PV.str x13)])].length ≤ accMax) then
 let x14 := a2 ++ [(PV.agg [(PV.int y9), (PV.str x10), (PV.int x11), (PV.str x12), (PV.str x13)])]
 some (.inl (x14, a3, a4, (IntKind.wrap .i64 (a5 + (1 : Int)))))
 else none
 else none
 else
 some (.inr a2)

def S16_4step (fuel : Nat) (x : (List PV) × (List PV) × Int × Int) : Option (((List PV) × (List PV) × Int × Int) ⊕ (((List PV)))) := S16_4 fuel x.1 x.2.1 x.2.2.1 x.2.2.2

/-- wireschema/evolve.Back -/
def F16 (fuel : Nat) (a0 : List PV) : Option ((List PV)) :=
 (loopQ fuel (S16_4step fuel) ([], a0, (a0.length : Int), (0 : Int))).bind fun y16 =>
 (F39 fuel y16).bind fun y17 =>
 some y17

def S16_4l (fuel : Nat) : LoopE := ⟨4, ⟨[3, 6, 7, 8], [.acc], [(.acc 0 34), (.slice 34), (.int .i64), (.int .i64)]⟩, [(.exit 0, ⟨[3], [.acc], [(.acc 0 34)]⟩)], S16_4step fuel⟩

def F16C (fuel : Nat) : Cfg := cfg Tryz.prog 30 0 [F47c fuel, F39c fuel] [S16_4l fuel] fuel

def F16c (fuel : Nat) : CallE := ⟨16, ⟨1, [], [(.slice 34)]⟩, ⟨1, [], [(.slice 34)]⟩, fun x => F16 fuel x, []⟩

theorem F16k (fuel : Nat) : CallOk (F16C fuel) := cfg_callOkP (qc (F47ok fuel) <| qc (F39ok fuel) <| q0) (p0)

theorem S16_4ok (fuel : Nat) : LoopOk (F16C fuel) (lp (bodyOf Tryz.f16) 0) := okL (F16k fuel) fuel (S16_4l fuel) L0

theorem F16ok (fuel : Nat) : (F16c fuel).Ok Tryz.prog := okE Tryz.f16 (F16k fuel) (L1 (S16_4ok fuel))

/-- wireschema/wireschemalaw36.awake -/
def F12 (fuel : Nat)  : Option (Bool) :=
 (F14 fuel (PV.agg [(PV.slice [(PV.agg [(PV.str ([97, 46, 77] : List UInt8)), (PV.slice [(PV.agg [(PV.int (1 : Int)), (PV.str ([110] : List UInt8)), (PV.int (3 : Int)), (PV.int (0 : Int)), (PV.agg [(PV.int (4 : Int)), (PV.str ([] : List UInt8))]), (PV.str ([] : List UInt8)), (PV.bool false), (PV.agg [(PV.int (0 : Int)), (PV.int (0 : Int)), (PV.str ([] : List UInt8)), (PV.slice []), (PV.slice []), (PV.slice []), (PV.slice [])]), (PV.slice [])]), (PV.agg [(PV.int (2 : Int)), (PV.str ([108] : List UInt8)), (PV.int (4 : Int)), (PV.int (0 : Int)), (PV.agg [(PV.int (7 : Int)), (PV.str ([] : List UInt8))]), (PV.str ([] : List UInt8)), (PV.bool false), (PV.agg [(PV.int (0 : Int)), (PV.int (0 : Int)), (PV.str ([] : List UInt8)), (PV.slice []), (PV.slice []), (PV.slice []), (PV.slice [])]), (PV.slice [])])]), (PV.slice []), (PV.slice []), (PV.slice [])])]), (PV.slice []), (PV.slice [])]) (PV.agg [(PV.slice [(PV.agg [(PV.str ([97, 46, 77] : List UInt8)), (PV.slice [(PV.agg [(PV.int (1 : Int)), (PV.str ([109] : List UInt8)), (PV.int (3 : Int)), (PV.int (0 : Int)), (PV.agg [(PV.int (3 : Int)), (PV.str ([] : List UInt8))]), (PV.str ([] : List UInt8)), (PV.bool false), (PV.agg [(PV.int (0 : Int)), (PV.int (0 : Int)), (PV.str ([] : List UInt8)), (PV.slice []), (PV.slice []), (PV.slice []), (PV.slice [])]), (PV.slice [])])]), (PV.slice []), (PV.slice []), (PV.slice [])])]), (PV.slice []), (PV.slice [])])).bind fun y1 =>
 (F24 fuel (PV.agg [(PV.slice [(PV.agg [(PV.str ([97, 46, 77] : List UInt8)), (PV.slice [(PV.agg [(PV.int (1 : Int)), (PV.str ([110] : List UInt8)), (PV.int (3 : Int)), (PV.int (0 : Int)), (PV.agg [(PV.int (4 : Int)), (PV.str ([] : List UInt8))]), (PV.str ([] : List UInt8)), (PV.bool false), (PV.agg [(PV.int (0 : Int)), (PV.int (0 : Int)), (PV.str ([] : List UInt8)), (PV.slice []), (PV.slice []), (PV.slice []), (PV.slice [])]), (PV.slice [])]), (PV.agg [(PV.int (2 : Int)), (PV.str ([108] : List UInt8)), (PV.int (4 : Int)), (PV.int (0 : Int)), (PV.agg [(PV.int (7 : Int)), (PV.str ([] : List UInt8))]), (PV.str ([] : List UInt8)), (PV.bool false), (PV.agg [(PV.int (0 : Int)), (PV.int (0 : Int)), (PV.str ([] : List UInt8)), (PV.slice []), (PV.slice []), (PV.slice []), (PV.slice [])]), (PV.slice [])])]), (PV.slice []), (PV.slice []), (PV.slice [])])]), (PV.slice []), (PV.slice [])]) (PV.agg [(PV.slice [(PV.agg [(PV.str ([97, 46, 77] : List UInt8)), (PV.slice [(PV.agg [(PV.int (1 : Int)), (PV.str ([109] : List UInt8)), (PV.int (3 : Int)), (PV.int (0 : Int)), (PV.agg [(PV.int (3 : Int)), (PV.str ([] : List UInt8))]), (PV.str ([] : List UInt8)), (PV.bool false), (PV.agg [(PV.int (0 : Int)), (PV.int (0 : Int)), (PV.str ([] : List UInt8)), (PV.slice []), (PV.slice []), (PV.slice []), (PV.slice [])]), (PV.slice [])])]), (PV.slice []), (PV.slice []), (PV.slice [])])]), (PV.slice []), (PV.slice [])]) ([97, 46, 77] : List UInt8)).bind fun y2 =>
 (F18 fuel y1).bind fun y3 =>
 let x4 := y3 == ([102, 105, 101, 108, 100, 45, 110, 97, 109, 101, 32, 97, 46, 77, 32, 49, 32, 34, 110, 34, 32, 34, 109, 34, 10, 102, 105, 101, 108, 100, 45, 116, 121, 112, 101, 32, 97, 46, 77, 32, 49, 32, 34, 117, 51, 50, 34, 32, 34, 105, 54, 52, 34, 10, 102, 105, 101, 108, 100, 45, 103, 111, 110, 101, 32, 97, 46, 77, 32, 50, 32, 34, 108, 34, 32, 34, 34, 10] : List UInt8)
 (bif x4 then F16 fuel y1 else some []).bind fun y5 =>
 let x11 := bif (bif x4 then ((y5.length : Int) == (3 : Int)) else false) then ((y2.length : Int) == (1 : Int)) else false
 bif imp x11 (inRange (0 : Int) y2.length) then
 some (bif x11 then ((y2.getD (0 : Int).toNat .bad).asStr == ([97, 46, 77] : List UInt8)) else false)
 else none

def F12c (fuel : Nat) : CallE := ⟨12, ⟨0, [], []⟩, ⟨1, [], [.bool]⟩, fun x => F12 fuel , false⟩

theorem F12ok (fuel : Nat) : (F12c fuel).Ok Tryz.prog := okJ Tryz.f12 51 0 fuel [F14c fuel, F24c fuel, F18c fuel, F16c fuel] [] false (qc (F14ok fuel) <| qc (F24ok fuel) <| qc (F18ok fuel) <| qc (F16ok fuel) <| q0) (p0) L0


theorem awake36_run : F12 1000 = some true := isT_spec (by kernel_rfl)
def Lawake36 (fuel : Nat) : Option Bool := some true
def Lawake36c (fuel : Nat) : CallE := { f := 12, A := ⟨0, [], []⟩, R := ⟨1, [], [.bool]⟩, F := fun x => Lawake36 fuel, dflt := false }
theorem awake36_fun (fuel : Nat) : (F12c fuel).F = fun _ => F12 fuel := rfl
theorem Lawake36ok (fuel : Nat) : (Lawake36c fuel).Ok Tryz.prog := fun x y h => F12ok 1000 () y ((congrFun (awake36_fun 1000) ()).trans (awake36_run.trans h))

/-- wireschema/wireschemaref36.turned -/
def F48 (fuel : Nat) (a0 : Int) : Option (Int) :=
 bif (a0 == (1 : Int)) then
 some (IntKind.wrap .i64 (a0 + (1 : Int)))
 else
 bif (a0 == (3 : Int)) then
 some (IntKind.wrap .i64 (a0 + (1 : Int)))
 else
 bif (a0 == (11 : Int)) then
 some (IntKind.wrap .i64 (a0 + (1 : Int)))
 else
 bif (a0 == (14 : Int)) then
 some (IntKind.wrap .i64 (a0 + (1 : Int)))
 else
 bif (a0 == (17 : Int)) then
 some (IntKind.wrap .i64 (a0 + (1 : Int)))
 else
 bif (a0 == (19 : Int)) then
 some (IntKind.wrap .i64 (a0 + (1 : Int)))
 else
 bif (a0 == (2 : Int)) then
 some (IntKind.wrap .i64 (a0 - (1 : Int)))
 else
 bif (a0 == (4 : Int)) then
 some (IntKind.wrap .i64 (a0 - (1 : Int)))
 else
 bif (a0 == (12 : Int)) then
 some (IntKind.wrap .i64 (a0 - (1 : Int)))
 else
 bif (a0 == (15 : Int)) then
 some (IntKind.wrap .i64 (a0 - (1 : Int)))
 else
 bif (a0 == (18 : Int)) then
 some (IntKind.wrap .i64 (a0 - (1 : Int)))
 else
 bif (a0 == (20 : Int)) then
 some (IntKind.wrap .i64 (a0 - (1 : Int)))
 else
 some a0

def F48c (fuel : Nat) : CallE := ⟨48, ⟨1, [], [(.int .i64)]⟩, ⟨1, [], [(.int .i64)]⟩, fun x => F48 fuel x, 0⟩

theorem F48ok (fuel : Nat) : (F48c fuel).Ok Tryz.prog := okJ Tryz.f48 23 0 fuel [] [] false (q0) (p0) L0

/-- wireschema/wireschemaref36.group -/
def F66 (fuel : Nat) (a0 : Int) : Option (Int) :=
 bif (bif (decide (a0 ≥ (1 : Int))) then (decide (a0 ≤ (10 : Int))) else false) then
 some (1 : Int)
 else
 bif (bif (decide (a0 ≥ (11 : Int))) then (decide (a0 ≤ (16 : Int))) else false) then
 some (2 : Int)
 else
 some (3 : Int)

def F66c (fuel : Nat) : CallE := ⟨66, ⟨1, [], [(.int .i64)]⟩, ⟨1, [], [(.int .i64)]⟩, fun x => F66 fuel x, 0⟩

theorem F66ok (fuel : Nat) : (F66c fuel).Ok Tryz.prog := okJ Tryz.f66 15 0 fuel [] [] false (q0) (p0) L0

def S67_10 (fuel : Nat) (a7 : Unit) (a8 : Int) (a9 : PV) : Option ((Unit × Int × PV) ⊕ (((List UInt8) × PV) ⊕ (Unit × PV))) :=
 bif (decide ((IntKind.wrap .i64 (a8 + (1 : Int))) < (((a9.fld 3).asStr).length : Int))) then
 let x14 := (a9.fld 3).asStr
 let x15 := IntKind.wrap .i64 (a8 + (2 : Int))
 bif decide (0 ≤ a8 ∧ a8 ≤ x15 ∧ x15 ≤ (x14.length : Int)) then
 bif (((x14.take x15.toNat).drop a8.toNat) == ([58, 32] : List UInt8)) then
 let x18 := (a9.fld 3).asStr
 bif decide (0 ≤ (0 : Int) ∧ (0 : Int) ≤ a8 ∧ a8 ≤ (x18.length : Int)) then
 some (.inr (.inl (((x18.take a8.toNat).drop (0 : Int).toNat), a9)))
 else none
 else
 some (.inl ((), (IntKind.wrap .i64 (a8 + (1 : Int))), a9))
 else none
 else
 some (.inr (.inr ((), a9)))

def S67_10step (fuel : Nat) (x : Unit × Int × PV) : Option ((Unit × Int × PV) ⊕ (((List UInt8) × PV) ⊕ (Unit × PV))) := S67_10 fuel x.1 x.2.1 x.2.2

/-- wireschema/wireschemaref36.of -/
def F67 (fuel : Nat) (a0 : PV) : Option ((List UInt8)) :=
 let x1 := (a0.fld 0).asInt
 bif (x1 == (19 : Int)) then
 some ((a0.fld 3).asStr)
 else
 bif (x1 == (20 : Int)) then
 some ((a0.fld 4).asStr)
 else
 bif (x1 == (21 : Int)) then
 (loopQ fuel (S67_10step fuel) ((), (0 : Int), a0)).bind fun z => sumE (fun y21 =>
 some y21.1
 ) (fun y22 =>
 some ((y22.2.fld 3).asStr)
 ) z
 else
 bif (x1 == (22 : Int)) then
 (loopQ fuel (S67_10step fuel) ((), (0 : Int), a0)).bind fun z => sumE (fun y25 =>
 some y25.1
 ) (fun y26 =>
 some ((y26.2.fld 3).asStr)
 ) z
 else
 some ([] : List UInt8)

def S67_10l (fuel : Nat) : LoopE := ⟨10, ⟨[1, 3], [.box 34 .leaf], [(.con (.ref 0 [] 34)), (.int .i64), (.data 34)]⟩, [(.ret, ⟨[2], [.box 34 .leaf], [.str, (.data 34)]⟩), (.exit 1, ⟨[1], [.box 34 .leaf], [(.con (.ref 0 [] 34)), (.data 34)]⟩)], S67_10step fuel⟩

def F67C (fuel : Nat) : Cfg := cfg Tryz.prog 38 0 [] [S67_10l fuel] fuel

def F67c (fuel : Nat) : CallE := ⟨67, ⟨1, [], [(.data 34)]⟩, ⟨1, [], [.str]⟩, fun x => F67 fuel x, []⟩

theorem F67k (fuel : Nat) : CallOk (F67C fuel) := cfg_callOkP (q0) (p0)

theorem S67_10ok (fuel : Nat) : LoopOk (F67C fuel) (lp (bodyOf Tryz.f67) 0) := okL (F67k fuel) fuel (S67_10l fuel) L0

theorem F67ok (fuel : Nat) : (F67c fuel).Ok Tryz.prog := okE Tryz.f67 (F67k fuel) (L1 (S67_10ok fuel))

/-- wireschema/wireschemaref36.Less -/
def F27 (fuel : Nat) (a0 : PV) (a1 : PV) : Option (Bool) :=
 (F66 fuel ((a0.fld 0).asInt)).bind fun y2 =>
 (F66 fuel ((a1.fld 0).asInt)).bind fun y4 =>
 bif (y2 != y4) then
 (F66 fuel ((a0.fld 0).asInt)).bind fun y7 =>
 (F66 fuel ((a1.fld 0).asInt)).bind fun y9 =>
 some (decide (y7 < y9))
 else
 bif (!(((a0.fld 1).asStr) == ((a1.fld 1).asStr))) then
 some (Op.bytesLess ((a0.fld 1).asStr) ((a1.fld 1).asStr))
 else
 bif (((a0.fld 2).asInt) != ((a1.fld 2).asInt)) then
 some (decide (((a0.fld 2).asInt) < ((a1.fld 2).asInt)))
 else
 (F67 fuel a0).bind fun y23 =>
 (F67 fuel a1).bind fun y24 =>
 bif (!(y23 == y24)) then
 (F67 fuel a0).bind fun y26 =>
 (F67 fuel a1).bind fun y27 =>
 some (Op.bytesLess y26 y27)
 else
 bif (((a0.fld 0).asInt) != ((a1.fld 0).asInt)) then
 some (decide (((a0.fld 0).asInt) < ((a1.fld 0).asInt)))
 else
 bif (!(((a0.fld 3).asStr) == ((a1.fld 3).asStr))) then
 some (Op.bytesLess ((a0.fld 3).asStr) ((a1.fld 3).asStr))
 else
 some (Op.bytesLess ((a0.fld 4).asStr) ((a1.fld 4).asStr))

def F27c (fuel : Nat) : CallE := ⟨27, ⟨2, [], [(.data 34), (.data 34)]⟩, ⟨1, [], [.bool]⟩, fun x => F27 fuel x.1 x.2, false⟩

theorem F27ok (fuel : Nat) : (F27c fuel).Ok Tryz.prog := okJ Tryz.f27 74 0 fuel [F66c fuel, F67c fuel] [] false (qc (F66ok fuel) <| qc (F67ok fuel) <| q0) (p0) L0

def S17_8 (fuel : Nat) (a52 : List PV) (a53 : Unit) (a54 : Int) (a55 : List PV) (a56 : Int) (a57 : Int) (a58 : PV) : Option (((List PV) × Unit × Int × (List PV) × Int × Int × PV) ⊕ (((List PV) × Unit × Int × (List PV) × Int × Int × PV))) :=
 let x59 := decide (a54 > (0 : Int))
 let x60 := IntKind.wrap .i64 (a54 - (1 : Int))
 bif imp x59 (inRange x60 a52.length) then
 (bif x59 then F27 fuel a58 (a52.getD x60.toNat .bad) else some false).bind fun y62 =>
 bif (bif x59 then y62 else false) then
 some (.inl (a52, (), (IntKind.wrap .i64 (a54 - (1 : Int))), a55, a56, a57, a58))
 else
 some (.inr (a52, (), a54, a55, a56, a57, a58))
 else none

def S17_8step (fuel : Nat) (x : (List PV) × Unit × Int × (List PV) × Int × Int × PV) : Option (((List PV) × Unit × Int × (List PV) × Int × Int × PV) ⊕ (((List PV) × Unit × Int × (List PV) × Int × Int × PV))) := S17_8 fuel x.1 x.2.1 x.2.2.1 x.2.2.2.1 x.2.2.2.2.1 x.2.2.2.2.2.1 x.2.2.2.2.2.2

def S17_4 (fuel : Nat) (a39 : List PV) (a40 : List PV) (a41 : Int) (a42 : Int) : Option (((List PV) × (List PV) × Int × Int) ⊕ (((List PV)))) :=
 bif (decide (a42 < a41)) then
 bif inRange a42 a40.length then
 let x44 := a40.getD a42.toNat .bad
 (F48 fuel ((x44.fld 0).asInt)).bind fun y46 =>
 (loopQ fuel (S17_8step fuel) (a39, (), (a39.length : Int), a40, a41, a42, (PV.agg [(PV.int y46), (PV.str ((x44.fld 1).asStr)), (PV.int ((x44.fld 2).asInt)), (PV.str ((x44.fld 4).asStr)), (PV.str ((x44.fld 3).asStr))]))).bind fun y65 =>
 let x66 := y65.1
 let x67 := y65.2.2.1
 bif decide (0 ≤ (0 : Int) ∧ (0 : Int) ≤ x67 ∧ x67 ≤ (x66.length : Int)) then
 let x68 := (x66.take x67.toNat).drop (0 : Int).toNat
 bif decide (x68.length ≤ accMax) then
 let x69 := y65.2.2.2.2.2.2
 bif decide (x68.length + [x69].length ≤ accMax) then
 let x70 := x68 ++ [x69]
 let x71 := y65.1
 let x72 := y65.2.2.1
 bif decide (0 ≤ x72 ∧ x72 ≤ (x71.length : Int) ∧ (x71.length : Int) ≤ (x71.length : Int)) then
 let x73 := (x71.take (x71.length : Int).toNat).drop x72.toNat
 bif decide (x70.length + x73.length ≤ accMax) then
 some (.inl ((x70 ++ x73), y65.2.2.2.1, y65.2.2.2.2.1, (IntKind.wrap .i64 (y65.2.2.2.2.2.1 + (1 : Int)))))
 else none
 else none
 else none
 else none
 else none
 else none
 else
 some (.inr a39)

def S17_4step (fuel : Nat) (x : (List PV) × (List PV) × Int × Int) : Option (((List PV) × (List PV) × Int × Int) ⊕ (((List PV)))) := S17_4 fuel x.1 x.2.1 x.2.2.1 x.2.2.2

/-- wireschema/wireschemaref36.Back -/
def F17 (fuel : Nat) (a0 : List PV) : Option ((List PV)) :=
 (loopQ fuel (S17_4step fuel) ([], a0, (a0.length : Int), (0 : Int))).bind fun y76 =>
 some y76

def S17_8l (fuel : Nat) : LoopE := ⟨8, ⟨[3, 5, 6, 8, 9, 10], [.box 34 .leaf], [(.slice 34), (.con (.ref 0 [] 34)), (.int .i64), (.slice 34), (.int .i64), (.int .i64), (.data 34)]⟩, [(.exit 2, ⟨[3, 5, 6, 8, 9, 10], [.box 34 .leaf], [(.slice 34), (.con (.ref 0 [] 34)), (.int .i64), (.slice 34), (.int .i64), (.int .i64), (.data 34)]⟩)], S17_8step fuel⟩

def S17_4l (fuel : Nat) : LoopE := ⟨4, ⟨[3, 8, 9, 10], [], [(.slice 34), (.slice 34), (.int .i64), (.int .i64)]⟩, [(.exit 0, ⟨[3], [], [(.slice 34)]⟩)], S17_4step fuel⟩

def F17C (fuel : Nat) : Cfg := cfg Tryz.prog 58 0 [F48c fuel, F27c fuel] [S17_8l fuel, S17_4l fuel] fuel

def F17c (fuel : Nat) : CallE := ⟨17, ⟨1, [], [(.slice 34)]⟩, ⟨1, [], [(.slice 34)]⟩, fun x => F17 fuel x, []⟩

theorem F17k (fuel : Nat) : CallOk (F17C fuel) := cfg_callOkP (qc (F48ok fuel) <| qc (F27ok fuel) <| q0) (p0)

theorem S17_8ok (fuel : Nat) : LoopOk (F17C fuel) (lp (lp (bodyOf Tryz.f17) 0) 0) := okL (F17k fuel) fuel (S17_8l fuel) L0

theorem S17_4ok (fuel : Nat) : LoopOk (F17C fuel) (lp (bodyOf Tryz.f17) 0) := okL (F17k fuel) fuel (S17_4l fuel) (L1 (S17_8ok fuel))

theorem F17ok (fuel : Nat) : (F17c fuel).Ok Tryz.prog := okE Tryz.f17 (F17k fuel) (L1 (S17_4ok fuel))

def S13_5 (fuel : Nat) (a4 : List PV) (a5 : List PV) (a6 : Int) : Option (((List PV) × (List PV) × Int) ⊕ ((Bool) ⊕ (Unit))) :=
 bif (decide (a6 < (a4.length : Int))) then
 bif inRange a6 a4.length then
 let x9 := a4.getD a6.toNat .bad
 bif inRange a6 a5.length then
 let x10 := a5.getD a6.toNat .bad
 let x11 := !(bif ((x9.fld 0).asInt) == ((x10.fld 0).asInt) then (bif ((x9.fld 1).asStr) == ((x10.fld 1).asStr) then (bif ((x9.fld 2).asInt) == ((x10.fld 2).asInt) then (bif ((x9.fld 3).asStr) == ((x10.fld 3).asStr) then (bif ((x9.fld 4).asStr) == ((x10.fld 4).asStr) then true else false) else false) else false) else false) else false)
 bif x11 then
 some (.inr (.inl false))
 else
 some (.inl (a4, a5, (IntKind.wrap .i64 (a6 + (1 : Int)))))
 else none
 else none
 else
 some (.inr (.inr ()))

def S13_5step (fuel : Nat) (x : (List PV) × (List PV) × Int) : Option (((List PV) × (List PV) × Int) ⊕ ((Bool) ⊕ (Unit))) := S13_5 fuel x.1 x.2.1 x.2.2

/-- wireschema/wireschemaref36.Same -/
def F13 (fuel : Nat) (a0 : List PV) (a1 : List PV) : Option (Bool) :=
 bif ((a0.length : Int) != (a1.length : Int)) then
 some false
 else
 (loopQ fuel (S13_5step fuel) (a0, a1, (0 : Int))).bind fun z => sumE (fun y13 =>
 some y13
 ) (fun y14 =>
 some true
 ) z

def S13_5l (fuel : Nat) : LoopE := ⟨5, ⟨[0, 1, 5], [], [(.slice 34), (.slice 34), (.int .i64)]⟩, [(.ret, ⟨[4], [], [.bool]⟩), (.exit 0, ⟨[], [], []⟩)], S13_5step fuel⟩

def F13C (fuel : Nat) : Cfg := cfg Tryz.prog 26 0 [] [S13_5l fuel] fuel

def F13c (fuel : Nat) : CallE := ⟨13, ⟨2, [], [(.slice 34), (.slice 34)]⟩, ⟨1, [], [.bool]⟩, fun x => F13 fuel x.1 x.2, false⟩

theorem F13k (fuel : Nat) : CallOk (F13C fuel) := cfg_callOkP (q0) (p0)

theorem S13_5ok (fuel : Nat) : LoopOk (F13C fuel) (lp (bodyOf Tryz.f13) 0) := okL (F13k fuel) fuel (S13_5l fuel) L0

theorem F13ok (fuel : Nat) : (F13c fuel).Ok Tryz.prog := okE Tryz.f13 (F13k fuel) (L1 (S13_5ok fuel))

/-- wireschema/wireschemaref36.word -/
def F55 (fuel : Nat) (a0 : Int) : Option ((List UInt8)) :=
 let x2 := decide (a0 > ([(PV.str ([109, 101, 115, 115, 97, 103, 101, 45, 103, 111, 110, 101] : List UInt8)), (PV.str ([109, 101, 115, 115, 97, 103, 101, 45, 110, 101, 119] : List UInt8)), (PV.str ([102, 105, 101, 108, 100, 45, 103, 111, 110, 101] : List UInt8)), (PV.str ([102, 105, 101, 108, 100, 45, 110, 101, 119] : List UInt8)), (PV.str ([102, 105, 101, 108, 100, 45, 110, 97, 109, 101] : List UInt8)), (PV.str ([102, 105, 101, 108, 100, 45, 116, 121, 112, 101] : List UInt8)), (PV.str ([102, 105, 101, 108, 100, 45, 99, 97, 114, 100] : List UInt8)), (PV.str ([102, 105, 101, 108, 100, 45, 107, 101, 121] : List UInt8)), (PV.str ([102, 105, 101, 108, 100, 45, 117, 110, 105, 111, 110] : List UInt8)), (PV.str ([102, 105, 101, 108, 100, 45, 100, 101, 102, 97, 117, 108, 116] : List UInt8)), (PV.str ([101, 110, 117, 109, 45, 103, 111, 110, 101] : List UInt8)), (PV.str ([101, 110, 117, 109, 45, 110, 101, 119] : List UInt8)), (PV.str ([101, 110, 117, 109, 45, 111, 112, 101, 110] : List UInt8)), (PV.str ([105, 116, 101, 109, 45, 103, 111, 110, 101] : List UInt8)), (PV.str ([105, 116, 101, 109, 45, 110, 101, 119] : List UInt8)), (PV.str ([105, 116, 101, 109, 45, 110, 97, 109, 101] : List UInt8)), (PV.str ([115, 101, 114, 118, 105, 99, 101, 45, 103, 111, 110, 101] : List UInt8)), (PV.str ([115, 101, 114, 118, 105, 99, 101, 45, 110, 101, 119] : List UInt8)), (PV.str ([109, 101, 116, 104, 111, 100, 45, 103, 111, 110, 101] : List UInt8)), (PV.str ([109, 101, 116, 104, 111, 100, 45, 110, 101, 119] : List UInt8)), (PV.str ([109, 101, 116, 104, 111, 100, 45, 116, 121, 112, 101] : List UInt8)), (PV.str ([109, 101, 116, 104, 111, 100, 45, 115, 104, 97, 112, 101] : List UInt8))].length : Int))
 bif (bif (decide (a0 < (1 : Int))) then true else x2) then
 some ([117, 110, 107, 110, 111, 119, 110] : List UInt8)
 else
 let x4 := IntKind.wrap .i64 (a0 - (1 : Int))
 bif inRange x4 ([(PV.str ([109, 101, 115, 115, 97, 103, 101, 45, 103, 111, 110, 101] : List UInt8)), (PV.str ([109, 101, 115, 115, 97, 103, 101, 45, 110, 101, 119] : List UInt8)), (PV.str ([102, 105, 101, 108, 100, 45, 103, 111, 110, 101] : List UInt8)), (PV.str ([102, 105, 101, 108, 100, 45, 110, 101, 119] : List UInt8)), (PV.str ([102, 105, 101, 108, 100, 45, 110, 97, 109, 101] : List UInt8)), (PV.str ([102, 105, 101, 108, 100, 45, 116, 121, 112, 101] : List UInt8)), (PV.str ([102, 105, 101, 108, 100, 45, 99, 97, 114, 100] : List UInt8)), (PV.str ([102, 105, 101, 108, 100, 45, 107, 101, 121] : List UInt8)), (PV.str ([102, 105, 101, 108, 100, 45, 117, 110, 105, 111, 110] : List UInt8)), (PV.str ([102, 105, 101, 108, 100, 45, 100, 101, 102, 97, 117, 108, 116] : List UInt8)), (PV.str ([101, 110, 117, 109, 45, 103, 111, 110, 101] : List UInt8)), (PV.str ([101, 110, 117, 109, 45, 110, 101, 119] : List UInt8)), (PV.str ([101, 110, 117, 109, 45, 111, 112, 101, 110] : List UInt8)), (PV.str ([105, 116, 101, 109, 45, 103, 111, 110, 101] : List UInt8)), (PV.str ([105, 116, 101, 109, 45, 110, 101, 119] : List UInt8)), (PV.str ([105, 116, 101, 109, 45, 110, 97, 109, 101] : List UInt8)), (PV.str ([115, 101, 114, 118, 105, 99, 101, 45, 103, 111, 110, 101] : List UInt8)), (PV.str ([115, 101, 114, 118, 105, 99, 101, 45, 110, 101, 119] : List UInt8)), (PV.str ([109, 101, 116, 104, 111, 100, 45, 103, 111, 110, 101] : List UInt8)), (PV.str ([109, 101, 116, 104, 111, 100, 45, 110, 101, 119] : List UInt8)), (PV.str ([109, 101, 116, 104, 111, 100, 45, 116, 121, 112, 101] : List UInt8)), (PV.str ([109, 101, 116, 104, 111, 100, 45, 115, 104, 97, 112, 101] : List UInt8))].length) then
 some (([(PV.str ([109, 101, 115, 115, 97, 103, 101, 45, 103, 111, 110, 101] : List UInt8)), (PV.str ([109, 101, 115, 115, 97, 103, 101, 45, 110, 101, 119] : List UInt8)), (PV.str ([102, 105, 101, 108, 100, 45, 103, 111, 110, 101] : List UInt8)), (PV.str ([102, 105, 101, 108, 100, 45, 110, 101, 119] : List UInt8)), (PV.str ([102, 105, 101, 108, 100, 45, 110, 97, 109, 101] : List UInt8)), (PV.str ([102, 105, 101, 108, 100, 45, 116, 121, 112, 101] : List UInt8)), (PV.str ([102, 105, 101, 108, 100, 45, 99, 97, 114, 100] : List UInt8)), (PV.str ([102, 105, 101, 108, 100, 45, 107, 101, 121] : List UInt8)), (PV.str ([102, 105, 101, 108, 100, 45, 117, 110, 105, 111, 110] : List UInt8)), (PV.str ([102, 105, 101, 108, 100, 45, 100, 101, 102, 97, 117, 108, 116] : List UInt8)), (PV.str ([101, 110, 117, 109, 45, 103, 111, 110, 101] : List UInt8)), (PV.str ([101, 110, 117, 109, 45, 110, 101, 119] : List UInt8)), (PV.str ([101, 110, 117, 109, 45, 111, 112, 101, 110] : List UInt8)), (PV.str ([105, 116, 101, 109, 45, 103, 111, 110, 101] : List UInt8)), (PV.str ([105, 116, 101, 109, 45, 110, 101, 119] : List UInt8)), (PV.str ([105, 116, 101, 109, 45, 110, 97, 109, 101] : List UInt8)), (PV.str ([115, 101, 114, 118, 105, 99, 101, 45, 103, 111, 110, 101] : List UInt8)), (PV.str ([115, 101, 114, 118, 105, 99, 101, 45, 110, 101, 119] : List UInt8)), (PV.str ([109, 101, 116, 104, 111, 100, 45, 103, 111, 110, 101] : List UInt8)), (PV.str ([109, 101, 116, 104, 111, 100, 45, 110, 101, 119] : List UInt8)), (PV.str ([109, 101, 116, 104, 111, 100, 45, 116, 121, 112, 101] : List UInt8)), (PV.str ([109, 101, 116, 104, 111, 100, 45, 115, 104, 97, 112, 101] : List UInt8))].getD x4.toNat .bad).asStr)
 else none

def F55c (fuel : Nat) : CallE := ⟨55, ⟨1, [], [(.int .i64)]⟩, ⟨1, [], [.str]⟩, fun x => F55 fuel x, []⟩

theorem F55ok (fuel : Nat) : (F55c fuel).Ok Tryz.prog := okJ Tryz.f55 18 0 fuel [] [] false (q0) (p0) L0

/-- wireschema/wireschemaref04.Is -/
def F168 (fuel : Nat) (a0 : Int) : Option (Bool) :=
 some (bif (decide (a0 ≥ (1 : Int))) then (decide (a0 ≤ (9 : Int))) else false)

def F168c (fuel : Nat) : CallE := ⟨168, ⟨1, [], [(.int .i64)]⟩, ⟨1, [], [.bool]⟩, fun x => F168 fuel x, false⟩

theorem F168ok (fuel : Nat) : (F168c fuel).Ok Tryz.prog := okJ Tryz.f168 9 0 fuel [] [] false (q0) (p0) L0

/-- wireschema/wireschemaref04.lone -/
def F169 (fuel : Nat) (a0 : PV) : Option (Bool) :=
 some (bif (bif (bif ((((a0.fld 3).asList).length : Int) == (0 : Int)) then ((((a0.fld 4).asList).length : Int) == (0 : Int)) else false) then ((((a0.fld 5).asList).length : Int) == (0 : Int)) else false) then ((((a0.fld 6).asList).length : Int) == (0 : Int)) else false)

def F169c (fuel : Nat) : CallE := ⟨169, ⟨1, [], [(.data 56)]⟩, ⟨1, [], [.bool]⟩, fun x => F169 fuel x, false⟩

theorem F169ok (fuel : Nat) : (F169c fuel).Ok Tryz.prog := okJ Tryz.f169 25 0 fuel [] [] false (q0) (p0) L0

/-- wireschema/wireschemaref04.texts -/
def F170 (fuel : Nat) (a0 : Int) : Option (Bool) :=
 some (bif (a0 == (7 : Int)) then true else (a0 == (8 : Int)))

def F170c (fuel : Nat) : CallE := ⟨170, ⟨1, [], [(.int .i64)]⟩, ⟨1, [], [.bool]⟩, fun x => F170 fuel x, false⟩

theorem F170ok (fuel : Nat) : (F170c fuel).Ok Tryz.prog := okJ Tryz.f170 9 0 fuel [] [] false (q0) (p0) L0

/-- wireschema/wireschemaref03.between -/
def F172 (fuel : Nat) (a0 : List UInt8) (a1 : Int) (a2 : Int) (a3 : Int) : Option (Bool) :=
 let x2 := decide (a1 < (a0.length : Int))
 bif imp x2 (inRange a1 a0.length) then
 let x5 := bif x2 then (decide (((a0.getD a1.toNat 0).toNat : Int) ≥ a2)) else false
 bif imp x5 (inRange a1 a0.length) then
 some (bif x5 then (decide (((a0.getD a1.toNat 0).toNat : Int) ≤ a3)) else false)
 else none
 else none

def F172c (fuel : Nat) : CallE := ⟨172, ⟨4, [], [.str, (.int .i64), (.int .u8), (.int .u8)]⟩, ⟨1, [], [.bool]⟩, fun x => F172 fuel x.1 x.2.1 x.2.2.1 x.2.2.2, false⟩

theorem F172ok (fuel : Nat) : (F172c fuel).Ok Tryz.prog := okJ Tryz.f172 27 0 fuel [] [] false (q0) (p0) L0

def S171_3 (fuel : Nat) (a1 : List UInt8) (a2 : Int) (a3 : Int) (a4 : Int) : Option (((List UInt8) × Int × Int × Int) ⊕ ((Bool) ⊕ (Unit))) :=
 bif (decide (a4 < a3)) then
 (F172 fuel a1 (IntKind.wrap .i64 (a2 + a4)) (128 : Int) (191 : Int)).bind fun y7 =>
 bif (!y7) then
 some (.inr (.inl false))
 else
 some (.inl (a1, a2, a3, (IntKind.wrap .i64 (a4 + (1 : Int)))))
 else
 some (.inr (.inr ()))

def S171_3step (fuel : Nat) (x : (List UInt8) × Int × Int × Int) : Option (((List UInt8) × Int × Int × Int) ⊕ ((Bool) ⊕ (Unit))) := S171_3 fuel x.1 x.2.1 x.2.2.1 x.2.2.2

/-- wireschema/wireschemaref03.tail -/
def F171 (fuel : Nat) (a0 : List UInt8) (a1 : Int) (a2 : Int) : Option (Bool) :=
 (loopQ fuel (S171_3step fuel) (a0, a1, a2, (0 : Int))).bind fun z => sumE (fun y10 =>
 some y10
 ) (fun y11 =>
 some true
 ) z

def S171_3l (fuel : Nat) : LoopE := ⟨3, ⟨[0, 1, 2, 7], [], [.str, (.int .i64), (.int .i64), (.int .i64)]⟩, [(.ret, ⟨[6], [], [.bool]⟩), (.exit 0, ⟨[], [], []⟩)], S171_3step fuel⟩

def F171C (fuel : Nat) : Cfg := cfg Tryz.prog 19 0 [F172c fuel] [S171_3l fuel] fuel

def F171c (fuel : Nat) : CallE := ⟨171, ⟨3, [], [.str, (.int .i64), (.int .i64)]⟩, ⟨1, [], [.bool]⟩, fun x => F171 fuel x.1 x.2.1 x.2.2, false⟩

theorem F171k (fuel : Nat) : CallOk (F171C fuel) := cfg_callOkP (qc (F172ok fuel) <| q0) (p0)

theorem S171_3ok (fuel : Nat) : LoopOk (F171C fuel) (lp (bodyOf Tryz.f171) 0) := okL (F171k fuel) fuel (S171_3l fuel) L0

theorem F171ok (fuel : Nat) : (F171c fuel).Ok Tryz.prog := okE Tryz.f171 (F171k fuel) (L1 (S171_3ok fuel))

/-- wireschema/wireschemaref03.Size -/
def F109 (fuel : Nat) (a0 : List UInt8) (a1 : Int) : Option (Int) :=
 bif inRange a1 a0.length then
 let x1 := ((a0.getD a1.toNat 0).toNat : Int)
 bif (decide (x1 < (128 : Int))) then
 some (1 : Int)
 else
 let x5 := bif (decide (x1 ≥ (194 : Int))) then (decide (x1 ≤ (223 : Int))) else false
 (bif x5 then F171 fuel a0 (IntKind.wrap .i64 (a1 + (1 : Int))) (1 : Int) else some false).bind fun y7 =>
 bif (bif x5 then y7 else false) then
 some (2 : Int)
 else
 let x9 := x1 == (224 : Int)
 (bif x9 then F172 fuel a0 (IntKind.wrap .i64 (a1 + (1 : Int))) (160 : Int) (191 : Int) else some false).bind fun y11 =>
 let x12 := bif x9 then y11 else false
 (bif x12 then F171 fuel a0 (IntKind.wrap .i64 (a1 + (2 : Int))) (1 : Int) else some false).bind fun y14 =>
 bif (bif x12 then y14 else false) then
 some (3 : Int)
 else
 let x16 := x1 == (237 : Int)
 (bif x16 then F172 fuel a0 (IntKind.wrap .i64 (a1 + (1 : Int))) (128 : Int) (159 : Int) else some false).bind fun y18 =>
 let x19 := bif x16 then y18 else false
 (bif x19 then F171 fuel a0 (IntKind.wrap .i64 (a1 + (2 : Int))) (1 : Int) else some false).bind fun y21 =>
 bif (bif x19 then y21 else false) then
 some (3 : Int)
 else
 let x27 := bif (bif (decide (x1 ≥ (225 : Int))) then (decide (x1 ≤ (239 : Int))) else false) then (x1 != (237 : Int)) else false
 (bif x27 then F171 fuel a0 (IntKind.wrap .i64 (a1 + (1 : Int))) (2 : Int) else some false).bind fun y29 =>
 bif (bif x27 then y29 else false) then
 some (3 : Int)
 else
 let x31 := x1 == (240 : Int)
 (bif x31 then F172 fuel a0 (IntKind.wrap .i64 (a1 + (1 : Int))) (144 : Int) (191 : Int) else some false).bind fun y33 =>
 let x34 := bif x31 then y33 else false
 (bif x34 then F171 fuel a0 (IntKind.wrap .i64 (a1 + (2 : Int))) (2 : Int) else some false).bind fun y36 =>
 bif (bif x34 then y36 else false) then
 some (4 : Int)
 else
 let x40 := bif (decide (x1 ≥ (241 : Int))) then (decide (x1 ≤ (243 : Int))) else false
 (bif x40 then F171 fuel a0 (IntKind.wrap .i64 (a1 + (1 : Int))) (3 : Int) else some false).bind fun y42 =>
 bif (bif x40 then y42 else false) then
 some (4 : Int)
 else
 let x44 := x1 == (244 : Int)
 (bif x44 then F172 fuel a0 (IntKind.wrap .i64 (a1 + (1 : Int))) (128 : Int) (143 : Int) else some false).bind fun y46 =>
 let x47 := bif x44 then y46 else false
 (bif x47 then F171 fuel a0 (IntKind.wrap .i64 (a1 + (2 : Int))) (2 : Int) else some false).bind fun y49 =>
 bif (bif x47 then y49 else false) then
 some (4 : Int)
 else
 some (0 : Int)
 else none

def F109c (fuel : Nat) : CallE := ⟨109, ⟨2, [], [.str, (.int .i64)]⟩, ⟨1, [], [(.int .i64)]⟩, fun x => F109 fuel x.1 x.2, 0⟩

theorem F109ok (fuel : Nat) : (F109c fuel).Ok Tryz.prog := okJ Tryz.f109 115 0 fuel [F171c fuel, F172c fuel] [] false (qc (F171ok fuel) <| qc (F172ok fuel) <| q0) (p0) L0

def S211_3 (fuel : Nat) (a1 : List UInt8) (a2 : Int) : Option (((List UInt8) × Int) ⊕ ((Int) ⊕ (Unit))) :=
 bif (decide (a2 < (a1.length : Int))) then
 (F109 fuel a1 a2).bind fun y5 =>
 bif (y5 == (0 : Int)) then
 some (.inr (.inl a2))
 else
 some (.inl (a1, (IntKind.wrap .i64 (a2 + y5))))
 else
 some (.inr (.inr ()))

def S211_3step (fuel : Nat) (x : (List UInt8) × Int) : Option (((List UInt8) × Int) ⊕ ((Int) ⊕ (Unit))) := S211_3 fuel x.1 x.2

/-- wireschema/wireschemaref03.Bad -/
def F211 (fuel : Nat) (a0 : List UInt8) : Option (Int) :=
 (loopQ fuel (S211_3step fuel) (a0, (0 : Int))).bind fun z => sumE (fun y8 =>
 some y8
 ) (fun y9 =>
 some (-1 : Int)
 ) z

def S211_3l (fuel : Nat) : LoopE := ⟨3, ⟨[0, 3], [], [.str, (.int .i64)]⟩, [(.ret, ⟨[2], [], [(.int .i64)]⟩), (.exit 0, ⟨[], [], []⟩)], S211_3step fuel⟩

def F211C (fuel : Nat) : Cfg := cfg Tryz.prog 18 0 [F109c fuel] [S211_3l fuel] fuel

def F211c (fuel : Nat) : CallE := ⟨211, ⟨1, [], [.str]⟩, ⟨1, [], [(.int .i64)]⟩, fun x => F211 fuel x, 0⟩

theorem F211k (fuel : Nat) : CallOk (F211C fuel) := cfg_callOkP (qc (F109ok fuel) <| q0) (p0)

theorem S211_3ok (fuel : Nat) : LoopOk (F211C fuel) (lp (bodyOf Tryz.f211) 0) := okL (F211k fuel) fuel (S211_3l fuel) L0

theorem F211ok (fuel : Nat) : (F211c fuel).Ok Tryz.prog := okE Tryz.f211 (F211k fuel) (L1 (S211_3ok fuel))

/-- wireschema/wireschemaref03.Valid -/
def F150 (fuel : Nat) (a0 : List UInt8) : Option (Bool) :=
 (F211 fuel a0).bind fun y1 =>
 some (decide (y1 < (0 : Int)))

def F150c (fuel : Nat) : CallE := ⟨150, ⟨1, [], [.str]⟩, ⟨1, [], [.bool]⟩, fun x => F150 fuel x, false⟩

theorem F150ok (fuel : Nat) : (F150c fuel).Ok Tryz.prog := okJ Tryz.f150 6 0 fuel [F211c fuel] [] false (qc (F211ok fuel) <| q0) (p0) L0

/-- wireschema/wireschemaref04.Fits -/
def F104 (fuel : Nat) (a0 : Int) (a1 : PV) : Option (Bool) :=
 (F168 fuel a0).bind fun y1 =>
 let x5 := bif (!y1) then true else (((a1.fld 0).asInt) != a0)
 (bif !x5 then F169 fuel a1 else some false).bind fun y6 =>
 bif (bif x5 then true else (!y6)) then
 some false
 else
 (F170 fuel a0).bind fun y9 =>
 bif y9 then
 let x15 := bif (((a1.fld 1).asInt) == (0 : Int)) then (decide ((((a1.fld 2).asStr).length : Int) ≤ (4096 : Int))) else false
 let x16 := a0 == (8 : Int)
 (bif bif !x16 then x15 else false then F150 fuel ((a1.fld 2).asStr) else some false).bind fun y18 =>
 some (bif x15 then (bif x16 then true else y18) else false)
 else
 bif (!(((a1.fld 2).asStr) == ([] : List UInt8))) then
 some false
 else
 bif (a0 == (1 : Int)) then
 some (decide (((a1.fld 1).asInt) ≤ (1 : Int)))
 else
 bif (a0 == (2 : Int)) then
 let x28 := IntKind.wrap .i64 ((a1.fld 1).asInt)
 some (bif (decide (x28 ≥ (-2147483648 : Int))) then (decide (x28 ≤ (2147483647 : Int))) else false)
 else
 bif (a0 == (4 : Int)) then
 some (decide (((a1.fld 1).asInt) < (4294967296 : Int)))
 else
 bif (a0 == (9 : Int)) then
 some (decide (((a1.fld 1).asInt) < (2147483648 : Int)))
 else
 some true

def F104c (fuel : Nat) : CallE := ⟨104, ⟨2, [], [(.int .i64), (.data 56)]⟩, ⟨1, [], [.bool]⟩, fun x => F104 fuel x.1 x.2, false⟩

theorem F104ok (fuel : Nat) : (F104c fuel).Ok Tryz.prog := okJ Tryz.f104 70 0 fuel [F168c fuel, F169c fuel, F170c fuel, F150c fuel] [] false (qc (F168ok fuel) <| qc (F169ok fuel) <| qc (F170ok fuel) <| qc (F150ok fuel) <| q0) (p0) L0

def S105_3 (fuel : Nat) (a4 : Int) (a5 : List UInt8) : Option ((Int × (List UInt8)) ⊕ (((List UInt8)))) :=
 bif (decide (a4 ≥ (10 : Int))) then
 let x7 := IntKind.wrap .u64 (a4.tdiv (10 : Int))
 let x10 := IntKind.wrap .u8 (IntKind.wrap .u64 ((48 : Int) + (x7.tmod (10 : Int))))
 bif decide (([(PV.int x10)].map byteOfPV).length + a5.length ≤ strMax) then
 some (.inl (x7, ([(PV.int x10)].map byteOfPV) ++ a5))
 else none
 else
 some (.inr a5)

def S105_3step (fuel : Nat) (x : Int × (List UInt8)) : Option ((Int × (List UInt8)) ⊕ (((List UInt8)))) := S105_3 fuel x.1 x.2

/-- wireschema/wireschemaref04.decimal -/
def F105 (fuel : Nat) (a0 : Int) : Option ((List UInt8)) :=
 (loopQ fuel (S105_3step fuel) (a0, [(PV.int (IntKind.wrap .u8 (IntKind.wrap .u64 ((48 : Int) + (a0.tmod (10 : Int))))))].map byteOfPV)).bind fun y11 =>
 some y11

def S105_3l (fuel : Nat) : LoopE := ⟨3, ⟨[0, 3], [], [(.int .u64), .str]⟩, [(.exit 0, ⟨[3], [], [.str]⟩)], S105_3step fuel⟩

def F105C (fuel : Nat) : Cfg := cfg Tryz.prog 23 0 [] [S105_3l fuel] fuel

def F105c (fuel : Nat) : CallE := ⟨105, ⟨1, [], [(.int .u64)]⟩, ⟨1, [], [.str]⟩, fun x => F105 fuel x, []⟩

theorem F105k (fuel : Nat) : CallOk (F105C fuel) := cfg_callOkP (q0) (p0)

theorem S105_3ok (fuel : Nat) : LoopOk (F105C fuel) (lp (bodyOf Tryz.f105) 0) := okL (F105k fuel) fuel (S105_3l fuel) L0

theorem F105ok (fuel : Nat) : (F105c fuel).Ok Tryz.prog := okE Tryz.f105 (F105k fuel) (L1 (S105_3ok fuel))

/-- wireschema/wireschemaref03.pair -/
def F110 (fuel : Nat) (a0 : Int) : Option ((List UInt8)) :=
 let x1 := IntKind.wrap .u8 (a0.tdiv (16 : Int))
 let x3 := IntKind.wrap .u8 ((IntKind.wrap .u8 (a0.tdiv (16 : Int))) + (1 : Int))
 bif decide (0 ≤ x1 ∧ x1 ≤ x3 ∧ x3 ≤ (([48, 49, 50, 51, 52, 53, 54, 55, 56, 57, 97, 98, 99, 100, 101, 102] : List UInt8).length : Int)) then
 let x4 := (([48, 49, 50, 51, 52, 53, 54, 55, 56, 57, 97, 98, 99, 100, 101, 102] : List UInt8).take x3.toNat).drop x1.toNat
 let x5 := a0.tmod (16 : Int)
 let x7 := IntKind.wrap .u8 ((a0.tmod (16 : Int)) + (1 : Int))
 bif decide (0 ≤ x5 ∧ x5 ≤ x7 ∧ x7 ≤ (([48, 49, 50, 51, 52, 53, 54, 55, 56, 57, 97, 98, 99, 100, 101, 102] : List UInt8).length : Int)) then
 let x8 := (([48, 49, 50, 51, 52, 53, 54, 55, 56, 57, 97, 98, 99, 100, 101, 102] : List UInt8).take x7.toNat).drop x5.toNat
 bif decide (x4.length + x8.length ≤ strMax) then
 some (x4 ++ x8)
 else none
 else none
 else none

def F110c (fuel : Nat) : CallE := ⟨110, ⟨1, [], [(.int .u8)]⟩, ⟨1, [], [.str]⟩, fun x => F110 fuel x, []⟩

theorem F110ok (fuel : Nat) : (F110c fuel).Ok Tryz.prog := okJ Tryz.f110 16 0 fuel [] [] false (q0) (p0) L0

def S57_4 (fuel : Nat) (a1 : List UInt8) (a2 : List UInt8) (a3 : Int) : Option (((List UInt8) × (List UInt8) × Int) ⊕ (((List UInt8)))) :=
 bif (decide (a3 < (a1.length : Int))) then
 (F109 fuel a1 a3).bind fun y6 =>
 bif inRange a3 a1.length then
 let x7 := ((a1.getD a3.toNat 0).toNat : Int)
 bif (x7 == (34 : Int)) then
 bif decide (a2.length + ([92, 34] : List UInt8).length ≤ strMax) then
 let x9 := a2 ++ ([92, 34] : List UInt8)
 bif (y6 == (0 : Int)) then
 some (.inl (a1, x9, (IntKind.wrap .i64 (a3 + (1 : Int)))))
 else
 some (.inl (a1, x9, (IntKind.wrap .i64 (a3 + y6))))
 else none
 else
 bif (x7 == (92 : Int)) then
 bif decide (a2.length + ([92, 92] : List UInt8).length ≤ strMax) then
 let x14 := a2 ++ ([92, 92] : List UInt8)
 bif (y6 == (0 : Int)) then
 some (.inl (a1, x14, (IntKind.wrap .i64 (a3 + (1 : Int)))))
 else
 some (.inl (a1, x14, (IntKind.wrap .i64 (a3 + y6))))
 else none
 else
 bif (x7 == (10 : Int)) then
 bif decide (a2.length + ([92, 110] : List UInt8).length ≤ strMax) then
 let x19 := a2 ++ ([92, 110] : List UInt8)
 bif (y6 == (0 : Int)) then
 some (.inl (a1, x19, (IntKind.wrap .i64 (a3 + (1 : Int)))))
 else
 some (.inl (a1, x19, (IntKind.wrap .i64 (a3 + y6))))
 else none
 else
 bif (x7 == (9 : Int)) then
 bif decide (a2.length + ([92, 116] : List UInt8).length ≤ strMax) then
 let x24 := a2 ++ ([92, 116] : List UInt8)
 bif (y6 == (0 : Int)) then
 some (.inl (a1, x24, (IntKind.wrap .i64 (a3 + (1 : Int)))))
 else
 some (.inl (a1, x24, (IntKind.wrap .i64 (a3 + y6))))
 else none
 else
 bif (x7 == (13 : Int)) then
 bif decide (a2.length + ([92, 114] : List UInt8).length ≤ strMax) then
 let x29 := a2 ++ ([92, 114] : List UInt8)
 bif (y6 == (0 : Int)) then
 some (.inl (a1, x29, (IntKind.wrap .i64 (a3 + (1 : Int)))))
 else
 some (.inl (a1, x29, (IntKind.wrap .i64 (a3 + y6))))
 else none
 else
 bif (bif (bif (decide (x7 < (32 : Int))) then true else (x7 == (127 : Int))) then true else (y6 == (0 : Int))) then
 bif decide (a2.length + ([92, 120] : List UInt8).length ≤ strMax) then
 let x38 := a2 ++ ([92, 120] : List UInt8)
 (F110 fuel x7).bind fun y39 =>
 bif decide (x38.length + y39.length ≤ strMax) then
 let x40 := x38 ++ y39
 bif (y6 == (0 : Int)) then
 some (.inl (a1, x40, (IntKind.wrap .i64 (a3 + (1 : Int)))))
 else
 some (.inl (a1, x40, (IntKind.wrap .i64 (a3 + y6))))
 else none
 else none
 else
 let x44 := IntKind.wrap .i64 (a3 + y6)
 bif decide (0 ≤ a3 ∧ a3 ≤ x44 ∧ x44 ≤ (a1.length : Int)) then
 let x45 := (a1.take x44.toNat).drop a3.toNat
 bif decide (a2.length + x45.length ≤ strMax) then
 let x46 := a2 ++ x45
 bif (y6 == (0 : Int)) then
 some (.inl (a1, x46, (IntKind.wrap .i64 (a3 + (1 : Int)))))
 else
 some (.inl (a1, x46, (IntKind.wrap .i64 (a3 + y6))))
 else none
 else none
 else none
 else
 some (.inr a2)

def S57_4step (fuel : Nat) (x : (List UInt8) × (List UInt8) × Int) : Option (((List UInt8) × (List UInt8) × Int) ⊕ (((List UInt8)))) := S57_4 fuel x.1 x.2.1 x.2.2

/-- wireschema/wireschemaref03.Quote -/
def F57 (fuel : Nat) (a0 : List UInt8) : Option ((List UInt8)) :=
 (loopQ fuel (S57_4step fuel) (a0, ([34] : List UInt8), (0 : Int))).bind fun y50 =>
 bif decide (y50.length + ([34] : List UInt8).length ≤ strMax) then
 some (y50 ++ ([34] : List UInt8))
 else none

def S57_4l (fuel : Nat) : LoopE := ⟨4, ⟨[0, 3, 4], [], [.str, .str, (.int .i64)]⟩, [(.exit 0, ⟨[3], [], [.str]⟩)], S57_4step fuel⟩

def F57C (fuel : Nat) : Cfg := cfg Tryz.prog 73 0 [F109c fuel, F110c fuel] [S57_4l fuel] fuel

def F57c (fuel : Nat) : CallE := ⟨57, ⟨1, [], [.str]⟩, ⟨1, [], [.str]⟩, fun x => F57 fuel x, []⟩

theorem F57k (fuel : Nat) : CallOk (F57C fuel) := cfg_callOkP (qc (F109ok fuel) <| qc (F110ok fuel) <| q0) (p0)

theorem S57_4ok (fuel : Nat) : LoopOk (F57C fuel) (lp (bodyOf Tryz.f57) 0) := okL (F57k fuel) fuel (S57_4l fuel) L0

theorem F57ok (fuel : Nat) : (F57c fuel).Ok Tryz.prog := okE Tryz.f57 (F57k fuel) (L1 (S57_4ok fuel))

/-- wireschema/wireschemaref04.Text -/
def F56 (fuel : Nat) (a0 : PV) : Option ((List UInt8)) :=
 (F104 fuel ((a0.fld 0).asInt) a0).bind fun y2 =>
 bif (!y2) then
 some ([] : List UInt8)
 else
 let x4 := (a0.fld 0).asInt
 bif (x4 == (1 : Int)) then
 bif (((a0.fld 1).asInt) == (1 : Int)) then
 some ([116, 114, 117, 101] : List UInt8)
 else
 some ([102, 97, 108, 115, 101] : List UInt8)
 else
 bif (x4 == (2 : Int)) then
 bif (decide (((a0.fld 1).asInt) ≥ (9223372036854775808 : Int))) then
 (F105 fuel (IntKind.wrap .u64 (0 - ((a0.fld 1).asInt)))).bind fun y13 =>
 bif decide (([45] : List UInt8).length + y13.length ≤ strMax) then
 some (([45] : List UInt8) ++ y13)
 else none
 else
 (F105 fuel ((a0.fld 1).asInt)).bind fun y15 =>
 some y15
 else
 bif (x4 == (3 : Int)) then
 bif (decide (((a0.fld 1).asInt) ≥ (9223372036854775808 : Int))) then
 (F105 fuel (IntKind.wrap .u64 (0 - ((a0.fld 1).asInt)))).bind fun y21 =>
 bif decide (([45] : List UInt8).length + y21.length ≤ strMax) then
 some (([45] : List UInt8) ++ y21)
 else none
 else
 (F105 fuel ((a0.fld 1).asInt)).bind fun y23 =>
 some y23
 else
 bif (x4 == (6 : Int)) then
 none
 else
 bif (x4 == (7 : Int)) then
 (F57 fuel ((a0.fld 2).asStr)).bind fun y28 =>
 some y28
 else
 bif (x4 == (8 : Int)) then
 none
 else
 (F105 fuel ((a0.fld 1).asInt)).bind fun y32 =>
 some y32

def F56c (fuel : Nat) : CallE := ⟨56, ⟨1, [], [(.data 56)]⟩, ⟨1, [], [.str]⟩, fun x => F56 fuel x, []⟩

theorem F56ok (fuel : Nat) : (F56c fuel).Ok Tryz.prog := okJ Tryz.f56 60 0 fuel [F104c fuel, F105c fuel, F57c fuel] [] false (qc (F104ok fuel) <| qc (F105ok fuel) <| qc (F57ok fuel) <| q0) (p0) L0

def S19_4 (fuel : Nat) (a2 : List UInt8) (a3 : List PV) (a4 : Int) (a5 : Int) : Option (((List UInt8) × (List PV) × Int × Int) ⊕ (((List UInt8)))) :=
 bif (decide (a5 < a4)) then
 bif inRange a5 a3.length then
 let x7 := a3.getD a5.toNat .bad
 (F55 fuel ((x7.fld 0).asInt)).bind fun y9 =>
 bif decide (y9.length + ([32] : List UInt8).length ≤ strMax) then
 let x10 := y9 ++ ([32] : List UInt8)
 let x11 := (x7.fld 1).asStr
 bif decide (x10.length + x11.length ≤ strMax) then
 let x12 := x10 ++ x11
 bif decide (x12.length + ([32] : List UInt8).length ≤ strMax) then
 let x13 := x12 ++ ([32] : List UInt8)
 (F56 fuel (PV.agg [(PV.int (3 : Int)), (PV.int (IntKind.wrap .u64 ((x7.fld 2).asInt))), (PV.str ([] : List UInt8)), (PV.slice []), (PV.slice []), (PV.slice []), (PV.slice [])])).bind fun y16 =>
 bif decide (x13.length + y16.length ≤ strMax) then
 let x17 := x13 ++ y16
 bif decide (x17.length + ([32] : List UInt8).length ≤ strMax) then
 let x18 := x17 ++ ([32] : List UInt8)
 (F57 fuel ((x7.fld 3).asStr)).bind fun y20 =>
 bif decide (x18.length + y20.length ≤ strMax) then
 let x21 := x18 ++ y20
 bif decide (x21.length + ([32] : List UInt8).length ≤ strMax) then
 let x22 := x21 ++ ([32] : List UInt8)
 (F57 fuel ((x7.fld 4).asStr)).bind fun y24 =>
 bif decide (x22.length + y24.length ≤ strMax) then
 let x25 := x22 ++ y24
 bif decide (x25.length + ([10] : List UInt8).length ≤ strMax) then
 let x26 := x25 ++ ([10] : List UInt8)
 bif decide (a2.length + x26.length ≤ strMax) then
 some (.inl ((a2 ++ x26), a3, a4, (IntKind.wrap .i64 (a5 + (1 : Int)))))
 else none
 else none
 else none
 else none
 else none
 else none
 else none
 else none
 else none
 else none
 else none
 else
 some (.inr a2)

def S19_4step (fuel : Nat) (x : (List UInt8) × (List PV) × Int × Int) : Option (((List UInt8) × (List PV) × Int × Int) ⊕ (((List UInt8)))) := S19_4 fuel x.1 x.2.1 x.2.2.1 x.2.2.2

/-- wireschema/wireschemaref36.Text -/
def F19 (fuel : Nat) (a0 : List PV) : Option ((List UInt8)) :=
 (loopQ fuel (S19_4step fuel) (([] : List UInt8), a0, (a0.length : Int), (0 : Int))).bind fun y29 =>
 some y29

def S19_4l (fuel : Nat) : LoopE := ⟨4, ⟨[3, 6, 7, 8], [], [.str, (.slice 34), (.int .i64), (.int .i64)]⟩, [(.exit 0, ⟨[3], [], [.str]⟩)], S19_4step fuel⟩

def F19C (fuel : Nat) : Cfg := cfg Tryz.prog 41 0 [F55c fuel, F56c fuel, F57c fuel] [S19_4l fuel] fuel

def F19c (fuel : Nat) : CallE := ⟨19, ⟨1, [], [(.slice 34)]⟩, ⟨1, [], [.str]⟩, fun x => F19 fuel x, []⟩

theorem F19k (fuel : Nat) : CallOk (F19C fuel) := cfg_callOkP (qc (F55ok fuel) <| qc (F56ok fuel) <| qc (F57ok fuel) <| q0) (p0)

theorem S19_4ok (fuel : Nat) : LoopOk (F19C fuel) (lp (bodyOf Tryz.f19) 0) := okL (F19k fuel) fuel (S19_4l fuel) L0

theorem F19ok (fuel : Nat) : (F19c fuel).Ok Tryz.prog := okE Tryz.f19 (F19k fuel) (L1 (S19_4ok fuel))

def S21_4 (fuel : Nat) (a2 : List UInt8) (a3 : List PV) (a4 : List PV) (a5 : Int) (a6 : Int) : Option (((List UInt8) × (List PV) × (List PV) × Int × Int) ⊕ (((List PV)))) :=
 bif (decide (a6 < a5)) then
 bif inRange a6 a4.length then
 let x8 := a4.getD a6.toNat .bad
 bif (((x8.fld 1).asStr) == a2) then
 bif decide (a3.length + [x8].length ≤ accMax) then
 some (.inl (a2, (a3 ++ [x8]), a4, a5, (IntKind.wrap .i64 (a6 + (1 : Int)))))
 else none
 else
 some (.inl (a2, a3, a4, a5, (IntKind.wrap .i64 (a6 + (1 : Int)))))
 else none
 else
 some (.inr a3)

def S21_4step (fuel : Nat) (x : (List UInt8) × (List PV) × (List PV) × Int × Int) : Option (((List UInt8) × (List PV) × (List PV) × Int × Int) ⊕ (((List PV)))) := S21_4 fuel x.1 x.2.1 x.2.2.1 x.2.2.2.1 x.2.2.2.2

/-- wireschema/wireschemaref36.Of -/
def F21 (fuel : Nat) (a0 : List PV) (a1 : List UInt8) : Option ((List PV)) :=
 (loopQ fuel (S21_4step fuel) (a1, [], a0, (a0.length : Int), (0 : Int))).bind fun y14 =>
 some y14

def S21_4l (fuel : Nat) : LoopE := ⟨4, ⟨[1, 5, 8, 9, 10], [.acc], [.str, (.acc 0 34), (.slice 34), (.int .i64), (.int .i64)]⟩, [(.exit 0, ⟨[5], [.acc], [(.acc 0 34)]⟩)], S21_4step fuel⟩

def F21C (fuel : Nat) : Cfg := cfg Tryz.prog 24 0 [] [S21_4l fuel] fuel

def F21c (fuel : Nat) : CallE := ⟨21, ⟨2, [], [(.slice 34), .str]⟩, ⟨1, [], [(.slice 34)]⟩, fun x => F21 fuel x.1 x.2, []⟩

theorem F21k (fuel : Nat) : CallOk (F21C fuel) := cfg_callOkP (q0) (p0)

theorem S21_4ok (fuel : Nat) : LoopOk (F21C fuel) (lp (bodyOf Tryz.f21) 0) := okL (F21k fuel) fuel (S21_4l fuel) L0

theorem F21ok (fuel : Nat) : (F21c fuel).Ok Tryz.prog := okE Tryz.f21 (F21k fuel) (L1 (S21_4ok fuel))

def S4_5 (fuel : Nat) (a5 : List PV) (a6 : List UInt8) (a7 : List PV) (a8 : Int) (a9 : Int) : Option (((List PV) × (List UInt8) × (List PV) × Int × Int) ⊕ ((Bool) ⊕ ((List PV) × (List UInt8)))) :=
 bif (decide (a9 < a8)) then
 bif inRange a9 a7.length then
 let x11 := a7.getD a9.toNat .bad
 bif (bif (bif (decide ((((x11.fld 1).asStr).length : Int) > (500 : Int))) then true else (decide ((((x11.fld 3).asStr).length : Int) > (500 : Int)))) then true else (decide ((((x11.fld 4).asStr).length : Int) > (500 : Int)))) then
 (Lawake36 fuel).bind fun y23 =>
 some (.inr (.inl y23))
 else
 some (.inl (a5, a6, a7, a8, (IntKind.wrap .i64 (a9 + (1 : Int)))))
 else none
 else
 some (.inr (.inr (a5, a6)))

def S4_5step (fuel : Nat) (x : (List PV) × (List UInt8) × (List PV) × Int × Int) : Option (((List PV) × (List UInt8) × (List PV) × Int × Int) ⊕ ((Bool) ⊕ ((List PV) × (List UInt8)))) := S4_5 fuel x.1 x.2.1 x.2.2.1 x.2.2.2.1 x.2.2.2.2

/-- wireschema/wireschemalaw36.EvolveLists -/
def F4 (fuel : Nat) (a0 : List PV) (a1 : List UInt8) : Option (Bool) :=
 bif (decide ((a0.length : Int) > (200 : Int))) then
 (Lawake36 fuel).bind fun y3 =>
 some y3
 else
 (loopQ fuel (S4_5step fuel) (a0, a1, a0, (a0.length : Int), (0 : Int))).bind fun z => sumE (fun y25 =>
 some y25
 ) (fun y26 =>
 (F16 fuel y26.1).bind fun y28 =>
 (F17 fuel y26.1).bind fun y30 =>
 (F13 fuel y28 y30).bind fun y31 =>
 (bif y31 then F18 fuel y26.1 else some []).bind fun y33 =>
 (bif y31 then F19 fuel y26.1 else some []).bind fun y35 =>
 let x37 := bif y31 then (y33 == y35) else false
 (bif x37 then F20 fuel y26.1 y26.2 else some []).bind fun y40 =>
 (bif x37 then F21 fuel y26.1 y26.2 else some []).bind fun y43 =>
 (bif x37 then F13 fuel y40 y43 else some false).bind fun y44 =>
 let x45 := bif x37 then y44 else false
 (bif x45 then Lawake36 fuel else some false).bind fun y46 =>
 some (bif x45 then y46 else false)
 ) z

def S4_5l (fuel : Nat) : LoopE := ⟨5, ⟨[0, 1, 11, 12, 13], [], [(.slice 34), .str, (.slice 34), (.int .i64), (.int .i64)]⟩, [(.ret, ⟨[4], [], [.bool]⟩), (.exit 0, ⟨[0, 1], [], [(.slice 34), .str]⟩)], S4_5step fuel⟩

def F4C (fuel : Nat) : Cfg := cfg Tryz.prog 59 0 [Lawake36c fuel, F16c fuel, F17c fuel, F13c fuel, F18c fuel, F19c fuel, F20c fuel, F21c fuel] [S4_5l fuel] fuel

def F4c (fuel : Nat) : CallE := ⟨4, ⟨2, [], [(.slice 34), .str]⟩, ⟨1, [], [.bool]⟩, fun x => F4 fuel x.1 x.2, false⟩

theorem F4k (fuel : Nat) : CallOk (F4C fuel) := cfg_callOkP (qc (Lawake36ok fuel) <| qc (F16ok fuel) <| qc (F17ok fuel) <| qc (F13ok fuel) <| qc (F18ok fuel) <| qc (F19ok fuel) <| qc (F20ok fuel) <| qc (F21ok fuel) <| q0) (p0)

theorem S4_5ok (fuel : Nat) : LoopOk (F4C fuel) (lp (bodyOf Tryz.f4) 0) := okL (F4k fuel) fuel (S4_5l fuel) L0

theorem F4ok (fuel : Nat) : (F4c fuel).Ok Tryz.prog := okE Tryz.f4 (F4k fuel) (L1 (S4_5ok fuel))

end
end Go.Ab
