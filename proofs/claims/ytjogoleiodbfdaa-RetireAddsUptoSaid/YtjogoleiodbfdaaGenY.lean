/- A part of the proof: lemmas on how the program runs over plain data. -/
import Derived.Test.YtjogoleiodbfdaaAbSrt3Y
import Derived.Test.YtjogoleiodbfdaaAbLoop
import Derived.KernelRfl
set_option linter.unusedVariables false
set_option linter.unusedSimpArgs false
set_option linter.unnecessarySimpa false
namespace Go.Ab
open Go Go.Proofs
set_option maxRecDepth 100000
noncomputable section

/-- wireschema/desc.Message$1 -/
def F47 (fuel : Nat) (a0 : PV) (a1 : Unit) (a2 : List UInt8) : Option (Bool × (List UInt8)) :=
 some ((((a0.fld 0).asStr) == a2), a2)

def F47c (fuel : Nat) : CallE := ⟨47, ⟨2, [.box 9 .leaf], [(.data 51), (.con (.ref 0 [] 9)), .str]⟩, ⟨1, [.box 9 .leaf], [.bool, .str]⟩, fun x => F47 fuel x.1 x.2.1 x.2.2, (false, [])⟩

theorem F47ok (fuel : Nat) : (F47c fuel).Ok Try.prog := okJ Try.f47 8 1 fuel [] [] false (q0) (p0) L0

def S46_3 (fuel : Nat) (a2 : Unit) (a3 : Unit) (a4 : List PV) (a5 : Int) (a6 : Int) (a7 : List UInt8) (a8 : PV) : Option ((Unit × Unit × (List PV) × Int × Int × (List UInt8) × PV) ⊕ ((Unit × Bool × (List UInt8) × PV) ⊕ (Unit × (List UInt8) × PV))) :=
 bif (decide (a6 < a5)) then
 bif inRange a6 a4.length then
 let x10 := a4.getD a6.toNat .bad
 (F47 fuel x10 () a7).bind fun y11 =>
 bif y11.1 then
 some (.inr (.inl ((), true, y11.2, x10)))
 else
 some (.inl ((), (), a4, a5, (IntKind.wrap .i64 (a6 + (1 : Int))), y11.2, a8))
 else none
 else
 some (.inr (.inr ((), a7, a8)))

def S46_3step (fuel : Nat) (x : Unit × Unit × (List PV) × Int × Int × (List UInt8) × PV) : Option ((Unit × Unit × (List PV) × Int × Int × (List UInt8) × PV) ⊕ ((Unit × Bool × (List UInt8) × PV) ⊕ (Unit × (List UInt8) × PV))) := S46_3 fuel x.1 x.2.1 x.2.2.1 x.2.2.2.1 x.2.2.2.2.1 x.2.2.2.2.2.1 x.2.2.2.2.2.2

/-- wireschema/desc.first[wireschema/api.Message] -/
def F46 (fuel : Nat) (a0 : List PV) (a1 : Unit) (a2 : List UInt8) : Option (PV × Bool × (List UInt8)) :=
 (loopQ fuel (S46_3step fuel) ((), (), a0, (a0.length : Int), (0 : Int), a2, (PV.agg [(PV.str ([] : List UInt8)), (PV.slice []), (PV.slice []), (PV.slice []), (PV.slice [])]))).bind fun z => sumE (fun y13 =>
 some (y13.2.2.2, y13.2.1, y13.2.2.1)
 ) (fun y14 =>
 some ((PV.agg [(PV.str ([] : List UInt8)), (PV.slice []), (PV.slice []), (PV.slice []), (PV.slice [])]), false, y14.2.1)
 ) z

def S46_3l (fuel : Nat) : LoopE := ⟨3, ⟨[1, 4, 9, 10, 11], [.box 9 .leaf, .box 51 .leaf], [(.con (.fn 47 0 [(.ref 0 [] 9)])), (.con (.ref 1 [] 51)), (.slice 51), (.int .i64), (.int .i64), .str, (.data 51)]⟩, [(.ret, ⟨[4, 5], [.box 9 .leaf, .box 51 .leaf], [(.con (.ref 1 [] 51)), .bool, .str, (.data 51)]⟩), (.exit 0, ⟨[4], [.box 9 .leaf, .box 51 .leaf], [(.con (.ref 1 [] 51)), .str, (.data 51)]⟩)], S46_3step fuel⟩

def F46C (fuel : Nat) : Cfg := cfg Try.prog 21 1 [F47c fuel] [S46_3l fuel] fuel

def F46c (fuel : Nat) : CallE := ⟨46, ⟨2, [.box 9 .leaf], [(.slice 51), (.con (.fn 47 0 [(.ref 0 [] 9)])), .str]⟩, ⟨2, [.box 9 .leaf], [(.data 51), .bool, .str]⟩, fun x => F46 fuel x.1 x.2.1 x.2.2, (PV.bad, false, [])⟩

theorem F46k (fuel : Nat) : CallOk (F46C fuel) := cfg_callOkP (qc (F47ok fuel) <| q0) (p0)

theorem S46_3ok (fuel : Nat) : LoopOk (F46C fuel) (lp (bodyOf Try.f46) 0) := okL (F46k fuel) fuel (S46_3l fuel) L0

theorem F46ok (fuel : Nat) : (F46c fuel).Ok Try.prog := okE Try.f46 (F46k fuel) (L1 (S46_3ok fuel))

/-- wireschema/desc.Message -/
def F23 (fuel : Nat) (a0 : PV) (a1 : List UInt8) : Option (PV × Bool) :=
 (F46 fuel ((a0.fld 0).asList) () a1).bind fun y2 =>
 some (y2.1, y2.2.1)

def F23c (fuel : Nat) : CallE := ⟨23, ⟨2, [], [(.data 56), .str]⟩, ⟨2, [], [(.data 51), .bool]⟩, fun x => F23 fuel x.1 x.2, (PV.bad, false)⟩

theorem F23ok (fuel : Nat) : (F23c fuel).Ok Try.prog := okJ Try.f23 12 0 fuel [F46c fuel] [] false (qc (F46ok fuel) <| q0) (p0) L0

/-- wireschema/note.index$1 -/
def F61 (fuel : Nat) (a0 : PV) (a1 : Unit) (a2 : List UInt8) : Option (Bool × (List UInt8)) :=
 some ((((a0.fld 0).asStr) == a2), a2)

def F61c (fuel : Nat) : CallE := ⟨61, ⟨2, [.box 9 .leaf], [(.data 43), (.con (.ref 0 [] 9)), .str]⟩, ⟨1, [.box 9 .leaf], [.bool, .str]⟩, fun x => F61 fuel x.1 x.2.1 x.2.2, (false, [])⟩

theorem F61ok (fuel : Nat) : (F61c fuel).Ok Try.prog := okJ Try.f61 8 1 fuel [] [] false (q0) (p0) L0

def S60_3 (fuel : Nat) (a2 : List PV) (a3 : Unit) (a4 : Int) (a5 : Int) (a6 : List UInt8) : Option (((List PV) × Unit × Int × Int × (List UInt8)) ⊕ ((Int × (List UInt8)) ⊕ ((List UInt8)))) :=
 bif (decide (a5 < a4)) then
 bif inRange a5 a2.length then
 (F61 fuel (a2.getD a5.toNat .bad) () a6).bind fun y9 =>
 bif y9.1 then
 some (.inr (.inl (a5, y9.2)))
 else
 some (.inl (a2, (), a4, (IntKind.wrap .i64 (a5 + (1 : Int))), y9.2))
 else none
 else
 some (.inr (.inr a6))

def S60_3step (fuel : Nat) (x : (List PV) × Unit × Int × Int × (List UInt8)) : Option (((List PV) × Unit × Int × Int × (List UInt8)) ⊕ ((Int × (List UInt8)) ⊕ ((List UInt8)))) := S60_3 fuel x.1 x.2.1 x.2.2.1 x.2.2.2.1 x.2.2.2.2

/-- slices.IndexFunc[[]wireschema/api.Note,wireschema/api.Note] -/
def F60 (fuel : Nat) (a0 : List PV) (a1 : Unit) (a2 : List UInt8) : Option (Int × (List UInt8)) :=
 (loopQ fuel (S60_3step fuel) (a0, (), (a0.length : Int), (0 : Int), a2)).bind fun z => sumE (fun y11 =>
 some (y11.1, y11.2)
 ) (fun y12 =>
 some ((-1 : Int), y12)
 ) z

def S60_3l (fuel : Nat) : LoopE := ⟨3, ⟨[0, 1, 7, 8], [.box 9 .leaf], [(.slice 43), (.con (.fn 61 0 [(.ref 0 [] 9)])), (.int .i64), (.int .i64), .str]⟩, [(.ret, ⟨[4], [.box 9 .leaf], [(.int .i64), .str]⟩), (.exit 0, ⟨[], [.box 9 .leaf], [.str]⟩)], S60_3step fuel⟩

def F60C (fuel : Nat) : Cfg := cfg Try.prog 19 1 [F61c fuel] [S60_3l fuel] fuel

def F60c (fuel : Nat) : CallE := ⟨60, ⟨2, [.box 9 .leaf], [(.slice 43), (.con (.fn 61 0 [(.ref 0 [] 9)])), .str]⟩, ⟨1, [.box 9 .leaf], [(.int .i64), .str]⟩, fun x => F60 fuel x.1 x.2.1 x.2.2, (0, [])⟩

theorem F60k (fuel : Nat) : CallOk (F60C fuel) := cfg_callOkP (qc (F61ok fuel) <| q0) (p0)

theorem S60_3ok (fuel : Nat) : LoopOk (F60C fuel) (lp (bodyOf Try.f60) 0) := okL (F60k fuel) fuel (S60_3l fuel) L0

theorem F60ok (fuel : Nat) : (F60c fuel).Ok Try.prog := okE Try.f60 (F60k fuel) (L1 (S60_3ok fuel))

/-- wireschema/note.index -/
def F57 (fuel : Nat) (a0 : List PV) (a1 : List UInt8) : Option (Int) :=
 (F60 fuel a0 () a1).bind fun y1 =>
 some y1.1

def F57c (fuel : Nat) : CallE := ⟨57, ⟨2, [], [(.slice 43), .str]⟩, ⟨1, [], [(.int .i64)]⟩, fun x => F57 fuel x.1 x.2, 0⟩

theorem F57ok (fuel : Nat) : (F57c fuel).Ok Try.prog := okJ Try.f57 8 0 fuel [F60c fuel] [] false (qc (F60ok fuel) <| q0) (p0) L0

/-- wireschema/note.Find -/
def F48 (fuel : Nat) (a0 : List PV) (a1 : List UInt8) : Option (PV × Bool) :=
 (F57 fuel a0 a1).bind fun y1 =>
 bif (decide (y1 < (0 : Int))) then
 some ((PV.agg [(PV.int (0 : Int)), (PV.int (0 : Int)), (PV.str ([] : List UInt8)), (PV.slice []), (PV.slice []), (PV.slice []), (PV.slice [])]), false)
 else
 bif inRange y1 a0.length then
 some (((a0.getD y1.toNat .bad).fld 1), true)
 else none

def F48c (fuel : Nat) : CallE := ⟨48, ⟨2, [], [(.slice 43), .str]⟩, ⟨2, [], [(.data 41), .bool]⟩, fun x => F48 fuel x.1 x.2, (PV.bad, false)⟩

theorem F48ok (fuel : Nat) : (F48c fuel).Ok Try.prog := okJ Try.f48 18 0 fuel [F57c fuel] [] false (qc (F57ok fuel) <| q0) (p0) L0

/-- wireschema/note.Flag -/
def F24 (fuel : Nat) (a0 : List PV) (a1 : List UInt8) : Option (Bool) :=
 (F48 fuel a0 a1).bind fun y1 =>
 let x2 := y1.1
 some (bif (bif y1.2 then (((x2.fld 0).asInt) == (1 : Int)) else false) then (((x2.fld 1).asInt) == (1 : Int)) else false)

def F24c (fuel : Nat) : CallE := ⟨24, ⟨2, [], [(.slice 43), .str]⟩, ⟨1, [], [.bool]⟩, fun x => F24 fuel x.1 x.2, false⟩

theorem F24ok (fuel : Nat) : (F24c fuel).Ok Try.prog := okJ Try.f24 24 0 fuel [F48c fuel] [] false (qc (F48ok fuel) <| q0) (p0) L0

/-- wireschema/desc.Field$1 -/
def F50 (fuel : Nat) (a0 : PV) (a1 : Unit) (a2 : Int) : Option (Bool × Int) :=
 some ((((a0.fld 0).asInt) == a2), a2)

def F50c (fuel : Nat) : CallE := ⟨50, ⟨2, [.box 3 .leaf], [(.data 46), (.con (.ref 0 [] 3)), (.int .i64)]⟩, ⟨1, [.box 3 .leaf], [.bool, (.int .i64)]⟩, fun x => F50 fuel x.1 x.2.1 x.2.2, (false, 0)⟩

theorem F50ok (fuel : Nat) : (F50c fuel).Ok Try.prog := okJ Try.f50 8 1 fuel [] [] false (q0) (p0) L0

def S49_3 (fuel : Nat) (a2 : Unit) (a3 : Unit) (a4 : List PV) (a5 : Int) (a6 : Int) (a7 : Int) (a8 : PV) : Option ((Unit × Unit × (List PV) × Int × Int × Int × PV) ⊕ ((Unit × Bool × Int × PV) ⊕ (Unit × Int × PV))) :=
 bif (decide (a6 < a5)) then
 bif inRange a6 a4.length then
 let x10 := a4.getD a6.toNat .bad
 (F50 fuel x10 () a7).bind fun y11 =>
 bif y11.1 then
 some (.inr (.inl ((), true, y11.2, x10)))
 else
 some (.inl ((), (), a4, a5, (IntKind.wrap .i64 (a6 + (1 : Int))), y11.2, a8))
 else none
 else
 some (.inr (.inr ((), a7, a8)))

def S49_3step (fuel : Nat) (x : Unit × Unit × (List PV) × Int × Int × Int × PV) : Option ((Unit × Unit × (List PV) × Int × Int × Int × PV) ⊕ ((Unit × Bool × Int × PV) ⊕ (Unit × Int × PV))) := S49_3 fuel x.1 x.2.1 x.2.2.1 x.2.2.2.1 x.2.2.2.2.1 x.2.2.2.2.2.1 x.2.2.2.2.2.2

/-- wireschema/desc.first[wireschema/api.Field] -/
def F49 (fuel : Nat) (a0 : List PV) (a1 : Unit) (a2 : Int) : Option (PV × Bool × Int) :=
 (loopQ fuel (S49_3step fuel) ((), (), a0, (a0.length : Int), (0 : Int), a2, (PV.agg [(PV.int (0 : Int)), (PV.str ([] : List UInt8)), (PV.int (0 : Int)), (PV.int (0 : Int)), (PV.agg [(PV.int (0 : Int)), (PV.str ([] : List UInt8))]), (PV.str ([] : List UInt8)), (PV.bool false), (PV.agg [(PV.int (0 : Int)), (PV.int (0 : Int)), (PV.str ([] : List UInt8)), (PV.slice []), (PV.slice []), (PV.slice []), (PV.slice [])]), (PV.slice [])]))).bind fun z => sumE (fun y13 =>
 some (y13.2.2.2, y13.2.1, y13.2.2.1)
 ) (fun y14 =>
 some ((PV.agg [(PV.int (0 : Int)), (PV.str ([] : List UInt8)), (PV.int (0 : Int)), (PV.int (0 : Int)), (PV.agg [(PV.int (0 : Int)), (PV.str ([] : List UInt8))]), (PV.str ([] : List UInt8)), (PV.bool false), (PV.agg [(PV.int (0 : Int)), (PV.int (0 : Int)), (PV.str ([] : List UInt8)), (PV.slice []), (PV.slice []), (PV.slice []), (PV.slice [])]), (PV.slice [])]), false, y14.2.1)
 ) z

def S49_3l (fuel : Nat) : LoopE := ⟨3, ⟨[1, 4, 9, 10, 11], [.box 3 .leaf, .box 46 .leaf], [(.con (.fn 50 0 [(.ref 0 [] 3)])), (.con (.ref 1 [] 46)), (.slice 46), (.int .i64), (.int .i64), (.int .i64), (.data 46)]⟩, [(.ret, ⟨[4, 5], [.box 3 .leaf, .box 46 .leaf], [(.con (.ref 1 [] 46)), .bool, (.int .i64), (.data 46)]⟩), (.exit 0, ⟨[4], [.box 3 .leaf, .box 46 .leaf], [(.con (.ref 1 [] 46)), (.int .i64), (.data 46)]⟩)], S49_3step fuel⟩

def F49C (fuel : Nat) : Cfg := cfg Try.prog 21 1 [F50c fuel] [S49_3l fuel] fuel

def F49c (fuel : Nat) : CallE := ⟨49, ⟨2, [.box 3 .leaf], [(.slice 46), (.con (.fn 50 0 [(.ref 0 [] 3)])), (.int .i64)]⟩, ⟨2, [.box 3 .leaf], [(.data 46), .bool, (.int .i64)]⟩, fun x => F49 fuel x.1 x.2.1 x.2.2, (PV.bad, false, 0)⟩

theorem F49k (fuel : Nat) : CallOk (F49C fuel) := cfg_callOkP (qc (F50ok fuel) <| q0) (p0)

theorem S49_3ok (fuel : Nat) : LoopOk (F49C fuel) (lp (bodyOf Try.f49) 0) := okL (F49k fuel) fuel (S49_3l fuel) L0

theorem F49ok (fuel : Nat) : (F49c fuel).Ok Try.prog := okE Try.f49 (F49k fuel) (L1 (S49_3ok fuel))

/-- wireschema/desc.Field -/
def F25 (fuel : Nat) (a0 : PV) (a1 : Int) : Option (PV × Bool) :=
 (F49 fuel ((a0.fld 1).asList) () a1).bind fun y2 =>
 some (y2.1, y2.2.1)

def F25c (fuel : Nat) : CallE := ⟨25, ⟨2, [], [(.data 51), (.int .i64)]⟩, ⟨2, [], [(.data 46), .bool]⟩, fun x => F25 fuel x.1 x.2, (PV.bad, false)⟩

theorem F25ok (fuel : Nat) : (F25c fuel).Ok Try.prog := okJ Try.f25 12 0 fuel [F49c fuel] [] false (qc (F49ok fuel) <| q0) (p0) L0

/-- wireschema/desc.Enum$1 -/
def F63 (fuel : Nat) (a0 : PV) (a1 : Unit) (a2 : List UInt8) : Option (Bool × (List UInt8)) :=
 some ((((a0.fld 0).asStr) == a2), a2)

def F63c (fuel : Nat) : CallE := ⟨63, ⟨2, [.box 9 .leaf], [(.data 132), (.con (.ref 0 [] 9)), .str]⟩, ⟨1, [.box 9 .leaf], [.bool, .str]⟩, fun x => F63 fuel x.1 x.2.1 x.2.2, (false, [])⟩

theorem F63ok (fuel : Nat) : (F63c fuel).Ok Try.prog := okJ Try.f63 8 1 fuel [] [] false (q0) (p0) L0

def S62_3 (fuel : Nat) (a2 : Unit) (a3 : Unit) (a4 : List PV) (a5 : Int) (a6 : Int) (a7 : List UInt8) (a8 : PV) : Option ((Unit × Unit × (List PV) × Int × Int × (List UInt8) × PV) ⊕ ((Unit × Bool × (List UInt8) × PV) ⊕ (Unit × (List UInt8) × PV))) :=
 bif (decide (a6 < a5)) then
 bif inRange a6 a4.length then
 let x10 := a4.getD a6.toNat .bad
 (F63 fuel x10 () a7).bind fun y11 =>
 bif y11.1 then
 some (.inr (.inl ((), true, y11.2, x10)))
 else
 some (.inl ((), (), a4, a5, (IntKind.wrap .i64 (a6 + (1 : Int))), y11.2, a8))
 else none
 else
 some (.inr (.inr ((), a7, a8)))

def S62_3step (fuel : Nat) (x : Unit × Unit × (List PV) × Int × Int × (List UInt8) × PV) : Option ((Unit × Unit × (List PV) × Int × Int × (List UInt8) × PV) ⊕ ((Unit × Bool × (List UInt8) × PV) ⊕ (Unit × (List UInt8) × PV))) := S62_3 fuel x.1 x.2.1 x.2.2.1 x.2.2.2.1 x.2.2.2.2.1 x.2.2.2.2.2.1 x.2.2.2.2.2.2

/-- wireschema/desc.first[wireschema/api.Enum] -/
def F62 (fuel : Nat) (a0 : List PV) (a1 : Unit) (a2 : List UInt8) : Option (PV × Bool × (List UInt8)) :=
 (loopQ fuel (S62_3step fuel) ((), (), a0, (a0.length : Int), (0 : Int), a2, (PV.agg [(PV.str ([] : List UInt8)), (PV.bool false), (PV.slice []), (PV.slice []), (PV.slice [])]))).bind fun z => sumE (fun y13 =>
 some (y13.2.2.2, y13.2.1, y13.2.2.1)
 ) (fun y14 =>
 some ((PV.agg [(PV.str ([] : List UInt8)), (PV.bool false), (PV.slice []), (PV.slice []), (PV.slice [])]), false, y14.2.1)
 ) z

def S62_3l (fuel : Nat) : LoopE := ⟨3, ⟨[1, 4, 9, 10, 11], [.box 9 .leaf, .box 132 .leaf], [(.con (.fn 63 0 [(.ref 0 [] 9)])), (.con (.ref 1 [] 132)), (.slice 132), (.int .i64), (.int .i64), .str, (.data 132)]⟩, [(.ret, ⟨[4, 5], [.box 9 .leaf, .box 132 .leaf], [(.con (.ref 1 [] 132)), .bool, .str, (.data 132)]⟩), (.exit 0, ⟨[4], [.box 9 .leaf, .box 132 .leaf], [(.con (.ref 1 [] 132)), .str, (.data 132)]⟩)], S62_3step fuel⟩

def F62C (fuel : Nat) : Cfg := cfg Try.prog 21 1 [F63c fuel] [S62_3l fuel] fuel

def F62c (fuel : Nat) : CallE := ⟨62, ⟨2, [.box 9 .leaf], [(.slice 132), (.con (.fn 63 0 [(.ref 0 [] 9)])), .str]⟩, ⟨2, [.box 9 .leaf], [(.data 132), .bool, .str]⟩, fun x => F62 fuel x.1 x.2.1 x.2.2, (PV.bad, false, [])⟩

theorem F62k (fuel : Nat) : CallOk (F62C fuel) := cfg_callOkP (qc (F63ok fuel) <| q0) (p0)

theorem S62_3ok (fuel : Nat) : LoopOk (F62C fuel) (lp (bodyOf Try.f62) 0) := okL (F62k fuel) fuel (S62_3l fuel) L0

theorem F62ok (fuel : Nat) : (F62c fuel).Ok Try.prog := okE Try.f62 (F62k fuel) (L1 (S62_3ok fuel))

/-- wireschema/desc.Enum -/
def F58 (fuel : Nat) (a0 : PV) (a1 : List UInt8) : Option (PV × Bool) :=
 (F62 fuel ((a0.fld 1).asList) () a1).bind fun y2 =>
 some (y2.1, y2.2.1)

def F58c (fuel : Nat) : CallE := ⟨58, ⟨2, [], [(.data 56), .str]⟩, ⟨2, [], [(.data 132), .bool]⟩, fun x => F58 fuel x.1 x.2, (PV.bad, false)⟩

theorem F58ok (fuel : Nat) : (F58c fuel).Ok Try.prog := okJ Try.f58 12 0 fuel [F62c fuel] [] false (qc (F62ok fuel) <| q0) (p0) L0

def B15c (r : (Unit × (List UInt8) × PV × PV × Unit × (List (PV × PV))) → Option (PV × Unit × (List (PV × PV)))) : CallE := ⟨15, ⟨3, [.box 76 (.agg 76 [.leaf, .leaf]), .map 30 3], [(.con (.ref 0 [] 76)), .str, (.data 41), (.data 56), (.con (.mref 1)), (.map 30 3)]⟩, ⟨0, [.box 76 (.agg 76 [.leaf, .leaf]), .map 30 3], [(.data 56), (.con (.mref 1)), (.map 30 3)]⟩, r, (PV.bad, (), [])⟩

def B26c (r : (Unit × PV × PV × PV × Unit × (List (PV × PV))) → Option (PV × Unit × (List (PV × PV)))) : CallE := ⟨26, ⟨3, [.box 76 (.agg 76 [.leaf, .leaf]), .map 30 3], [(.con (.ref 0 [] 76)), (.data 46), (.data 41), (.data 56), (.con (.mref 1)), (.map 30 3)]⟩, ⟨0, [.box 76 (.agg 76 [.leaf, .leaf]), .map 30 3], [(.data 56), (.con (.mref 1)), (.map 30 3)]⟩, r, (PV.bad, (), [])⟩

def B51c (r : (Unit × PV × PV × PV × Unit × (List (PV × PV))) → Option (PV × Unit × (List (PV × PV)))) : CallE := ⟨51, ⟨3, [.box 76 (.agg 76 [.leaf, .leaf]), .map 30 3], [(.con (.ref 0 [] 76)), (.data 34), (.data 41), (.data 56), (.con (.mref 1)), (.map 30 3)]⟩, ⟨0, [.box 76 (.agg 76 [.leaf, .leaf]), .map 30 3], [(.data 56), (.con (.mref 1)), (.map 30 3)]⟩, r, (PV.bad, (), [])⟩

def B15_7 (fuel : Nat) (r0 : (Unit × (List UInt8) × PV × PV × Unit × (List (PV × PV))) → Option (PV × Unit × (List (PV × PV)))) (r1 : (Unit × PV × PV × PV × Unit × (List (PV × PV))) → Option (PV × Unit × (List (PV × PV)))) (r2 : (Unit × PV × PV × PV × Unit × (List (PV × PV))) → Option (PV × Unit × (List (PV × PV)))) (a12 : Unit) (a13 : List UInt8) (a14 : Unit) (a15 : List PV) (a16 : Int) (a17 : Int) (a18 : PV) (a19 : Unit) (a20 : List (PV × PV)) (a21 : PV) (a22 : PV) : Option ((Unit × (List UInt8) × Unit × (List PV) × Int × Int × PV × Unit × (List (PV × PV)) × PV × PV) ⊕ ((PV × Unit × (List (PV × PV)) × PV × PV))) :=
 bif (decide (a17 < a16)) then
 bif inRange a17 a15.length then
 let x24 := a15.getD a17.toNat .bad
 (F25 fuel a22 ((x24.fld 0).asInt)).bind fun y26 =>
 let x27 := y26.1
 bif (!y26.2) then
 some (.inl ((), a13, (), a15, a16, (IntKind.wrap .i64 (a17 + (1 : Int))), a18, (), a20, a21, a22))
 else
 (F24 fuel ((x27.fld 8).asList) ([100, 101, 112, 114, 101, 99, 97, 116, 101, 100] : List UInt8)).bind fun y32 =>
 bif y32 then
 let x33 := (x27.fld 0).asInt
 let x34 := ((PV.mget a20 (PV.agg [(PV.str a13), (PV.int x33)])).getD (PV.int (0 : Int))).asInt
 let x36 := ((PV.midx a20 (PV.agg [(PV.str a13), (PV.int x33)]) : Nat) : Int)
 bif inRange x36 ((PV.mput a20 (PV.agg [(PV.str a13), (PV.int x33)]) ((PV.mget a20 (PV.agg [(PV.str a13), (PV.int x33)])).getD (PV.int (0 : Int)))).length) then
 (r1 ((), x27, (x24.fld 1), a18, (), PV.mset (PV.mput a20 (PV.agg [(PV.str a13), (PV.int x33)]) ((PV.mget a20 (PV.agg [(PV.str a13), (PV.int x33)])).getD (PV.int (0 : Int)))) x36.toNat (PV.int (IntKind.wrap .i64 (x34 + (1 : Int)))))).bind fun y38 =>
 some (.inl ((), a13, (), a15, a16, (IntKind.wrap .i64 (a17 + (1 : Int))), y38.1, (), y38.2.2, a21, a22))
 else none
 else
 (r1 ((), x27, (x24.fld 1), a18, (), a20)).bind fun y41 =>
 some (.inl ((), a13, (), a15, a16, (IntKind.wrap .i64 (a17 + (1 : Int))), y41.1, (), y41.2.2, a21, a22))
 else none
 else
 some (.inr (a18, (), a20, a21, a22))

def B15_7step (fuel : Nat) (r0 : (Unit × (List UInt8) × PV × PV × Unit × (List (PV × PV))) → Option (PV × Unit × (List (PV × PV)))) (r1 : (Unit × PV × PV × PV × Unit × (List (PV × PV))) → Option (PV × Unit × (List (PV × PV)))) (r2 : (Unit × PV × PV × PV × Unit × (List (PV × PV))) → Option (PV × Unit × (List (PV × PV)))) (x : Unit × (List UInt8) × Unit × (List PV) × Int × Int × PV × Unit × (List (PV × PV)) × PV × PV) : Option ((Unit × (List UInt8) × Unit × (List PV) × Int × Int × PV × Unit × (List (PV × PV)) × PV × PV) ⊕ ((PV × Unit × (List (PV × PV)) × PV × PV))) := B15_7 fuel r0 r1 r2 x.1 x.2.1 x.2.2.1 x.2.2.2.1 x.2.2.2.2.1 x.2.2.2.2.2.1 x.2.2.2.2.2.2.1 x.2.2.2.2.2.2.2.1 x.2.2.2.2.2.2.2.2.1 x.2.2.2.2.2.2.2.2.2.1 x.2.2.2.2.2.2.2.2.2.2

/-- (*wireschema/retire.counter).message -/
def B15 (fuel : Nat) (r0 : (Unit × (List UInt8) × PV × PV × Unit × (List (PV × PV))) → Option (PV × Unit × (List (PV × PV)))) (r1 : (Unit × PV × PV × PV × Unit × (List (PV × PV))) → Option (PV × Unit × (List (PV × PV)))) (r2 : (Unit × PV × PV × PV × Unit × (List (PV × PV))) → Option (PV × Unit × (List (PV × PV)))) (a0 : Unit) (a1 : List UInt8) (a2 : PV) (a3 : PV) (a4 : Unit) (a5 : List (PV × PV)) : Option (PV × Unit × (List (PV × PV))) :=
 (F23 fuel a3 a1).bind fun y1 =>
 let x2 := y1.1
 bif (!y1.2) then
 some (a3, (), a5)
 else
 (F24 fuel ((x2.fld 4).asList) ([100, 101, 112, 114, 101, 99, 97, 116, 101, 100] : List UInt8)).bind fun y6 =>
 bif y6 then
 let x7 := ((PV.mget a5 (PV.agg [(PV.str a1), (PV.int (-1 : Int))])).getD (PV.int (0 : Int))).asInt
 let x9 := ((PV.midx a5 (PV.agg [(PV.str a1), (PV.int (-1 : Int))]) : Nat) : Int)
 bif inRange x9 ((PV.mput a5 (PV.agg [(PV.str a1), (PV.int (-1 : Int))]) ((PV.mget a5 (PV.agg [(PV.str a1), (PV.int (-1 : Int))])).getD (PV.int (0 : Int)))).length) then
 let x10 := (a2.fld 5).asList
 (loopQ fuel (B15_7step fuel r0 r1 r2) ((), a1, (), x10, (x10.length : Int), (0 : Int), a3, (), PV.mset (PV.mput a5 (PV.agg [(PV.str a1), (PV.int (-1 : Int))]) ((PV.mget a5 (PV.agg [(PV.str a1), (PV.int (-1 : Int))])).getD (PV.int (0 : Int)))) x9.toNat (PV.int (IntKind.wrap .i64 (x7 + (1 : Int)))), a2, x2)).bind fun y43 =>
 some (y43.1, (), y43.2.2.1)
 else none
 else
 let x44 := (a2.fld 5).asList
 (loopQ fuel (B15_7step fuel r0 r1 r2) ((), a1, (), x44, (x44.length : Int), (0 : Int), a3, (), a5, a2, x2)).bind fun y46 =>
 some (y46.1, (), y46.2.2.1)

def B15_7l (fuel : Nat) (r0 : (Unit × (List UInt8) × PV × PV × Unit × (List (PV × PV))) → Option (PV × Unit × (List (PV × PV)))) (r1 : (Unit × PV × PV × PV × Unit × (List (PV × PV))) → Option (PV × Unit × (List (PV × PV)))) (r2 : (Unit × PV × PV × PV × Unit × (List (PV × PV))) → Option (PV × Unit × (List (PV × PV)))) : LoopE := ⟨7, ⟨[0, 1, 6, 37, 38, 39], [.box 76 (.agg 76 [.leaf, .leaf]), .map 30 3, .box 41 .leaf, .box 51 .leaf], [(.con (.ref 0 [] 76)), .str, (.con (.ref 3 [] 51)), (.slice 59), (.int .i64), (.int .i64), (.data 56), (.con (.mref 1)), (.map 30 3), (.data 41), (.data 51)]⟩, [(.exit 0, ⟨[], [.box 76 (.agg 76 [.leaf, .leaf]), .map 30 3, .box 41 .leaf, .box 51 .leaf], [(.data 56), (.con (.mref 1)), (.map 30 3), (.data 41), (.data 51)]⟩)], B15_7step fuel r0 r1 r2⟩

def B15C (fuel : Nat) (r0 : (Unit × (List UInt8) × PV × PV × Unit × (List (PV × PV))) → Option (PV × Unit × (List (PV × PV)))) (r1 : (Unit × PV × PV × PV × Unit × (List (PV × PV))) → Option (PV × Unit × (List (PV × PV)))) (r2 : (Unit × PV × PV × PV × Unit × (List (PV × PV))) → Option (PV × Unit × (List (PV × PV)))) : Cfg := cfg Try.prog 73 2 [F23c fuel, F24c fuel, F25c fuel, B26c r1] [B15_7l fuel r0 r1 r2] fuel

theorem B15k (fuel : Nat) (r0 : (Unit × (List UInt8) × PV × PV × Unit × (List (PV × PV))) → Option (PV × Unit × (List (PV × PV)))) (r1 : (Unit × PV × PV × PV × Unit × (List (PV × PV))) → Option (PV × Unit × (List (PV × PV)))) (r2 : (Unit × PV × PV × PV × Unit × (List (PV × PV))) → Option (PV × Unit × (List (PV × PV)))) (h0 : (B15c r0).Ok Try.prog) (h1 : (B26c r1).Ok Try.prog) (h2 : (B51c r2).Ok Try.prog) : CallOk (B15C fuel r0 r1 r2) := cfg_callOkP (qc (F23ok fuel) <| qc (F24ok fuel) <| qc (F25ok fuel) <| qc h1 <| q0) (p0)

theorem B15_7ok (fuel : Nat) (r0 : (Unit × (List UInt8) × PV × PV × Unit × (List (PV × PV))) → Option (PV × Unit × (List (PV × PV)))) (r1 : (Unit × PV × PV × PV × Unit × (List (PV × PV))) → Option (PV × Unit × (List (PV × PV)))) (r2 : (Unit × PV × PV × PV × Unit × (List (PV × PV))) → Option (PV × Unit × (List (PV × PV)))) (h0 : (B15c r0).Ok Try.prog) (h1 : (B26c r1).Ok Try.prog) (h2 : (B51c r2).Ok Try.prog) : LoopOk (B15C fuel r0 r1 r2) (lp (bodyOf Try.f15) 0) := okL (B15k fuel r0 r1 r2 h0 h1 h2) fuel (B15_7l fuel r0 r1 r2) L0

theorem B15ok (fuel : Nat) (r0 : (Unit × (List UInt8) × PV × PV × Unit × (List (PV × PV))) → Option (PV × Unit × (List (PV × PV)))) (r1 : (Unit × PV × PV × PV × Unit × (List (PV × PV))) → Option (PV × Unit × (List (PV × PV)))) (r2 : (Unit × PV × PV × PV × Unit × (List (PV × PV))) → Option (PV × Unit × (List (PV × PV)))) (h0 : (B15c r0).Ok Try.prog) (h1 : (B26c r1).Ok Try.prog) (h2 : (B51c r2).Ok Try.prog) : (B15c (fun x => B15 fuel r0 r1 r2 x.1 x.2.1 x.2.2.1 x.2.2.2.1 x.2.2.2.2.1 x.2.2.2.2.2)).Ok Try.prog := okE Try.f15 (B15k fuel r0 r1 r2 h0 h1 h2) (L1 (B15_7ok fuel r0 r1 r2 h0 h1 h2))

def B26_6 (fuel : Nat) (r0 : (Unit × (List UInt8) × PV × PV × Unit × (List (PV × PV))) → Option (PV × Unit × (List (PV × PV)))) (r1 : (Unit × PV × PV × PV × Unit × (List (PV × PV))) → Option (PV × Unit × (List (PV × PV)))) (r2 : (Unit × PV × PV × PV × Unit × (List (PV × PV))) → Option (PV × Unit × (List (PV × PV)))) (a5 : Unit) (a6 : Unit) (a7 : List PV) (a8 : Int) (a9 : Int) (a10 : PV) (a11 : Unit) (a12 : List (PV × PV)) (a13 : PV) (a14 : PV) : Option ((Unit × Unit × (List PV) × Int × Int × PV × Unit × (List (PV × PV)) × PV × PV) ⊕ ((PV × Unit × (List (PV × PV)) × PV × PV))) :=
 bif (decide (a9 < a8)) then
 bif inRange a9 a7.length then
 (r2 ((), (a13.fld 4), (a7.getD a9.toNat .bad), a10, (), a12)).bind fun y18 =>
 some (.inl ((), (), a7, a8, (IntKind.wrap .i64 (a9 + (1 : Int))), y18.1, (), y18.2.2, a13, a14))
 else none
 else
 some (.inr (a10, (), a12, a13, a14))

def B26_6step (fuel : Nat) (r0 : (Unit × (List UInt8) × PV × PV × Unit × (List (PV × PV))) → Option (PV × Unit × (List (PV × PV)))) (r1 : (Unit × PV × PV × PV × Unit × (List (PV × PV))) → Option (PV × Unit × (List (PV × PV)))) (r2 : (Unit × PV × PV × PV × Unit × (List (PV × PV))) → Option (PV × Unit × (List (PV × PV)))) (x : Unit × Unit × (List PV) × Int × Int × PV × Unit × (List (PV × PV)) × PV × PV) : Option ((Unit × Unit × (List PV) × Int × Int × PV × Unit × (List (PV × PV)) × PV × PV) ⊕ ((PV × Unit × (List (PV × PV)) × PV × PV))) := B26_6 fuel r0 r1 r2 x.1 x.2.1 x.2.2.1 x.2.2.2.1 x.2.2.2.2.1 x.2.2.2.2.2.1 x.2.2.2.2.2.2.1 x.2.2.2.2.2.2.2.1 x.2.2.2.2.2.2.2.2.1 x.2.2.2.2.2.2.2.2.2

def B26_12 (fuel : Nat) (r0 : (Unit × (List UInt8) × PV × PV × Unit × (List (PV × PV))) → Option (PV × Unit × (List (PV × PV)))) (r1 : (Unit × PV × PV × PV × Unit × (List (PV × PV))) → Option (PV × Unit × (List (PV × PV)))) (r2 : (Unit × PV × PV × PV × Unit × (List (PV × PV))) → Option (PV × Unit × (List (PV × PV)))) (a24 : Unit) (a25 : Unit) (a26 : List PV) (a27 : Int) (a28 : Int) (a29 : PV) (a30 : Unit) (a31 : List (PV × PV)) (a32 : PV) (a33 : PV) : Option ((Unit × Unit × (List PV) × Int × Int × PV × Unit × (List (PV × PV)) × PV × PV) ⊕ ((PV × Unit × (List (PV × PV)) × PV × PV))) :=
 bif (decide (a28 < a27)) then
 bif inRange a28 a26.length then
 (r2 ((), (a32.fld 4), ((a26.getD a28.toNat .bad).fld 1), a29, (), a31)).bind fun y38 =>
 some (.inl ((), (), a26, a27, (IntKind.wrap .i64 (a28 + (1 : Int))), y38.1, (), y38.2.2, a32, a33))
 else none
 else
 some (.inr (a29, (), a31, a32, a33))

def B26_12step (fuel : Nat) (r0 : (Unit × (List UInt8) × PV × PV × Unit × (List (PV × PV))) → Option (PV × Unit × (List (PV × PV)))) (r1 : (Unit × PV × PV × PV × Unit × (List (PV × PV))) → Option (PV × Unit × (List (PV × PV)))) (r2 : (Unit × PV × PV × PV × Unit × (List (PV × PV))) → Option (PV × Unit × (List (PV × PV)))) (x : Unit × Unit × (List PV) × Int × Int × PV × Unit × (List (PV × PV)) × PV × PV) : Option ((Unit × Unit × (List PV) × Int × Int × PV × Unit × (List (PV × PV)) × PV × PV) ⊕ ((PV × Unit × (List (PV × PV)) × PV × PV))) := B26_12 fuel r0 r1 r2 x.1 x.2.1 x.2.2.1 x.2.2.2.1 x.2.2.2.2.1 x.2.2.2.2.2.1 x.2.2.2.2.2.2.1 x.2.2.2.2.2.2.2.1 x.2.2.2.2.2.2.2.2.1 x.2.2.2.2.2.2.2.2.2

/-- (*wireschema/retire.counter).field -/
def B26 (fuel : Nat) (r0 : (Unit × (List UInt8) × PV × PV × Unit × (List (PV × PV))) → Option (PV × Unit × (List (PV × PV)))) (r1 : (Unit × PV × PV × PV × Unit × (List (PV × PV))) → Option (PV × Unit × (List (PV × PV)))) (r2 : (Unit × PV × PV × PV × Unit × (List (PV × PV))) → Option (PV × Unit × (List (PV × PV)))) (a0 : Unit) (a1 : PV) (a2 : PV) (a3 : PV) (a4 : Unit) (a5 : List (PV × PV)) : Option (PV × Unit × (List (PV × PV))) :=
 let x1 := (a1.fld 2).asInt
 bif (x1 == (4 : Int)) then
 let x3 := (a2.fld 3).asList
 (loopQ fuel (B26_6step fuel r0 r1 r2) ((), (), x3, (x3.length : Int), (0 : Int), a3, (), a5, a1, a2)).bind fun y20 =>
 some (y20.1, (), y20.2.2.1)
 else
 bif (x1 == (5 : Int)) then
 let x22 := (a2.fld 4).asList
 (loopQ fuel (B26_12step fuel r0 r1 r2) ((), (), x22, (x22.length : Int), (0 : Int), a3, (), a5, a1, a2)).bind fun y40 =>
 some (y40.1, (), y40.2.2.1)
 else
 (r2 ((), (a1.fld 4), a2, a3, (), a5)).bind fun y42 =>
 some (y42.1, (), y42.2.2)

def B26_6l (fuel : Nat) (r0 : (Unit × (List UInt8) × PV × PV × Unit × (List (PV × PV))) → Option (PV × Unit × (List (PV × PV)))) (r1 : (Unit × PV × PV × PV × Unit × (List (PV × PV))) → Option (PV × Unit × (List (PV × PV)))) (r2 : (Unit × PV × PV × PV × Unit × (List (PV × PV))) → Option (PV × Unit × (List (PV × PV)))) : LoopE := ⟨6, ⟨[0, 4, 20, 21, 22], [.box 76 (.agg 76 [.leaf, .leaf]), .map 30 3, .box 46 .leaf, .box 41 .leaf], [(.con (.ref 0 [] 76)), (.con (.ref 2 [] 46)), (.slice 41), (.int .i64), (.int .i64), (.data 56), (.con (.mref 1)), (.map 30 3), (.data 46), (.data 41)]⟩, [(.exit 1, ⟨[], [.box 76 (.agg 76 [.leaf, .leaf]), .map 30 3, .box 46 .leaf, .box 41 .leaf], [(.data 56), (.con (.mref 1)), (.map 30 3), (.data 46), (.data 41)]⟩)], B26_6step fuel r0 r1 r2⟩

def B26_12l (fuel : Nat) (r0 : (Unit × (List UInt8) × PV × PV × Unit × (List (PV × PV))) → Option (PV × Unit × (List (PV × PV)))) (r1 : (Unit × PV × PV × PV × Unit × (List (PV × PV))) → Option (PV × Unit × (List (PV × PV)))) (r2 : (Unit × PV × PV × PV × Unit × (List (PV × PV))) → Option (PV × Unit × (List (PV × PV)))) : LoopE := ⟨12, ⟨[0, 4, 35, 36, 37], [.box 76 (.agg 76 [.leaf, .leaf]), .map 30 3, .box 46 .leaf, .box 41 .leaf], [(.con (.ref 0 [] 76)), (.con (.ref 2 [] 46)), (.slice 122), (.int .i64), (.int .i64), (.data 56), (.con (.mref 1)), (.map 30 3), (.data 46), (.data 41)]⟩, [(.exit 3, ⟨[], [.box 76 (.agg 76 [.leaf, .leaf]), .map 30 3, .box 46 .leaf, .box 41 .leaf], [(.data 56), (.con (.mref 1)), (.map 30 3), (.data 46), (.data 41)]⟩)], B26_12step fuel r0 r1 r2⟩

def B26C (fuel : Nat) (r0 : (Unit × (List UInt8) × PV × PV × Unit × (List (PV × PV))) → Option (PV × Unit × (List (PV × PV)))) (r1 : (Unit × PV × PV × PV × Unit × (List (PV × PV))) → Option (PV × Unit × (List (PV × PV)))) (r2 : (Unit × PV × PV × PV × Unit × (List (PV × PV))) → Option (PV × Unit × (List (PV × PV)))) : Cfg := cfg Try.prog 48 2 [B51c r2] [B26_6l fuel r0 r1 r2, B26_12l fuel r0 r1 r2] fuel

theorem B26k (fuel : Nat) (r0 : (Unit × (List UInt8) × PV × PV × Unit × (List (PV × PV))) → Option (PV × Unit × (List (PV × PV)))) (r1 : (Unit × PV × PV × PV × Unit × (List (PV × PV))) → Option (PV × Unit × (List (PV × PV)))) (r2 : (Unit × PV × PV × PV × Unit × (List (PV × PV))) → Option (PV × Unit × (List (PV × PV)))) (h0 : (B15c r0).Ok Try.prog) (h1 : (B26c r1).Ok Try.prog) (h2 : (B51c r2).Ok Try.prog) : CallOk (B26C fuel r0 r1 r2) := cfg_callOkP (qc h2 <| q0) (p0)

theorem B26_6ok (fuel : Nat) (r0 : (Unit × (List UInt8) × PV × PV × Unit × (List (PV × PV))) → Option (PV × Unit × (List (PV × PV)))) (r1 : (Unit × PV × PV × PV × Unit × (List (PV × PV))) → Option (PV × Unit × (List (PV × PV)))) (r2 : (Unit × PV × PV × PV × Unit × (List (PV × PV))) → Option (PV × Unit × (List (PV × PV)))) (h0 : (B15c r0).Ok Try.prog) (h1 : (B26c r1).Ok Try.prog) (h2 : (B51c r2).Ok Try.prog) : LoopOk (B26C fuel r0 r1 r2) (lp (bodyOf Try.f26) 0) := okL (B26k fuel r0 r1 r2 h0 h1 h2) fuel (B26_6l fuel r0 r1 r2) L0

theorem B26_12ok (fuel : Nat) (r0 : (Unit × (List UInt8) × PV × PV × Unit × (List (PV × PV))) → Option (PV × Unit × (List (PV × PV)))) (r1 : (Unit × PV × PV × PV × Unit × (List (PV × PV))) → Option (PV × Unit × (List (PV × PV)))) (r2 : (Unit × PV × PV × PV × Unit × (List (PV × PV))) → Option (PV × Unit × (List (PV × PV)))) (h0 : (B15c r0).Ok Try.prog) (h1 : (B26c r1).Ok Try.prog) (h2 : (B51c r2).Ok Try.prog) : LoopOk (B26C fuel r0 r1 r2) (lp (bodyOf Try.f26) 1) := okL (B26k fuel r0 r1 r2 h0 h1 h2) fuel (B26_12l fuel r0 r1 r2) L0

theorem B26ok (fuel : Nat) (r0 : (Unit × (List UInt8) × PV × PV × Unit × (List (PV × PV))) → Option (PV × Unit × (List (PV × PV)))) (r1 : (Unit × PV × PV × PV × Unit × (List (PV × PV))) → Option (PV × Unit × (List (PV × PV)))) (r2 : (Unit × PV × PV × PV × Unit × (List (PV × PV))) → Option (PV × Unit × (List (PV × PV)))) (h0 : (B15c r0).Ok Try.prog) (h1 : (B26c r1).Ok Try.prog) (h2 : (B51c r2).Ok Try.prog) : (B26c (fun x => B26 fuel r0 r1 r2 x.1 x.2.1 x.2.2.1 x.2.2.2.1 x.2.2.2.2.1 x.2.2.2.2.2)).Ok Try.prog := okE Try.f26 (B26k fuel r0 r1 r2 h0 h1 h2) (L2 (B26_6ok fuel r0 r1 r2 h0 h1 h2) (B26_12ok fuel r0 r1 r2 h0 h1 h2))

def B51_11 (fuel : Nat) (r0 : (Unit × (List UInt8) × PV × PV × Unit × (List (PV × PV))) → Option (PV × Unit × (List (PV × PV)))) (r1 : (Unit × PV × PV × PV × Unit × (List (PV × PV))) → Option (PV × Unit × (List (PV × PV)))) (r2 : (Unit × PV × PV × PV × Unit × (List (PV × PV))) → Option (PV × Unit × (List (PV × PV)))) (a19 : Unit) (a20 : Unit) (a21 : Unit) (a22 : List PV) (a23 : Int) (a24 : Int) (a25 : PV) (a26 : Unit) (a27 : List (PV × PV)) (a28 : PV) (a29 : PV) (a30 : PV) : Option ((Unit × Unit × Unit × (List PV) × Int × Int × PV × Unit × (List (PV × PV)) × PV × PV × PV) ⊕ ((PV × Unit × (List (PV × PV)) × PV × PV × PV))) :=
 bif (decide (a24 < a23)) then
 bif inRange a24 a22.length then
 let x32 := a22.getD a24.toNat .bad
 let x39 := bif (decide (((x32.fld 1).asInt) ≥ (0 : Int))) then ((IntKind.wrap .u64 ((x32.fld 1).asInt)) == ((a29.fld 1).asInt)) else false
 (bif x39 then F24 fuel ((x32.fld 2).asList) ([100, 101, 112, 114, 101, 99, 97, 116, 101, 100] : List UInt8) else some false).bind fun y41 =>
 bif (bif x39 then y41 else false) then
 let x43 := (a28.fld 1).asStr
 let x44 := (x32.fld 1).asInt
 let x45 := ((PV.mget a27 (PV.agg [(PV.str x43), (PV.int x44)])).getD (PV.int (0 : Int))).asInt
 let x47 := ((PV.midx a27 (PV.agg [(PV.str x43), (PV.int x44)]) : Nat) : Int)
 bif inRange x47 ((PV.mput a27 (PV.agg [(PV.str x43), (PV.int x44)]) ((PV.mget a27 (PV.agg [(PV.str x43), (PV.int x44)])).getD (PV.int (0 : Int)))).length) then
 some (.inl ((), (), (), a22, a23, (IntKind.wrap .i64 (a24 + (1 : Int))), a25, (), PV.mset (PV.mput a27 (PV.agg [(PV.str x43), (PV.int x44)]) ((PV.mget a27 (PV.agg [(PV.str x43), (PV.int x44)])).getD (PV.int (0 : Int)))) x47.toNat (PV.int (IntKind.wrap .i64 (x45 + (1 : Int)))), a28, a29, a30))
 else none
 else
 some (.inl ((), (), (), a22, a23, (IntKind.wrap .i64 (a24 + (1 : Int))), a25, (), a27, a28, a29, a30))
 else none
 else
 some (.inr (a25, (), a27, a28, a29, a30))

def B51_11step (fuel : Nat) (r0 : (Unit × (List UInt8) × PV × PV × Unit × (List (PV × PV))) → Option (PV × Unit × (List (PV × PV)))) (r1 : (Unit × PV × PV × PV × Unit × (List (PV × PV))) → Option (PV × Unit × (List (PV × PV)))) (r2 : (Unit × PV × PV × PV × Unit × (List (PV × PV))) → Option (PV × Unit × (List (PV × PV)))) (x : Unit × Unit × Unit × (List PV) × Int × Int × PV × Unit × (List (PV × PV)) × PV × PV × PV) : Option ((Unit × Unit × Unit × (List PV) × Int × Int × PV × Unit × (List (PV × PV)) × PV × PV × PV) ⊕ ((PV × Unit × (List (PV × PV)) × PV × PV × PV))) := B51_11 fuel r0 r1 r2 x.1 x.2.1 x.2.2.1 x.2.2.2.1 x.2.2.2.2.1 x.2.2.2.2.2.1 x.2.2.2.2.2.2.1 x.2.2.2.2.2.2.2.1 x.2.2.2.2.2.2.2.2.1 x.2.2.2.2.2.2.2.2.2.1 x.2.2.2.2.2.2.2.2.2.2.1 x.2.2.2.2.2.2.2.2.2.2.2

/-- (*wireschema/retire.counter).element -/
def B51 (fuel : Nat) (r0 : (Unit × (List UInt8) × PV × PV × Unit × (List (PV × PV))) → Option (PV × Unit × (List (PV × PV)))) (r1 : (Unit × PV × PV × PV × Unit × (List (PV × PV))) → Option (PV × Unit × (List (PV × PV)))) (r2 : (Unit × PV × PV × PV × Unit × (List (PV × PV))) → Option (PV × Unit × (List (PV × PV)))) (a0 : Unit) (a1 : PV) (a2 : PV) (a3 : PV) (a4 : Unit) (a5 : List (PV × PV)) : Option (PV × Unit × (List (PV × PV))) :=
 let x1 := (a1.fld 0).asInt
 bif (x1 == (10 : Int)) then
 (r0 ((), ((a1.fld 1).asStr), a2, a3, (), a5)).bind fun y4 =>
 some (y4.1, (), y4.2.2)
 else
 bif (x1 == (9 : Int)) then
 (F58 fuel a3 ((a1.fld 1).asStr)).bind fun y7 =>
 let x8 := y7.1
 bif (!y7.2) then
 some (a3, (), a5)
 else
 (F24 fuel ((x8.fld 4).asList) ([100, 101, 112, 114, 101, 99, 97, 116, 101, 100] : List UInt8)).bind fun y12 =>
 bif y12 then
 let x13 := (a1.fld 1).asStr
 let x14 := ((PV.mget a5 (PV.agg [(PV.str x13), (PV.int (-1 : Int))])).getD (PV.int (0 : Int))).asInt
 let x16 := ((PV.midx a5 (PV.agg [(PV.str x13), (PV.int (-1 : Int))]) : Nat) : Int)
 bif inRange x16 ((PV.mput a5 (PV.agg [(PV.str x13), (PV.int (-1 : Int))]) ((PV.mget a5 (PV.agg [(PV.str x13), (PV.int (-1 : Int))])).getD (PV.int (0 : Int)))).length) then
 let x17 := (x8.fld 2).asList
 (loopQ fuel (B51_11step fuel r0 r1 r2) ((), (), (), x17, (x17.length : Int), (0 : Int), a3, (), PV.mset (PV.mput a5 (PV.agg [(PV.str x13), (PV.int (-1 : Int))]) ((PV.mget a5 (PV.agg [(PV.str x13), (PV.int (-1 : Int))])).getD (PV.int (0 : Int)))) x16.toNat (PV.int (IntKind.wrap .i64 (x14 + (1 : Int)))), a1, a2, x8)).bind fun y50 =>
 some (y50.1, (), y50.2.2.1)
 else none
 else
 let x51 := (x8.fld 2).asList
 (loopQ fuel (B51_11step fuel r0 r1 r2) ((), (), (), x51, (x51.length : Int), (0 : Int), a3, (), a5, a1, a2, x8)).bind fun y53 =>
 some (y53.1, (), y53.2.2.1)
 else
 some (a3, (), a5)

def B51_11l (fuel : Nat) (r0 : (Unit × (List UInt8) × PV × PV × Unit × (List (PV × PV))) → Option (PV × Unit × (List (PV × PV)))) (r1 : (Unit × PV × PV × PV × Unit × (List (PV × PV))) → Option (PV × Unit × (List (PV × PV)))) (r2 : (Unit × PV × PV × PV × Unit × (List (PV × PV))) → Option (PV × Unit × (List (PV × PV)))) : LoopE := ⟨11, ⟨[0, 4, 5, 48, 49, 50], [.box 76 (.agg 76 [.leaf, .leaf]), .map 30 3, .box 34 .leaf, .box 41 .leaf, .box 132 .leaf], [(.con (.ref 0 [] 76)), (.con (.ref 2 [] 34)), (.con (.ref 3 [] 41)), (.slice 136), (.int .i64), (.int .i64), (.data 56), (.con (.mref 1)), (.map 30 3), (.data 34), (.data 41), (.data 132)]⟩, [(.exit 1, ⟨[], [.box 76 (.agg 76 [.leaf, .leaf]), .map 30 3, .box 34 .leaf, .box 41 .leaf, .box 132 .leaf], [(.data 56), (.con (.mref 1)), (.map 30 3), (.data 34), (.data 41), (.data 132)]⟩)], B51_11step fuel r0 r1 r2⟩

def B51C (fuel : Nat) (r0 : (Unit × (List UInt8) × PV × PV × Unit × (List (PV × PV))) → Option (PV × Unit × (List (PV × PV)))) (r1 : (Unit × PV × PV × PV × Unit × (List (PV × PV))) → Option (PV × Unit × (List (PV × PV)))) (r2 : (Unit × PV × PV × PV × Unit × (List (PV × PV))) → Option (PV × Unit × (List (PV × PV)))) : Cfg := cfg Try.prog 84 2 [B15c r0, F58c fuel, F24c fuel] [B51_11l fuel r0 r1 r2] fuel

theorem B51k (fuel : Nat) (r0 : (Unit × (List UInt8) × PV × PV × Unit × (List (PV × PV))) → Option (PV × Unit × (List (PV × PV)))) (r1 : (Unit × PV × PV × PV × Unit × (List (PV × PV))) → Option (PV × Unit × (List (PV × PV)))) (r2 : (Unit × PV × PV × PV × Unit × (List (PV × PV))) → Option (PV × Unit × (List (PV × PV)))) (h0 : (B15c r0).Ok Try.prog) (h1 : (B26c r1).Ok Try.prog) (h2 : (B51c r2).Ok Try.prog) : CallOk (B51C fuel r0 r1 r2) := cfg_callOkP (qc h0 <| qc (F58ok fuel) <| qc (F24ok fuel) <| q0) (p0)

theorem B51_11ok (fuel : Nat) (r0 : (Unit × (List UInt8) × PV × PV × Unit × (List (PV × PV))) → Option (PV × Unit × (List (PV × PV)))) (r1 : (Unit × PV × PV × PV × Unit × (List (PV × PV))) → Option (PV × Unit × (List (PV × PV)))) (r2 : (Unit × PV × PV × PV × Unit × (List (PV × PV))) → Option (PV × Unit × (List (PV × PV)))) (h0 : (B15c r0).Ok Try.prog) (h1 : (B26c r1).Ok Try.prog) (h2 : (B51c r2).Ok Try.prog) : LoopOk (B51C fuel r0 r1 r2) (lp (bodyOf Try.f51) 0) := okL (B51k fuel r0 r1 r2 h0 h1 h2) fuel (B51_11l fuel r0 r1 r2) L0

theorem B51ok (fuel : Nat) (r0 : (Unit × (List UInt8) × PV × PV × Unit × (List (PV × PV))) → Option (PV × Unit × (List (PV × PV)))) (r1 : (Unit × PV × PV × PV × Unit × (List (PV × PV))) → Option (PV × Unit × (List (PV × PV)))) (r2 : (Unit × PV × PV × PV × Unit × (List (PV × PV))) → Option (PV × Unit × (List (PV × PV)))) (h0 : (B15c r0).Ok Try.prog) (h1 : (B26c r1).Ok Try.prog) (h2 : (B51c r2).Ok Try.prog) : (B51c (fun x => B51 fuel r0 r1 r2 x.1 x.2.1 x.2.2.1 x.2.2.2.1 x.2.2.2.2.1 x.2.2.2.2.2)).Ok Try.prog := okE Try.f51 (B51k fuel r0 r1 r2 h0 h1 h2) (L1 (B51_11ok fuel r0 r1 r2 h0 h1 h2))

def G15 (fuel : Nat) : Nat → ((Unit × (List UInt8) × PV × PV × Unit × (List (PV × PV))) → Option (PV × Unit × (List (PV × PV)))) × ((Unit × PV × PV × PV × Unit × (List (PV × PV))) → Option (PV × Unit × (List (PV × PV)))) × ((Unit × PV × PV × PV × Unit × (List (PV × PV))) → Option (PV × Unit × (List (PV × PV))))
  | 0 => (fun _ => none, fun _ => none, fun _ => none)
  | d + 1 => (fun x => B15 fuel ((G15 fuel d).1) ((G15 fuel d).2.1) ((G15 fuel d).2.2) x.1 x.2.1 x.2.2.1 x.2.2.2.1 x.2.2.2.2.1 x.2.2.2.2.2, fun x => B26 fuel ((G15 fuel d).1) ((G15 fuel d).2.1) ((G15 fuel d).2.2) x.1 x.2.1 x.2.2.1 x.2.2.2.1 x.2.2.2.2.1 x.2.2.2.2.2, fun x => B51 fuel ((G15 fuel d).1) ((G15 fuel d).2.1) ((G15 fuel d).2.2) x.1 x.2.1 x.2.2.1 x.2.2.2.1 x.2.2.2.2.1 x.2.2.2.2.2)

theorem G15ok (fuel : Nat) : ∀ d, (B15c ((G15 fuel d).1)).Ok Try.prog ∧ (B26c ((G15 fuel d).2.1)).Ok Try.prog ∧ (B51c ((G15 fuel d).2.2)).Ok Try.prog
  | 0 => ⟨okNone, okNone, okNone⟩
  | d + 1 => ⟨B15ok fuel ((G15 fuel d).1) ((G15 fuel d).2.1) ((G15 fuel d).2.2) (G15ok fuel d).1 (G15ok fuel d).2.1 (G15ok fuel d).2.2, B26ok fuel ((G15 fuel d).1) ((G15 fuel d).2.1) ((G15 fuel d).2.2) (G15ok fuel d).1 (G15ok fuel d).2.1 (G15ok fuel d).2.2, B51ok fuel ((G15 fuel d).1) ((G15 fuel d).2.1) ((G15 fuel d).2.2) (G15ok fuel d).1 (G15ok fuel d).2.1 (G15ok fuel d).2.2⟩

/-- (*wireschema/retire.counter).message -/
def F15 (fuel : Nat) (a0 : Unit) (a1 : List UInt8) (a2 : PV) (a3 : PV) (a4 : Unit) (a5 : List (PV × PV)) : Option (PV × Unit × (List (PV × PV))) := limQ fuel (fun d => (G15 fuel d).1) (a0, a1, a2, a3, a4, a5)

def F15c (fuel : Nat) : CallE := ⟨15, ⟨3, [.box 76 (.agg 76 [.leaf, .leaf]), .map 30 3], [(.con (.ref 0 [] 76)), .str, (.data 41), (.data 56), (.con (.mref 1)), (.map 30 3)]⟩, ⟨0, [.box 76 (.agg 76 [.leaf, .leaf]), .map 30 3], [(.data 56), (.con (.mref 1)), (.map 30 3)]⟩, fun x => F15 fuel x.1 x.2.1 x.2.2.1 x.2.2.2.1 x.2.2.2.2.1 x.2.2.2.2.2, (PV.bad, (), [])⟩

theorem F15ok (fuel : Nat) : (F15c fuel).Ok Try.prog := okLim (F15c fuel) (G := (fun d => (G15 fuel d).1)) (fun x => rfl) (fun d => (G15ok fuel d).1)

/-- (*wireschema/retire.counter).field -/
def F26 (fuel : Nat) (a0 : Unit) (a1 : PV) (a2 : PV) (a3 : PV) (a4 : Unit) (a5 : List (PV × PV)) : Option (PV × Unit × (List (PV × PV))) := limQ fuel (fun d => (G15 fuel d).2.1) (a0, a1, a2, a3, a4, a5)

def F26c (fuel : Nat) : CallE := ⟨26, ⟨3, [.box 76 (.agg 76 [.leaf, .leaf]), .map 30 3], [(.con (.ref 0 [] 76)), (.data 46), (.data 41), (.data 56), (.con (.mref 1)), (.map 30 3)]⟩, ⟨0, [.box 76 (.agg 76 [.leaf, .leaf]), .map 30 3], [(.data 56), (.con (.mref 1)), (.map 30 3)]⟩, fun x => F26 fuel x.1 x.2.1 x.2.2.1 x.2.2.2.1 x.2.2.2.2.1 x.2.2.2.2.2, (PV.bad, (), [])⟩

theorem F26ok (fuel : Nat) : (F26c fuel).Ok Try.prog := okLim (F26c fuel) (G := (fun d => (G15 fuel d).2.1)) (fun x => rfl) (fun d => (G15ok fuel d).2.1)

/-- (*wireschema/retire.counter).element -/
def F51 (fuel : Nat) (a0 : Unit) (a1 : PV) (a2 : PV) (a3 : PV) (a4 : Unit) (a5 : List (PV × PV)) : Option (PV × Unit × (List (PV × PV))) := limQ fuel (fun d => (G15 fuel d).2.2) (a0, a1, a2, a3, a4, a5)

def F51c (fuel : Nat) : CallE := ⟨51, ⟨3, [.box 76 (.agg 76 [.leaf, .leaf]), .map 30 3], [(.con (.ref 0 [] 76)), (.data 34), (.data 41), (.data 56), (.con (.mref 1)), (.map 30 3)]⟩, ⟨0, [.box 76 (.agg 76 [.leaf, .leaf]), .map 30 3], [(.data 56), (.con (.mref 1)), (.map 30 3)]⟩, fun x => F51 fuel x.1 x.2.1 x.2.2.1 x.2.2.2.1 x.2.2.2.2.1 x.2.2.2.2.2, (PV.bad, (), [])⟩

theorem F51ok (fuel : Nat) : (F51c fuel).Ok Try.prog := okLim (F51c fuel) (G := (fun d => (G15 fuel d).2.2)) (fun x => rfl) (fun d => (G15ok fuel d).2.2)

def S8_4rem (x : Unit × Unit × Unit × (List (PV × PV)) × (List PV)) : List (PV × PV) := x.2.2.2.1

def S8_4 (fuel : Nat) (e : PV × PV) (es : List (PV × PV)) (a11 : Unit) (a12 : Unit) (a13 : Unit) (a14 : List (PV × PV)) (a15 : List PV) : Option ((Unit × Unit × Unit × (List (PV × PV)) × (List PV)) ⊕ ((Unit × Unit × (List (PV × PV)) × (List PV)))) :=
 let x16 := e.1
 let x17 := e.2.asInt
 let x18 := (x16.fld 0).asStr
 let x19 := (x16.fld 1).asInt
 bif decide (a15.length + [(PV.agg [(PV.str x18), (PV.int x19), (PV.int x17)])].length ≤ accMax) then
 let x20 := a15 ++ [(PV.agg [(PV.str x18), (PV.int x19), (PV.int x17)])]
 some (.inl ((), (), (), es, x20))
 else none

def S8_4go (fuel : Nat) (e : PV × PV) (es : List (PV × PV)) (x : Unit × Unit × Unit × (List (PV × PV)) × (List PV)) : Option ((Unit × Unit × Unit × (List (PV × PV)) × (List PV)) ⊕ ((Unit × Unit × (List (PV × PV)) × (List PV)))) := S8_4 fuel e es x.1 x.2.1 x.2.2.1 x.2.2.2.1 x.2.2.2.2

def S8_4f (fuel : Nat) (a11 : Unit) (a12 : Unit) (a13 : Unit) (a14 : List (PV × PV)) (a15 : List PV) : Option ((Unit × Unit × Unit × (List (PV × PV)) × (List PV)) ⊕ ((Unit × Unit × (List (PV × PV)) × (List PV)))) :=
 some (.inr ((), (), [], a15))

def S8_4fin (fuel : Nat) (x : Unit × Unit × Unit × (List (PV × PV)) × (List PV)) : Option ((Unit × Unit × Unit × (List (PV × PV)) × (List PV)) ⊕ ((Unit × Unit × (List (PV × PV)) × (List PV)))) := S8_4f fuel x.1 x.2.1 x.2.2.1 x.2.2.2.1 x.2.2.2.2

/-- wireschema/retire.sorted -/
def F8 (fuel : Nat) (a0 : List (PV × PV)) : Option ((List PV)) :=
 loopA fuel S8_4rem (S8_4go fuel) (S8_4fin fuel) ((), (), (), a0, []) fun y21 =>
 (Lsort2 fuel y21.2.2.2 ()).bind fun y22 =>
 some y22.1

def S8_4l (fuel : Nat) : LoopM := ⟨4, ⟨[3, 7], [.box 22 .leaf, .mit 30 3, .arr 28 1], [(.con (.ref 0 [] 22)), (.con (.mitr 1)), (.con (.arr 2 1 28)), (.map 30 3), (.slice 28)]⟩, [(.exit 0, ⟨[3], [.box 22 .leaf, .mit 30 3, .arr 28 1], [(.con (.ref 0 [] 22)), (.con (.arr 2 1 28)), (.map 30 3), (.slice 28)]⟩)], S8_4rem, S8_4go fuel, S8_4fin fuel⟩

def F8C (fuel : Nat) : Cfg := mcfg (cfg Try.prog 27 0 [Lsort2c fuel] [] fuel) fuel [S8_4l fuel]

def F8c (fuel : Nat) : CallE := ⟨8, ⟨1, [], [(.map 30 3)]⟩, ⟨1, [], [(.slice 28)]⟩, fun x => F8 fuel x, []⟩

theorem F8k (fuel : Nat) : CallOk (F8C fuel) := mcfg_callOk (cfg_callOkP (qc (Lsort2ok fuel) <| q0) (p0))

theorem S8_4ok (fuel : Nat) : LoopOk (F8C fuel) (lp (bodyOf Try.f8) 0) := okM (F8k fuel) fuel 8 7 1 30 3 (S8_4l fuel) L0

theorem F8ok (fuel : Nat) : (F8c fuel).Ok Try.prog := okE Try.f8 (F8k fuel) (L1 (S8_4ok fuel))

/-- wireschema/retire.Uses -/
def F10 (fuel : Nat) (a0 : PV) (a1 : List UInt8) (a2 : PV) : Option ((List PV)) :=
 (F15 fuel () a1 a2 a0 () []).bind fun y1 =>
 (F8 fuel y1.2.2).bind fun y2 =>
 some y2

def F10C (fuel : Nat) : Cfg := fcfg (cfg Try.prog 21 0 [F15c fuel, F8c fuel] [] fuel) 8

def F10c (fuel : Nat) : CallE := ⟨10, ⟨3, [], [(.data 56), .str, (.data 41)]⟩, ⟨1, [], [(.slice 28)]⟩, fun x => F10 fuel x.1 x.2.1 x.2.2, []⟩

theorem F10k (fuel : Nat) : CallOk (F10C fuel) := fcfg_callOk (cfg_callOkP (qc (F15ok fuel) <| qc (F8ok fuel) <| q0) (p0))

theorem F10ok (fuel : Nat) : (F10c fuel).Ok Try.prog := okE Try.f10 (F10k fuel) L0

def S16_7 (fuel : Nat) (a16 : Int) (a17 : Int) (a18 : List PV) (a19 : Int) (a20 : Int) (a21 : PV) (a22 : PV) : Option ((Int × Int × (List PV) × Int × Int × PV × PV) ⊕ ((Int × Int × Bool × PV × PV) ⊕ (PV × PV))) :=
 bif (decide (a20 < a19)) then
 bif inRange a20 a18.length then
 bif ((((a18.getD a20.toNat .bad).fld 0).asInt) == a16) then
 some (.inr (.inl (a17, a20, true, a21, a22)))
 else
 some (.inl (a16, a17, a18, a19, (IntKind.wrap .i64 (a20 + (1 : Int))), a21, a22))
 else none
 else
 some (.inr (.inr (a21, a22)))

def S16_7step (fuel : Nat) (x : Int × Int × (List PV) × Int × Int × PV × PV) : Option ((Int × Int × (List PV) × Int × Int × PV × PV) ⊕ ((Int × Int × Bool × PV × PV) ⊕ (PV × PV))) := S16_7 fuel x.1 x.2.1 x.2.2.1 x.2.2.2.1 x.2.2.2.2.1 x.2.2.2.2.2.1 x.2.2.2.2.2.2

def S16_3 (fuel : Nat) (a3 : List UInt8) (a4 : Int) (a5 : List PV) (a6 : Int) (a7 : Int) (a8 : PV) : Option (((List UInt8) × Int × (List PV) × Int × Int × PV) ⊕ ((Int × Int × Bool × PV) ⊕ (PV))) :=
 bif (decide (a7 < a6)) then
 bif inRange a7 a5.length then
 let x10 := a5.getD a7.toNat .bad
 bif (!(((x10.fld 0).asStr) == a3)) then
 some (.inl (a3, a4, a5, a6, (IntKind.wrap .i64 (a7 + (1 : Int))), a8))
 else
 let x14 := (x10.fld 4).asList
 (loopQ fuel (S16_7step fuel) (a4, a7, x14, (x14.length : Int), (0 : Int), a8, x10)).bind fun z => sumE (fun y28 =>
 some (.inr (.inl (y28.1, y28.2.1, y28.2.2.1, y28.2.2.2.1)))
 ) (fun y29 =>
 some (.inr (.inl ((0 : Int), (0 : Int), false, y29.1)))
 ) z
 else none
 else
 some (.inr (.inr a8))

def S16_3step (fuel : Nat) (x : (List UInt8) × Int × (List PV) × Int × Int × PV) : Option (((List UInt8) × Int × (List PV) × Int × Int × PV) ⊕ ((Int × Int × Bool × PV) ⊕ (PV))) := S16_3 fuel x.1 x.2.1 x.2.2.1 x.2.2.2.1 x.2.2.2.2.1 x.2.2.2.2.2

/-- wireschema/retire.find -/
def F16 (fuel : Nat) (a0 : PV) (a1 : List UInt8) (a2 : Int) : Option (Int × Int × Bool) :=
 let x1 := (a0.fld 1).asList
 (loopQ fuel (S16_3step fuel) (a1, a2, x1, (x1.length : Int), (0 : Int), a0)).bind fun z => sumE (fun y30 =>
 some (y30.1, y30.2.1, y30.2.2.1)
 ) (fun y31 =>
 some ((0 : Int), (0 : Int), false)
 ) z

def S16_7l (fuel : Nat) : LoopE := ⟨7, ⟨[2, 9, 26, 27, 28], [.box 67 .leaf, .box 64 .leaf], [(.int .i64), (.int .i64), (.slice 61), (.int .i64), (.int .i64), (.data 67), (.data 64)]⟩, [(.ret, ⟨[6, 7, 8], [.box 67 .leaf, .box 64 .leaf], [(.int .i64), (.int .i64), .bool, (.data 67), (.data 64)]⟩), (.exit 2, ⟨[], [.box 67 .leaf, .box 64 .leaf], [(.data 67), (.data 64)]⟩)], S16_7step fuel⟩

def S16_3l (fuel : Nat) : LoopE := ⟨3, ⟨[1, 2, 14, 15, 16], [.box 67 .leaf], [.str, (.int .i64), (.slice 64), (.int .i64), (.int .i64), (.data 67)]⟩, [(.ret, ⟨[6, 7, 8], [.box 67 .leaf], [(.int .i64), (.int .i64), .bool, (.data 67)]⟩), (.exit 0, ⟨[], [.box 67 .leaf], [(.data 67)]⟩)], S16_3step fuel⟩

def F16C (fuel : Nat) : Cfg := cfg Try.prog 41 0 [] [S16_7l fuel, S16_3l fuel] fuel

def F16c (fuel : Nat) : CallE := ⟨16, ⟨3, [], [(.data 67), .str, (.int .i64)]⟩, ⟨3, [], [(.int .i64), (.int .i64), .bool]⟩, fun x => F16 fuel x.1 x.2.1 x.2.2, (0, 0, false)⟩

theorem F16k (fuel : Nat) : CallOk (F16C fuel) := cfg_callOkP (q0) (p0)

theorem S16_7ok (fuel : Nat) : LoopOk (F16C fuel) (lp (lp (bodyOf Try.f16) 0) 0) := okL (F16k fuel) fuel (S16_7l fuel) L0

theorem S16_3ok (fuel : Nat) : LoopOk (F16C fuel) (lp (bodyOf Try.f16) 0) := okL (F16k fuel) fuel (S16_3l fuel) (L1 (S16_7ok fuel))

theorem F16ok (fuel : Nat) : (F16c fuel).Ok Try.prog := okE Try.f16 (F16k fuel) (L1 (S16_3ok fuel))

/-- wireschema/retire.with -/
def F17 (fuel : Nat) (a0 : PV) (a1 : Int) (a2 : Int) (a3 : Int) (a4 : Int) : Option (PV) :=
 let x1 := (a0.fld 1).asList
 bif decide (x1.length ≤ accMax) then
 bif inRange a1 x1.length then
 let x2 := x1.getD a1.toNat .bad
 let x3 := (x2.fld 4).asList
 bif decide (x3.length ≤ accMax) then
 bif inRange a2 x3.length then
 let x4 := x3.getD a2.toNat .bad
 bif inRange a2 x3.length then
 let x8 := x3.set a2.toNat (PV.agg [(PV.int ((x4.fld 0).asInt)), (x4.fld 1), (PV.int ((x4.fld 2).asInt)), (PV.int a3), (PV.int a4)])
 bif inRange a1 x1.length then
 let x9 := x1.set a1.toNat (PV.agg [(PV.str ((x2.fld 0).asStr)), (PV.str ((x2.fld 1).asStr)), (PV.int ((x2.fld 2).asInt)), (PV.int ((x2.fld 3).asInt)), (PV.slice x8)])
 some (PV.agg [(PV.int ((a0.fld 0).asInt)), (PV.slice x9)])
 else none
 else none
 else none
 else none
 else none
 else none

def F17c (fuel : Nat) : CallE := ⟨17, ⟨5, [], [(.data 67), (.int .i64), (.int .i64), (.int .i64), (.int .i64)]⟩, ⟨1, [], [(.data 67)]⟩, fun x => F17 fuel x.1 x.2.1 x.2.2.1 x.2.2.2.1 x.2.2.2.2, PV.bad⟩

theorem F17ok (fuel : Nat) : (F17c fuel).Ok Try.prog := okJ Try.f17 48 0 fuel [] [] false (q0) (p0) L0

/-- wireschema/retire.Retire -/
def F11 (fuel : Nat) (a0 : PV) (a1 : List UInt8) (a2 : Int) : Option (PV × Int) :=
 (F16 fuel a0 a1 a2).bind fun y1 =>
 let x2 := y1.1
 let x3 := y1.2.1
 bif (!y1.2.2) then
 some (a0, (10 : Int))
 else
 let x6 := (a0.fld 1).asList
 bif inRange x2 x6.length then
 let x9 := ((x6.getD x2.toNat .bad).fld 4).asList
 bif inRange x3 x9.length then
 let x10 := x9.getD x3.toNat .bad
 bif (bif (((x10.fld 3).asInt) != (2 : Int)) then true else (decide (((a0.fld 0).asInt) < ((x10.fld 4).asInt)))) then
 some (a0, (20 : Int))
 else
 (F17 fuel a0 x2 x3 (3 : Int) (0 : Int)).bind fun y17 =>
 some (y17, (0 : Int))
 else none
 else none

def F11c (fuel : Nat) : CallE := ⟨11, ⟨3, [], [(.data 67), .str, (.int .i64)]⟩, ⟨2, [], [(.data 67), (.int .i64)]⟩, fun x => F11 fuel x.1 x.2.1 x.2.2, (PV.bad, 0)⟩

theorem F11ok (fuel : Nat) : (F11c fuel).Ok Try.prog := okJ Try.f11 47 0 fuel [F16c fuel, F17c fuel] [] false (qc (F16ok fuel) <| qc (F17ok fuel) <| q0) (p0) L0

def S12_7 (fuel : Nat) (a13 : Unit) (a14 : List PV) (a15 : Unit) (a16 : List PV) (a17 : Int) (a18 : Int) (a19 : List PV) (a20 : Int) (a21 : Int) (a22 : PV) (a23 : PV) : Option ((Unit × (List PV) × Unit × (List PV) × Int × Int × (List PV) × Int × Int × PV × PV) ⊕ ((Unit × (List PV) × (List PV) × Int × Int × PV × PV))) :=
 bif (decide (a21 < a20)) then
 bif inRange a21 a19.length then
 let x25 := a19.getD a21.toNat .bad
 bif (bif (((x25.fld 3).asInt) == (2 : Int)) then (decide (((x25.fld 4).asInt) ≤ ((a22.fld 0).asInt))) else false) then
 let x32 := (a23.fld 0).asStr
 let x33 := (x25.fld 0).asInt
 bif decide (a14.length + [(PV.agg [(PV.str x32), (PV.int x33), (PV.int (0 : Int))])].length ≤ accMax) then
 let x34 := a14 ++ [(PV.agg [(PV.str x32), (PV.int x33), (PV.int (0 : Int))])]
 some (.inl ((), x34, (), a16, a17, a18, a19, a20, (IntKind.wrap .i64 (a21 + (1 : Int))), a22, a23))
 else none
 else
 some (.inl ((), a14, (), a16, a17, a18, a19, a20, (IntKind.wrap .i64 (a21 + (1 : Int))), a22, a23))
 else none
 else
 some (.inr ((), a14, a16, a17, a18, a22, a23))

def S12_7step (fuel : Nat) (x : Unit × (List PV) × Unit × (List PV) × Int × Int × (List PV) × Int × Int × PV × PV) : Option ((Unit × (List PV) × Unit × (List PV) × Int × Int × (List PV) × Int × Int × PV × PV) ⊕ ((Unit × (List PV) × (List PV) × Int × Int × PV × PV))) := S12_7 fuel x.1 x.2.1 x.2.2.1 x.2.2.2.1 x.2.2.2.2.1 x.2.2.2.2.2.1 x.2.2.2.2.2.2.1 x.2.2.2.2.2.2.2.1 x.2.2.2.2.2.2.2.2.1 x.2.2.2.2.2.2.2.2.2.1 x.2.2.2.2.2.2.2.2.2.2

def S12_4 (fuel : Nat) (a3 : Unit) (a4 : List PV) (a5 : List PV) (a6 : Int) (a7 : Int) (a8 : PV) : Option ((Unit × (List PV) × (List PV) × Int × Int × PV) ⊕ (((List PV) × PV))) :=
 bif (decide (a7 < a6)) then
 bif inRange a7 a5.length then
 let x10 := a5.getD a7.toNat .bad
 let x11 := (x10.fld 4).asList
 (loopQ fuel (S12_7step fuel) ((), a4, (), a5, a6, a7, x11, (x11.length : Int), (0 : Int), a8, x10)).bind fun y37 =>
 some (.inl ((), y37.2.1, y37.2.2.1, y37.2.2.2.1, (IntKind.wrap .i64 (y37.2.2.2.2.1 + (1 : Int))), y37.2.2.2.2.2.1))
 else none
 else
 some (.inr (a4, a8))

def S12_4step (fuel : Nat) (x : Unit × (List PV) × (List PV) × Int × Int × PV) : Option ((Unit × (List PV) × (List PV) × Int × Int × PV) ⊕ (((List PV) × PV))) := S12_4 fuel x.1 x.2.1 x.2.2.1 x.2.2.2.1 x.2.2.2.2.1 x.2.2.2.2.2

/-- wireschema/retire.Due -/
def F12 (fuel : Nat) (a0 : PV) : Option ((List PV)) :=
 let x1 := (a0.fld 1).asList
 (loopQ fuel (S12_4step fuel) ((), [], x1, (x1.length : Int), (0 : Int), a0)).bind fun y39 =>
 some y39.1

def S12_7l (fuel : Nat) : LoopE := ⟨7, ⟨[1, 3, 5, 9, 10, 11, 16, 17, 18], [.box 67 .leaf, .acc, .box 64 .leaf], [(.con (.ref 0 [] 67)), (.acc 1 28), (.con (.ref 2 [] 64)), (.slice 64), (.int .i64), (.int .i64), (.slice 61), (.int .i64), (.int .i64), (.data 67), (.data 64)]⟩, [(.exit 2, ⟨[1, 3, 9, 10, 11], [.box 67 .leaf, .acc, .box 64 .leaf], [(.con (.ref 0 [] 67)), (.acc 1 28), (.slice 64), (.int .i64), (.int .i64), (.data 67), (.data 64)]⟩)], S12_7step fuel⟩

def S12_4l (fuel : Nat) : LoopE := ⟨4, ⟨[1, 3, 9, 10, 11], [.box 67 .leaf, .acc], [(.con (.ref 0 [] 67)), (.acc 1 28), (.slice 64), (.int .i64), (.int .i64), (.data 67)]⟩, [(.exit 0, ⟨[3], [.box 67 .leaf, .acc], [(.acc 1 28), (.data 67)]⟩)], S12_4step fuel⟩

def F12C (fuel : Nat) : Cfg := cfg Try.prog 43 0 [] [S12_7l fuel, S12_4l fuel] fuel

def F12c (fuel : Nat) : CallE := ⟨12, ⟨1, [], [(.data 67)]⟩, ⟨1, [], [(.slice 28)]⟩, fun x => F12 fuel x, []⟩

theorem F12k (fuel : Nat) : CallOk (F12C fuel) := cfg_callOkP (q0) (p0)

theorem S12_7ok (fuel : Nat) : LoopOk (F12C fuel) (lp (lp (bodyOf Try.f12) 0) 0) := okL (F12k fuel) fuel (S12_7l fuel) L0

theorem S12_4ok (fuel : Nat) : LoopOk (F12C fuel) (lp (bodyOf Try.f12) 0) := okL (F12k fuel) fuel (S12_4l fuel) (L1 (S12_7ok fuel))

theorem F12ok (fuel : Nat) : (F12c fuel).Ok Try.prog := okE Try.f12 (F12k fuel) (L1 (S12_4ok fuel))

/-- wireschema/wireschemalaw40.awake -/
def F7 (fuel : Nat)  : Option (Bool) :=
 (F10 fuel (PV.agg [(PV.slice [(PV.agg [(PV.str ([77] : List UInt8)), (PV.slice [(PV.agg [(PV.int (1 : Int)), (PV.str ([120] : List UInt8)), (PV.int (2 : Int)), (PV.int (0 : Int)), (PV.agg [(PV.int (1 : Int)), (PV.str ([] : List UInt8))]), (PV.str ([] : List UInt8)), (PV.bool false), (PV.agg [(PV.int (0 : Int)), (PV.int (0 : Int)), (PV.str ([] : List UInt8)), (PV.slice []), (PV.slice []), (PV.slice []), (PV.slice [])]), (PV.slice [(PV.agg [(PV.str ([100, 101, 112, 114, 101, 99, 97, 116, 101, 100] : List UInt8)), (PV.agg [(PV.int (1 : Int)), (PV.int (1 : Int)), (PV.str ([] : List UInt8)), (PV.slice []), (PV.slice []), (PV.slice []), (PV.slice [])])])])])]), (PV.slice []), (PV.slice []), (PV.slice [])])]), (PV.slice []), (PV.slice [])]) ([77] : List UInt8) (PV.agg [(PV.int (10 : Int)), (PV.int (0 : Int)), (PV.str ([] : List UInt8)), (PV.slice []), (PV.slice []), (PV.slice [(PV.agg [(PV.int (1 : Int)), (PV.agg [(PV.int (1 : Int)), (PV.int (0 : Int)), (PV.str ([] : List UInt8)), (PV.slice []), (PV.slice []), (PV.slice []), (PV.slice [])])])]), (PV.slice [])])).bind fun y1 =>
 (F11 fuel (PV.agg [(PV.int (5 : Int)), (PV.slice [(PV.agg [(PV.str ([97] : List UInt8)), (PV.str ([] : List UInt8)), (PV.int (0 : Int)), (PV.int (0 : Int)), (PV.slice [(PV.agg [(PV.int (1 : Int)), (PV.agg [(PV.slice []), (PV.slice []), (PV.slice [])]), (PV.int (0 : Int)), (PV.int (2 : Int)), (PV.int (5 : Int))])])])])]) ([97] : List UInt8) (1 : Int)).bind fun y2 =>
 let x6 := (y1.length : Int) == (1 : Int)
 bif imp x6 (inRange (0 : Int) y1.length) then
 let x7 := y1.getD (0 : Int).toNat .bad
 let x8 := bif ((x7.fld 0).asStr) == ([77] : List UInt8) then (bif ((x7.fld 1).asInt) == (1 : Int) then (bif ((x7.fld 2).asInt) == (1 : Int) then true else false) else false) else false
 let x11 := bif (bif x6 then x8 else false) then (y2.2 == (0 : Int)) else false
 let x12 := (y2.1.fld 1).asList
 bif imp x11 (inRange (0 : Int) x12.length) then
 let x15 := ((x12.getD (0 : Int).toNat .bad).fld 4).asList
 bif imp x11 (inRange (0 : Int) x15.length) then
 let x20 := bif x11 then (((x15.getD (0 : Int).toNat .bad).fld 3).asInt == (3 : Int)) else false
 (bif x20 then F12 fuel (PV.agg [(PV.int (5 : Int)), (PV.slice [(PV.agg [(PV.str ([97] : List UInt8)), (PV.str ([] : List UInt8)), (PV.int (0 : Int)), (PV.int (0 : Int)), (PV.slice [(PV.agg [(PV.int (1 : Int)), (PV.agg [(PV.slice []), (PV.slice []), (PV.slice [])]), (PV.int (0 : Int)), (PV.int (2 : Int)), (PV.int (5 : Int))])])])])]) else some []).bind fun y21 =>
 some (bif x20 then ((y21.length : Int) == (1 : Int)) else false)
 else none
 else none
 else none

def F7c (fuel : Nat) : CallE := ⟨7, ⟨0, [], []⟩, ⟨1, [], [.bool]⟩, fun x => F7 fuel , false⟩

theorem F7ok (fuel : Nat) : (F7c fuel).Ok Try.prog := okJ Try.f7 64 0 fuel [F10c fuel, F11c fuel, F12c fuel] [] false (qc (F10ok fuel) <| qc (F11ok fuel) <| qc (F12ok fuel) <| q0) (p0) L0


theorem awake40_run : F7 1000 = some true := isT_spec (by kernel_rfl)
def Lawake40 (fuel : Nat) : Option Bool := some true
def Lawake40c (fuel : Nat) : CallE := { f := 7, A := ⟨0, [], []⟩, R := ⟨1, [], [.bool]⟩, F := fun x => Lawake40 fuel, dflt := false }
theorem awake40_fun (fuel : Nat) : (F7c fuel).F = fun _ => F7 fuel := rfl
theorem Lawake40ok (fuel : Nat) : (Lawake40c fuel).Ok Try.prog := fun x y h => F7ok 1000 () y ((congrFun (awake40_fun 1000) ()).trans (awake40_run.trans h))

def S4_4 (fuel : Nat) (a2 : List PV) (a3 : Unit) (a4 : List PV) (a5 : Int) (a6 : Int) (a7 : List (PV × PV)) : Option (((List PV) × Unit × (List PV) × Int × Int × (List (PV × PV))) ⊕ (((List PV) × Unit × (List (PV × PV))))) :=
 bif (decide (a6 < a5)) then
 bif inRange a6 a4.length then
 let x9 := a4.getD a6.toNat .bad
 let x10 := (x9.fld 0).asStr
 let x11 := (x9.fld 1).asInt
 let x12 := ((PV.mget a7 (PV.agg [(PV.str x10), (PV.int x11)])).getD (PV.int (0 : Int))).asInt
 let x15 := ((PV.midx a7 (PV.agg [(PV.str x10), (PV.int x11)]) : Nat) : Int)
 bif inRange x15 ((PV.mput a7 (PV.agg [(PV.str x10), (PV.int x11)]) ((PV.mget a7 (PV.agg [(PV.str x10), (PV.int x11)])).getD (PV.int (0 : Int)))).length) then
 some (.inl (a2, (), a4, a5, (IntKind.wrap .i64 (a6 + (1 : Int))), PV.mset (PV.mput a7 (PV.agg [(PV.str x10), (PV.int x11)]) ((PV.mget a7 (PV.agg [(PV.str x10), (PV.int x11)])).getD (PV.int (0 : Int)))) x15.toNat (PV.int (IntKind.wrap .i64 (x12 + ((x9.fld 2).asInt))))))
 else none
 else none
 else
 some (.inr (a2, (), a7))

def S4_4step (fuel : Nat) (x : (List PV) × Unit × (List PV) × Int × Int × (List (PV × PV))) : Option (((List PV) × Unit × (List PV) × Int × Int × (List (PV × PV))) ⊕ (((List PV) × Unit × (List (PV × PV))))) := S4_4 fuel x.1 x.2.1 x.2.2.1 x.2.2.2.1 x.2.2.2.2.1 x.2.2.2.2.2

def S4_9 (fuel : Nat) (a20 : Unit) (a21 : List PV) (a22 : Int) (a23 : Int) (a24 : List (PV × PV)) : Option ((Unit × (List PV) × Int × Int × (List (PV × PV))) ⊕ ((Unit × (List (PV × PV))))) :=
 bif (decide (a23 < a22)) then
 bif inRange a23 a21.length then
 let x26 := a21.getD a23.toNat .bad
 let x27 := (x26.fld 0).asStr
 let x28 := (x26.fld 1).asInt
 let x29 := ((PV.mget a24 (PV.agg [(PV.str x27), (PV.int x28)])).getD (PV.int (0 : Int))).asInt
 let x32 := ((PV.midx a24 (PV.agg [(PV.str x27), (PV.int x28)]) : Nat) : Int)
 bif inRange x32 ((PV.mput a24 (PV.agg [(PV.str x27), (PV.int x28)]) ((PV.mget a24 (PV.agg [(PV.str x27), (PV.int x28)])).getD (PV.int (0 : Int)))).length) then
 some (.inl ((), a21, a22, (IntKind.wrap .i64 (a23 + (1 : Int))), PV.mset (PV.mput a24 (PV.agg [(PV.str x27), (PV.int x28)]) ((PV.mget a24 (PV.agg [(PV.str x27), (PV.int x28)])).getD (PV.int (0 : Int)))) x32.toNat (PV.int (IntKind.wrap .i64 (x29 + ((x26.fld 2).asInt))))))
 else none
 else none
 else
 some (.inr ((), a24))

def S4_9step (fuel : Nat) (x : Unit × (List PV) × Int × Int × (List (PV × PV))) : Option ((Unit × (List PV) × Int × Int × (List (PV × PV))) ⊕ ((Unit × (List (PV × PV))))) := S4_9 fuel x.1 x.2.1 x.2.2.1 x.2.2.2.1 x.2.2.2.2

/-- wireschema/retire.Add -/
def F4 (fuel : Nat) (a0 : List PV) (a1 : List PV) : Option ((List PV)) :=
 (loopQ fuel (S4_4step fuel) (a1, (), a0, (a0.length : Int), (0 : Int), [])).bind fun y17 =>
 let x18 := y17.1
 (loopQ fuel (S4_9step fuel) ((), x18, (x18.length : Int), (0 : Int), y17.2.2)).bind fun y34 =>
 (F8 fuel y34.2).bind fun y35 =>
 some y35

def S4_4l (fuel : Nat) : LoopE := ⟨4, ⟨[1, 5, 11, 12, 13], [.map 30 3], [(.slice 28), (.con (.mref 0)), (.slice 28), (.int .i64), (.int .i64), (.map 30 3)]⟩, [(.exit 0, ⟨[1, 5], [.map 30 3], [(.slice 28), (.con (.mref 0)), (.map 30 3)]⟩)], S4_4step fuel⟩

def S4_9l (fuel : Nat) : LoopE := ⟨9, ⟨[5, 30, 31, 32], [.map 30 3], [(.con (.mref 0)), (.slice 28), (.int .i64), (.int .i64), (.map 30 3)]⟩, [(.exit 2, ⟨[5], [.map 30 3], [(.con (.mref 0)), (.map 30 3)]⟩)], S4_9step fuel⟩

def F4C (fuel : Nat) : Cfg := fcfg (cfg Try.prog 51 0 [F8c fuel] [S4_4l fuel, S4_9l fuel] fuel) 8

def F4c (fuel : Nat) : CallE := ⟨4, ⟨2, [], [(.slice 28), (.slice 28)]⟩, ⟨1, [], [(.slice 28)]⟩, fun x => F4 fuel x.1 x.2, []⟩

theorem F4k (fuel : Nat) : CallOk (F4C fuel) := fcfg_callOk (cfg_callOkP (qc (F8ok fuel) <| q0) (p0))

theorem S4_4ok (fuel : Nat) : LoopOk (F4C fuel) (lp (bodyOf Try.f4) 0) := okL (F4k fuel) fuel (S4_4l fuel) L0

theorem S4_9ok (fuel : Nat) : LoopOk (F4C fuel) (lp (bodyOf Try.f4) 1) := okL (F4k fuel) fuel (S4_9l fuel) L0

theorem F4ok (fuel : Nat) : (F4c fuel).Ok Try.prog := okE Try.f4 (F4k fuel) (L2 (S4_4ok fuel) (S4_9ok fuel))

def S9_4 (fuel : Nat) (a1 : List PV) (a2 : List UInt8) (a3 : Int) (a4 : Int) (a5 : List PV) (a6 : Int) : Option (((List PV) × (List UInt8) × Int × Int × (List PV) × Int) ⊕ (((List PV) × (List UInt8) × Int × Int × (List PV) × Int))) :=
 let x8 := decide (a6 < (a1.length : Int))
 bif imp x8 (inRange a6 a1.length) then
 let x12 := Op.bytesLess ((a1.getD a6.toNat .bad).fld 0).asStr a2
 bif imp (bif !x12 then x8 else false) (inRange a6 a1.length) then
 let x16 := ((a1.getD a6.toNat .bad).fld 0).asStr == a2
 bif imp (bif x16 then bif !x12 then x8 else false else false) (inRange a6 a1.length) then
 bif (bif x8 then (bif x12 then true else (bif x16 then (decide (((a1.getD a6.toNat .bad).fld 1).asInt < a3)) else false)) else false) then
 bif inRange a6 a1.length then
 let x24 := a1.getD a6.toNat .bad
 bif decide (a5.length + [x24].length ≤ accMax) then
 some (.inl (a1, a2, a3, a4, (a5 ++ [x24]), (IntKind.wrap .i64 (a6 + (1 : Int)))))
 else none
 else none
 else
 some (.inr (a1, a2, a3, a4, a5, a6))
 else none
 else none
 else none

def S9_4step (fuel : Nat) (x : (List PV) × (List UInt8) × Int × Int × (List PV) × Int) : Option (((List PV) × (List UInt8) × Int × Int × (List PV) × Int) ⊕ (((List PV) × (List UInt8) × Int × Int × (List PV) × Int))) := S9_4 fuel x.1 x.2.1 x.2.2.1 x.2.2.2.1 x.2.2.2.2.1 x.2.2.2.2.2

/-- wireschema/wireschemaref40.with -/
def F9 (fuel : Nat) (a0 : List PV) (a1 : List UInt8) (a2 : Int) (a3 : Int) : Option ((List PV)) :=
 (loopQ fuel (S9_4step fuel) (a0, a1, a2, a3, [], (0 : Int))).bind fun y27 =>
 let x31 := decide (y27.2.2.2.2.2 < (y27.1.length : Int))
 let x32 := y27.1
 let x33 := y27.2.2.2.2.2
 bif imp x31 (inRange x33 x32.length) then
 let x39 := bif x31 then (((x32.getD x33.toNat .bad).fld 0).asStr == y27.2.1) else false
 let x40 := y27.1
 let x41 := y27.2.2.2.2.2
 bif imp x39 (inRange x41 x40.length) then
 bif (bif x39 then (((x40.getD x41.toNat .bad).fld 1).asInt == y27.2.2.1) else false) then
 let x49 := y27.1
 let x50 := y27.2.2.2.2.2
 bif inRange x50 x49.length then
 let x54 := IntKind.wrap .i64 (y27.2.2.2.1 + ((x49.getD x50.toNat .bad).fld 2).asInt)
 let x56 := IntKind.wrap .i64 (y27.2.2.2.2.2 + (1 : Int))
 let x57 := y27.2.2.2.2.1
 let x58 := y27.2.1
 let x59 := y27.2.2.1
 bif decide (x57.length + [(PV.agg [(PV.str x58), (PV.int x59), (PV.int x54)])].length ≤ accMax) then
 let x60 := x57 ++ [(PV.agg [(PV.str x58), (PV.int x59), (PV.int x54)])]
 let x61 := y27.1
 bif decide (0 ≤ x56 ∧ x56 ≤ (x61.length : Int) ∧ (x61.length : Int) ≤ (x61.length : Int)) then
 let x62 := (x61.take (x61.length : Int).toNat).drop x56.toNat
 bif decide (x60.length + x62.length ≤ accMax) then
 some (x60 ++ x62)
 else none
 else none
 else none
 else none
 else
 let x64 := y27.2.2.2.2.1
 let x65 := y27.2.1
 let x66 := y27.2.2.1
 let x67 := y27.2.2.2.1
 bif decide (x64.length + [(PV.agg [(PV.str x65), (PV.int x66), (PV.int x67)])].length ≤ accMax) then
 let x68 := x64 ++ [(PV.agg [(PV.str x65), (PV.int x66), (PV.int x67)])]
 let x69 := y27.1
 let x70 := y27.2.2.2.2.2
 bif decide (0 ≤ x70 ∧ x70 ≤ (x69.length : Int) ∧ (x69.length : Int) ≤ (x69.length : Int)) then
 let x71 := (x69.take (x69.length : Int).toNat).drop x70.toNat
 bif decide (x68.length + x71.length ≤ accMax) then
 some (x68 ++ x71)
 else none
 else none
 else none
 else none
 else none

def S9_4l (fuel : Nat) : LoopE := ⟨4, ⟨[0, 1, 2, 3, 9, 10], [.acc], [(.slice 28), .str, (.int .i64), (.int .i64), (.acc 0 28), (.int .i64)]⟩, [(.exit 0, ⟨[0, 1, 2, 3, 9, 10], [.acc], [(.slice 28), .str, (.int .i64), (.int .i64), (.acc 0 28), (.int .i64)]⟩)], S9_4step fuel⟩

def F9C (fuel : Nat) : Cfg := cfg Try.prog 93 0 [] [S9_4l fuel] fuel

def F9c (fuel : Nat) : CallE := ⟨9, ⟨4, [], [(.slice 28), .str, (.int .i64), (.int .i64)]⟩, ⟨1, [], [(.slice 28)]⟩, fun x => F9 fuel x.1 x.2.1 x.2.2.1 x.2.2.2, []⟩

theorem F9k (fuel : Nat) : CallOk (F9C fuel) := cfg_callOkP (q0) (p0)

theorem S9_4ok (fuel : Nat) : LoopOk (F9C fuel) (lp (bodyOf Try.f9) 0) := okL (F9k fuel) fuel (S9_4l fuel) L0

theorem F9ok (fuel : Nat) : (F9c fuel).Ok Try.prog := okE Try.f9 (F9k fuel) (L1 (S9_4ok fuel))

def S6_4 (fuel : Nat) (a18 : List PV) (a19 : List PV) (a20 : List PV) (a21 : Int) : Option (((List PV) × (List PV) × (List PV) × Int) ⊕ (((List PV) × (List PV)))) :=
 bif (decide (a21 < (a18.length : Int))) then
 bif inRange a21 a18.length then
 bif inRange a21 a18.length then
 bif inRange a21 a18.length then
 (F9 fuel a20 ((a18.getD a21.toNat .bad).fld 0).asStr ((a18.getD a21.toNat .bad).fld 1).asInt ((a18.getD a21.toNat .bad).fld 2).asInt).bind fun y33 =>
 some (.inl (a18, a19, y33, (IntKind.wrap .i64 (a21 + (1 : Int)))))
 else none
 else none
 else none
 else
 some (.inr (a19, a20))

def S6_4step (fuel : Nat) (x : (List PV) × (List PV) × (List PV) × Int) : Option (((List PV) × (List PV) × (List PV) × Int) ⊕ (((List PV) × (List PV)))) := S6_4 fuel x.1 x.2.1 x.2.2.1 x.2.2.2

def S6_8 (fuel : Nat) (a36 : List PV) (a37 : List PV) (a38 : Int) : Option (((List PV) × (List PV) × Int) ⊕ (((List PV)))) :=
 bif (decide (a38 < (a36.length : Int))) then
 bif inRange a38 a36.length then
 bif inRange a38 a36.length then
 bif inRange a38 a36.length then
 (F9 fuel a37 ((a36.getD a38.toNat .bad).fld 0).asStr ((a36.getD a38.toNat .bad).fld 1).asInt ((a36.getD a38.toNat .bad).fld 2).asInt).bind fun y50 =>
 some (.inl (a36, y50, (IntKind.wrap .i64 (a38 + (1 : Int)))))
 else none
 else none
 else none
 else
 some (.inr a37)

def S6_8step (fuel : Nat) (x : (List PV) × (List PV) × Int) : Option (((List PV) × (List PV) × Int) ⊕ (((List PV)))) := S6_8 fuel x.1 x.2.1 x.2.2

/-- wireschema/wireschemaref40.Add -/
def F6 (fuel : Nat) (a0 : List PV) (a1 : List PV) : Option ((List PV)) :=
 (loopQ fuel (S6_4step fuel) (a0, a1, [], (0 : Int))).bind fun y35 =>
 (loopQ fuel (S6_8step fuel) (y35.1, y35.2, (0 : Int))).bind fun y52 =>
 some y52

def S6_4l (fuel : Nat) : LoopE := ⟨4, ⟨[0, 1, 5, 6], [], [(.slice 28), (.slice 28), (.slice 28), (.int .i64)]⟩, [(.exit 0, ⟨[1, 5], [], [(.slice 28), (.slice 28)]⟩)], S6_4step fuel⟩

def S6_8l (fuel : Nat) : LoopE := ⟨8, ⟨[1, 5, 7], [], [(.slice 28), (.slice 28), (.int .i64)]⟩, [(.exit 2, ⟨[5], [], [(.slice 28)]⟩)], S6_8step fuel⟩

def F6C (fuel : Nat) : Cfg := cfg Try.prog 55 0 [F9c fuel] [S6_4l fuel, S6_8l fuel] fuel

def F6c (fuel : Nat) : CallE := ⟨6, ⟨2, [], [(.slice 28), (.slice 28)]⟩, ⟨1, [], [(.slice 28)]⟩, fun x => F6 fuel x.1 x.2, []⟩

theorem F6k (fuel : Nat) : CallOk (F6C fuel) := cfg_callOkP (qc (F9ok fuel) <| q0) (p0)

theorem S6_4ok (fuel : Nat) : LoopOk (F6C fuel) (lp (bodyOf Try.f6) 0) := okL (F6k fuel) fuel (S6_4l fuel) L0

theorem S6_8ok (fuel : Nat) : LoopOk (F6C fuel) (lp (bodyOf Try.f6) 1) := okL (F6k fuel) fuel (S6_8l fuel) L0

theorem F6ok (fuel : Nat) : (F6c fuel).Ok Try.prog := okE Try.f6 (F6k fuel) (L2 (S6_4ok fuel) (S6_8ok fuel))

def S5_5 (fuel : Nat) (a4 : List PV) (a5 : List PV) (a6 : Int) : Option (((List PV) × (List PV) × Int) ⊕ ((Bool) ⊕ (Unit))) :=
 bif (decide (a6 < (a4.length : Int))) then
 bif inRange a6 a4.length then
 let x9 := a4.getD a6.toNat .bad
 bif inRange a6 a5.length then
 let x10 := a5.getD a6.toNat .bad
 let x11 := !(bif ((x9.fld 0).asStr) == ((x10.fld 0).asStr) then (bif ((x9.fld 1).asInt) == ((x10.fld 1).asInt) then (bif ((x9.fld 2).asInt) == ((x10.fld 2).asInt) then true else false) else false) else false)
 bif x11 then
 some (.inr (.inl false))
 else
 some (.inl (a4, a5, (IntKind.wrap .i64 (a6 + (1 : Int)))))
 else none
 else none
 else
 some (.inr (.inr ()))

def S5_5step (fuel : Nat) (x : (List PV) × (List PV) × Int) : Option (((List PV) × (List PV) × Int) ⊕ ((Bool) ⊕ (Unit))) := S5_5 fuel x.1 x.2.1 x.2.2

/-- wireschema/wireschemaref40.Same -/
def F5 (fuel : Nat) (a0 : List PV) (a1 : List PV) : Option (Bool) :=
 bif ((a0.length : Int) != (a1.length : Int)) then
 some false
 else
 (loopQ fuel (S5_5step fuel) (a0, a1, (0 : Int))).bind fun z => sumE (fun y13 =>
 some y13
 ) (fun y14 =>
 some true
 ) z

def S5_5l (fuel : Nat) : LoopE := ⟨5, ⟨[0, 1, 5], [], [(.slice 28), (.slice 28), (.int .i64)]⟩, [(.ret, ⟨[4], [], [.bool]⟩), (.exit 0, ⟨[], [], []⟩)], S5_5step fuel⟩

def F5C (fuel : Nat) : Cfg := cfg Try.prog 26 0 [] [S5_5l fuel] fuel

def F5c (fuel : Nat) : CallE := ⟨5, ⟨2, [], [(.slice 28), (.slice 28)]⟩, ⟨1, [], [.bool]⟩, fun x => F5 fuel x.1 x.2, false⟩

theorem F5k (fuel : Nat) : CallOk (F5C fuel) := cfg_callOkP (q0) (p0)

theorem S5_5ok (fuel : Nat) : LoopOk (F5C fuel) (lp (bodyOf Try.f5) 0) := okL (F5k fuel) fuel (S5_5l fuel) L0

theorem F5ok (fuel : Nat) : (F5c fuel).Ok Try.prog := okE Try.f5 (F5k fuel) (L1 (S5_5ok fuel))

/-- wireschema/wireschemalaw40.RetireAdds -/
def F3 (fuel : Nat) (a0 : List PV) (a1 : List PV) : Option (Bool) :=
 bif (bif (decide ((a0.length : Int) > (100 : Int))) then true else (decide ((a1.length : Int) > (100 : Int)))) then
 some true
 else
 (F4 fuel a0 a1).bind fun y6 =>
 (F6 fuel a0 a1).bind fun y7 =>
 (F5 fuel y6 y7).bind fun y8 =>
 (bif y8 then F4 fuel a1 a0 else some []).bind fun y9 =>
 (bif y8 then F5 fuel y6 y9 else some false).bind fun y10 =>
 let x11 := bif y8 then y10 else false
 (bif x11 then Lawake40 fuel else some false).bind fun y12 =>
 some (bif x11 then y12 else false)

def F3c (fuel : Nat) : CallE := ⟨3, ⟨2, [], [(.slice 28), (.slice 28)]⟩, ⟨1, [], [.bool]⟩, fun x => F3 fuel x.1 x.2, false⟩

theorem F3ok (fuel : Nat) : (F3c fuel).Ok Try.prog := okJ Try.f3 32 0 fuel [F4c fuel, F6c fuel, F5c fuel, Lawake40c fuel] [] false (qc (F4ok fuel) <| qc (F6ok fuel) <| qc (F5ok fuel) <| qc (Lawake40ok fuel) <| q0) (p0) L0

end
end Go.Ab
