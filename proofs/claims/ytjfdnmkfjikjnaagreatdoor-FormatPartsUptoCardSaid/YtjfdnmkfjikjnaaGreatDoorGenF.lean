/- A part of the proof: lemmas on how the program runs over plain data. -/
import Derived.Test.YtjfdnmkfjikjnaaGreatDoorGenFa
import Derived.KernelRfl
set_option linter.unusedVariables false
set_option linter.unusedSimpArgs false
set_option linter.unnecessarySimpa false
namespace Go.Ab
open Go Go.Proofs
set_option maxRecDepth 100000
noncomputable section

def S39_4 (fuel : Nat) (a16 : Unit) (a17 : Bool) (a18 : Int) (a19 : PV) : Option ((Unit × Bool × Int × PV) ⊕ ((Unit × Bool × PV))) :=
 bif (decide (a18 < (((a19.fld 3).asList).length : Int))) then
 let x23 := (a19.fld 3).asList
 bif imp a17 (inRange a18 x23.length) then
 let x29 := bif a17 then (decide ((((x23.getD a18.toNat .bad).fld 1).asList.length : Int) ≤ (64 : Int))) else false
 let x30 := (a19.fld 3).asList
 bif imp x29 (inRange a18 x30.length) then
 let x36 := bif x29 then (decide ((((x30.getD a18.toNat .bad).fld 2).asList.length : Int) ≤ (16 : Int))) else false
 let x37 := (a19.fld 3).asList
 bif imp x36 (inRange a18 x37.length) then
 some (.inl ((), (bif x36 then (decide ((((x37.getD a18.toNat .bad).fld 3).asList.length : Int) ≤ (16 : Int))) else false), (IntKind.wrap .i64 (a18 + (1 : Int))), a19))
 else none
 else none
 else none
 else
 some (.inr ((), a17, a19))

def S39_4step (fuel : Nat) (x : Unit × Bool × Int × PV) : Option ((Unit × Bool × Int × PV) ⊕ ((Unit × Bool × PV))) := S39_4 fuel x.1 x.2.1 x.2.2.1 x.2.2.2

def S39_8 (fuel : Nat) (a46 : Unit) (a47 : Bool) (a48 : Int) (a49 : PV) : Option ((Unit × Bool × Int × PV) ⊕ ((Unit × Bool × PV))) :=
 bif (decide (a48 < (((a49.fld 4).asList).length : Int))) then
 let x53 := (a49.fld 4).asList
 bif imp a47 (inRange a48 x53.length) then
 let x59 := bif a47 then (decide ((((x53.getD a48.toNat .bad).fld 2).asList.length : Int) ≤ (64 : Int))) else false
 let x60 := (a49.fld 4).asList
 bif imp x59 (inRange a48 x60.length) then
 some (.inl ((), (bif x59 then (decide ((((x60.getD a48.toNat .bad).fld 3).asList.length : Int) ≤ (16 : Int))) else false), (IntKind.wrap .i64 (a48 + (1 : Int))), a49))
 else none
 else none
 else
 some (.inr ((), a47, a49))

def S39_8step (fuel : Nat) (x : Unit × Bool × Int × PV) : Option ((Unit × Bool × Int × PV) ⊕ ((Unit × Bool × PV))) := S39_8 fuel x.1 x.2.1 x.2.2.1 x.2.2.2

def S39_12 (fuel : Nat) (a69 : Unit) (a70 : Bool) (a71 : Int) (a72 : PV) : Option ((Unit × Bool × Int × PV) ⊕ ((Bool × PV))) :=
 bif (decide (a71 < (((a72.fld 5).asList).length : Int))) then
 let x76 := (a72.fld 5).asList
 bif imp a70 (inRange a71 x76.length) then
 some (.inl ((), (bif a70 then (decide ((((x76.getD a71.toNat .bad).fld 1).asList.length : Int) ≤ (64 : Int))) else false), (IntKind.wrap .i64 (a71 + (1 : Int))), a72))
 else none
 else
 some (.inr (a70, a72))

def S39_12step (fuel : Nat) (x : Unit × Bool × Int × PV) : Option ((Unit × Bool × Int × PV) ⊕ ((Bool × PV))) := S39_12 fuel x.1 x.2.1 x.2.2.1 x.2.2.2

/-- wireschema/wireschemaref10.counts -/
def F39 (fuel : Nat) (a0 : PV) : Option (Bool) :=
 (loopQ fuel (S39_4step fuel) ((), (bif (bif (bif (decide ((((a0.fld 2).asList).length : Int) ≤ (16 : Int))) then (decide ((((a0.fld 3).asList).length : Int) ≤ (64 : Int))) else false) then (decide ((((a0.fld 4).asList).length : Int) ≤ (64 : Int))) else false) then (decide ((((a0.fld 5).asList).length : Int) ≤ (64 : Int))) else false), (0 : Int), a0)).bind fun y45 =>
 (loopQ fuel (S39_8step fuel) ((), y45.2.1, (0 : Int), y45.2.2)).bind fun y68 =>
 (loopQ fuel (S39_12step fuel) ((), y68.2.1, (0 : Int), y68.2.2)).bind fun y84 =>
 some y84.1

def S39_4l (fuel : Nat) : LoopE := ⟨4, ⟨[1, 3, 4], [.box 27 .leaf], [(.con (.ref 0 [] 27)), .bool, (.int .i64), (.data 27)]⟩, [(.exit 0, ⟨[1, 3], [.box 27 .leaf], [(.con (.ref 0 [] 27)), .bool, (.data 27)]⟩)], S39_4step fuel⟩

def S39_8l (fuel : Nat) : LoopE := ⟨8, ⟨[1, 3, 5], [.box 27 .leaf], [(.con (.ref 0 [] 27)), .bool, (.int .i64), (.data 27)]⟩, [(.exit 2, ⟨[1, 3], [.box 27 .leaf], [(.con (.ref 0 [] 27)), .bool, (.data 27)]⟩)], S39_8step fuel⟩

def S39_12l (fuel : Nat) : LoopE := ⟨12, ⟨[1, 3, 6], [.box 27 .leaf], [(.con (.ref 0 [] 27)), .bool, (.int .i64), (.data 27)]⟩, [(.exit 4, ⟨[3], [.box 27 .leaf], [.bool, (.data 27)]⟩)], S39_12step fuel⟩

def F39C (fuel : Nat) : Cfg := cfg Tryz.prog 114 0 [] [S39_4l fuel, S39_8l fuel, S39_12l fuel] fuel

def F39c (fuel : Nat) : CallE := ⟨39, ⟨1, [], [(.data 27)]⟩, ⟨1, [], [.bool]⟩, fun x => F39 fuel x, false⟩

theorem F39k (fuel : Nat) : CallOk (F39C fuel) := cfg_callOk (q0)

theorem S39_4ok (fuel : Nat) : LoopOk (F39C fuel) (lp (bodyOf Tryz.f39) 0) := okL (F39k fuel) fuel (S39_4l fuel) L0

theorem S39_8ok (fuel : Nat) : LoopOk (F39C fuel) (lp (bodyOf Tryz.f39) 1) := okL (F39k fuel) fuel (S39_8l fuel) L0

theorem S39_12ok (fuel : Nat) : LoopOk (F39C fuel) (lp (bodyOf Tryz.f39) 2) := okL (F39k fuel) fuel (S39_12l fuel) L0

theorem F39ok (fuel : Nat) : (F39c fuel).Ok Tryz.prog := okE Tryz.f39 (F39k fuel) (L3 (S39_4ok fuel) (S39_8ok fuel) (S39_12ok fuel))

/-- wireschema/wireschemaref03.pair -/
def F145 (fuel : Nat) (a0 : Int) : Option ((List UInt8)) :=
 let x1 := IntKind.wrap .u8 (a0.tdiv (16 : Int))
 let x3 := IntKind.wrap .u8 ((IntKind.wrap .u8 (a0.tdiv (16 : Int))) + (1 : Int))
 bif decide (0 ≤ x1 ∧ x1 ≤ x3 ∧ x3 ≤ (([48, 49, 50, 51, 52, 53, 54, 55, 56, 57, 97, 98, 99, 100, 101, 102] : List UInt8).length : Int)) then
 let x4 := (([48, 49, 50, 51, 52, 53, 54, 55, 56, 57, 97, 98, 99, 100, 101, 102] : List UInt8).take x3.toNat).drop x1.toNat
 let x5 := a0.tmod (16 : Int)
 let x7 := IntKind.wrap .u8 ((a0.tmod (16 : Int)) + (1 : Int))
 bif decide (0 ≤ x5 ∧ x5 ≤ x7 ∧ x7 ≤ (([48, 49, 50, 51, 52, 53, 54, 55, 56, 57, 97, 98, 99, 100, 101, 102] : List UInt8).length : Int)) then
 let x8 := (([48, 49, 50, 51, 52, 53, 54, 55, 56, 57, 97, 98, 99, 100, 101, 102] : List UInt8).take x7.toNat).drop x5.toNat
 bif decide (x4.length + x8.length ≤ strMax) then
 some (x4 ++ x8)
 else none
 else none
 else none

def F145c (fuel : Nat) : CallE := ⟨145, ⟨1, [], [(.int .u8)]⟩, ⟨1, [], [.str]⟩, fun x => F145 fuel x, []⟩

theorem F145ok (fuel : Nat) : (F145c fuel).Ok Tryz.prog := okI Tryz.f145 16 0 fuel [] (q0) L0

def S56_4 (fuel : Nat) (a1 : List UInt8) (a2 : List UInt8) (a3 : Int) : Option (((List UInt8) × (List UInt8) × Int) ⊕ (((List UInt8)))) :=
 bif (decide (a3 < (a1.length : Int))) then
 (F144 fuel a1 a3).bind fun y6 =>
 bif inRange a3 a1.length then
 let x7 := ((a1.getD a3.toNat 0).toNat : Int)
 bif (x7 == (34 : Int)) then
 bif decide (a2.length + ([92, 34] : List UInt8).length ≤ strMax) then
 let x9 := a2 ++ ([92, 34] : List UInt8)
 bif (y6 == (0 : Int)) then
 some (.inl (a1, x9, (IntKind.wrap .i64 (a3 + (1 : Int)))))
 else
 some (.inl (a1, x9, (IntKind.wrap .i64 (a3 + y6))))
 else none
 else
 bif (x7 == (92 : Int)) then
 bif decide (a2.length + ([92, 92] : List UInt8).length ≤ strMax) then
 let x14 := a2 ++ ([92, 92] : List UInt8)
 bif (y6 == (0 : Int)) then
 some (.inl (a1, x14, (IntKind.wrap .i64 (a3 + (1 : Int)))))
 else
 some (.inl (a1, x14, (IntKind.wrap .i64 (a3 + y6))))
 else none
 else
 bif (x7 == (10 : Int)) then
 bif decide (a2.length + ([92, 110] : List UInt8).length ≤ strMax) then
 let x19 := a2 ++ ([92, 110] : List UInt8)
 bif (y6 == (0 : Int)) then
 some (.inl (a1, x19, (IntKind.wrap .i64 (a3 + (1 : Int)))))
 else
 some (.inl (a1, x19, (IntKind.wrap .i64 (a3 + y6))))
 else none
 else
 bif (x7 == (9 : Int)) then
 bif decide (a2.length + ([92, 116] : List UInt8).length ≤ strMax) then
 let x24 := a2 ++ ([92, 116] : List UInt8)
 bif (y6 == (0 : Int)) then
 some (.inl (a1, x24, (IntKind.wrap .i64 (a3 + (1 : Int)))))
 else
 some (.inl (a1, x24, (IntKind.wrap .i64 (a3 + y6))))
 else none
 else
 bif (x7 == (13 : Int)) then
 bif decide (a2.length + ([92, 114] : List UInt8).length ≤ strMax) then
 let x29 := a2 ++ ([92, 114] : List UInt8)
 bif (y6 == (0 : Int)) then
 some (.inl (a1, x29, (IntKind.wrap .i64 (a3 + (1 : Int)))))
 else
 some (.inl (a1, x29, (IntKind.wrap .i64 (a3 + y6))))
 else none
 else
 bif (bif (bif (decide (x7 < (32 : Int))) then true else (x7 == (127 : Int))) then true else (y6 == (0 : Int))) then
 bif decide (a2.length + ([92, 120] : List UInt8).length ≤ strMax) then
 let x38 := a2 ++ ([92, 120] : List UInt8)
 (F145 fuel x7).bind fun y39 =>
 bif decide (x38.length + y39.length ≤ strMax) then
 let x40 := x38 ++ y39
 bif (y6 == (0 : Int)) then
 some (.inl (a1, x40, (IntKind.wrap .i64 (a3 + (1 : Int)))))
 else
 some (.inl (a1, x40, (IntKind.wrap .i64 (a3 + y6))))
 else none
 else none
 else
 let x44 := IntKind.wrap .i64 (a3 + y6)
 bif decide (0 ≤ a3 ∧ a3 ≤ x44 ∧ x44 ≤ (a1.length : Int)) then
 let x45 := (a1.take x44.toNat).drop a3.toNat
 bif decide (a2.length + x45.length ≤ strMax) then
 let x46 := a2 ++ x45
 bif (y6 == (0 : Int)) then
 some (.inl (a1, x46, (IntKind.wrap .i64 (a3 + (1 : Int)))))
 else
 some (.inl (a1, x46, (IntKind.wrap .i64 (a3 + y6))))
 else none
 else none
 else none
 else
 some (.inr a2)

def S56_4step (fuel : Nat) (x : (List UInt8) × (List UInt8) × Int) : Option (((List UInt8) × (List UInt8) × Int) ⊕ (((List UInt8)))) := S56_4 fuel x.1 x.2.1 x.2.2

/-- wireschema/wireschemaref03.Quote -/
def F56 (fuel : Nat) (a0 : List UInt8) : Option ((List UInt8)) :=
 (loopQ fuel (S56_4step fuel) (a0, ([34] : List UInt8), (0 : Int))).bind fun y50 =>
 bif decide (y50.length + ([34] : List UInt8).length ≤ strMax) then
 some (y50 ++ ([34] : List UInt8))
 else none

def S56_4l (fuel : Nat) : LoopE := ⟨4, ⟨[0, 3, 4], [], [.str, .str, (.int .i64)]⟩, [(.exit 0, ⟨[3], [], [.str]⟩)], S56_4step fuel⟩

def F56C (fuel : Nat) : Cfg := cfg Tryz.prog 73 0 [F144c fuel, F145c fuel] [S56_4l fuel] fuel

def F56c (fuel : Nat) : CallE := ⟨56, ⟨1, [], [.str]⟩, ⟨1, [], [.str]⟩, fun x => F56 fuel x, []⟩

theorem F56k (fuel : Nat) : CallOk (F56C fuel) := cfg_callOk (qc (F144ok fuel) <| qc (F145ok fuel) <| q0)

theorem S56_4ok (fuel : Nat) : LoopOk (F56C fuel) (lp (bodyOf Tryz.f56) 0) := okL (F56k fuel) fuel (S56_4l fuel) L0

theorem F56ok (fuel : Nat) : (F56c fuel).Ok Tryz.prog := okE Tryz.f56 (F56k fuel) (L1 (S56_4ok fuel))

def S146_3 (fuel : Nat) (a4 : Int) (a5 : List UInt8) : Option ((Int × (List UInt8)) ⊕ (((List UInt8)))) :=
 bif (decide (a4 ≥ (10 : Int))) then
 let x7 := IntKind.wrap .u64 (a4.tdiv (10 : Int))
 let x10 := IntKind.wrap .u8 (IntKind.wrap .u64 ((48 : Int) + (x7.tmod (10 : Int))))
 bif decide (([(PV.int x10)].map byteOfPV).length + a5.length ≤ strMax) then
 some (.inl (x7, ([(PV.int x10)].map byteOfPV) ++ a5))
 else none
 else
 some (.inr a5)

def S146_3step (fuel : Nat) (x : Int × (List UInt8)) : Option ((Int × (List UInt8)) ⊕ (((List UInt8)))) := S146_3 fuel x.1 x.2

/-- wireschema/wireschemaref04.decimal -/
def F146 (fuel : Nat) (a0 : Int) : Option ((List UInt8)) :=
 (loopQ fuel (S146_3step fuel) (a0, [(PV.int (IntKind.wrap .u8 (IntKind.wrap .u64 ((48 : Int) + (a0.tmod (10 : Int))))))].map byteOfPV)).bind fun y11 =>
 some y11

def S146_3l (fuel : Nat) : LoopE := ⟨3, ⟨[0, 3], [], [(.int .u64), .str]⟩, [(.exit 0, ⟨[3], [], [.str]⟩)], S146_3step fuel⟩

def F146C (fuel : Nat) : Cfg := cfg Tryz.prog 23 0 [] [S146_3l fuel] fuel

def F146c (fuel : Nat) : CallE := ⟨146, ⟨1, [], [(.int .u64)]⟩, ⟨1, [], [.str]⟩, fun x => F146 fuel x, []⟩

theorem F146k (fuel : Nat) : CallOk (F146C fuel) := cfg_callOk (q0)

theorem S146_3ok (fuel : Nat) : LoopOk (F146C fuel) (lp (bodyOf Tryz.f146) 0) := okL (F146k fuel) fuel (S146_3l fuel) L0

theorem F146ok (fuel : Nat) : (F146c fuel).Ok Tryz.prog := okE Tryz.f146 (F146k fuel) (L1 (S146_3ok fuel))

def S149_4 (fuel : Nat) (a1 : List UInt8) (a2 : List UInt8) (a3 : Int) : Option (((List UInt8) × (List UInt8) × Int) ⊕ (((List UInt8)))) :=
 bif (decide (a3 < (a1.length : Int))) then
 bif inRange a3 a1.length then
 (F145 fuel ((a1.getD a3.toNat 0).toNat : Int)).bind fun y7 =>
 bif decide (a2.length + y7.length ≤ strMax) then
 some (.inl (a1, (a2 ++ y7), (IntKind.wrap .i64 (a3 + (1 : Int)))))
 else none
 else none
 else
 some (.inr a2)

def S149_4step (fuel : Nat) (x : (List UInt8) × (List UInt8) × Int) : Option (((List UInt8) × (List UInt8) × Int) ⊕ (((List UInt8)))) := S149_4 fuel x.1 x.2.1 x.2.2

/-- wireschema/wireschemaref03.Hex -/
def F149 (fuel : Nat) (a0 : List UInt8) : Option ((List UInt8)) :=
 (loopQ fuel (S149_4step fuel) (a0, ([] : List UInt8), (0 : Int))).bind fun y10 =>
 some y10

def S149_4l (fuel : Nat) : LoopE := ⟨4, ⟨[0, 3, 4], [], [.str, .str, (.int .i64)]⟩, [(.exit 0, ⟨[3], [], [.str]⟩)], S149_4step fuel⟩

def F149C (fuel : Nat) : Cfg := cfg Tryz.prog 18 0 [F145c fuel] [S149_4l fuel] fuel

def F149c (fuel : Nat) : CallE := ⟨149, ⟨1, [], [.str]⟩, ⟨1, [], [.str]⟩, fun x => F149 fuel x, []⟩

theorem F149k (fuel : Nat) : CallOk (F149C fuel) := cfg_callOk (qc (F145ok fuel) <| q0)

theorem S149_4ok (fuel : Nat) : LoopOk (F149C fuel) (lp (bodyOf Tryz.f149) 0) := okL (F149k fuel) fuel (S149_4l fuel) L0

theorem F149ok (fuel : Nat) : (F149c fuel).Ok Tryz.prog := okE Tryz.f149 (F149k fuel) (L1 (S149_4ok fuel))

def S148_4 (fuel : Nat) (a9 : Int) (a10 : List PV) (a11 : Int) : Option ((Int × (List PV) × Int) ⊕ (((List PV)))) :=
 bif (decide (a11 < (8 : Int))) then
 let x14 := IntKind.wrap .u8 (a9.tmod (256 : Int))
 bif decide ([(PV.int x14)].length + a10.length ≤ accMax) then
 some (.inl ((IntKind.wrap .u64 (a9.tdiv (256 : Int))), [(PV.int x14)] ++ a10, (IntKind.wrap .i64 (a11 + (1 : Int)))))
 else none
 else
 some (.inr a10)

def S148_4step (fuel : Nat) (x : Int × (List PV) × Int) : Option ((Int × (List PV) × Int) ⊕ (((List PV)))) := S148_4 fuel x.1 x.2.1 x.2.2

/-- wireschema/wireschemaref04.hex -/
def F148 (fuel : Nat) (a0 : Int) : Option ((List UInt8)) :=
 (loopQ fuel (S148_4step fuel) (a0, [], (0 : Int))).bind fun y17 =>
 (F149 fuel (y17.map byteOfPV)).bind fun y19 =>
 some y19

def S148_4l (fuel : Nat) : LoopE := ⟨4, ⟨[0, 3, 4], [], [(.int .u64), (.slice 5), (.int .i64)]⟩, [(.exit 0, ⟨[3], [], [(.slice 5)]⟩)], S148_4step fuel⟩

def F148C (fuel : Nat) : Cfg := cfg Tryz.prog 20 0 [F149c fuel] [S148_4l fuel] fuel

def F148c (fuel : Nat) : CallE := ⟨148, ⟨1, [], [(.int .u64)]⟩, ⟨1, [], [.str]⟩, fun x => F148 fuel x, []⟩

theorem F148k (fuel : Nat) : CallOk (F148C fuel) := cfg_callOk (qc (F149ok fuel) <| q0)

theorem S148_4ok (fuel : Nat) : LoopOk (F148C fuel) (lp (bodyOf Tryz.f148) 0) := okL (F148k fuel) fuel (S148_4l fuel) L0

theorem F148ok (fuel : Nat) : (F148c fuel).Ok Tryz.prog := okE Tryz.f148 (F148k fuel) (L1 (S148_4ok fuel))

/-- wireschema/wireschemaref04.Text -/
def F57 (fuel : Nat) (a0 : PV) : Option ((List UInt8)) :=
 (F55 fuel ((a0.fld 0).asInt) a0).bind fun y2 =>
 bif (!y2) then
 some ([] : List UInt8)
 else
 let x4 := (a0.fld 0).asInt
 bif (x4 == (1 : Int)) then
 bif (((a0.fld 1).asInt) == (1 : Int)) then
 some ([116, 114, 117, 101] : List UInt8)
 else
 some ([102, 97, 108, 115, 101] : List UInt8)
 else
 bif (x4 == (2 : Int)) then
 bif (decide (((a0.fld 1).asInt) ≥ (9223372036854775808 : Int))) then
 (F146 fuel (IntKind.wrap .u64 (0 - ((a0.fld 1).asInt)))).bind fun y13 =>
 bif decide (([45] : List UInt8).length + y13.length ≤ strMax) then
 some (([45] : List UInt8) ++ y13)
 else none
 else
 (F146 fuel ((a0.fld 1).asInt)).bind fun y15 =>
 some y15
 else
 bif (x4 == (3 : Int)) then
 bif (decide (((a0.fld 1).asInt) ≥ (9223372036854775808 : Int))) then
 (F146 fuel (IntKind.wrap .u64 (0 - ((a0.fld 1).asInt)))).bind fun y21 =>
 bif decide (([45] : List UInt8).length + y21.length ≤ strMax) then
 some (([45] : List UInt8) ++ y21)
 else none
 else
 (F146 fuel ((a0.fld 1).asInt)).bind fun y23 =>
 some y23
 else
 bif (x4 == (6 : Int)) then
 (F147 fuel ((a0.fld 1).asInt)).bind fun y26 =>
 bif (y26 == (0 : Int)) then
 some ([110, 97, 110] : List UInt8)
 else
 bif (y26 == (1 : Int)) then
 bif (decide (((a0.fld 1).asInt) ≥ (9223372036854775808 : Int))) then
 some ([45, 105, 110, 102] : List UInt8)
 else
 some ([105, 110, 102] : List UInt8)
 else
 (F148 fuel ((a0.fld 1).asInt)).bind fun y32 =>
 bif decide (([48, 120] : List UInt8).length + y32.length ≤ strMax) then
 some (([48, 120] : List UInt8) ++ y32)
 else none
 else
 bif (x4 == (7 : Int)) then
 (F56 fuel ((a0.fld 2).asStr)).bind fun y35 =>
 some y35
 else
 bif (x4 == (8 : Int)) then
 (F149 fuel ((a0.fld 2).asStr)).bind fun y38 =>
 (F56 fuel y38).bind fun y39 =>
 bif decide (([120] : List UInt8).length + y39.length ≤ strMax) then
 some (([120] : List UInt8) ++ y39)
 else none
 else
 (F146 fuel ((a0.fld 1).asInt)).bind fun y41 =>
 some y41

def F57c (fuel : Nat) : CallE := ⟨57, ⟨1, [], [(.data 42)]⟩, ⟨1, [], [.str]⟩, fun x => F57 fuel x, []⟩

theorem F57ok (fuel : Nat) : (F57c fuel).Ok Tryz.prog := okI Tryz.f57 60 0 fuel [F55c fuel, F146c fuel, F147c fuel, F148c fuel, F56c fuel, F149c fuel] (qc (F55ok fuel) <| qc (F146ok fuel) <| qc (F147ok fuel) <| qc (F148ok fuel) <| qc (F56ok fuel) <| qc (F149ok fuel) <| q0) L0

def S232_6 (fuel : Nat) (a3 : List PV) (a4 : List UInt8) (a5 : Int) : Option (((List PV) × (List UInt8) × Int) ⊕ (((List UInt8)) ⊕ ((List UInt8)))) :=
 bif (decide (a5 < (a3.length : Int))) then
 bif inRange a5 a3.length then
 (F217 fuel (a3.getD a5.toNat .bad)).bind fun y9 =>
 bif (!y9) then
 some (.inr (.inl ([] : List UInt8)))
 else
 bif (decide (a5 > (0 : Int))) then
 bif decide (a4.length + ([44, 32] : List UInt8).length ≤ strMax) then
 let x12 := a4 ++ ([44, 32] : List UInt8)
 bif inRange a5 a3.length then
 let x15 := ((a3.getD a5.toNat .bad).fld 0).asStr
 bif decide (x15.length + ([32, 61, 32] : List UInt8).length ≤ strMax) then
 let x16 := x15 ++ ([32, 61, 32] : List UInt8)
 bif inRange a5 a3.length then
 (F57 fuel ((a3.getD a5.toNat .bad).fld 1)).bind fun y19 =>
 bif decide (x16.length + y19.length ≤ strMax) then
 let x20 := x16 ++ y19
 bif decide (x12.length + x20.length ≤ strMax) then
 some (.inl (a3, (x12 ++ x20), (IntKind.wrap .i64 (a5 + (1 : Int)))))
 else none
 else none
 else none
 else none
 else none
 else none
 else
 bif inRange a5 a3.length then
 let x25 := ((a3.getD a5.toNat .bad).fld 0).asStr
 bif decide (x25.length + ([32, 61, 32] : List UInt8).length ≤ strMax) then
 let x26 := x25 ++ ([32, 61, 32] : List UInt8)
 bif inRange a5 a3.length then
 (F57 fuel ((a3.getD a5.toNat .bad).fld 1)).bind fun y29 =>
 bif decide (x26.length + y29.length ≤ strMax) then
 let x30 := x26 ++ y29
 bif decide (a4.length + x30.length ≤ strMax) then
 some (.inl (a3, (a4 ++ x30), (IntKind.wrap .i64 (a5 + (1 : Int)))))
 else none
 else none
 else none
 else none
 else none
 else none
 else
 some (.inr (.inr a4))

def S232_6step (fuel : Nat) (x : (List PV) × (List UInt8) × Int) : Option (((List PV) × (List UInt8) × Int) ⊕ (((List UInt8)) ⊕ ((List UInt8)))) := S232_6 fuel x.1 x.2.1 x.2.2

/-- wireschema/wireschemaref08.Text -/
def F232 (fuel : Nat) (a0 : List PV) : Option ((List UInt8)) :=
 bif ((a0.length : Int) == (0 : Int)) then
 some ([] : List UInt8)
 else
 (loopQ fuel (S232_6step fuel) (a0, ([91] : List UInt8), (0 : Int))).bind fun z => sumE (fun y33 =>
 some y33
 ) (fun y34 =>
 bif decide (y34.length + ([93] : List UInt8).length ≤ strMax) then
 some (y34 ++ ([93] : List UInt8))
 else none
 ) z

def S232_6l (fuel : Nat) : LoopE := ⟨6, ⟨[0, 3, 4], [], [(.slice 119), .str, (.int .i64)]⟩, [(.ret, ⟨[2], [], [.str]⟩), (.exit 0, ⟨[3], [], [.str]⟩)], S232_6step fuel⟩

def F232C (fuel : Nat) : Cfg := cfg Tryz.prog 41 0 [F217c fuel, F57c fuel] [S232_6l fuel] fuel

def F232c (fuel : Nat) : CallE := ⟨232, ⟨1, [], [(.slice 119)]⟩, ⟨1, [], [.str]⟩, fun x => F232 fuel x, []⟩

theorem F232k (fuel : Nat) : CallOk (F232C fuel) := cfg_callOk (qc (F217ok fuel) <| qc (F57ok fuel) <| q0)

theorem S232_6ok (fuel : Nat) : LoopOk (F232C fuel) (lp (bodyOf Tryz.f232) 0) := okL (F232k fuel) fuel (S232_6l fuel) L0

theorem F232ok (fuel : Nat) : (F232c fuel).Ok Tryz.prog := okE Tryz.f232 (F232k fuel) (L1 (S232_6ok fuel))

/-- wireschema/wireschemaref10.noted -/
def F152 (fuel : Nat) (a0 : List PV) : Option ((List UInt8)) :=
 bif ((a0.length : Int) == (0 : Int)) then
 some ([] : List UInt8)
 else
 (F232 fuel a0).bind fun y3 =>
 bif decide (([32] : List UInt8).length + y3.length ≤ strMax) then
 some (([32] : List UInt8) ++ y3)
 else none

def F152c (fuel : Nat) : CallE := ⟨152, ⟨1, [], [(.slice 119)]⟩, ⟨1, [], [.str]⟩, fun x => F152 fuel x, []⟩

theorem F152ok (fuel : Nat) : (F152c fuel).Ok Tryz.prog := okI Tryz.f152 9 0 fuel [F232c fuel] (qc (F232ok fuel) <| q0) L0

/-- wireschema/wireschemaref10.Type -/
def F19 (fuel : Nat) (a0 : PV) : Option ((List UInt8)) :=
 (F48 fuel ((a0.fld 0).asInt)).bind fun y2 =>
 bif (bif (!(y2 == ([] : List UInt8))) then (((a0.fld 1).asStr) == ([] : List UInt8)) else false) then
 (F48 fuel ((a0.fld 0).asInt)).bind fun y8 =>
 some y8
 else
 let x16 := bif (bif (((a0.fld 0).asInt) == (0 : Int)) then true else (((a0.fld 0).asInt) == (9 : Int))) then true else (((a0.fld 0).asInt) == (10 : Int))
 (bif x16 then F49 fuel ((a0.fld 1).asStr) else some false).bind fun y18 =>
 bif (bif x16 then y18 else false) then
 some ((a0.fld 1).asStr)
 else
 some ([] : List UInt8)

def F19c (fuel : Nat) : CallE := ⟨19, ⟨1, [], [(.data 35)]⟩, ⟨1, [], [.str]⟩, fun x => F19 fuel x, []⟩

theorem F19ok (fuel : Nat) : (F19c fuel).Ok Tryz.prog := okI Tryz.f19 37 0 fuel [F48c fuel, F49c fuel] (qc (F48ok fuel) <| qc (F49ok fuel) <| q0) L0

/-- wireschema/wireschemaref10.decimal -/
def F151 (fuel : Nat) (a0 : Int) : Option ((List UInt8)) :=
 (F57 fuel (PV.agg [(PV.int (5 : Int)), (PV.int (IntKind.wrap .u64 a0)), (PV.str ([] : List UInt8)), (PV.slice []), (PV.slice []), (PV.slice []), (PV.slice [])])).bind fun y2 =>
 some y2

def F151c (fuel : Nat) : CallE := ⟨151, ⟨1, [], [(.int .i64)]⟩, ⟨1, [], [.str]⟩, fun x => F151 fuel x, []⟩

theorem F151ok (fuel : Nat) : (F151c fuel).Ok Tryz.prog := okI Tryz.f151 7 0 fuel [F57c fuel] (qc (F57ok fuel) <| q0) L0

/-- wireschema/wireschemaref10.Literal -/
def F21 (fuel : Nat) (a0 : PV) : Option ((List UInt8)) :=
 (F54 fuel a0).bind fun y1 =>
 bif y1 then
 some ((a0.fld 2).asStr)
 else
 (F55 fuel ((a0.fld 0).asInt) a0).bind fun y4 =>
 bif (!y4) then
 some ([] : List UInt8)
 else
 bif (bif (((a0.fld 0).asInt) == (6 : Int)) then true else (((a0.fld 0).asInt) == (8 : Int))) then
 (F57 fuel a0).bind fun y11 =>
 (F56 fuel y11).bind fun y12 =>
 some y12
 else
 (F57 fuel a0).bind fun y13 =>
 some y13

def F21c (fuel : Nat) : CallE := ⟨21, ⟨1, [], [(.data 42)]⟩, ⟨1, [], [.str]⟩, fun x => F21 fuel x, []⟩

theorem F21ok (fuel : Nat) : (F21c fuel).Ok Tryz.prog := okI Tryz.f21 28 0 fuel [F54c fuel, F55c fuel, F57c fuel, F56c fuel] (qc (F54ok fuel) <| qc (F55ok fuel) <| qc (F57ok fuel) <| qc (F56ok fuel) <| q0) L0

/-- wireschema/wireschemaref10.line -/
def F59 (fuel : Nat) (a0 : PV) : Option ((List UInt8)) :=
 (F19 fuel (a0.fld 4)).bind fun y2 =>
 bif (((a0.fld 2).asInt) == (5 : Int)) then
 (F48 fuel ((a0.fld 3).asInt)).bind fun y6 =>
 bif decide (([109, 97, 112, 60] : List UInt8).length + y6.length ≤ strMax) then
 bif decide ((([109, 97, 112, 60] : List UInt8) ++ y6).length + ([44, 32] : List UInt8).length ≤ strMax) then
 let x7 := (([109, 97, 112, 60] : List UInt8) ++ y6) ++ ([44, 32] : List UInt8)
 bif decide (x7.length + y2.length ≤ strMax) then
 let x8 := x7 ++ y2
 bif decide (x8.length + ([62] : List UInt8).length ≤ strMax) then
 let x9 := x8 ++ ([62] : List UInt8)
 bif decide (x9.length + ([32] : List UInt8).length ≤ strMax) then
 let x10 := x9 ++ ([32] : List UInt8)
 let x11 := (a0.fld 1).asStr
 bif decide (x10.length + x11.length ≤ strMax) then
 let x12 := x10 ++ x11
 bif decide (x12.length + ([32, 61, 32] : List UInt8).length ≤ strMax) then
 let x13 := x12 ++ ([32, 61, 32] : List UInt8)
 (F151 fuel ((a0.fld 0).asInt)).bind fun y15 =>
 bif decide (x13.length + y15.length ≤ strMax) then
 let x16 := x13 ++ y15
 bif ((a0.fld 6).asBool) then
 bif decide (x16.length + ([32, 100, 101, 102, 97, 117, 108, 116, 32] : List UInt8).length ≤ strMax) then
 let x18 := x16 ++ ([32, 100, 101, 102, 97, 117, 108, 116, 32] : List UInt8)
 (F21 fuel (a0.fld 7)).bind fun y20 =>
 bif decide (x18.length + y20.length ≤ strMax) then
 let x21 := x18 ++ y20
 (F152 fuel ((a0.fld 8).asList)).bind fun y23 =>
 bif decide (x21.length + y23.length ≤ strMax) then
 let x24 := x21 ++ y23
 bif decide (x24.length + ([59] : List UInt8).length ≤ strMax) then
 some (x24 ++ ([59] : List UInt8))
 else none
 else none
 else none
 else none
 else
 (F152 fuel ((a0.fld 8).asList)).bind fun y27 =>
 bif decide (x16.length + y27.length ≤ strMax) then
 let x28 := x16 ++ y27
 bif decide (x28.length + ([59] : List UInt8).length ≤ strMax) then
 some (x28 ++ ([59] : List UInt8))
 else none
 else none
 else none
 else none
 else none
 else none
 else none
 else none
 else none
 else none
 else
 bif (((a0.fld 5).asStr) == ([] : List UInt8)) then
 let x33 := IntKind.wrap .i64 (((a0.fld 2).asInt) - (1 : Int))
 bif inRange x33 ([(PV.str ([114, 101, 113, 117, 105, 114, 101, 100, 32] : List UInt8)), (PV.str ([111, 112, 116, 105, 111, 110, 97, 108, 32] : List UInt8)), (PV.str ([112, 108, 97, 105, 110, 32] : List UInt8)), (PV.str ([108, 105, 115, 116, 32] : List UInt8))].length) then
 bif decide ((([(PV.str ([114, 101, 113, 117, 105, 114, 101, 100, 32] : List UInt8)), (PV.str ([111, 112, 116, 105, 111, 110, 97, 108, 32] : List UInt8)), (PV.str ([112, 108, 97, 105, 110, 32] : List UInt8)), (PV.str ([108, 105, 115, 116, 32] : List UInt8))].getD x33.toNat .bad).asStr).length + y2.length ≤ strMax) then
 let x34 := (([(PV.str ([114, 101, 113, 117, 105, 114, 101, 100, 32] : List UInt8)), (PV.str ([111, 112, 116, 105, 111, 110, 97, 108, 32] : List UInt8)), (PV.str ([112, 108, 97, 105, 110, 32] : List UInt8)), (PV.str ([108, 105, 115, 116, 32] : List UInt8))].getD x33.toNat .bad).asStr) ++ y2
 bif decide (x34.length + ([32] : List UInt8).length ≤ strMax) then
 let x35 := x34 ++ ([32] : List UInt8)
 let x36 := (a0.fld 1).asStr
 bif decide (x35.length + x36.length ≤ strMax) then
 let x37 := x35 ++ x36
 bif decide (x37.length + ([32, 61, 32] : List UInt8).length ≤ strMax) then
 let x38 := x37 ++ ([32, 61, 32] : List UInt8)
 (F151 fuel ((a0.fld 0).asInt)).bind fun y40 =>
 bif decide (x38.length + y40.length ≤ strMax) then
 let x41 := x38 ++ y40
 bif ((a0.fld 6).asBool) then
 bif decide (x41.length + ([32, 100, 101, 102, 97, 117, 108, 116, 32] : List UInt8).length ≤ strMax) then
 let x43 := x41 ++ ([32, 100, 101, 102, 97, 117, 108, 116, 32] : List UInt8)
 (F21 fuel (a0.fld 7)).bind fun y45 =>
 bif decide (x43.length + y45.length ≤ strMax) then
 let x46 := x43 ++ y45
 (F152 fuel ((a0.fld 8).asList)).bind fun y48 =>
 bif decide (x46.length + y48.length ≤ strMax) then
 let x49 := x46 ++ y48
 bif decide (x49.length + ([59] : List UInt8).length ≤ strMax) then
 some (x49 ++ ([59] : List UInt8))
 else none
 else none
 else none
 else none
 else
 (F152 fuel ((a0.fld 8).asList)).bind fun y52 =>
 bif decide (x41.length + y52.length ≤ strMax) then
 let x53 := x41 ++ y52
 bif decide (x53.length + ([59] : List UInt8).length ≤ strMax) then
 some (x53 ++ ([59] : List UInt8))
 else none
 else none
 else none
 else none
 else none
 else none
 else none
 else none
 else
 bif decide (y2.length + ([32] : List UInt8).length ≤ strMax) then
 let x55 := y2 ++ ([32] : List UInt8)
 let x56 := (a0.fld 1).asStr
 bif decide (x55.length + x56.length ≤ strMax) then
 let x57 := x55 ++ x56
 bif decide (x57.length + ([32, 61, 32] : List UInt8).length ≤ strMax) then
 let x58 := x57 ++ ([32, 61, 32] : List UInt8)
 (F151 fuel ((a0.fld 0).asInt)).bind fun y60 =>
 bif decide (x58.length + y60.length ≤ strMax) then
 let x61 := x58 ++ y60
 bif ((a0.fld 6).asBool) then
 bif decide (x61.length + ([32, 100, 101, 102, 97, 117, 108, 116, 32] : List UInt8).length ≤ strMax) then
 let x63 := x61 ++ ([32, 100, 101, 102, 97, 117, 108, 116, 32] : List UInt8)
 (F21 fuel (a0.fld 7)).bind fun y65 =>
 bif decide (x63.length + y65.length ≤ strMax) then
 let x66 := x63 ++ y65
 (F152 fuel ((a0.fld 8).asList)).bind fun y68 =>
 bif decide (x66.length + y68.length ≤ strMax) then
 let x69 := x66 ++ y68
 bif decide (x69.length + ([59] : List UInt8).length ≤ strMax) then
 some (x69 ++ ([59] : List UInt8))
 else none
 else none
 else none
 else none
 else
 (F152 fuel ((a0.fld 8).asList)).bind fun y72 =>
 bif decide (x61.length + y72.length ≤ strMax) then
 let x73 := x61 ++ y72
 bif decide (x73.length + ([59] : List UInt8).length ≤ strMax) then
 some (x73 ++ ([59] : List UInt8))
 else none
 else none
 else none
 else none
 else none
 else none

def F59c (fuel : Nat) : CallE := ⟨59, ⟨1, [], [(.data 45)]⟩, ⟨1, [], [.str]⟩, fun x => F59 fuel x, []⟩

theorem F59ok (fuel : Nat) : (F59c fuel).Ok Tryz.prog := okI Tryz.f59 53 0 fuel [F19c fuel, F48c fuel, F151c fuel, F21c fuel, F152c fuel] (qc (F19ok fuel) <| qc (F48ok fuel) <| qc (F151ok fuel) <| qc (F21ok fuel) <| qc (F152ok fuel) <| q0) L0

def S218_4 (fuel : Nat) (a1 : List PV) (a2 : List UInt8) (a3 : Int) : Option (((List PV) × (List UInt8) × Int) ⊕ (((List UInt8)))) :=
 bif (decide (a3 < (a1.length : Int))) then
 bif (decide (a3 > (0 : Int))) then
 bif decide (a2.length + ([44, 32] : List UInt8).length ≤ strMax) then
 let x7 := a2 ++ ([44, 32] : List UInt8)
 bif inRange a3 a1.length then
 (F151 fuel ((a1.getD a3.toNat .bad).fld 0).asInt).bind fun y11 =>
 bif decide (x7.length + y11.length ≤ strMax) then
 let x12 := x7 ++ y11
 bif inRange a3 a1.length then
 bif inRange a3 a1.length then
 bif (((a1.getD a3.toNat .bad).fld 1).asInt != ((a1.getD a3.toNat .bad).fld 0).asInt) then
 bif decide (x12.length + ([32, 45, 32] : List UInt8).length ≤ strMax) then
 let x20 := x12 ++ ([32, 45, 32] : List UInt8)
 bif inRange a3 a1.length then
 (F151 fuel ((a1.getD a3.toNat .bad).fld 1).asInt).bind fun y24 =>
 bif decide (x20.length + y24.length ≤ strMax) then
 some (.inl (a1, (x20 ++ y24), (IntKind.wrap .i64 (a3 + (1 : Int)))))
 else none
 else none
 else none
 else
 some (.inl (a1, x12, (IntKind.wrap .i64 (a3 + (1 : Int)))))
 else none
 else none
 else none
 else none
 else none
 else
 bif inRange a3 a1.length then
 (F151 fuel ((a1.getD a3.toNat .bad).fld 0).asInt).bind fun y31 =>
 bif decide (a2.length + y31.length ≤ strMax) then
 let x32 := a2 ++ y31
 bif inRange a3 a1.length then
 bif inRange a3 a1.length then
 bif (((a1.getD a3.toNat .bad).fld 1).asInt != ((a1.getD a3.toNat .bad).fld 0).asInt) then
 bif decide (x32.length + ([32, 45, 32] : List UInt8).length ≤ strMax) then
 let x40 := x32 ++ ([32, 45, 32] : List UInt8)
 bif inRange a3 a1.length then
 (F151 fuel ((a1.getD a3.toNat .bad).fld 1).asInt).bind fun y44 =>
 bif decide (x40.length + y44.length ≤ strMax) then
 some (.inl (a1, (x40 ++ y44), (IntKind.wrap .i64 (a3 + (1 : Int)))))
 else none
 else none
 else none
 else
 some (.inl (a1, x32, (IntKind.wrap .i64 (a3 + (1 : Int)))))
 else none
 else none
 else none
 else none
 else
 some (.inr a2)

def S218_4step (fuel : Nat) (x : (List PV) × (List UInt8) × Int) : Option (((List PV) × (List UInt8) × Int) ⊕ (((List UInt8)))) := S218_4 fuel x.1 x.2.1 x.2.2

/-- wireschema/wireschemaref10.reserved -/
def F218 (fuel : Nat) (a0 : List PV) : Option ((List UInt8)) :=
 (loopQ fuel (S218_4step fuel) (a0, ([] : List UInt8), (0 : Int))).bind fun y48 =>
 bif (y48 == ([] : List UInt8)) then
 some ([] : List UInt8)
 else
 bif decide (([32, 32, 114, 101, 115, 101, 114, 118, 101, 100, 32] : List UInt8).length + y48.length ≤ strMax) then
 bif decide ((([32, 32, 114, 101, 115, 101, 114, 118, 101, 100, 32] : List UInt8) ++ y48).length + ([59, 10] : List UInt8).length ≤ strMax) then
 let x50 := (([32, 32, 114, 101, 115, 101, 114, 118, 101, 100, 32] : List UInt8) ++ y48) ++ ([59, 10] : List UInt8)
 some x50
 else none
 else none

def S218_4l (fuel : Nat) : LoopE := ⟨4, ⟨[0, 3, 4], [], [(.slice 163), .str, (.int .i64)]⟩, [(.exit 0, ⟨[3], [], [.str]⟩)], S218_4step fuel⟩

def F218C (fuel : Nat) : Cfg := cfg Tryz.prog 48 0 [F151c fuel] [S218_4l fuel] fuel

def F218c (fuel : Nat) : CallE := ⟨218, ⟨1, [], [(.slice 163)]⟩, ⟨1, [], [.str]⟩, fun x => F218 fuel x, []⟩

theorem F218k (fuel : Nat) : CallOk (F218C fuel) := cfg_callOk (qc (F151ok fuel) <| q0)

theorem S218_4ok (fuel : Nat) : LoopOk (F218C fuel) (lp (bodyOf Tryz.f218) 0) := okL (F218k fuel) fuel (S218_4l fuel) L0

theorem F218ok (fuel : Nat) : (F218c fuel).Ok Tryz.prog := okE Tryz.f218 (F218k fuel) (L1 (S218_4ok fuel))

def S219_4 (fuel : Nat) (a1 : List PV) (a2 : List UInt8) (a3 : Int) : Option (((List PV) × (List UInt8) × Int) ⊕ (((List UInt8)))) :=
 bif (decide (a3 < (a1.length : Int))) then
 bif (decide (a3 > (0 : Int))) then
 bif decide (a2.length + ([44, 32] : List UInt8).length ≤ strMax) then
 let x7 := a2 ++ ([44, 32] : List UInt8)
 bif inRange a3 a1.length then
 (F56 fuel (a1.getD a3.toNat .bad).asStr).bind fun y10 =>
 bif decide (x7.length + y10.length ≤ strMax) then
 some (.inl (a1, (x7 ++ y10), (IntKind.wrap .i64 (a3 + (1 : Int)))))
 else none
 else none
 else none
 else
 bif inRange a3 a1.length then
 (F56 fuel (a1.getD a3.toNat .bad).asStr).bind fun y15 =>
 bif decide (a2.length + y15.length ≤ strMax) then
 some (.inl (a1, (a2 ++ y15), (IntKind.wrap .i64 (a3 + (1 : Int)))))
 else none
 else none
 else
 some (.inr a2)

def S219_4step (fuel : Nat) (x : (List PV) × (List UInt8) × Int) : Option (((List PV) × (List UInt8) × Int) ⊕ (((List UInt8)))) := S219_4 fuel x.1 x.2.1 x.2.2

/-- wireschema/wireschemaref10.gone -/
def F219 (fuel : Nat) (a0 : List PV) : Option ((List UInt8)) :=
 (loopQ fuel (S219_4step fuel) (a0, ([] : List UInt8), (0 : Int))).bind fun y18 =>
 bif (y18 == ([] : List UInt8)) then
 some ([] : List UInt8)
 else
 bif decide (([32, 32, 114, 101, 115, 101, 114, 118, 101, 100, 32] : List UInt8).length + y18.length ≤ strMax) then
 bif decide ((([32, 32, 114, 101, 115, 101, 114, 118, 101, 100, 32] : List UInt8) ++ y18).length + ([59, 10] : List UInt8).length ≤ strMax) then
 let x20 := (([32, 32, 114, 101, 115, 101, 114, 118, 101, 100, 32] : List UInt8) ++ y18) ++ ([59, 10] : List UInt8)
 some x20
 else none
 else none

def S219_4l (fuel : Nat) : LoopE := ⟨4, ⟨[0, 3, 4], [], [(.slice 9), .str, (.int .i64)]⟩, [(.exit 0, ⟨[3], [], [.str]⟩)], S219_4step fuel⟩

def F219C (fuel : Nat) : Cfg := cfg Tryz.prog 27 0 [F56c fuel] [S219_4l fuel] fuel

def F219c (fuel : Nat) : CallE := ⟨219, ⟨1, [], [(.slice 9)]⟩, ⟨1, [], [.str]⟩, fun x => F219 fuel x, []⟩

theorem F219k (fuel : Nat) : CallOk (F219C fuel) := cfg_callOk (qc (F56ok fuel) <| q0)

theorem S219_4ok (fuel : Nat) : LoopOk (F219C fuel) (lp (bodyOf Tryz.f219) 0) := okL (F219k fuel) fuel (S219_4l fuel) L0

theorem F219ok (fuel : Nat) : (F219c fuel).Ok Tryz.prog := okE Tryz.f219 (F219k fuel) (L1 (S219_4ok fuel))

def S120_5 (fuel : Nat) (a6 : Unit) (a7 : List UInt8) (a8 : List UInt8) (a9 : Int) (a10 : PV) : Option ((Unit × (List UInt8) × (List UInt8) × Int × PV) ⊕ ((Unit × (List UInt8) × (List UInt8) × PV))) :=
 bif (decide (a9 < (((a10.fld 1).asList).length : Int))) then
 let x14 := (a10.fld 1).asList
 bif inRange a9 x14.length then
 let x15 := x14.getD a9.toNat .bad
 bif (bif (!(a8 == ([] : List UInt8))) then (!(a8 == ((x15.fld 5).asStr))) else false) then
 bif decide (a7.length + ([32, 32, 125, 10] : List UInt8).length ≤ strMax) then
 let x20 := a7 ++ ([32, 32, 125, 10] : List UInt8)
 bif (bif (!(((x15.fld 5).asStr) == ([] : List UInt8))) then (!(a8 == ((x15.fld 5).asStr))) else false) then
 bif decide (x20.length + ([32, 32, 117, 110, 105, 111, 110, 32] : List UInt8).length ≤ strMax) then
 let x26 := x20 ++ ([32, 32, 117, 110, 105, 111, 110, 32] : List UInt8)
 let x27 := (x15.fld 5).asStr
 bif decide (x26.length + x27.length ≤ strMax) then
 let x28 := x26 ++ x27
 bif decide (x28.length + ([32, 123, 10] : List UInt8).length ≤ strMax) then
 let x29 := x28 ++ ([32, 123, 10] : List UInt8)
 let x30 := (x15.fld 5).asStr
 bif (!(x30 == ([] : List UInt8))) then
 bif decide (x29.length + ([32, 32] : List UInt8).length ≤ strMax) then
 let x32 := x29 ++ ([32, 32] : List UInt8)
 bif decide (x32.length + ([32, 32] : List UInt8).length ≤ strMax) then
 let x33 := x32 ++ ([32, 32] : List UInt8)
 (F59 fuel x15).bind fun y34 =>
 bif decide (x33.length + y34.length ≤ strMax) then
 let x35 := x33 ++ y34
 bif decide (x35.length + ([10] : List UInt8).length ≤ strMax) then
 some (.inl ((), (x35 ++ ([10] : List UInt8)), x30, (IntKind.wrap .i64 (a9 + (1 : Int))), a10))
 else none
 else none
 else none
 else none
 else
 bif decide (x29.length + ([32, 32] : List UInt8).length ≤ strMax) then
 let x38 := x29 ++ ([32, 32] : List UInt8)
 (F59 fuel x15).bind fun y39 =>
 bif decide (x38.length + y39.length ≤ strMax) then
 let x40 := x38 ++ y39
 bif decide (x40.length + ([10] : List UInt8).length ≤ strMax) then
 some (.inl ((), (x40 ++ ([10] : List UInt8)), x30, (IntKind.wrap .i64 (a9 + (1 : Int))), a10))
 else none
 else none
 else none
 else none
 else none
 else none
 else
 let x43 := (x15.fld 5).asStr
 bif (!(x43 == ([] : List UInt8))) then
 bif decide (x20.length + ([32, 32] : List UInt8).length ≤ strMax) then
 let x45 := x20 ++ ([32, 32] : List UInt8)
 bif decide (x45.length + ([32, 32] : List UInt8).length ≤ strMax) then
 let x46 := x45 ++ ([32, 32] : List UInt8)
 (F59 fuel x15).bind fun y47 =>
 bif decide (x46.length + y47.length ≤ strMax) then
 let x48 := x46 ++ y47
 bif decide (x48.length + ([10] : List UInt8).length ≤ strMax) then
 some (.inl ((), (x48 ++ ([10] : List UInt8)), x43, (IntKind.wrap .i64 (a9 + (1 : Int))), a10))
 else none
 else none
 else none
 else none
 else
 bif decide (x20.length + ([32, 32] : List UInt8).length ≤ strMax) then
 let x51 := x20 ++ ([32, 32] : List UInt8)
 (F59 fuel x15).bind fun y52 =>
 bif decide (x51.length + y52.length ≤ strMax) then
 let x53 := x51 ++ y52
 bif decide (x53.length + ([10] : List UInt8).length ≤ strMax) then
 some (.inl ((), (x53 ++ ([10] : List UInt8)), x43, (IntKind.wrap .i64 (a9 + (1 : Int))), a10))
 else none
 else none
 else none
 else none
 else
 bif (bif (!(((x15.fld 5).asStr) == ([] : List UInt8))) then (!(a8 == ((x15.fld 5).asStr))) else false) then
 bif decide (a7.length + ([32, 32, 117, 110, 105, 111, 110, 32] : List UInt8).length ≤ strMax) then
 let x61 := a7 ++ ([32, 32, 117, 110, 105, 111, 110, 32] : List UInt8)
 let x62 := (x15.fld 5).asStr
 bif decide (x61.length + x62.length ≤ strMax) then
 let x63 := x61 ++ x62
 bif decide (x63.length + ([32, 123, 10] : List UInt8).length ≤ strMax) then
 let x64 := x63 ++ ([32, 123, 10] : List UInt8)
 let x65 := (x15.fld 5).asStr
 bif (!(x65 == ([] : List UInt8))) then
 bif decide (x64.length + ([32, 32] : List UInt8).length ≤ strMax) then
 let x67 := x64 ++ ([32, 32] : List UInt8)
 bif decide (x67.length + ([32, 32] : List UInt8).length ≤ strMax) then
 let x68 := x67 ++ ([32, 32] : List UInt8)
 (F59 fuel x15).bind fun y69 =>
 bif decide (x68.length + y69.length ≤ strMax) then
 let x70 := x68 ++ y69
 bif decide (x70.length + ([10] : List UInt8).length ≤ strMax) then
 some (.inl ((), (x70 ++ ([10] : List UInt8)), x65, (IntKind.wrap .i64 (a9 + (1 : Int))), a10))
 else none
 else none
 else none
 else none
 else
 bif decide (x64.length + ([32, 32] : List UInt8).length ≤ strMax) then
 let x73 := x64 ++ ([32, 32] : List UInt8)
 (F59 fuel x15).bind fun y74 =>
 bif decide (x73.length + y74.length ≤ strMax) then
 let x75 := x73 ++ y74
 bif decide (x75.length + ([10] : List UInt8).length ≤ strMax) then
 some (.inl ((), (x75 ++ ([10] : List UInt8)), x65, (IntKind.wrap .i64 (a9 + (1 : Int))), a10))
 else none
 else none
 else none
 else none
 else none
 else none
 else
 let x78 := (x15.fld 5).asStr
 bif (!(x78 == ([] : List UInt8))) then
 bif decide (a7.length + ([32, 32] : List UInt8).length ≤ strMax) then
 let x80 := a7 ++ ([32, 32] : List UInt8)
 bif decide (x80.length + ([32, 32] : List UInt8).length ≤ strMax) then
 let x81 := x80 ++ ([32, 32] : List UInt8)
 (F59 fuel x15).bind fun y82 =>
 bif decide (x81.length + y82.length ≤ strMax) then
 let x83 := x81 ++ y82
 bif decide (x83.length + ([10] : List UInt8).length ≤ strMax) then
 some (.inl ((), (x83 ++ ([10] : List UInt8)), x78, (IntKind.wrap .i64 (a9 + (1 : Int))), a10))
 else none
 else none
 else none
 else none
 else
 bif decide (a7.length + ([32, 32] : List UInt8).length ≤ strMax) then
 let x86 := a7 ++ ([32, 32] : List UInt8)
 (F59 fuel x15).bind fun y87 =>
 bif decide (x86.length + y87.length ≤ strMax) then
 let x88 := x86 ++ y87
 bif decide (x88.length + ([10] : List UInt8).length ≤ strMax) then
 some (.inl ((), (x88 ++ ([10] : List UInt8)), x78, (IntKind.wrap .i64 (a9 + (1 : Int))), a10))
 else none
 else none
 else none
 else none
 else
 some (.inr ((), a7, a8, a10))

def S120_5step (fuel : Nat) (x : Unit × (List UInt8) × (List UInt8) × Int × PV) : Option ((Unit × (List UInt8) × (List UInt8) × Int × PV) ⊕ ((Unit × (List UInt8) × (List UInt8) × PV))) := S120_5 fuel x.1 x.2.1 x.2.2.1 x.2.2.2.1 x.2.2.2.2

/-- wireschema/wireschemaref10.message -/
def F120 (fuel : Nat) (a0 : PV) : Option ((List UInt8)) :=
 let x1 := (a0.fld 0).asStr
 bif decide (([109, 101, 115, 115, 97, 103, 101, 32] : List UInt8).length + x1.length ≤ strMax) then
 (F152 fuel ((a0.fld 4).asList)).bind fun y3 =>
 bif decide ((([109, 101, 115, 115, 97, 103, 101, 32] : List UInt8) ++ x1).length + y3.length ≤ strMax) then
 let x4 := (([109, 101, 115, 115, 97, 103, 101, 32] : List UInt8) ++ x1) ++ y3
 bif decide (x4.length + ([32, 123, 10] : List UInt8).length ≤ strMax) then
 (loopQ fuel (S120_5step fuel) ((), (x4 ++ ([32, 123, 10] : List UInt8)), ([] : List UInt8), (0 : Int), a0)).bind fun y91 =>
 bif (!(y91.2.2.1 == ([] : List UInt8))) then
 let x94 := y91.2.1
 bif decide (x94.length + ([32, 32, 125, 10] : List UInt8).length ≤ strMax) then
 let x95 := x94 ++ ([32, 32, 125, 10] : List UInt8)
 (F218 fuel ((y91.2.2.2.fld 2).asList)).bind fun y97 =>
 bif decide (x95.length + y97.length ≤ strMax) then
 let x98 := x95 ++ y97
 (F219 fuel ((y91.2.2.2.fld 3).asList)).bind fun y100 =>
 bif decide (x98.length + y100.length ≤ strMax) then
 let x101 := x98 ++ y100
 bif decide (x101.length + ([125, 10] : List UInt8).length ≤ strMax) then
 some (x101 ++ ([125, 10] : List UInt8))
 else none
 else none
 else none
 else none
 else
 let x103 := y91.2.1
 (F218 fuel ((y91.2.2.2.fld 2).asList)).bind fun y105 =>
 bif decide (x103.length + y105.length ≤ strMax) then
 let x106 := x103 ++ y105
 (F219 fuel ((y91.2.2.2.fld 3).asList)).bind fun y108 =>
 bif decide (x106.length + y108.length ≤ strMax) then
 let x109 := x106 ++ y108
 bif decide (x109.length + ([125, 10] : List UInt8).length ≤ strMax) then
 some (x109 ++ ([125, 10] : List UInt8))
 else none
 else none
 else none
 else none
 else none
 else none

def S120_5l (fuel : Nat) : LoopE := ⟨5, ⟨[1, 3, 4, 5], [.box 61 .leaf], [(.con (.ref 0 [] 61)), .str, .str, (.int .i64), (.data 61)]⟩, [(.exit 0, ⟨[1, 3, 4], [.box 61 .leaf], [(.con (.ref 0 [] 61)), .str, .str, (.data 61)]⟩)], S120_5step fuel⟩

def F120C (fuel : Nat) : Cfg := cfg Tryz.prog 78 0 [F152c fuel, F59c fuel, F218c fuel, F219c fuel] [S120_5l fuel] fuel

def F120c (fuel : Nat) : CallE := ⟨120, ⟨1, [], [(.data 61)]⟩, ⟨1, [], [.str]⟩, fun x => F120 fuel x, []⟩

theorem F120k (fuel : Nat) : CallOk (F120C fuel) := cfg_callOk (qc (F152ok fuel) <| qc (F59ok fuel) <| qc (F218ok fuel) <| qc (F219ok fuel) <| q0)

theorem S120_5ok (fuel : Nat) : LoopOk (F120C fuel) (lp (bodyOf Tryz.f120) 0) := okL (F120k fuel) fuel (S120_5l fuel) L0

theorem F120ok (fuel : Nat) : (F120c fuel).Ok Tryz.prog := okE Tryz.f120 (F120k fuel) (L1 (S120_5ok fuel))

/-- wireschema/wireschemaref10.behind -/
def F119 (fuel : Nat) (a0 : List UInt8) (a1 : List UInt8) : Option ((List UInt8)) :=
 bif (a0 == ([] : List UInt8)) then
 some a1
 else
 bif decide (a0.length + ([10] : List UInt8).length ≤ strMax) then
 let x2 := a0 ++ ([10] : List UInt8)
 bif decide (x2.length + a1.length ≤ strMax) then
 some (x2 ++ a1)
 else none
 else none

def F119c (fuel : Nat) : CallE := ⟨119, ⟨2, [], [.str, .str]⟩, ⟨1, [], [.str]⟩, fun x => F119 fuel x.1 x.2, []⟩

theorem F119ok (fuel : Nat) : (F119c fuel).Ok Tryz.prog := okI Tryz.f119 12 0 fuel [] (q0) L0

def S121_6 (fuel : Nat) (a7 : Unit) (a8 : List UInt8) (a9 : Int) (a10 : PV) : Option ((Unit × (List UInt8) × Int × PV) ⊕ ((Unit × (List UInt8) × PV))) :=
 bif (decide (a9 < (((a10.fld 2).asList).length : Int))) then
 bif decide (a8.length + ([32, 32] : List UInt8).length ≤ strMax) then
 let x14 := a8 ++ ([32, 32] : List UInt8)
 let x15 := (a10.fld 2).asList
 bif inRange a9 x15.length then
 let x18 := ((x15.getD a9.toNat .bad).fld 0).asStr
 bif decide (x14.length + x18.length ≤ strMax) then
 let x19 := x14 ++ x18
 bif decide (x19.length + ([32, 61, 32] : List UInt8).length ≤ strMax) then
 let x20 := x19 ++ ([32, 61, 32] : List UInt8)
 let x21 := (a10.fld 2).asList
 bif inRange a9 x21.length then
 (F151 fuel ((x21.getD a9.toNat .bad).fld 1).asInt).bind fun y25 =>
 bif decide (x20.length + y25.length ≤ strMax) then
 let x26 := x20 ++ y25
 let x27 := (a10.fld 2).asList
 bif inRange a9 x27.length then
 (F152 fuel ((x27.getD a9.toNat .bad).fld 2).asList).bind fun y31 =>
 bif decide (x26.length + y31.length ≤ strMax) then
 let x32 := x26 ++ y31
 bif decide (x32.length + ([59, 10] : List UInt8).length ≤ strMax) then
 some (.inl ((), (x32 ++ ([59, 10] : List UInt8)), (IntKind.wrap .i64 (a9 + (1 : Int))), a10))
 else none
 else none
 else none
 else none
 else none
 else none
 else none
 else none
 else none
 else
 some (.inr ((), a8, a10))

def S121_6step (fuel : Nat) (x : Unit × (List UInt8) × Int × PV) : Option ((Unit × (List UInt8) × Int × PV) ⊕ ((Unit × (List UInt8) × PV))) := S121_6 fuel x.1 x.2.1 x.2.2.1 x.2.2.2

/-- wireschema/wireschemaref10.enum -/
def F121 (fuel : Nat) (a0 : PV) : Option ((List UInt8)) :=
 let x1 := (a0.fld 0).asStr
 bif decide (([101, 110, 117, 109, 32] : List UInt8).length + x1.length ≤ strMax) then
 (F152 fuel ((a0.fld 4).asList)).bind fun y3 =>
 bif decide ((([101, 110, 117, 109, 32] : List UInt8) ++ x1).length + y3.length ≤ strMax) then
 let x4 := (([101, 110, 117, 109, 32] : List UInt8) ++ x1) ++ y3
 bif decide (x4.length + ([32, 123, 10] : List UInt8).length ≤ strMax) then
 let x5 := x4 ++ ([32, 123, 10] : List UInt8)
 bif ((a0.fld 1).asBool) then
 bif decide (([111, 112, 101, 110, 32] : List UInt8).length + x5.length ≤ strMax) then
 (loopQ fuel (S121_6step fuel) ((), ([111, 112, 101, 110, 32] : List UInt8) ++ x5, (0 : Int), a0)).bind fun y35 =>
 let x36 := y35.2.1
 (F218 fuel ((y35.2.2.fld 3).asList)).bind fun y38 =>
 bif decide (x36.length + y38.length ≤ strMax) then
 let x39 := x36 ++ y38
 bif decide (x39.length + ([125, 10] : List UInt8).length ≤ strMax) then
 some (x39 ++ ([125, 10] : List UInt8))
 else none
 else none
 else none
 else
 (loopQ fuel (S121_6step fuel) ((), x5, (0 : Int), a0)).bind fun y41 =>
 let x42 := y41.2.1
 (F218 fuel ((y41.2.2.fld 3).asList)).bind fun y44 =>
 bif decide (x42.length + y44.length ≤ strMax) then
 let x45 := x42 ++ y44
 bif decide (x45.length + ([125, 10] : List UInt8).length ≤ strMax) then
 some (x45 ++ ([125, 10] : List UInt8))
 else none
 else none
 else none
 else none
 else none

def S121_6l (fuel : Nat) : LoopE := ⟨6, ⟨[1, 3, 4], [.box 64 .leaf], [(.con (.ref 0 [] 64)), .str, (.int .i64), (.data 64)]⟩, [(.exit 0, ⟨[1, 3], [.box 64 .leaf], [(.con (.ref 0 [] 64)), .str, (.data 64)]⟩)], S121_6step fuel⟩

def F121C (fuel : Nat) : Cfg := cfg Tryz.prog 57 0 [F152c fuel, F151c fuel, F218c fuel] [S121_6l fuel] fuel

def F121c (fuel : Nat) : CallE := ⟨121, ⟨1, [], [(.data 64)]⟩, ⟨1, [], [.str]⟩, fun x => F121 fuel x, []⟩

theorem F121k (fuel : Nat) : CallOk (F121C fuel) := cfg_callOk (qc (F152ok fuel) <| qc (F151ok fuel) <| qc (F218ok fuel) <| q0)

theorem S121_6ok (fuel : Nat) : LoopOk (F121C fuel) (lp (bodyOf Tryz.f121) 0) := okL (F121k fuel) fuel (S121_6l fuel) L0

theorem F121ok (fuel : Nat) : (F121c fuel).Ok Tryz.prog := okE Tryz.f121 (F121k fuel) (L1 (S121_6ok fuel))

def S122_4 (fuel : Nat) (a6 : Unit) (a7 : List UInt8) (a8 : Int) (a9 : PV) : Option ((Unit × (List UInt8) × Int × PV) ⊕ (((List UInt8) × PV))) :=
 bif (decide (a8 < (((a9.fld 1).asList).length : Int))) then
 let x13 := (a9.fld 1).asList
 bif inRange a8 x13.length then
 let x14 := x13.getD a8.toNat .bad
 let x15 := (x14.fld 1).asStr
 let x16 := (x14.fld 2).asStr
 bif (bif (((x14.fld 3).asInt) == (3 : Int)) then true else (((x14.fld 3).asInt) == (4 : Int))) then
 bif decide (([115, 116, 114, 101, 97, 109, 32] : List UInt8).length + x15.length ≤ strMax) then
 bif (bif (((x14.fld 3).asInt) == (2 : Int)) then true else (((x14.fld 3).asInt) == (4 : Int))) then
 bif decide (([115, 116, 114, 101, 97, 109, 32] : List UInt8).length + x16.length ≤ strMax) then
 bif decide (a7.length + ([32, 32, 114, 112, 99, 32] : List UInt8).length ≤ strMax) then
 let x27 := a7 ++ ([32, 32, 114, 112, 99, 32] : List UInt8)
 let x28 := (x14.fld 0).asStr
 bif decide (x27.length + x28.length ≤ strMax) then
 let x29 := x27 ++ x28
 bif decide (x29.length + ([40] : List UInt8).length ≤ strMax) then
 let x30 := x29 ++ ([40] : List UInt8)
 bif decide (x30.length + (([115, 116, 114, 101, 97, 109, 32] : List UInt8) ++ x15).length ≤ strMax) then
 let x31 := x30 ++ (([115, 116, 114, 101, 97, 109, 32] : List UInt8) ++ x15)
 bif decide (x31.length + ([41, 32, 114, 101, 116, 117, 114, 110, 115, 32, 40] : List UInt8).length ≤ strMax) then
 let x32 := x31 ++ ([41, 32, 114, 101, 116, 117, 114, 110, 115, 32, 40] : List UInt8)
 bif decide (x32.length + (([115, 116, 114, 101, 97, 109, 32] : List UInt8) ++ x16).length ≤ strMax) then
 let x33 := x32 ++ (([115, 116, 114, 101, 97, 109, 32] : List UInt8) ++ x16)
 bif decide (x33.length + ([41] : List UInt8).length ≤ strMax) then
 let x34 := x33 ++ ([41] : List UInt8)
 (F152 fuel ((x14.fld 4).asList)).bind fun y36 =>
 bif decide (x34.length + y36.length ≤ strMax) then
 let x37 := x34 ++ y36
 bif decide (x37.length + ([59, 10] : List UInt8).length ≤ strMax) then
 some (.inl ((), (x37 ++ ([59, 10] : List UInt8)), (IntKind.wrap .i64 (a8 + (1 : Int))), a9))
 else none
 else none
 else none
 else none
 else none
 else none
 else none
 else none
 else none
 else none
 else
 bif decide (a7.length + ([32, 32, 114, 112, 99, 32] : List UInt8).length ≤ strMax) then
 let x40 := a7 ++ ([32, 32, 114, 112, 99, 32] : List UInt8)
 let x41 := (x14.fld 0).asStr
 bif decide (x40.length + x41.length ≤ strMax) then
 let x42 := x40 ++ x41
 bif decide (x42.length + ([40] : List UInt8).length ≤ strMax) then
 let x43 := x42 ++ ([40] : List UInt8)
 bif decide (x43.length + (([115, 116, 114, 101, 97, 109, 32] : List UInt8) ++ x15).length ≤ strMax) then
 let x44 := x43 ++ (([115, 116, 114, 101, 97, 109, 32] : List UInt8) ++ x15)
 bif decide (x44.length + ([41, 32, 114, 101, 116, 117, 114, 110, 115, 32, 40] : List UInt8).length ≤ strMax) then
 let x45 := x44 ++ ([41, 32, 114, 101, 116, 117, 114, 110, 115, 32, 40] : List UInt8)
 bif decide (x45.length + x16.length ≤ strMax) then
 let x46 := x45 ++ x16
 bif decide (x46.length + ([41] : List UInt8).length ≤ strMax) then
 let x47 := x46 ++ ([41] : List UInt8)
 (F152 fuel ((x14.fld 4).asList)).bind fun y49 =>
 bif decide (x47.length + y49.length ≤ strMax) then
 let x50 := x47 ++ y49
 bif decide (x50.length + ([59, 10] : List UInt8).length ≤ strMax) then
 some (.inl ((), (x50 ++ ([59, 10] : List UInt8)), (IntKind.wrap .i64 (a8 + (1 : Int))), a9))
 else none
 else none
 else none
 else none
 else none
 else none
 else none
 else none
 else none
 else none
 else
 bif (bif (((x14.fld 3).asInt) == (2 : Int)) then true else (((x14.fld 3).asInt) == (4 : Int))) then
 bif decide (([115, 116, 114, 101, 97, 109, 32] : List UInt8).length + x16.length ≤ strMax) then
 bif decide (a7.length + ([32, 32, 114, 112, 99, 32] : List UInt8).length ≤ strMax) then
 let x58 := a7 ++ ([32, 32, 114, 112, 99, 32] : List UInt8)
 let x59 := (x14.fld 0).asStr
 bif decide (x58.length + x59.length ≤ strMax) then
 let x60 := x58 ++ x59
 bif decide (x60.length + ([40] : List UInt8).length ≤ strMax) then
 let x61 := x60 ++ ([40] : List UInt8)
 bif decide (x61.length + x15.length ≤ strMax) then
 let x62 := x61 ++ x15
 bif decide (x62.length + ([41, 32, 114, 101, 116, 117, 114, 110, 115, 32, 40] : List UInt8).length ≤ strMax) then
 let x63 := x62 ++ ([41, 32, 114, 101, 116, 117, 114, 110, 115, 32, 40] : List UInt8)
 bif decide (x63.length + (([115, 116, 114, 101, 97, 109, 32] : List UInt8) ++ x16).length ≤ strMax) then
 let x64 := x63 ++ (([115, 116, 114, 101, 97, 109, 32] : List UInt8) ++ x16)
 bif decide (x64.length + ([41] : List UInt8).length ≤ strMax) then
 let x65 := x64 ++ ([41] : List UInt8)
 (F152 fuel ((x14.fld 4).asList)).bind fun y67 =>
 bif decide (x65.length + y67.length ≤ strMax) then
 let x68 := x65 ++ y67
 bif decide (x68.length + ([59, 10] : List UInt8).length ≤ strMax) then
 some (.inl ((), (x68 ++ ([59, 10] : List UInt8)), (IntKind.wrap .i64 (a8 + (1 : Int))), a9))
 else none
 else none
 else none
 else none
 else none
 else none
 else none
 else none
 else none
 else none
 else
 bif decide (a7.length + ([32, 32, 114, 112, 99, 32] : List UInt8).length ≤ strMax) then
 let x71 := a7 ++ ([32, 32, 114, 112, 99, 32] : List UInt8)
 let x72 := (x14.fld 0).asStr
 bif decide (x71.length + x72.length ≤ strMax) then
 let x73 := x71 ++ x72
 bif decide (x73.length + ([40] : List UInt8).length ≤ strMax) then
 let x74 := x73 ++ ([40] : List UInt8)
 bif decide (x74.length + x15.length ≤ strMax) then
 let x75 := x74 ++ x15
 bif decide (x75.length + ([41, 32, 114, 101, 116, 117, 114, 110, 115, 32, 40] : List UInt8).length ≤ strMax) then
 let x76 := x75 ++ ([41, 32, 114, 101, 116, 117, 114, 110, 115, 32, 40] : List UInt8)
 bif decide (x76.length + x16.length ≤ strMax) then
 let x77 := x76 ++ x16
 bif decide (x77.length + ([41] : List UInt8).length ≤ strMax) then
 let x78 := x77 ++ ([41] : List UInt8)
 (F152 fuel ((x14.fld 4).asList)).bind fun y80 =>
 bif decide (x78.length + y80.length ≤ strMax) then
 let x81 := x78 ++ y80
 bif decide (x81.length + ([59, 10] : List UInt8).length ≤ strMax) then
 some (.inl ((), (x81 ++ ([59, 10] : List UInt8)), (IntKind.wrap .i64 (a8 + (1 : Int))), a9))
 else none
 else none
 else none
 else none
 else none
 else none
 else none
 else none
 else none
 else none
 else
 some (.inr (a7, a9))

def S122_4step (fuel : Nat) (x : Unit × (List UInt8) × Int × PV) : Option ((Unit × (List UInt8) × Int × PV) ⊕ (((List UInt8) × PV))) := S122_4 fuel x.1 x.2.1 x.2.2.1 x.2.2.2

/-- wireschema/wireschemaref10.service -/
def F122 (fuel : Nat) (a0 : PV) : Option ((List UInt8)) :=
 let x1 := (a0.fld 0).asStr
 bif decide (([115, 101, 114, 118, 105, 99, 101, 32] : List UInt8).length + x1.length ≤ strMax) then
 (F152 fuel ((a0.fld 2).asList)).bind fun y3 =>
 bif decide ((([115, 101, 114, 118, 105, 99, 101, 32] : List UInt8) ++ x1).length + y3.length ≤ strMax) then
 let x4 := (([115, 101, 114, 118, 105, 99, 101, 32] : List UInt8) ++ x1) ++ y3
 bif decide (x4.length + ([32, 123, 10] : List UInt8).length ≤ strMax) then
 (loopQ fuel (S122_4step fuel) ((), (x4 ++ ([32, 123, 10] : List UInt8)), (0 : Int), a0)).bind fun y84 =>
 let x85 := y84.1
 bif decide (x85.length + ([125, 10] : List UInt8).length ≤ strMax) then
 some (x85 ++ ([125, 10] : List UInt8))
 else none
 else none
 else none
 else none

def S122_4l (fuel : Nat) : LoopE := ⟨4, ⟨[1, 3, 4], [.box 67 .leaf], [(.con (.ref 0 [] 67)), .str, (.int .i64), (.data 67)]⟩, [(.exit 0, ⟨[3], [.box 67 .leaf], [.str, (.data 67)]⟩)], S122_4step fuel⟩

def F122C (fuel : Nat) : Cfg := cfg Tryz.prog 71 0 [F152c fuel] [S122_4l fuel] fuel

def F122c (fuel : Nat) : CallE := ⟨122, ⟨1, [], [(.data 67)]⟩, ⟨1, [], [.str]⟩, fun x => F122 fuel x, []⟩

theorem F122k (fuel : Nat) : CallOk (F122C fuel) := cfg_callOk (qc (F152ok fuel) <| q0)

theorem S122_4ok (fuel : Nat) : LoopOk (F122C fuel) (lp (bodyOf Tryz.f122) 0) := okL (F122k fuel) fuel (S122_4l fuel) L0

theorem F122ok (fuel : Nat) : (F122c fuel).Ok Tryz.prog := okE Tryz.f122 (F122k fuel) (L1 (S122_4ok fuel))

def S40_6 (fuel : Nat) (a5 : Unit) (a6 : List UInt8) (a7 : Int) (a8 : PV) : Option ((Unit × (List UInt8) × Int × PV) ⊕ ((Unit × (List UInt8) × PV))) :=
 bif (decide (a7 < (((a8.fld 2).asList).length : Int))) then
 bif decide (a6.length + ([105, 109, 112, 111, 114, 116, 32] : List UInt8).length ≤ strMax) then
 let x12 := a6 ++ ([105, 109, 112, 111, 114, 116, 32] : List UInt8)
 let x13 := (a8.fld 2).asList
 bif inRange a7 x13.length then
 (F56 fuel (x13.getD a7.toNat .bad).asStr).bind fun y16 =>
 bif decide (x12.length + y16.length ≤ strMax) then
 let x17 := x12 ++ y16
 bif decide (x17.length + ([59, 10] : List UInt8).length ≤ strMax) then
 some (.inl ((), (x17 ++ ([59, 10] : List UInt8)), (IntKind.wrap .i64 (a7 + (1 : Int))), a8))
 else none
 else none
 else none
 else none
 else
 some (.inr ((), a6, a8))

def S40_6step (fuel : Nat) (x : Unit × (List UInt8) × Int × PV) : Option ((Unit × (List UInt8) × Int × PV) ⊕ ((Unit × (List UInt8) × PV))) := S40_6 fuel x.1 x.2.1 x.2.2.1 x.2.2.2

def S40_10 (fuel : Nat) (a21 : Unit) (a22 : List UInt8) (a23 : Int) (a24 : PV) : Option ((Unit × (List UInt8) × Int × PV) ⊕ ((Unit × (List UInt8) × PV))) :=
 bif (decide (a23 < (((a24.fld 3).asList).length : Int))) then
 let x28 := (a24.fld 3).asList
 bif inRange a23 x28.length then
 (F120 fuel (x28.getD a23.toNat .bad)).bind fun y30 =>
 (F119 fuel a22 y30).bind fun y31 =>
 some (.inl ((), y31, (IntKind.wrap .i64 (a23 + (1 : Int))), a24))
 else none
 else
 some (.inr ((), a22, a24))

def S40_10step (fuel : Nat) (x : Unit × (List UInt8) × Int × PV) : Option ((Unit × (List UInt8) × Int × PV) ⊕ ((Unit × (List UInt8) × PV))) := S40_10 fuel x.1 x.2.1 x.2.2.1 x.2.2.2

def S40_14 (fuel : Nat) (a34 : Unit) (a35 : List UInt8) (a36 : Int) (a37 : PV) : Option ((Unit × (List UInt8) × Int × PV) ⊕ ((Unit × (List UInt8) × PV))) :=
 bif (decide (a36 < (((a37.fld 4).asList).length : Int))) then
 let x41 := (a37.fld 4).asList
 bif inRange a36 x41.length then
 (F121 fuel (x41.getD a36.toNat .bad)).bind fun y43 =>
 (F119 fuel a35 y43).bind fun y44 =>
 some (.inl ((), y44, (IntKind.wrap .i64 (a36 + (1 : Int))), a37))
 else none
 else
 some (.inr ((), a35, a37))

def S40_14step (fuel : Nat) (x : Unit × (List UInt8) × Int × PV) : Option ((Unit × (List UInt8) × Int × PV) ⊕ ((Unit × (List UInt8) × PV))) := S40_14 fuel x.1 x.2.1 x.2.2.1 x.2.2.2

def S40_18 (fuel : Nat) (a47 : Unit) (a48 : List UInt8) (a49 : Int) (a50 : PV) : Option ((Unit × (List UInt8) × Int × PV) ⊕ (((List UInt8) × PV))) :=
 bif (decide (a49 < (((a50.fld 5).asList).length : Int))) then
 let x54 := (a50.fld 5).asList
 bif inRange a49 x54.length then
 (F122 fuel (x54.getD a49.toNat .bad)).bind fun y56 =>
 (F119 fuel a48 y56).bind fun y57 =>
 some (.inl ((), y57, (IntKind.wrap .i64 (a49 + (1 : Int))), a50))
 else none
 else
 some (.inr (a48, a50))

def S40_18step (fuel : Nat) (x : Unit × (List UInt8) × Int × PV) : Option ((Unit × (List UInt8) × Int × PV) ⊕ (((List UInt8) × PV))) := S40_18 fuel x.1 x.2.1 x.2.2.1 x.2.2.2

/-- wireschema/wireschemaref10.text -/
def F40 (fuel : Nat) (a0 : PV) : Option ((List UInt8)) :=
 bif (!(((a0.fld 1).asStr) == ([] : List UInt8))) then
 let x3 := (a0.fld 1).asStr
 bif decide (([115, 112, 97, 99, 101, 32] : List UInt8).length + x3.length ≤ strMax) then
 bif decide ((([115, 112, 97, 99, 101, 32] : List UInt8) ++ x3).length + ([59, 10] : List UInt8).length ≤ strMax) then
 let x4 := (([115, 112, 97, 99, 101, 32] : List UInt8) ++ x3) ++ ([59, 10] : List UInt8)
 (loopQ fuel (S40_6step fuel) ((), x4, (0 : Int), a0)).bind fun y20 =>
 (loopQ fuel (S40_10step fuel) ((), y20.2.1, (0 : Int), y20.2.2)).bind fun y33 =>
 (loopQ fuel (S40_14step fuel) ((), y33.2.1, (0 : Int), y33.2.2)).bind fun y46 =>
 (loopQ fuel (S40_18step fuel) ((), y46.2.1, (0 : Int), y46.2.2)).bind fun y59 =>
 some y59.1
 else none
 else none
 else
 (loopQ fuel (S40_6step fuel) ((), ([] : List UInt8), (0 : Int), a0)).bind fun y61 =>
 (loopQ fuel (S40_10step fuel) ((), y61.2.1, (0 : Int), y61.2.2)).bind fun y62 =>
 (loopQ fuel (S40_14step fuel) ((), y62.2.1, (0 : Int), y62.2.2)).bind fun y63 =>
 (loopQ fuel (S40_18step fuel) ((), y63.2.1, (0 : Int), y63.2.2)).bind fun y64 =>
 some y64.1

def S40_6l (fuel : Nat) : LoopE := ⟨6, ⟨[1, 3, 4], [.box 27 .leaf], [(.con (.ref 0 [] 27)), .str, (.int .i64), (.data 27)]⟩, [(.exit 0, ⟨[1, 3], [.box 27 .leaf], [(.con (.ref 0 [] 27)), .str, (.data 27)]⟩)], S40_6step fuel⟩

def S40_10l (fuel : Nat) : LoopE := ⟨10, ⟨[1, 3, 5], [.box 27 .leaf], [(.con (.ref 0 [] 27)), .str, (.int .i64), (.data 27)]⟩, [(.exit 2, ⟨[1, 3], [.box 27 .leaf], [(.con (.ref 0 [] 27)), .str, (.data 27)]⟩)], S40_10step fuel⟩

def S40_14l (fuel : Nat) : LoopE := ⟨14, ⟨[1, 3, 6], [.box 27 .leaf], [(.con (.ref 0 [] 27)), .str, (.int .i64), (.data 27)]⟩, [(.exit 4, ⟨[1, 3], [.box 27 .leaf], [(.con (.ref 0 [] 27)), .str, (.data 27)]⟩)], S40_14step fuel⟩

def S40_18l (fuel : Nat) : LoopE := ⟨18, ⟨[1, 3, 7], [.box 27 .leaf], [(.con (.ref 0 [] 27)), .str, (.int .i64), (.data 27)]⟩, [(.exit 6, ⟨[3], [.box 27 .leaf], [.str, (.data 27)]⟩)], S40_18step fuel⟩

def F40C (fuel : Nat) : Cfg := cfg Tryz.prog 78 0 [F56c fuel, F120c fuel, F119c fuel, F121c fuel, F122c fuel] [S40_6l fuel, S40_10l fuel, S40_14l fuel, S40_18l fuel] fuel

def F40c (fuel : Nat) : CallE := ⟨40, ⟨1, [], [(.data 27)]⟩, ⟨1, [], [.str]⟩, fun x => F40 fuel x, []⟩

theorem F40k (fuel : Nat) : CallOk (F40C fuel) := cfg_callOk (qc (F56ok fuel) <| qc (F120ok fuel) <| qc (F119ok fuel) <| qc (F121ok fuel) <| qc (F122ok fuel) <| q0)

theorem S40_6ok (fuel : Nat) : LoopOk (F40C fuel) (lp (bodyOf Tryz.f40) 0) := okL (F40k fuel) fuel (S40_6l fuel) L0

theorem S40_10ok (fuel : Nat) : LoopOk (F40C fuel) (lp (bodyOf Tryz.f40) 1) := okL (F40k fuel) fuel (S40_10l fuel) L0

theorem S40_14ok (fuel : Nat) : LoopOk (F40C fuel) (lp (bodyOf Tryz.f40) 2) := okL (F40k fuel) fuel (S40_14l fuel) L0

theorem S40_18ok (fuel : Nat) : LoopOk (F40C fuel) (lp (bodyOf Tryz.f40) 3) := okL (F40k fuel) fuel (S40_18l fuel) L0

theorem F40ok (fuel : Nat) : (F40c fuel).Ok Tryz.prog := okE Tryz.f40 (F40k fuel) (L4 (S40_6ok fuel) (S40_10ok fuel) (S40_14ok fuel) (S40_18ok fuel))

def S13_8 (fuel : Nat) (a7 : Unit) (a8 : Bool) (a9 : Int) (a10 : PV) : Option ((Unit × Bool × Int × PV) ⊕ ((Unit × Bool × PV))) :=
 bif (decide (a9 < (((a10.fld 3).asList).length : Int))) then
 let x14 := (a10.fld 3).asList
 bif imp a8 (inRange a9 x14.length) then
 (bif a8 then F37 fuel ((x14.getD a9.toNat .bad).fld 3).asList else some false).bind fun y18 =>
 some (.inl ((), (bif a8 then y18 else false), (IntKind.wrap .i64 (a9 + (1 : Int))), a10))
 else none
 else
 some (.inr ((), a8, a10))

def S13_8step (fuel : Nat) (x : Unit × Bool × Int × PV) : Option ((Unit × Bool × Int × PV) ⊕ ((Unit × Bool × PV))) := S13_8 fuel x.1 x.2.1 x.2.2.1 x.2.2.2

/-- wireschema/wireschemaref10.Check -/
def F13 (fuel : Nat) (a0 : PV) : Option (Int) :=
 (F35 fuel a0).bind fun y1 =>
 bif (!y1) then
 some (8 : Int)
 else
 (F36 fuel a0).bind fun y3 =>
 bif (!y3) then
 some (1 : Int)
 else
 (F37 fuel ((a0.fld 2).asList)).bind fun y6 =>
 (loopQ fuel (S13_8step fuel) ((), y6, (0 : Int), a0)).bind fun y21 =>
 bif (!y21.2.1) then
 some (7 : Int)
 else
 (F38 fuel y21.2.2).bind fun y25 =>
 bif (y25 != (0 : Int)) then
 some y25
 else
 (F39 fuel y21.2.2).bind fun y28 =>
 let x29 := !y28
 (bif !x29 then F40 fuel y21.2.2 else some []).bind fun y31 =>
 bif (bif x29 then true else (decide ((y31.length : Int) > (16384 : Int)))) then
 some (3 : Int)
 else
 some (0 : Int)

def S13_8l (fuel : Nat) : LoopE := ⟨8, ⟨[1, 3, 4], [.box 27 .leaf], [(.con (.ref 0 [] 27)), .bool, (.int .i64), (.data 27)]⟩, [(.exit 0, ⟨[1, 3], [.box 27 .leaf], [(.con (.ref 0 [] 27)), .bool, (.data 27)]⟩)], S13_8step fuel⟩

def F13C (fuel : Nat) : Cfg := cfg Tryz.prog 48 0 [F35c fuel, F36c fuel, F37c fuel, F38c fuel, F39c fuel, F40c fuel] [S13_8l fuel] fuel

def F13c (fuel : Nat) : CallE := ⟨13, ⟨1, [], [(.data 27)]⟩, ⟨1, [], [(.int .i64)]⟩, fun x => F13 fuel x, 0⟩

theorem F13k (fuel : Nat) : CallOk (F13C fuel) := cfg_callOk (qc (F35ok fuel) <| qc (F36ok fuel) <| qc (F37ok fuel) <| qc (F38ok fuel) <| qc (F39ok fuel) <| qc (F40ok fuel) <| q0)

theorem S13_8ok (fuel : Nat) : LoopOk (F13C fuel) (lp (bodyOf Tryz.f13) 0) := okL (F13k fuel) fuel (S13_8l fuel) L0

theorem F13ok (fuel : Nat) : (F13c fuel).Ok Tryz.prog := okE Tryz.f13 (F13k fuel) (L1 (S13_8ok fuel))

/-- wireschema/wireschemalaw10.FormatChecks -/
def F3 (fuel : Nat) (a0 : PV) : Option (Bool) :=
 (F11 fuel a0).bind fun y1 =>
 bif (!y1) then
 some true
 else
 (F12 fuel a0).bind fun y3 =>
 (F13 fuel a0).bind fun y4 =>
 let x5 := y3 == y4
 (bif x5 then Lawake fuel else some false).bind fun y6 =>
 some (bif x5 then y6 else false)

def F3c (fuel : Nat) : CallE := ⟨3, ⟨1, [], [(.data 27)]⟩, ⟨1, [], [.bool]⟩, fun x => F3 fuel x, false⟩

theorem F3ok (fuel : Nat) : (F3c fuel).Ok Tryz.prog := okI Tryz.f3 14 0 fuel [F11c fuel, F12c fuel, F13c fuel, Lawakec fuel] (qc (F11ok fuel) <| qc (F12ok fuel) <| qc (F13ok fuel) <| qc (Lawakeok fuel) <| q0) L0

/-- wireschema/wireschemaref10.Print -/
def F16 (fuel : Nat) (a0 : PV) : Option ((List UInt8)) :=
 (F13 fuel a0).bind fun y1 =>
 bif (y1 != (0 : Int)) then
 some ([] : List UInt8)
 else
 (F40 fuel a0).bind fun y3 =>
 some y3

def F16c (fuel : Nat) : CallE := ⟨16, ⟨1, [], [(.data 27)]⟩, ⟨1, [], [.str]⟩, fun x => F16 fuel x, []⟩

theorem F16ok (fuel : Nat) : (F16c fuel).Ok Tryz.prog := okI Tryz.f16 8 0 fuel [F13c fuel, F40c fuel] (qc (F13ok fuel) <| qc (F40ok fuel) <| q0) L0

/-- wireschema/wireschemalaw10.FormatPrints -/
def F4 (fuel : Nat) (a0 : PV) : Option (Bool) :=
 (F11 fuel a0).bind fun y1 =>
 bif (!y1) then
 some true
 else
 (F15 fuel a0).bind fun y3 =>
 (F16 fuel a0).bind fun y4 =>
 let x5 := y3 == y4
 (bif x5 then Lawake fuel else some false).bind fun y6 =>
 some (bif x5 then y6 else false)

def F4c (fuel : Nat) : CallE := ⟨4, ⟨1, [], [(.data 27)]⟩, ⟨1, [], [.bool]⟩, fun x => F4 fuel x, false⟩

theorem F4ok (fuel : Nat) : (F4c fuel).Ok Tryz.prog := okI Tryz.f4 14 0 fuel [F11c fuel, F15c fuel, F16c fuel, Lawakec fuel] (qc (F11ok fuel) <| qc (F15ok fuel) <| qc (F16ok fuel) <| qc (Lawakeok fuel) <| q0) L0

/-- wireschema/format.Field -/
def F22 (fuel : Nat) (a0 : PV) : Option ((List UInt8)) :=
 (F12 fuel (PV.agg [(PV.str ([] : List UInt8)), (PV.str ([] : List UInt8)), (PV.slice []), (PV.slice [(PV.agg [(PV.str ([77] : List UInt8)), (PV.slice [a0]), (PV.slice []), (PV.slice []), (PV.slice [])])]), (PV.slice []), (PV.slice [])])).bind fun y1 =>
 bif (y1 != (0 : Int)) then
 some ([] : List UInt8)
 else
 (F58 fuel a0).bind fun y3 =>
 some y3

def F22c (fuel : Nat) : CallE := ⟨22, ⟨1, [], [(.data 45)]⟩, ⟨1, [], [.str]⟩, fun x => F22 fuel x, []⟩

theorem F22ok (fuel : Nat) : (F22c fuel).Ok Tryz.prog := okI Tryz.f22 12 0 fuel [F12c fuel, F58c fuel] (qc (F12ok fuel) <| qc (F58ok fuel) <| q0) L0

/-- wireschema/wireschemaref10.Field -/
def F23 (fuel : Nat) (a0 : PV) : Option ((List UInt8)) :=
 (F13 fuel (PV.agg [(PV.str ([] : List UInt8)), (PV.str ([] : List UInt8)), (PV.slice []), (PV.slice [(PV.agg [(PV.str ([77] : List UInt8)), (PV.slice [a0]), (PV.slice []), (PV.slice []), (PV.slice [])])]), (PV.slice []), (PV.slice [])])).bind fun y1 =>
 bif (y1 != (0 : Int)) then
 some ([] : List UInt8)
 else
 (F59 fuel a0).bind fun y3 =>
 some y3

def F23c (fuel : Nat) : CallE := ⟨23, ⟨1, [], [(.data 45)]⟩, ⟨1, [], [.str]⟩, fun x => F23 fuel x, []⟩

theorem F23ok (fuel : Nat) : (F23c fuel).Ok Tryz.prog := okI Tryz.f23 12 0 fuel [F13c fuel, F59c fuel] (qc (F13ok fuel) <| qc (F59ok fuel) <| q0) L0

/-- wireschema/wireschemalaw10.FormatParts -/
def F6 (fuel : Nat) (a0 : PV) (a1 : PV) (a2 : PV) : Option (Bool) :=
 (F18 fuel a0).bind fun y1 =>
 (F19 fuel a0).bind fun y2 =>
 let x3 := y1 == y2
 (bif x3 then F20 fuel a1 else some []).bind fun y4 =>
 (bif x3 then F21 fuel a1 else some []).bind fun y5 =>
 let x7 := bif x3 then (y4 == y5) else false
 (bif x7 then F22 fuel a2 else some []).bind fun y8 =>
 (bif x7 then F23 fuel a2 else some []).bind fun y9 =>
 let x11 := bif x7 then (y8 == y9) else false
 (bif x11 then Lawake fuel else some false).bind fun y12 =>
 some (bif x11 then y12 else false)

def F6c (fuel : Nat) : CallE := ⟨6, ⟨3, [], [(.data 35), (.data 42), (.data 45)]⟩, ⟨1, [], [.bool]⟩, fun x => F6 fuel x.1 x.2.1 x.2.2, false⟩

theorem F6ok (fuel : Nat) : (F6c fuel).Ok Tryz.prog := okI Tryz.f6 29 0 fuel [F18c fuel, F19c fuel, F20c fuel, F21c fuel, F22c fuel, F23c fuel, Lawakec fuel] (qc (F18ok fuel) <| qc (F19ok fuel) <| qc (F20ok fuel) <| qc (F21ok fuel) <| qc (F22ok fuel) <| qc (F23ok fuel) <| qc (Lawakeok fuel) <| q0) L0
end
end Go.Ab
