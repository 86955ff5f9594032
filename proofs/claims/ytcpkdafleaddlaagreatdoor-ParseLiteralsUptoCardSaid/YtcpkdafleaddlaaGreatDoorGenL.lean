/- A part of the proof: lemmas on how the program runs over plain data. -/
import Derived.Test.YtcpkdafleaddlaaGreatDoorAbCaughtP
import Derived.KernelRfl
set_option linter.unusedVariables false
set_option linter.unusedSimpArgs false
set_option linter.unnecessarySimpa false
namespace Go.Ab
open Go Go.Proofs
set_option maxRecDepth 100000
noncomputable section
abbrev Q0 : Type := (List PV) × Int × (List UInt8) × (List UInt8) × Unit × Unit × Unit × (List PV) × (List PV) × (List PV) × (List PV)
abbrev Q1 : Type := (List PV) × Int × (List UInt8) × (List UInt8) × Unit × Unit × Unit × (List PV) × (List UInt8) × (List PV) × (List PV) × (List PV)
abbrev Q2 : Type := Unit × Unit × PV × (List PV) × Int × (List UInt8) × (List UInt8) × Unit × Unit × Unit × (List PV) × (List PV) × (List PV) × (List PV)
abbrev Q3 : Type := (List PV) × Int × (List UInt8) × (List UInt8) × Unit × Unit × Unit × (List PV) × PV × (List PV) × (List PV) × (List PV)
abbrev Q4 : Type := (List PV) × Int × Int × (List UInt8) × (List UInt8) × Unit × Unit × Unit × (List PV) × (List PV) × (List PV) × (List PV)
abbrev Q5 : Type := Unit × Unit × Int × PV × (List PV) × Int × (List UInt8) × (List UInt8) × Unit × Unit × Unit × (List PV) × (List PV) × (List PV) × (List PV)
abbrev Q6 : Type := (List PV) × Int × (List UInt8) × (List UInt8) × Unit × Unit × Unit × (List PV) × Int × PV × (List PV) × (List PV) × (List PV)
def F362 (fuel : Nat) (a0 : Int) : Option (Bool) :=
 some ((bitsI .and .i64 a0 (IntKind.wrap .i64 (a0 - (1 : Int)))) == (0 : Int))
def F362c (fuel : Nat) : CallE := ⟨362, ⟨1, [], [(.int .i64)]⟩, ⟨1, [], [.bool]⟩, fun x => F362 fuel x, false⟩
theorem F362ok (fuel : Nat) : (F362c fuel).Ok Tryz.prog := okJ Tryz.f362 8 0 fuel [] [] false (q0) (p0) L0
def S315_12 (fuel : Nat) (a14 : List PV) (a15 : Int) (a16 : Bool) (a17 : Bool) (a18 : List PV) (a19 : List UInt8) (a20 : Unit) (a21 : Int) (a22 : Int) (a23 : Int) (a24 : Int) (a25 : PV) : Option (((List PV) × Int × Bool × Bool × (List PV) × (List UInt8) × Unit × Int × Int × Int × Int × PV) ⊕ (((List PV) × Int × Bool × Bool × (List PV) × (List UInt8) × Unit × Int × PV))) :=
 bif (decide (a15 ≥ a23)) then
 let x27 := IntKind.wrap .i64 (a21 - (1 : Int))
 let x28 := bitsI .and .u64 a15 a24
 bif inRange x28 (([48, 49, 50, 51, 52, 53, 54, 55, 56, 57, 97, 98, 99, 100, 101, 102, 103, 104, 105, 106, 107, 108, 109, 110, 111, 112, 113, 114, 115, 116, 117, 118, 119, 120, 121, 122] : List UInt8).length) then
 let x29 := ((([48, 49, 50, 51, 52, 53, 54, 55, 56, 57, 97, 98, 99, 100, 101, 102, 103, 104, 105, 106, 107, 108, 109, 110, 111, 112, 113, 114, 115, 116, 117, 118, 119, 120, 121, 122] : List UInt8).getD x28.toNat 0).toNat : Int)
 bif inRange x27 65 then
 bif decide (0 ≤ a22) then
 some (.inl (a14, (a15.fdiv (2 ^ (min a22.toNat (IntKind.bits .u64)))), a16, a17, a18, a19, (), x27, a22, a23, a24, (PV.agg (a25.parts.set x27.toNat (PV.int x29)))))
 else none
 else none
 else none
 else
 some (.inr (a14, a15, a16, a17, a18, a19, (), a21, a25))
def S315_12step (fuel : Nat) (x : (List PV) × Int × Bool × Bool × (List PV) × (List UInt8) × Unit × Int × Int × Int × Int × PV) : Option (((List PV) × Int × Bool × Bool × (List PV) × (List UInt8) × Unit × Int × Int × Int × Int × PV) ⊕ (((List PV) × Int × Bool × Bool × (List PV) × (List UInt8) × Unit × Int × PV))) := S315_12 fuel x.1 x.2.1 x.2.2.1 x.2.2.2.1 x.2.2.2.2.1 x.2.2.2.2.2.1 x.2.2.2.2.2.2.1 x.2.2.2.2.2.2.2.1 x.2.2.2.2.2.2.2.2.1 x.2.2.2.2.2.2.2.2.2.1 x.2.2.2.2.2.2.2.2.2.2.1 x.2.2.2.2.2.2.2.2.2.2.2
def S315_19 (fuel : Nat) (a45 : List PV) (a46 : Int) (a47 : Bool) (a48 : Bool) (a49 : List PV) (a50 : List UInt8) (a51 : Unit) (a52 : Int) (a53 : Int) (a54 : PV) : Option (((List PV) × Int × Bool × Bool × (List PV) × (List UInt8) × Unit × Int × Int × PV) ⊕ (((List PV) × Int × Bool × Bool × (List PV) × (List UInt8) × Unit × Int × PV))) :=
 bif (decide (a46 ≥ a53)) then
 let x56 := IntKind.wrap .i64 (a52 - (1 : Int))
 bif !(decide (a53 = 0)) then
 let x57 := IntKind.wrap .u64 (a46.tdiv a53)
 let x59 := IntKind.wrap .u64 (a46 - (IntKind.wrap .u64 (x57 * a53)))
 bif inRange x59 (([48, 49, 50, 51, 52, 53, 54, 55, 56, 57, 97, 98, 99, 100, 101, 102, 103, 104, 105, 106, 107, 108, 109, 110, 111, 112, 113, 114, 115, 116, 117, 118, 119, 120, 121, 122] : List UInt8).length) then
 let x60 := ((([48, 49, 50, 51, 52, 53, 54, 55, 56, 57, 97, 98, 99, 100, 101, 102, 103, 104, 105, 106, 107, 108, 109, 110, 111, 112, 113, 114, 115, 116, 117, 118, 119, 120, 121, 122] : List UInt8).getD x59.toNat 0).toNat : Int)
 bif inRange x56 65 then
 some (.inl (a45, x57, a47, a48, a49, a50, (), x56, a53, (PV.agg (a54.parts.set x56.toNat (PV.int x60)))))
 else none
 else none
 else none
 else
 some (.inr (a45, a46, a47, a48, a49, a50, (), a52, a54))
def S315_19step (fuel : Nat) (x : (List PV) × Int × Bool × Bool × (List PV) × (List UInt8) × Unit × Int × Int × PV) : Option (((List PV) × Int × Bool × Bool × (List PV) × (List UInt8) × Unit × Int × Int × PV) ⊕ (((List PV) × Int × Bool × Bool × (List PV) × (List UInt8) × Unit × Int × PV))) := S315_19 fuel x.1 x.2.1 x.2.2.1 x.2.2.2.1 x.2.2.2.2.1 x.2.2.2.2.2.1 x.2.2.2.2.2.2.1 x.2.2.2.2.2.2.2.1 x.2.2.2.2.2.2.2.2.1 x.2.2.2.2.2.2.2.2.2
def F315 (fuel : Nat) (a0 : List PV) (a1 : Int) (a2 : Int) (a3 : Bool) (a4 : Bool) : Option ((List PV) × (List UInt8)) :=
 bif (bif (bif (decide (a2 < (2 : Int))) then true else (a2 == (10 : Int))) then true else (decide (a2 > (36 : Int)))) then
 none
 else
 bif a3 then
 let x6 := IntKind.wrap .u64 (0 - a1)
 (F362 fuel a2).bind fun y7 =>
 bif y7 then
 (Ltz fuel (IntKind.wrap .u64 a2)).bind fun y9 =>
 (loopQ fuel (S315_12step fuel) (a0, x6, a3, a4, [], ([] : List UInt8), (), (65 : Int), (IntKind.wrap .u64 y9), (IntKind.wrap .u64 a2), (IntKind.wrap .u64 ((IntKind.wrap .u64 a2) - (1 : Int))), (PV.agg (List.replicate 65 (PV.int (0 : Int)))))).bind fun y31 =>
 let x33 := IntKind.wrap .i64 (y31.2.2.2.2.2.2.2.1 - (1 : Int))
 let x34 := y31.2.1
 bif inRange x34 (([48, 49, 50, 51, 52, 53, 54, 55, 56, 57, 97, 98, 99, 100, 101, 102, 103, 104, 105, 106, 107, 108, 109, 110, 111, 112, 113, 114, 115, 116, 117, 118, 119, 120, 121, 122] : List UInt8).length) then
 let x35 := ((([48, 49, 50, 51, 52, 53, 54, 55, 56, 57, 97, 98, 99, 100, 101, 102, 103, 104, 105, 106, 107, 108, 109, 110, 111, 112, 113, 114, 115, 116, 117, 118, 119, 120, 121, 122] : List UInt8).getD x34.toNat 0).toNat : Int)
 bif inRange x33 65 then
 bif y31.2.2.1 then
 let x37 := IntKind.wrap .i64 (x33 - (1 : Int))
 bif inRange x37 65 then
 bif y31.2.2.2.1 then
 bif decide (0 ≤ x37 ∧ x37 < 65 ∧ x37 ≤ (65 : Int) ∧ (65 : Int) ≤ 65) then
 none
 else none
 else
 bif decide (0 ≤ x37 ∧ x37 < 65 ∧ x37 ≤ (65 : Int) ∧ (65 : Int) ≤ 65) then
 let x40 := (((PV.agg ((PV.agg (y31.2.2.2.2.2.2.2.2.parts.set x33.toNat (PV.int x35))).parts.set x37.toNat (PV.int (45 : Int)))).parts.drop x37.toNat).take ((65 : Int).toNat - x37.toNat)).map byteOfPV
 some (y31.2.2.2.2.1, x40)
 else none
 else none
 else
 bif y31.2.2.2.1 then
 bif decide (0 ≤ x33 ∧ x33 < 65 ∧ x33 ≤ (65 : Int) ∧ (65 : Int) ≤ 65) then
 none
 else none
 else
 bif decide (0 ≤ x33 ∧ x33 < 65 ∧ x33 ≤ (65 : Int) ∧ (65 : Int) ≤ 65) then
 let x43 := (((PV.agg (y31.2.2.2.2.2.2.2.2.parts.set x33.toNat (PV.int x35))).parts.drop x33.toNat).take ((65 : Int).toNat - x33.toNat)).map byteOfPV
 some (y31.2.2.2.2.1, x43)
 else none
 else none
 else none
 else
 (loopQ fuel (S315_19step fuel) (a0, x6, a3, a4, [], ([] : List UInt8), (), (65 : Int), (IntKind.wrap .u64 a2), (PV.agg (List.replicate 65 (PV.int (0 : Int)))))).bind fun y61 =>
 let x63 := IntKind.wrap .i64 (y61.2.2.2.2.2.2.2.1 - (1 : Int))
 let x64 := y61.2.1
 bif inRange x64 (([48, 49, 50, 51, 52, 53, 54, 55, 56, 57, 97, 98, 99, 100, 101, 102, 103, 104, 105, 106, 107, 108, 109, 110, 111, 112, 113, 114, 115, 116, 117, 118, 119, 120, 121, 122] : List UInt8).length) then
 let x65 := ((([48, 49, 50, 51, 52, 53, 54, 55, 56, 57, 97, 98, 99, 100, 101, 102, 103, 104, 105, 106, 107, 108, 109, 110, 111, 112, 113, 114, 115, 116, 117, 118, 119, 120, 121, 122] : List UInt8).getD x64.toNat 0).toNat : Int)
 bif inRange x63 65 then
 bif y61.2.2.1 then
 let x67 := IntKind.wrap .i64 (x63 - (1 : Int))
 bif inRange x67 65 then
 bif y61.2.2.2.1 then
 bif decide (0 ≤ x67 ∧ x67 < 65 ∧ x67 ≤ (65 : Int) ∧ (65 : Int) ≤ 65) then
 none
 else none
 else
 bif decide (0 ≤ x67 ∧ x67 < 65 ∧ x67 ≤ (65 : Int) ∧ (65 : Int) ≤ 65) then
 let x70 := (((PV.agg ((PV.agg (y61.2.2.2.2.2.2.2.2.parts.set x63.toNat (PV.int x65))).parts.set x67.toNat (PV.int (45 : Int)))).parts.drop x67.toNat).take ((65 : Int).toNat - x67.toNat)).map byteOfPV
 some (y61.2.2.2.2.1, x70)
 else none
 else none
 else
 bif y61.2.2.2.1 then
 bif decide (0 ≤ x63 ∧ x63 < 65 ∧ x63 ≤ (65 : Int) ∧ (65 : Int) ≤ 65) then
 none
 else none
 else
 bif decide (0 ≤ x63 ∧ x63 < 65 ∧ x63 ≤ (65 : Int) ∧ (65 : Int) ≤ 65) then
 let x73 := (((PV.agg (y61.2.2.2.2.2.2.2.2.parts.set x63.toNat (PV.int x65))).parts.drop x63.toNat).take ((65 : Int).toNat - x63.toNat)).map byteOfPV
 some (y61.2.2.2.2.1, x73)
 else none
 else none
 else none
 else
 (F362 fuel a2).bind fun y74 =>
 bif y74 then
 (Ltz fuel (IntKind.wrap .u64 a2)).bind fun y76 =>
 (loopQ fuel (S315_12step fuel) (a0, a1, a3, a4, [], ([] : List UInt8), (), (65 : Int), (IntKind.wrap .u64 y76), (IntKind.wrap .u64 a2), (IntKind.wrap .u64 ((IntKind.wrap .u64 a2) - (1 : Int))), (PV.agg (List.replicate 65 (PV.int (0 : Int)))))).bind fun y81 =>
 let x83 := IntKind.wrap .i64 (y81.2.2.2.2.2.2.2.1 - (1 : Int))
 let x84 := y81.2.1
 bif inRange x84 (([48, 49, 50, 51, 52, 53, 54, 55, 56, 57, 97, 98, 99, 100, 101, 102, 103, 104, 105, 106, 107, 108, 109, 110, 111, 112, 113, 114, 115, 116, 117, 118, 119, 120, 121, 122] : List UInt8).length) then
 let x85 := ((([48, 49, 50, 51, 52, 53, 54, 55, 56, 57, 97, 98, 99, 100, 101, 102, 103, 104, 105, 106, 107, 108, 109, 110, 111, 112, 113, 114, 115, 116, 117, 118, 119, 120, 121, 122] : List UInt8).getD x84.toNat 0).toNat : Int)
 bif inRange x83 65 then
 bif y81.2.2.1 then
 let x87 := IntKind.wrap .i64 (x83 - (1 : Int))
 bif inRange x87 65 then
 bif y81.2.2.2.1 then
 bif decide (0 ≤ x87 ∧ x87 < 65 ∧ x87 ≤ (65 : Int) ∧ (65 : Int) ≤ 65) then
 none
 else none
 else
 bif decide (0 ≤ x87 ∧ x87 < 65 ∧ x87 ≤ (65 : Int) ∧ (65 : Int) ≤ 65) then
 let x90 := (((PV.agg ((PV.agg (y81.2.2.2.2.2.2.2.2.parts.set x83.toNat (PV.int x85))).parts.set x87.toNat (PV.int (45 : Int)))).parts.drop x87.toNat).take ((65 : Int).toNat - x87.toNat)).map byteOfPV
 some (y81.2.2.2.2.1, x90)
 else none
 else none
 else
 bif y81.2.2.2.1 then
 bif decide (0 ≤ x83 ∧ x83 < 65 ∧ x83 ≤ (65 : Int) ∧ (65 : Int) ≤ 65) then
 none
 else none
 else
 bif decide (0 ≤ x83 ∧ x83 < 65 ∧ x83 ≤ (65 : Int) ∧ (65 : Int) ≤ 65) then
 let x93 := (((PV.agg (y81.2.2.2.2.2.2.2.2.parts.set x83.toNat (PV.int x85))).parts.drop x83.toNat).take ((65 : Int).toNat - x83.toNat)).map byteOfPV
 some (y81.2.2.2.2.1, x93)
 else none
 else none
 else none
 else
 (loopQ fuel (S315_19step fuel) (a0, a1, a3, a4, [], ([] : List UInt8), (), (65 : Int), (IntKind.wrap .u64 a2), (PV.agg (List.replicate 65 (PV.int (0 : Int)))))).bind fun y95 =>
 let x97 := IntKind.wrap .i64 (y95.2.2.2.2.2.2.2.1 - (1 : Int))
 let x98 := y95.2.1
 bif inRange x98 (([48, 49, 50, 51, 52, 53, 54, 55, 56, 57, 97, 98, 99, 100, 101, 102, 103, 104, 105, 106, 107, 108, 109, 110, 111, 112, 113, 114, 115, 116, 117, 118, 119, 120, 121, 122] : List UInt8).length) then
 let x99 := ((([48, 49, 50, 51, 52, 53, 54, 55, 56, 57, 97, 98, 99, 100, 101, 102, 103, 104, 105, 106, 107, 108, 109, 110, 111, 112, 113, 114, 115, 116, 117, 118, 119, 120, 121, 122] : List UInt8).getD x98.toNat 0).toNat : Int)
 bif inRange x97 65 then
 bif y95.2.2.1 then
 let x101 := IntKind.wrap .i64 (x97 - (1 : Int))
 bif inRange x101 65 then
 bif y95.2.2.2.1 then
 bif decide (0 ≤ x101 ∧ x101 < 65 ∧ x101 ≤ (65 : Int) ∧ (65 : Int) ≤ 65) then
 none
 else none
 else
 bif decide (0 ≤ x101 ∧ x101 < 65 ∧ x101 ≤ (65 : Int) ∧ (65 : Int) ≤ 65) then
 let x104 := (((PV.agg ((PV.agg (y95.2.2.2.2.2.2.2.2.parts.set x97.toNat (PV.int x99))).parts.set x101.toNat (PV.int (45 : Int)))).parts.drop x101.toNat).take ((65 : Int).toNat - x101.toNat)).map byteOfPV
 some (y95.2.2.2.2.1, x104)
 else none
 else none
 else
 bif y95.2.2.2.1 then
 bif decide (0 ≤ x97 ∧ x97 < 65 ∧ x97 ≤ (65 : Int) ∧ (65 : Int) ≤ 65) then
 none
 else none
 else
 bif decide (0 ≤ x97 ∧ x97 < 65 ∧ x97 ≤ (65 : Int) ∧ (65 : Int) ≤ 65) then
 let x107 := (((PV.agg (y95.2.2.2.2.2.2.2.2.parts.set x97.toNat (PV.int x99))).parts.drop x97.toNat).take ((65 : Int).toNat - x97.toNat)).map byteOfPV
 some (y95.2.2.2.2.1, x107)
 else none
 else none
 else none
def S315_12l (fuel : Nat) : LoopE := ⟨12, ⟨[0, 1, 3, 4, 10, 11, 12, 13, 14, 15, 16], [.box 290 .leaf, .acc], [(.slice 5), (.int .u64), .bool, .bool, (.acc 1 5), .str, (.con (.ref 0 [] 290)), (.int .i64), (.int .u64), (.int .u64), (.int .u64), (.data 290)]⟩, [(.exit 0, ⟨[0, 1, 3, 4, 10, 11, 12, 13], [.box 290 .leaf, .acc], [(.slice 5), (.int .u64), .bool, .bool, (.acc 1 5), .str, (.con (.ref 0 [] 290)), (.int .i64), (.data 290)]⟩)], S315_12step fuel⟩
def S315_19l (fuel : Nat) : LoopE := ⟨19, ⟨[0, 1, 3, 4, 10, 11, 12, 13, 17], [.box 290 .leaf, .acc], [(.slice 5), (.int .u64), .bool, .bool, (.acc 1 5), .str, (.con (.ref 0 [] 290)), (.int .i64), (.int .u64), (.data 290)]⟩, [(.exit 2, ⟨[0, 1, 3, 4, 10, 11, 12, 13], [.box 290 .leaf, .acc], [(.slice 5), (.int .u64), .bool, .bool, (.acc 1 5), .str, (.con (.ref 0 [] 290)), (.int .i64), (.data 290)]⟩)], S315_19step fuel⟩
def F315C (fuel : Nat) : Cfg := cfg Tryz.prog 102 0 [F362c fuel, Ltzc fuel] [S315_12l fuel, S315_19l fuel] fuel
def F315c (fuel : Nat) : CallE := ⟨315, ⟨5, [], [(.slice 5), (.int .u64), (.int .i64), .bool, .bool]⟩, ⟨2, [], [(.slice 5), .str]⟩, fun x => F315 fuel x.1 x.2.1 x.2.2.1 x.2.2.2.1 x.2.2.2.2, ([], [])⟩
theorem F315k (fuel : Nat) : CallOk (F315C fuel) := cfg_callOkP (qc (F362ok fuel) <| qc (Ltzok fuel) <| q0) (p0)
theorem S315_12ok (fuel : Nat) : LoopOk (F315C fuel) (lp (bodyOf Tryz.f315) 0) := okL (F315k fuel) fuel (S315_12l fuel) L0
theorem S315_19ok (fuel : Nat) : LoopOk (F315C fuel) (lp (bodyOf Tryz.f315) 1) := okL (F315k fuel) fuel (S315_19l fuel) L0
theorem F315ok (fuel : Nat) : (F315c fuel).Ok Tryz.prog := okE Tryz.f315 (F315k fuel) (L2 (S315_12ok fuel) (S315_19ok fuel))
def F241 (fuel : Nat) (a0 : Int) (a1 : Int) : Option ((List UInt8)) :=
 bif (a1 == (10 : Int)) then
 bif (decide (a0 < (100 : Int))) then
 none
 else
 none
 else
 (F315 fuel [] a0 a1 false false).bind fun y4 =>
 some y4.2
def F241c (fuel : Nat) : CallE := ⟨241, ⟨2, [], [(.int .u64), (.int .i64)]⟩, ⟨1, [], [.str]⟩, fun x => F241 fuel x.1 x.2, []⟩
theorem F241ok (fuel : Nat) : (F241c fuel).Ok Tryz.prog := okJ Tryz.f241 32 0 fuel [F315c fuel] [] false (qc (F315ok fuel) <| q0) (p0) L0
def Lfmt (fuel : Nat) (u base : Int) : Option (List UInt8) := bif decide (base = 10) then Lfmtu fuel u base else F241 fuel u base
def Lfmtc (fuel : Nat) : CallE := { f := 241, A := ⟨2, [], [.int .u64, .int .i64]⟩, R := ⟨1, [], [.str]⟩, F := fun x => Lfmt fuel x.1 x.2, dflt := [] }
theorem Lfmtok (fuel : Nat) : (Lfmtc fuel).Ok Tryz.prog := by
 intro x y h
 have h : Lfmt fuel x.1 x.2 = some y := h
 unfold Lfmt at h
 cases hb : decide (x.2 = 10) with
 | true => rw [hb] at h; exact Lfmtuok fuel x y h
 | false => rw [hb] at h; exact F241ok fuel x y h
def F297 (fuel : Nat) (a0 : List UInt8) (a1 : List UInt8) : Option (Bool) :=
 let x3 := decide ((a0.length : Int) ≥ (a1.length : Int))
 let x4 := (a1.length : Int)
 bif imp x3 (decide (0 ≤ (0 : Int) ∧ (0 : Int) ≤ x4 ∧ x4 ≤ (a0.length : Int))) then
 some (bif x3 then (((a0.take x4.toNat).drop (0 : Int).toNat) == a1) else false)
 else none
def F297c (fuel : Nat) : CallE := ⟨297, ⟨2, [], [.str, .str]⟩, ⟨1, [], [.bool]⟩, fun x => F297 fuel x.1 x.2, false⟩
theorem F297ok (fuel : Nat) : (F297c fuel).Ok Tryz.prog := okJ Tryz.f297 18 0 fuel [] [] false (q0) (p0) L0
def F230 (fuel : Nat) (a0 : List UInt8) (a1 : List UInt8) : Option (Bool) :=
 (F297 fuel a0 a1).bind fun y1 =>
 some y1
def F230c (fuel : Nat) : CallE := ⟨230, ⟨2, [], [.str, .str]⟩, ⟨1, [], [.bool]⟩, fun x => F230 fuel x.1 x.2, false⟩
theorem F230ok (fuel : Nat) : (F230c fuel).Ok Tryz.prog := okJ Tryz.f230 8 0 fuel [F297c fuel] [] false (qc (F297ok fuel) <| q0) (p0) L0
def F231 (fuel : Nat) (a0 : Int) : Option (Bool) :=
 some (bif (bif (decide (a0 ≥ (97 : Int))) then (decide (a0 ≤ (122 : Int))) else false) then true else (bif (decide (a0 ≥ (65 : Int))) then (decide (a0 ≤ (90 : Int))) else false))
def F231c (fuel : Nat) : CallE := ⟨231, ⟨1, [], [(.int .u8)]⟩, ⟨1, [], [.bool]⟩, fun x => F231 fuel x, false⟩
theorem F231ok (fuel : Nat) : (F231c fuel).Ok Tryz.prog := okJ Tryz.f231 17 0 fuel [] [] false (q0) (p0) L0
def F232 (fuel : Nat) (a0 : Int) : Option (Bool) :=
 some (bif (decide (a0 ≥ (48 : Int))) then (decide (a0 ≤ (57 : Int))) else false)
def F232c (fuel : Nat) : CallE := ⟨232, ⟨1, [], [(.int .u8)]⟩, ⟨1, [], [.bool]⟩, fun x => F232 fuel x, false⟩
theorem F232ok (fuel : Nat) : (F232c fuel).Ok Tryz.prog := okJ Tryz.f232 9 0 fuel [] [] false (q0) (p0) L0
def F142 (fuel : Nat) (a0 : List UInt8) : Option (Bool) :=
 let x2 := (a0.length : Int) == (1 : Int)
 (bif x2 then Lcontains fuel ([123, 125, 91, 93, 40, 41, 60, 62, 61, 59, 44, 64, 45] : List UInt8) a0 else some false).bind fun y3 =>
 some (bif x2 then y3 else false)
def F142c (fuel : Nat) : CallE := ⟨142, ⟨1, [], [.str]⟩, ⟨1, [], [.bool]⟩, fun x => F142 fuel x, false⟩
theorem F142ok (fuel : Nat) : (F142c fuel).Ok Tryz.prog := okJ Tryz.f142 10 0 fuel [Lcontainsc fuel] [] false (qc (Lcontainsok fuel) <| q0) (p0) L0
def F123 (fuel : Nat) (a0 : List UInt8) : Option (Int) :=
 bif inRange (0 : Int) a0.length then
 let x1 := ((a0.getD (0 : Int).toNat 0).toNat : Int)
 bif (bif (bif (bif (x1 == (32 : Int)) then true else (x1 == (9 : Int))) then true else (x1 == (13 : Int))) then true else (x1 == (10 : Int))) then
 some (1 : Int)
 else
 (F230 fuel a0 ([47, 47] : List UInt8)).bind fun y9 =>
 bif y9 then
 some (2 : Int)
 else
 (F231 fuel x1).bind fun y10 =>
 let x14 := bif (x1 == (46 : Int)) then (decide ((a0.length : Int) > (1 : Int))) else false
 bif imp (bif x14 then !y10 else false) (inRange (1 : Int) a0.length) then
 (bif bif x14 then !y10 else false then F231 fuel ((a0.getD (1 : Int).toNat 0).toNat : Int) else some false).bind fun y16 =>
 bif (bif y10 then true else (bif x14 then y16 else false)) then
 some (3 : Int)
 else
 (F232 fuel x1).bind fun y19 =>
 bif y19 then
 some (4 : Int)
 else
 bif (x1 == (34 : Int)) then
 some (5 : Int)
 else
 bif decide (0 ≤ (0 : Int) ∧ (0 : Int) ≤ (1 : Int) ∧ (1 : Int) ≤ (a0.length : Int)) then
 (F142 fuel ((a0.take (1 : Int).toNat).drop (0 : Int).toNat)).bind fun y22 =>
 bif y22 then
 some (6 : Int)
 else
 some (0 : Int)
 else none
 else none
 else none
def F123c (fuel : Nat) : CallE := ⟨123, ⟨1, [], [.str]⟩, ⟨1, [], [(.int .i64)]⟩, fun x => F123 fuel x, 0⟩
theorem F123ok (fuel : Nat) : (F123c fuel).Ok Tryz.prog := okJ Tryz.f123 51 0 fuel [F230c fuel, F231c fuel, F232c fuel, F142c fuel] [] false (qc (F230ok fuel) <| qc (F231ok fuel) <| qc (F232ok fuel) <| qc (F142ok fuel) <| q0) (p0) L0
def F125 (fuel : Nat) (a0 : Int) : Option (Bool) :=
 some (a0 != (10 : Int))
def F125c (fuel : Nat) : CallE := ⟨125, ⟨1, [], [(.int .u8)]⟩, ⟨1, [], [.bool]⟩, fun x => F125 fuel x, false⟩
theorem F125ok (fuel : Nat) : (F125c fuel).Ok Tryz.prog := okJ Tryz.f125 5 0 fuel [] [] false (q0) (p0) L0
def S124_3 (fuel : Nat) (a1 : List UInt8) (a2 : Unit) (a3 : Int) : Option (((List UInt8) × Unit × Int) ⊕ ((Int))) :=
 let x5 := decide (a3 < (a1.length : Int))
 bif imp x5 (inRange a3 a1.length) then
 (bif x5 then F125 fuel ((a1.getD a3.toNat 0).toNat : Int) else some false).bind fun y7 =>
 bif (bif x5 then y7 else false) then
 some (.inl (a1, (), (IntKind.wrap .i64 (a3 + (1 : Int)))))
 else
 some (.inr a3)
 else none
def S124_3step (fuel : Nat) (x : (List UInt8) × Unit × Int) : Option (((List UInt8) × Unit × Int) ⊕ ((Int))) := S124_3 fuel x.1 x.2.1 x.2.2
def F124 (fuel : Nat) (a0 : List UInt8) (a1 : Unit) : Option (Int) :=
 (loopQ fuel (S124_3step fuel) (a0, (), (0 : Int))).bind fun y10 =>
 some y10
def S124_3l (fuel : Nat) : LoopE := ⟨3, ⟨[0, 1, 5], [], [.str, (.con (.fn 125 0 [])), (.int .i64)]⟩, [(.exit 0, ⟨[5], [], [(.int .i64)]⟩)], S124_3step fuel⟩
def F124C (fuel : Nat) : Cfg := cfg Tryz.prog 20 0 [F125c fuel] [S124_3l fuel] fuel
def F124c (fuel : Nat) : CallE := ⟨124, ⟨2, [], [.str, (.con (.fn 125 0 []))]⟩, ⟨1, [], [(.int .i64)]⟩, fun x => F124 fuel x.1 x.2, 0⟩
theorem F124k (fuel : Nat) : CallOk (F124C fuel) := cfg_callOkP (qc (F125ok fuel) <| q0) (p0)
theorem S124_3ok (fuel : Nat) : LoopOk (F124C fuel) (lp (bodyOf Tryz.f124) 0) := okL (F124k fuel) fuel (S124_3l fuel) L0
theorem F124ok (fuel : Nat) : (F124c fuel).Ok Tryz.prog := okE Tryz.f124 (F124k fuel) (L1 (S124_3ok fuel))
def S59_3 (fuel : Nat) (a1 : List UInt8) (a2 : Int) : Option (((List UInt8) × Int) ⊕ ((Int) ⊕ (Int))) :=
 bif (decide (a2 < (a1.length : Int))) then
 bif decide (0 ≤ a2 ∧ a2 ≤ (a1.length : Int) ∧ (a1.length : Int) ≤ (a1.length : Int)) then
 (F123 fuel ((a1.take (a1.length : Int).toNat).drop a2.toNat)).bind fun y6 =>
 bif (y6 == (1 : Int)) then
 some (.inl (a1, (IntKind.wrap .i64 (a2 + (1 : Int)))))
 else
 bif (y6 == (2 : Int)) then
 bif decide (0 ≤ a2 ∧ a2 ≤ (a1.length : Int) ∧ (a1.length : Int) ≤ (a1.length : Int)) then
 (F124 fuel ((a1.take (a1.length : Int).toNat).drop a2.toNat) ()).bind fun y11 =>
 some (.inl (a1, (IntKind.wrap .i64 (a2 + y11))))
 else none
 else
 some (.inr (.inl a2))
 else none
 else
 some (.inr (.inr a2))
def S59_3step (fuel : Nat) (x : (List UInt8) × Int) : Option (((List UInt8) × Int) ⊕ ((Int) ⊕ (Int))) := S59_3 fuel x.1 x.2
def F59 (fuel : Nat) (a0 : List UInt8) : Option (Int) :=
 (loopQ fuel (S59_3step fuel) (a0, (0 : Int))).bind fun z => sumE (fun y13 =>
 some y13
 ) (fun y14 =>
 some y14
 ) z
def S59_3l (fuel : Nat) : LoopE := ⟨3, ⟨[0, 3], [], [.str, (.int .i64)]⟩, [(.ret, ⟨[2], [], [(.int .i64)]⟩), (.exit 0, ⟨[3], [], [(.int .i64)]⟩)], S59_3step fuel⟩
def F59C (fuel : Nat) : Cfg := cfg Tryz.prog 26 0 [F123c fuel, F124c fuel] [S59_3l fuel] fuel
def F59c (fuel : Nat) : CallE := ⟨59, ⟨1, [], [.str]⟩, ⟨1, [], [(.int .i64)]⟩, fun x => F59 fuel x, 0⟩
theorem F59k (fuel : Nat) : CallOk (F59C fuel) := cfg_callOkP (qc (F123ok fuel) <| qc (F124ok fuel) <| q0) (p0)
theorem S59_3ok (fuel : Nat) : LoopOk (F59C fuel) (lp (bodyOf Tryz.f59) 0) := okL (F59k fuel) fuel (S59_3l fuel) L0
theorem F59ok (fuel : Nat) : (F59c fuel).Ok Tryz.prog := okE Tryz.f59 (F59k fuel) (L1 (S59_3ok fuel))
def F235 (fuel : Nat) (a0 : Int) : Option (Bool) :=
 (F231 fuel a0).bind fun y1 =>
 (bif !y1 then F232 fuel a0 else some false).bind fun y2 =>
 some (bif (bif y1 then true else y2) then true else (a0 == (95 : Int)))
def F235c (fuel : Nat) : CallE := ⟨235, ⟨1, [], [(.int .u8)]⟩, ⟨1, [], [.bool]⟩, fun x => F235 fuel x, false⟩
theorem F235ok (fuel : Nat) : (F235c fuel).Ok Tryz.prog := okJ Tryz.f235 13 0 fuel [F231c fuel, F232c fuel] [] false (qc (F231ok fuel) <| qc (F232ok fuel) <| q0) (p0) L0
def S124_v1_3 (fuel : Nat) (a1 : List UInt8) (a2 : Unit) (a3 : Int) : Option (((List UInt8) × Unit × Int) ⊕ ((Int))) :=
 let x5 := decide (a3 < (a1.length : Int))
 bif imp x5 (inRange a3 a1.length) then
 (bif x5 then F235 fuel ((a1.getD a3.toNat 0).toNat : Int) else some false).bind fun y7 =>
 bif (bif x5 then y7 else false) then
 some (.inl (a1, (), (IntKind.wrap .i64 (a3 + (1 : Int)))))
 else
 some (.inr a3)
 else none
def S124_v1_3step (fuel : Nat) (x : (List UInt8) × Unit × Int) : Option (((List UInt8) × Unit × Int) ⊕ ((Int))) := S124_v1_3 fuel x.1 x.2.1 x.2.2
def F124_v1 (fuel : Nat) (a0 : List UInt8) (a1 : Unit) : Option (Int) :=
 (loopQ fuel (S124_v1_3step fuel) (a0, (), (0 : Int))).bind fun y10 =>
 some y10
def S124_v1_3l (fuel : Nat) : LoopE := ⟨3, ⟨[0, 1, 5], [], [.str, (.con (.fn 235 0 [])), (.int .i64)]⟩, [(.exit 0, ⟨[5], [], [(.int .i64)]⟩)], S124_v1_3step fuel⟩
def F124_v1C (fuel : Nat) : Cfg := cfg Tryz.prog 20 0 [F235c fuel] [S124_v1_3l fuel] fuel
def F124_v1c (fuel : Nat) : CallE := ⟨124, ⟨2, [], [.str, (.con (.fn 235 0 []))]⟩, ⟨1, [], [(.int .i64)]⟩, fun x => F124_v1 fuel x.1 x.2, 0⟩
theorem F124_v1k (fuel : Nat) : CallOk (F124_v1C fuel) := cfg_callOkP (qc (F235ok fuel) <| q0) (p0)
theorem S124_v1_3ok (fuel : Nat) : LoopOk (F124_v1C fuel) (lp (bodyOf Tryz.f124) 0) := okL (F124_v1k fuel) fuel (S124_v1_3l fuel) L0
theorem F124_v1ok (fuel : Nat) : (F124_v1c fuel).Ok Tryz.prog := okE Tryz.f124 (F124_v1k fuel) (L1 (S124_v1_3ok fuel))
def S234_5 (fuel : Nat) (a3 : List UInt8) (a4 : Int) : Option (((List UInt8) × Int) ⊕ ((Int))) :=
 bif decide (0 ≤ a4 ∧ a4 ≤ (a3.length : Int) ∧ (a3.length : Int) ≤ (a3.length : Int)) then
 (F124_v1 fuel ((a3.take (a3.length : Int).toNat).drop a4.toNat) ()).bind fun y6 =>
 let x7 := IntKind.wrap .i64 (a4 + y6)
 let x10 := decide ((IntKind.wrap .i64 (x7 + (1 : Int))) ≥ (a3.length : Int))
 bif imp (!x10) (inRange x7 a3.length) then
 let x13 := bif x10 then true else (((a3.getD x7.toNat 0).toNat : Int) != (46 : Int))
 let x14 := IntKind.wrap .i64 (x7 + (1 : Int))
 bif imp (!x13) (inRange x14 a3.length) then
 (bif !x13 then F231 fuel ((a3.getD x14.toNat 0).toNat : Int) else some false).bind fun y16 =>
 bif (bif x13 then true else (!y16)) then
 some (.inr x7)
 else
 some (.inl (a3, (IntKind.wrap .i64 (x7 + (1 : Int)))))
 else none
 else none
 else none
def S234_5step (fuel : Nat) (x : (List UInt8) × Int) : Option (((List UInt8) × Int) ⊕ ((Int))) := S234_5 fuel x.1 x.2
def F234 (fuel : Nat) (a0 : List UInt8) : Option (Int) :=
 bif inRange (0 : Int) a0.length then
 bif (((a0.getD (0 : Int).toNat 0).toNat : Int) == (46 : Int)) then
 (loopQ fuel (S234_5step fuel) (a0, (1 : Int))).bind fun y20 =>
 some y20
 else
 (loopQ fuel (S234_5step fuel) (a0, (0 : Int))).bind fun y21 =>
 some y21
 else none
def S234_5l (fuel : Nat) : LoopE := ⟨5, ⟨[0, 3], [], [.str, (.int .i64)]⟩, [(.ret, ⟨[2], [], [(.int .i64)]⟩)], S234_5step fuel⟩
def F234C (fuel : Nat) : Cfg := cfg Tryz.prog 35 0 [F124_v1c fuel, F231c fuel] [S234_5l fuel] fuel
def F234c (fuel : Nat) : CallE := ⟨234, ⟨1, [], [.str]⟩, ⟨1, [], [(.int .i64)]⟩, fun x => F234 fuel x, 0⟩
theorem F234k (fuel : Nat) : CallOk (F234C fuel) := cfg_callOkP (qc (F124_v1ok fuel) <| qc (F231ok fuel) <| q0) (p0)
theorem S234_5ok (fuel : Nat) : LoopOk (F234C fuel) (lp (bodyOf Tryz.f234) 0) := okL (F234k fuel) fuel (S234_5l fuel) L0
theorem F234ok (fuel : Nat) : (F234c fuel).Ok Tryz.prog := okE Tryz.f234 (F234k fuel) (L1 (S234_5ok fuel))
def F245 (fuel : Nat) (a0 : List UInt8) (a1 : List UInt8) : Option ((List UInt8)) :=
 (F297 fuel a0 a1).bind fun y1 =>
 bif y1 then
 let x2 := (a1.length : Int)
 bif decide (0 ≤ x2 ∧ x2 ≤ (a0.length : Int) ∧ (a0.length : Int) ≤ (a0.length : Int)) then
 some ((a0.take (a0.length : Int).toNat).drop x2.toNat)
 else none
 else
 some a0
def F245c (fuel : Nat) : CallE := ⟨245, ⟨2, [], [.str, .str]⟩, ⟨1, [], [.str]⟩, fun x => F245 fuel x.1 x.2, []⟩
theorem F245ok (fuel : Nat) : (F245c fuel).Ok Tryz.prog := okJ Tryz.f245 13 0 fuel [F297c fuel] [] false (qc (F297ok fuel) <| q0) (p0) L0
def F141 (fuel : Nat) (a0 : List UInt8) (a1 : List UInt8) : Option ((List UInt8)) :=
 (F245 fuel a0 a1).bind fun y1 =>
 some y1
def F141c (fuel : Nat) : CallE := ⟨141, ⟨2, [], [.str, .str]⟩, ⟨1, [], [.str]⟩, fun x => F141 fuel x.1 x.2, []⟩
theorem F141ok (fuel : Nat) : (F141c fuel).Ok Tryz.prog := okJ Tryz.f141 8 0 fuel [F245c fuel] [] false (qc (F245ok fuel) <| q0) (p0) L0
def F285 (fuel : Nat) (a0 : Int) : Option (Int) :=
 bif (bif (decide (a0 ≥ (97 : Int))) then (decide (a0 ≤ (122 : Int))) else false) then
 some (1 : Int)
 else
 bif (bif (decide (a0 ≥ (65 : Int))) then (decide (a0 ≤ (90 : Int))) else false) then
 some (2 : Int)
 else
 bif (bif (decide (a0 ≥ (48 : Int))) then (decide (a0 ≤ (57 : Int))) else false) then
 some (3 : Int)
 else
 bif (a0 == (95 : Int)) then
 some (4 : Int)
 else
 some (0 : Int)
def F285c (fuel : Nat) : CallE := ⟨285, ⟨1, [], [(.int .i32)]⟩, ⟨1, [], [(.int .i64)]⟩, fun x => F285 fuel x, 0⟩
theorem F285ok (fuel : Nat) : (F285c fuel).Ok Tryz.prog := okJ Tryz.f285 27 0 fuel [] [] false (q0) (p0) L0
def S202_3 (fuel : Nat) (a1 : List UInt8) (a2 : Unit) (a3 : List UInt8) (a4 : Int) : Option (((List UInt8) × Unit × (List UInt8) × Int) ⊕ ((Bool × (List UInt8) × Int) ⊕ ((List UInt8) × (List UInt8) × Int))) :=
 bif (decide (a4.toNat < a3.length)) then
 bif decide (a4.toNat < a3.length) then
 bif decide (a4.toNat < a3.length) then
 (F285 fuel ((Utf8.decode ⟨a3.toArray⟩ a4.toNat).1 : Int)).bind fun y8 =>
 bif (bif (y8 == (0 : Int)) then true else (bif (bif ((a4.toNat : Int) == (0 : Int)) then (y8 != (1 : Int)) else false) then (y8 != (2 : Int)) else false)) then
 some (.inr (.inl (false, a3, ((bif decide (a4.toNat < a3.length) then a4.toNat + (Utf8.decode ⟨a3.toArray⟩ a4.toNat).2 else a4.toNat : Nat) : Int))))
 else
 some (.inl (a1, (), a3, ((bif decide (a4.toNat < a3.length) then a4.toNat + (Utf8.decode ⟨a3.toArray⟩ a4.toNat).2 else a4.toNat : Nat) : Int)))
 else none
 else none
 else
 some (.inr (.inr (a1, a3, ((bif decide (a4.toNat < a3.length) then a4.toNat + (Utf8.decode ⟨a3.toArray⟩ a4.toNat).2 else a4.toNat : Nat) : Int))))
def S202_3step (fuel : Nat) (x : (List UInt8) × Unit × (List UInt8) × Int) : Option (((List UInt8) × Unit × (List UInt8) × Int) ⊕ ((Bool × (List UInt8) × Int) ⊕ ((List UInt8) × (List UInt8) × Int))) := S202_3 fuel x.1 x.2.1 x.2.2.1 x.2.2.2
def F202 (fuel : Nat) (a0 : List UInt8) : Option (Bool) :=
 (loopQ fuel (S202_3step fuel) (a0, (), a0, ((0 : Nat) : Int))).bind fun z => sumE (fun y16 =>
 some y16.1
 ) (fun y17 =>
 some (bif (decide ((y17.1.length : Int) ≥ (1 : Int))) then (decide ((y17.1.length : Int) ≤ (40 : Int))) else false)
 ) z
def S202_3l (fuel : Nat) : LoopE := ⟨3, ⟨[0, 7], [.iter], [.str, (.con (.iref 0)), .str, (.int .i64)]⟩, [(.ret, ⟨[2], [.iter], [.bool, .str, (.int .i64)]⟩), (.exit 0, ⟨[0], [.iter], [.str, .str, (.int .i64)]⟩)], S202_3step fuel⟩
def F202C (fuel : Nat) : Cfg := cfg Tryz.prog 36 0 [F285c fuel] [S202_3l fuel] fuel
def F202c (fuel : Nat) : CallE := ⟨202, ⟨1, [], [.str]⟩, ⟨1, [], [.bool]⟩, fun x => F202 fuel x, false⟩
theorem F202k (fuel : Nat) : CallOk (F202C fuel) := cfg_callOkP (qc (F285ok fuel) <| q0) (p0)
theorem S202_3ok (fuel : Nat) : LoopOk (F202C fuel) (lp (bodyOf Tryz.f202) 0) := okL (F202k fuel) fuel (S202_3l fuel) L0
theorem F202ok (fuel : Nat) : (F202c fuel).Ok Tryz.prog := okE Tryz.f202 (F202k fuel) (L1 (S202_3ok fuel))
def S140_3 (fuel : Nat) (a3 : List UInt8) (a4 : List PV) (a5 : Int) (a6 : Int) : Option (((List UInt8) × (List PV) × Int × Int) ⊕ ((Bool) ⊕ ((List UInt8)))) :=
 bif (decide (a6 < a5)) then
 bif inRange a6 a4.length then
 (F202 fuel (a4.getD a6.toNat .bad).asStr).bind fun y10 =>
 bif (!y10) then
 some (.inr (.inl false))
 else
 some (.inl (a3, a4, a5, (IntKind.wrap .i64 (a6 + (1 : Int)))))
 else none
 else
 some (.inr (.inr a3))
def S140_3step (fuel : Nat) (x : (List UInt8) × (List PV) × Int × Int) : Option (((List UInt8) × (List PV) × Int × Int) ⊕ ((Bool) ⊕ ((List UInt8)))) := S140_3 fuel x.1 x.2.1 x.2.2.1 x.2.2.2
def F140 (fuel : Nat) (a0 : List UInt8) : Option (Bool) :=
 (Lsplit fuel a0 ([46] : List UInt8)).bind fun y1 =>
 (loopQ fuel (S140_3step fuel) (a0, y1, (y1.length : Int), (0 : Int))).bind fun z => sumE (fun y13 =>
 some y13
 ) (fun y14 =>
 some (decide ((y14.length : Int) ≤ (120 : Int)))
 ) z
def S140_3l (fuel : Nat) : LoopE := ⟨3, ⟨[0, 6, 7, 8], [], [.str, (.slice 9), (.int .i64), (.int .i64)]⟩, [(.ret, ⟨[2], [], [.bool]⟩), (.exit 0, ⟨[0], [], [.str]⟩)], S140_3step fuel⟩
def F140C (fuel : Nat) : Cfg := cfg Tryz.prog 19 0 [Lsplitc fuel, F202c fuel] [S140_3l fuel] fuel
def F140c (fuel : Nat) : CallE := ⟨140, ⟨1, [], [.str]⟩, ⟨1, [], [.bool]⟩, fun x => F140 fuel x, false⟩
theorem F140k (fuel : Nat) : CallOk (F140C fuel) := cfg_callOkP (qc (Lsplitok fuel) <| qc (F202ok fuel) <| q0) (p0)
theorem S140_3ok (fuel : Nat) : LoopOk (F140C fuel) (lp (bodyOf Tryz.f140) 0) := okL (F140k fuel) fuel (S140_3l fuel) L0
theorem F140ok (fuel : Nat) : (F140c fuel).Ok Tryz.prog := okE Tryz.f140 (F140k fuel) (L1 (S140_3ok fuel))
def F129 (fuel : Nat) (a0 : List UInt8) : Option (PV × Int × Int) :=
 (F234 fuel a0).bind fun y1 =>
 bif decide (0 ≤ (0 : Int) ∧ (0 : Int) ≤ y1 ∧ y1 ≤ (a0.length : Int)) then
 (F141 fuel ((a0.take y1.toNat).drop (0 : Int).toNat) ([46] : List UInt8)).bind fun y3 =>
 (F140 fuel y3).bind fun y4 =>
 bif (!y4) then
 some ((PV.agg [(PV.int (0 : Int)), (PV.str ([] : List UInt8)), (PV.int (0 : Int)), (PV.int (0 : Int))]), (0 : Int), (8 : Int))
 else
 bif decide (0 ≤ (0 : Int) ∧ (0 : Int) ≤ y1 ∧ y1 ≤ (a0.length : Int)) then
 some ((PV.agg [(PV.int (1 : Int)), (PV.str ((a0.take y1.toNat).drop (0 : Int).toNat)), (PV.int (0 : Int)), (PV.int (0 : Int))]), y1, (0 : Int))
 else none
 else none
def F129c (fuel : Nat) : CallE := ⟨129, ⟨1, [], [.str]⟩, ⟨3, [], [(.data 72), (.int .i64), (.int .i64)]⟩, fun x => F129 fuel x, (PV.bad, 0, 0)⟩
theorem F129ok (fuel : Nat) : (F129c fuel).Ok Tryz.prog := okJ Tryz.f129 20 0 fuel [F234c fuel, F141c fuel, F140c fuel] [] false (qc (F234ok fuel) <| qc (F141ok fuel) <| qc (F140ok fuel) <| q0) (p0) L0
def S124_v2_3 (fuel : Nat) (a1 : List UInt8) (a2 : Unit) (a3 : Int) : Option (((List UInt8) × Unit × Int) ⊕ ((Int))) :=
 let x5 := decide (a3 < (a1.length : Int))
 bif imp x5 (inRange a3 a1.length) then
 (bif x5 then F232 fuel ((a1.getD a3.toNat 0).toNat : Int) else some false).bind fun y7 =>
 bif (bif x5 then y7 else false) then
 some (.inl (a1, (), (IntKind.wrap .i64 (a3 + (1 : Int)))))
 else
 some (.inr a3)
 else none
def S124_v2_3step (fuel : Nat) (x : (List UInt8) × Unit × Int) : Option (((List UInt8) × Unit × Int) ⊕ ((Int))) := S124_v2_3 fuel x.1 x.2.1 x.2.2
def F124_v2 (fuel : Nat) (a0 : List UInt8) (a1 : Unit) : Option (Int) :=
 (loopQ fuel (S124_v2_3step fuel) (a0, (), (0 : Int))).bind fun y10 =>
 some y10
def S124_v2_3l (fuel : Nat) : LoopE := ⟨3, ⟨[0, 1, 5], [], [.str, (.con (.fn 232 0 [])), (.int .i64)]⟩, [(.exit 0, ⟨[5], [], [(.int .i64)]⟩)], S124_v2_3step fuel⟩
def F124_v2C (fuel : Nat) : Cfg := cfg Tryz.prog 20 0 [F232c fuel] [S124_v2_3l fuel] fuel
def F124_v2c (fuel : Nat) : CallE := ⟨124, ⟨2, [], [.str, (.con (.fn 232 0 []))]⟩, ⟨1, [], [(.int .i64)]⟩, fun x => F124_v2 fuel x.1 x.2, 0⟩
theorem F124_v2k (fuel : Nat) : CallOk (F124_v2C fuel) := cfg_callOkP (qc (F232ok fuel) <| q0) (p0)
theorem S124_v2_3ok (fuel : Nat) : LoopOk (F124_v2C fuel) (lp (bodyOf Tryz.f124) 0) := okL (F124_v2k fuel) fuel (S124_v2_3l fuel) L0
theorem F124_v2ok (fuel : Nat) : (F124_v2c fuel).Ok Tryz.prog := okE Tryz.f124 (F124_v2k fuel) (L1 (S124_v2_3ok fuel))
def F130 (fuel : Nat) (a0 : List UInt8) : Option (PV × Int × Int) :=
 (F124_v2 fuel a0 ()).bind fun y1 =>
 let x2 := decide (y1 > (1 : Int))
 bif imp x2 (inRange (0 : Int) a0.length) then
 let x5 := bif x2 then (((a0.getD (0 : Int).toNat 0).toNat : Int) == (48 : Int)) else false
 let x7 := decide (y1 < (a0.length : Int))
 bif imp (bif x7 then !x5 else false) (inRange y1 a0.length) then
 (bif bif x7 then !x5 else false then F235 fuel ((a0.getD y1.toNat 0).toNat : Int) else some false).bind fun y9 =>
 bif (bif x5 then true else (bif x7 then y9 else false)) then
 some ((PV.agg [(PV.int (0 : Int)), (PV.str ([] : List UInt8)), (PV.int (0 : Int)), (PV.int (0 : Int))]), (0 : Int), (2 : Int))
 else
 bif decide (0 ≤ (0 : Int) ∧ (0 : Int) ≤ y1 ∧ y1 ≤ (a0.length : Int)) then
 (LparseUint fuel ((a0.take y1.toNat).drop (0 : Int).toNat) (10 : Int) (64 : Int)).bind fun y13 =>
 bif (!y13.2) then
 some ((PV.agg [(PV.int (0 : Int)), (PV.str ([] : List UInt8)), (PV.int (0 : Int)), (PV.int (0 : Int))]), (0 : Int), (6 : Int))
 else
 some ((PV.agg [(PV.int (2 : Int)), (PV.str ([] : List UInt8)), (PV.int (IntKind.wrap .i64 y13.1)), (PV.int (0 : Int))]), y1, (0 : Int))
 else none
 else none
 else none
def F130c (fuel : Nat) : CallE := ⟨130, ⟨1, [], [.str]⟩, ⟨3, [], [(.data 72), (.int .i64), (.int .i64)]⟩, fun x => F130 fuel x, (PV.bad, 0, 0)⟩
theorem F130ok (fuel : Nat) : (F130c fuel).Ok Tryz.prog := okJ Tryz.f130 44 0 fuel [F124_v2c fuel, F235c fuel, LparseUintc fuel] [] false (qc (F124_v2ok fuel) <| qc (F235ok fuel) <| qc (LparseUintok fuel) <| q0) (p0) L0
def F304 (fuel : Nat) (a0 : Int) : Option (Int × Bool) :=
 bif (a0 == (34 : Int)) then
 some (a0, true)
 else
 bif (a0 == (92 : Int)) then
 some (a0, true)
 else
 bif (a0 == (110 : Int)) then
 some ((10 : Int), true)
 else
 bif (a0 == (116 : Int)) then
 some ((9 : Int), true)
 else
 bif (a0 == (114 : Int)) then
 some ((13 : Int), true)
 else
 some ((0 : Int), false)
def F304c (fuel : Nat) : CallE := ⟨304, ⟨1, [], [(.int .u8)]⟩, ⟨2, [], [(.int .u8), .bool]⟩, fun x => F304 fuel x, (0, false)⟩
theorem F304ok (fuel : Nat) : (F304c fuel).Ok Tryz.prog := okJ Tryz.f304 15 0 fuel [] [] false (q0) (p0) L0
def F305 (fuel : Nat) (a0 : Int) : Option (Int) :=
 (LindexByte fuel ([48, 49, 50, 51, 52, 53, 54, 55, 56, 57, 97, 98, 99, 100, 101, 102] : List UInt8) a0).bind fun y1 =>
 some y1
def F305c (fuel : Nat) : CallE := ⟨305, ⟨1, [], [(.int .u8)]⟩, ⟨1, [], [(.int .i64)]⟩, fun x => F305 fuel x, 0⟩
theorem F305ok (fuel : Nat) : (F305c fuel).Ok Tryz.prog := okJ Tryz.f305 5 0 fuel [LindexBytec fuel] [] false (qc (LindexByteok fuel) <| q0) (p0) L0
def F237 (fuel : Nat) (a0 : List UInt8) (a1 : Int) : Option (Int × Int) :=
 bif (decide ((IntKind.wrap .i64 (a1 + (1 : Int))) ≥ (a0.length : Int))) then
 some ((0 : Int), (0 : Int))
 else
 let x4 := IntKind.wrap .i64 (a1 + (1 : Int))
 bif inRange x4 a0.length then
 (F304 fuel ((a0.getD x4.toNat 0).toNat : Int)).bind fun y6 =>
 bif y6.2 then
 some (y6.1, (2 : Int))
 else
 let x9 := IntKind.wrap .i64 (a1 + (1 : Int))
 bif inRange x9 a0.length then
 let x15 := bif (((a0.getD x9.toNat 0).toNat : Int) != (120 : Int)) then true else (decide ((IntKind.wrap .i64 (a1 + (3 : Int))) ≥ (a0.length : Int)))
 let x16 := IntKind.wrap .i64 (a1 + (2 : Int))
 bif imp (!x15) (inRange x16 a0.length) then
 (bif !x15 then F305 fuel ((a0.getD x16.toNat 0).toNat : Int) else some 0).bind fun y18 =>
 let x20 := bif x15 then true else (decide (y18 < (0 : Int)))
 let x21 := IntKind.wrap .i64 (a1 + (3 : Int))
 bif imp (!x20) (inRange x21 a0.length) then
 (bif !x20 then F305 fuel ((a0.getD x21.toNat 0).toNat : Int) else some 0).bind fun y23 =>
 bif (bif x20 then true else (decide (y23 < (0 : Int)))) then
 some ((0 : Int), (0 : Int))
 else
 let x26 := IntKind.wrap .i64 (a1 + (2 : Int))
 bif inRange x26 a0.length then
 (F305 fuel ((a0.getD x26.toNat 0).toNat : Int)).bind fun y28 =>
 let x29 := IntKind.wrap .i64 (y28 * 2 ^ (min (4 : Int).toNat (IntKind.bits .i64)))
 let x30 := IntKind.wrap .i64 (a1 + (3 : Int))
 bif inRange x30 a0.length then
 (F305 fuel ((a0.getD x30.toNat 0).toNat : Int)).bind fun y32 =>
 some ((IntKind.wrap .u8 (bitsI .or .i64 x29 y32)), (4 : Int))
 else none
 else none
 else none
 else none
 else none
 else none
def F237c (fuel : Nat) : CallE := ⟨237, ⟨2, [], [.str, (.int .i64)]⟩, ⟨2, [], [(.int .u8), (.int .i64)]⟩, fun x => F237 fuel x.1 x.2, (0, 0)⟩
theorem F237ok (fuel : Nat) : (F237c fuel).Ok Tryz.prog := okJ Tryz.f237 64 0 fuel [F304c fuel, F305c fuel] [] false (qc (F304ok fuel) <| qc (F305ok fuel) <| q0) (p0) L0
def F310 (fuel : Nat) (a0 : List UInt8) (a1 : Int) (a2 : Int) : Option (Bool) :=
 let x1 := a2 == (65533 : Int)
 bif imp x1 (decide (0 ≤ a1 ∧ a1 ≤ (a0.length : Int) ∧ (a0.length : Int) ≤ (a0.length : Int))) then
 (bif x1 then F230 fuel ((a0.take (a0.length : Int).toNat).drop a1.toNat) ([239, 191, 189] : List UInt8) else some false).bind fun y3 =>
 some (bif x1 then (!y3) else false)
 else none
def F310c (fuel : Nat) : CallE := ⟨310, ⟨3, [], [.str, (.int .i64), (.int .i32)]⟩, ⟨1, [], [.bool]⟩, fun x => F310 fuel x.1 x.2.1 x.2.2, false⟩
theorem F310ok (fuel : Nat) : (F310c fuel).Ok Tryz.prog := okJ Tryz.f310 16 0 fuel [F230c fuel] [] false (qc (F230ok fuel) <| q0) (p0) L0
def F311 (fuel : Nat) (a0 : Int) : Option ((List UInt8)) :=
 let x1 := a0.fdiv (2 ^ (min (4 : Int).toNat (IntKind.bits .u8)))
 let x3 := IntKind.wrap .u8 ((a0.fdiv (2 ^ (min (4 : Int).toNat (IntKind.bits .u8)))) + (1 : Int))
 bif decide (0 ≤ x1 ∧ x1 ≤ x3 ∧ x3 ≤ (([48, 49, 50, 51, 52, 53, 54, 55, 56, 57, 97, 98, 99, 100, 101, 102] : List UInt8).length : Int)) then
 let x4 := (([48, 49, 50, 51, 52, 53, 54, 55, 56, 57, 97, 98, 99, 100, 101, 102] : List UInt8).take x3.toNat).drop x1.toNat
 bif decide (([92, 120] : List UInt8).length + x4.length ≤ strMax) then
 let x5 := bitsI .and .u8 a0 (15 : Int)
 let x7 := IntKind.wrap .u8 ((bitsI .and .u8 a0 (15 : Int)) + (1 : Int))
 bif decide (0 ≤ x5 ∧ x5 ≤ x7 ∧ x7 ≤ (([48, 49, 50, 51, 52, 53, 54, 55, 56, 57, 97, 98, 99, 100, 101, 102] : List UInt8).length : Int)) then
 let x8 := (([48, 49, 50, 51, 52, 53, 54, 55, 56, 57, 97, 98, 99, 100, 101, 102] : List UInt8).take x7.toNat).drop x5.toNat
 bif decide ((([92, 120] : List UInt8) ++ x4).length + x8.length ≤ strMax) then
 some ((([92, 120] : List UInt8) ++ x4) ++ x8)
 else none
 else none
 else none
 else none
def F311c (fuel : Nat) : CallE := ⟨311, ⟨1, [], [(.int .u8)]⟩, ⟨1, [], [.str]⟩, fun x => F311 fuel x, []⟩
theorem F311ok (fuel : Nat) : (F311c fuel).Ok Tryz.prog := okJ Tryz.f311 17 0 fuel [] [] false (q0) (p0) L0
def F240 (fuel : Nat) (a0 : List UInt8) (a1 : Int) (a2 : Int) : Option ((List UInt8)) :=
 bif (a2 == (34 : Int)) then
 some ([92, 34] : List UInt8)
 else
 bif (a2 == (92 : Int)) then
 some ([92, 92] : List UInt8)
 else
 bif (a2 == (10 : Int)) then
 some ([92, 110] : List UInt8)
 else
 bif (a2 == (9 : Int)) then
 some ([92, 116] : List UInt8)
 else
 bif (a2 == (13 : Int)) then
 some ([92, 114] : List UInt8)
 else
 let x8 := bif (decide (a2 < (32 : Int))) then true else (a2 == (127 : Int))
 (bif !x8 then F310 fuel a0 a1 a2 else some false).bind fun y9 =>
 bif (bif x8 then true else y9) then
 bif inRange a1 a0.length then
 (F311 fuel ((a0.getD a1.toNat 0).toNat : Int)).bind fun y12 =>
 some y12
 else none
 else
 some ((Utf8.encode a2).data.toList)
def F240c (fuel : Nat) : CallE := ⟨240, ⟨3, [], [.str, (.int .i64), (.int .i32)]⟩, ⟨1, [], [.str]⟩, fun x => F240 fuel x.1 x.2.1 x.2.2, []⟩
theorem F240ok (fuel : Nat) : (F240c fuel).Ok Tryz.prog := okJ Tryz.f240 41 0 fuel [F310c fuel, F311c fuel] [] false (qc (F310ok fuel) <| qc (F311ok fuel) <| q0) (p0) L0
def S134_5 (fuel : Nat) (a2 : List UInt8) (a3 : Unit) (a4 : Unit) (a5 : List UInt8) (a6 : List UInt8) (a7 : Int) : Option (((List UInt8) × Unit × Unit × (List UInt8) × (List UInt8) × Int) ⊕ ((Unit × (List UInt8) × (List UInt8) × Int))) :=
 bif (decide (a7.toNat < a6.length)) then
 bif decide (a7.toNat < a6.length) then
 bif decide (a7.toNat < a6.length) then
 (F240 fuel a2 (a7.toNat : Int) ((Utf8.decode ⟨a6.toArray⟩ a7.toNat).1 : Int)).bind fun y11 =>
 (LwriteString fuel y11 a5).bind fun y12 =>
 some (.inl (a2, (), (), y12.2.2, a6, ((bif decide (a7.toNat < a6.length) then a7.toNat + (Utf8.decode ⟨a6.toArray⟩ a7.toNat).2 else a7.toNat : Nat) : Int)))
 else none
 else none
 else
 some (.inr ((), a5, a6, ((bif decide (a7.toNat < a6.length) then a7.toNat + (Utf8.decode ⟨a6.toArray⟩ a7.toNat).2 else a7.toNat : Nat) : Int)))
def S134_5step (fuel : Nat) (x : (List UInt8) × Unit × Unit × (List UInt8) × (List UInt8) × Int) : Option (((List UInt8) × Unit × Unit × (List UInt8) × (List UInt8) × Int) ⊕ ((Unit × (List UInt8) × (List UInt8) × Int))) := S134_5 fuel x.1 x.2.1 x.2.2.1 x.2.2.2.1 x.2.2.2.2.1 x.2.2.2.2.2
def F134 (fuel : Nat) (a0 : List UInt8) : Option ((List UInt8)) :=
 (LwriteString fuel ([34] : List UInt8) []).bind fun y1 =>
 (loopQ fuel (S134_5step fuel) (a0, (), (), y1.2.2, a0, ((0 : Nat) : Int))).bind fun y13 =>
 (LwriteString fuel ([34] : List UInt8) y13.2.1).bind fun y14 =>
 (Lstring fuel y14.2.2).bind fun y15 =>
 some y15.1
def S134_5l (fuel : Nat) : LoopE := ⟨5, ⟨[0, 3, 8], [.bld 106, .iter], [.str, (.con (.bref 0 106)), (.con (.iref 1)), .str, .str, (.int .i64)]⟩, [(.exit 0, ⟨[3], [.bld 106, .iter], [(.con (.bref 0 106)), .str, .str, (.int .i64)]⟩)], S134_5step fuel⟩
def F134C (fuel : Nat) : Cfg := cfg Tryz.prog 20 0 [LwriteString_106c fuel, F240c fuel, Lstring_106c fuel] [S134_5l fuel] fuel
def F134c (fuel : Nat) : CallE := ⟨134, ⟨1, [], [.str]⟩, ⟨1, [], [.str]⟩, fun x => F134 fuel x, []⟩
theorem F134k (fuel : Nat) : CallOk (F134C fuel) := cfg_callOkP (qc (LwriteString_106ok fuel) <| qc (F240ok fuel) <| qc (Lstring_106ok fuel) <| q0) (p0)
theorem S134_5ok (fuel : Nat) : LoopOk (F134C fuel) (lp (bodyOf Tryz.f134) 0) := okL (F134k fuel) fuel (S134_5l fuel) L0
theorem F134ok (fuel : Nat) : (F134c fuel).Ok Tryz.prog := okE Tryz.f134 (F134k fuel) (L1 (S134_5ok fuel))
def S131_6 (fuel : Nat) (a5 : List UInt8) (a6 : List PV) (a7 : Int) : Option (((List UInt8) × (List PV) × Int) ⊕ (((List UInt8) × Int × Int) ⊕ ((List UInt8) × (List PV) × Int))) :=
 let x9 := decide (a7 < (a5.length : Int))
 bif imp x9 (inRange a7 a5.length) then
 bif (bif x9 then (((a5.getD a7.toNat 0).toNat : Int) != (34 : Int)) else false) then
 bif inRange a7 a5.length then
 let x13 := ((a5.getD a7.toNat 0).toNat : Int)
 bif (x13 == (92 : Int)) then
 (F237 fuel a5 a7).bind fun y15 =>
 let x16 := y15.1
 let x17 := y15.2
 bif (x17 == (0 : Int)) then
 some (.inr (.inl (([] : List UInt8), (0 : Int), (2 : Int))))
 else
 bif decide (a6.length + [(PV.int x16)].length ≤ accMax) then
 some (.inl (a5, (a6 ++ [(PV.int x16)]), (IntKind.wrap .i64 (a7 + x17))))
 else none
 else
 bif ((1 : Int) == (0 : Int)) then
 some (.inr (.inl (([] : List UInt8), (0 : Int), (2 : Int))))
 else
 bif decide (a6.length + [(PV.int x13)].length ≤ accMax) then
 some (.inl (a5, (a6 ++ [(PV.int x13)]), (IntKind.wrap .i64 (a7 + (1 : Int)))))
 else none
 else none
 else
 some (.inr (.inr (a5, a6, a7)))
 else none
def S131_6step (fuel : Nat) (x : (List UInt8) × (List PV) × Int) : Option (((List UInt8) × (List PV) × Int) ⊕ (((List UInt8) × Int × Int) ⊕ ((List UInt8) × (List PV) × Int))) := S131_6 fuel x.1 x.2.1 x.2.2
def F131 (fuel : Nat) (a0 : List UInt8) : Option ((List UInt8) × Int × Int) :=
 let x1 := a0 == ([] : List UInt8)
 bif imp (!x1) (inRange (0 : Int) a0.length) then
 bif (bif x1 then true else (((a0.getD (0 : Int).toNat 0).toNat : Int) != (34 : Int))) then
 some (([] : List UInt8), (0 : Int), (2 : Int))
 else
 (loopQ fuel (S131_6step fuel) (a0, [], (1 : Int))).bind fun z => sumE (fun y24 =>
 some (y24.1, y24.2.1, y24.2.2)
 ) (fun y25 =>
 let x27 := y25.2.1.map byteOfPV
 let x31 := decide (y25.2.2 ≥ (y25.1.length : Int))
 (bif !x31 then F134 fuel x27 else some []).bind fun y32 =>
 let x33 := y25.1
 let x35 := IntKind.wrap .i64 (y25.2.2 + (1 : Int))
 bif imp (!x31) (decide (0 ≤ (0 : Int) ∧ (0 : Int) ≤ x35 ∧ x35 ≤ (x33.length : Int))) then
 bif (bif x31 then true else (!(y32 == ((x33.take x35.toNat).drop (0 : Int).toNat)))) then
 some (([] : List UInt8), (0 : Int), (2 : Int))
 else
 some (x27, (IntKind.wrap .i64 (y25.2.2 + (1 : Int))), (0 : Int))
 else none
 ) z
 else none
def S131_6l (fuel : Nat) : LoopE := ⟨6, ⟨[0, 5, 6], [.acc], [.str, (.acc 0 5), (.int .i64)]⟩, [(.ret, ⟨[2, 3, 4], [.acc], [.str, (.int .i64), (.int .i64)]⟩), (.exit 0, ⟨[0, 5, 6], [.acc], [.str, (.acc 0 5), (.int .i64)]⟩)], S131_6step fuel⟩
def F131C (fuel : Nat) : Cfg := cfg Tryz.prog 65 0 [F237c fuel, F134c fuel] [S131_6l fuel] fuel
def F131c (fuel : Nat) : CallE := ⟨131, ⟨1, [], [.str]⟩, ⟨3, [], [.str, (.int .i64), (.int .i64)]⟩, fun x => F131 fuel x, ([], 0, 0)⟩
theorem F131k (fuel : Nat) : CallOk (F131C fuel) := cfg_callOkP (qc (F237ok fuel) <| qc (F134ok fuel) <| q0) (p0)
theorem S131_6ok (fuel : Nat) : LoopOk (F131C fuel) (lp (bodyOf Tryz.f131) 0) := okL (F131k fuel) fuel (S131_6l fuel) L0
theorem F131ok (fuel : Nat) : (F131c fuel).Ok Tryz.prog := okE Tryz.f131 (F131k fuel) (L1 (S131_6ok fuel))
def F61 (fuel : Nat) (a0 : List UInt8) : Option (PV × Int × Int) :=
 (F123 fuel a0).bind fun y1 =>
 bif (y1 == (3 : Int)) then
 (F129 fuel a0).bind fun y3 =>
 some (y3.1, y3.2.1, y3.2.2)
 else
 bif (y1 == (4 : Int)) then
 (F130 fuel a0).bind fun y8 =>
 some (y8.1, y8.2.1, y8.2.2)
 else
 bif (y1 == (5 : Int)) then
 (F131 fuel a0).bind fun y13 =>
 some ((PV.agg [(PV.int (3 : Int)), (PV.str y13.1), (PV.int (0 : Int)), (PV.int (0 : Int))]), y13.2.1, y13.2.2)
 else
 bif (y1 == (6 : Int)) then
 bif decide (0 ≤ (0 : Int) ∧ (0 : Int) ≤ (1 : Int) ∧ (1 : Int) ≤ (a0.length : Int)) then
 some ((PV.agg [(PV.int (4 : Int)), (PV.str ((a0.take (1 : Int).toNat).drop (0 : Int).toNat)), (PV.int (0 : Int)), (PV.int (0 : Int))]), (1 : Int), (0 : Int))
 else none
 else
 some ((PV.agg [(PV.int (0 : Int)), (PV.str ([] : List UInt8)), (PV.int (0 : Int)), (PV.int (0 : Int))]), (0 : Int), (2 : Int))
def F61c (fuel : Nat) : CallE := ⟨61, ⟨1, [], [.str]⟩, ⟨3, [], [(.data 72), (.int .i64), (.int .i64)]⟩, fun x => F61 fuel x, (PV.bad, 0, 0)⟩
theorem F61ok (fuel : Nat) : (F61c fuel).Ok Tryz.prog := okJ Tryz.f61 42 0 fuel [F123c fuel, F129c fuel, F130c fuel, F131c fuel] [] false (qc (F123ok fuel) <| qc (F129ok fuel) <| qc (F130ok fuel) <| qc (F131ok fuel) <| q0) (p0) L0
def S28_7 (fuel : Nat) (a3 : List UInt8) (a4 : List PV) (a5 : Int) (a6 : Int) : Option (((List UInt8) × (List PV) × Int × Int) ⊕ (((List PV)) ⊕ ((List PV) × Int × Int))) :=
 bif (decide (a6 < (a3.length : Int))) then
 bif decide (0 ≤ a6 ∧ a6 ≤ (a3.length : Int) ∧ (a3.length : Int) ≤ (a3.length : Int)) then
 (F59 fuel ((a3.take (a3.length : Int).toNat).drop a6.toNat)).bind fun y10 =>
 let x11 := IntKind.wrap .i64 (a6 + y10)
 bif decide (0 ≤ a6 ∧ a6 ≤ x11 ∧ x11 ≤ (a3.length : Int)) then
 (Lcount fuel ((a3.take x11.toNat).drop a6.toNat) ([10] : List UInt8)).bind fun y13 =>
 let x14 := IntKind.wrap .i64 (a5 + y13)
 let x15 := IntKind.wrap .i64 (a6 + y10)
 bif (x15 == (a3.length : Int)) then
 some (.inr (.inl a4))
 else
 bif decide (0 ≤ x15 ∧ x15 ≤ (a3.length : Int) ∧ (a3.length : Int) ≤ (a3.length : Int)) then
 (F61 fuel ((a3.take (a3.length : Int).toNat).drop x15.toNat)).bind fun y19 =>
 let x20 := y19.1
 let x21 := y19.2.1
 let x22 := y19.2.2
 bif (x22 != (0 : Int)) then
 some (.inr (.inr ([], x14, x22)))
 else
 let x24 := (x20.fld 0).asInt
 let x25 := (x20.fld 1).asStr
 let x26 := (x20.fld 2).asInt
 bif decide (a4.length + [(PV.agg [(PV.int x24), (PV.str x25), (PV.int x26), (PV.int x14)])].length ≤ accMax) then
 let x27 := a4 ++ [(PV.agg [(PV.int x24), (PV.str x25), (PV.int x26), (PV.int x14)])]
 let x28 := IntKind.wrap .i64 (x15 + x21)
 bif decide (0 ≤ x15 ∧ x15 ≤ x28 ∧ x28 ≤ (a3.length : Int)) then
 (Lcount fuel ((a3.take x28.toNat).drop x15.toNat) ([10] : List UInt8)).bind fun y30 =>
 some (.inl (a3, x27, (IntKind.wrap .i64 (x14 + y30)), (IntKind.wrap .i64 (x15 + x21))))
 else none
 else none
 else none
 else none
 else none
 else
 some (.inr (.inl a4))
def S28_7step (fuel : Nat) (x : (List UInt8) × (List PV) × Int × Int) : Option (((List UInt8) × (List PV) × Int × Int) ⊕ (((List PV)) ⊕ ((List PV) × Int × Int))) := S28_7 fuel x.1 x.2.1 x.2.2.1 x.2.2.2
def F28 (fuel : Nat) (a0 : List UInt8) : Option ((List PV) × Int × Int) :=
 bif (decide ((a0.length : Int) > (16384 : Int))) then
 some ([], (0 : Int), (3 : Int))
 else
 (loopQ fuel (S28_7step fuel) (a0, [], (1 : Int), (0 : Int))).bind fun z => sumE (fun y33 =>
 some (y33, (0 : Int), (0 : Int))
 ) (fun y34 =>
 some (y34.1, y34.2.1, y34.2.2)
 ) z
def S28_7l (fuel : Nat) : LoopE := ⟨7, ⟨[0, 5, 6, 7], [.acc], [.str, (.acc 0 72), (.int .i64), (.int .i64)]⟩, [(.exit 0, ⟨[5], [.acc], [(.acc 0 72)]⟩), (.ret, ⟨[2, 3, 4], [.acc], [(.slice 72), (.int .i64), (.int .i64)]⟩)], S28_7step fuel⟩
def F28C (fuel : Nat) : Cfg := cfg Tryz.prog 69 0 [F59c fuel, Lcountc fuel, F61c fuel] [S28_7l fuel] fuel
def F28c (fuel : Nat) : CallE := ⟨28, ⟨1, [], [.str]⟩, ⟨3, [], [(.slice 72), (.int .i64), (.int .i64)]⟩, fun x => F28 fuel x, ([], 0, 0)⟩
theorem F28k (fuel : Nat) : CallOk (F28C fuel) := cfg_callOkP (qc (F59ok fuel) <| qc (Lcountok fuel) <| qc (F61ok fuel) <| q0) (p0)
theorem S28_7ok (fuel : Nat) : LoopOk (F28C fuel) (lp (bodyOf Tryz.f28) 0) := okL (F28k fuel) fuel (S28_7l fuel) L0
theorem F28ok (fuel : Nat) : (F28c fuel).Ok Tryz.prog := okE Tryz.f28 (F28k fuel) (L1 (S28_7ok fuel))
def F286 (fuel : Nat) (a0 : PV) (a1 : List UInt8) : Option (Bool) :=
 some (bif (bif (((a0.fld 0).asInt) == (4 : Int)) then true else (((a0.fld 0).asInt) == (1 : Int))) then (((a0.fld 1).asStr) == a1) else false)
def F286c (fuel : Nat) : CallE := ⟨286, ⟨2, [], [(.data 72), .str]⟩, ⟨1, [], [.bool]⟩, fun x => F286 fuel x.1 x.2, false⟩
theorem F286ok (fuel : Nat) : (F286c fuel).Ok Tryz.prog := okJ Tryz.f286 19 0 fuel [] [] false (q0) (p0) L0
def F203 (fuel : Nat) (a0 : Unit) (a1 : Int) (a2 : List UInt8) (s : Q0) : Option (Bool × Q0) :=
 let x3 := decide ((IntKind.wrap .i64 (s.2.1 + a1)) < (s.1.length : Int))
 let x4 := IntKind.wrap .i64 (s.2.1 + a1)
 bif imp x3 (inRange x4 s.1.length) then
 (bif x3 then F286 fuel (s.1.getD x4.toNat .bad) a2 else some false).bind fun y6 =>
 some ((bif x3 then y6 else false), s)
 else none
def F203c (fuel : Nat) : CallE := ⟨203, ⟨3, [.box 82 (.agg 82 [.leaf, .leaf, (.agg 28 [.leaf, .leaf, .leaf, .leaf, .leaf, .leaf])]), .arr 9 0, .arr 63 0, .arr 127 0, .acc], [(.con (.ref 0 [] 82)), (.int .i64), .str, (.slice 72), (.int .i64), .str, .str, (.con (.arr 1 0 9)), (.con (.arr 2 0 63)), (.con (.arr 3 0 127)), (.acc 4 130), (.slice 9), (.slice 63), (.slice 127)]⟩, ⟨1, [.box 82 (.agg 82 [.leaf, .leaf, (.agg 28 [.leaf, .leaf, .leaf, .leaf, .leaf, .leaf])]), .arr 9 0, .arr 63 0, .arr 127 0, .acc], [.bool, (.slice 72), (.int .i64), .str, .str, (.con (.arr 1 0 9)), (.con (.arr 2 0 63)), (.con (.arr 3 0 127)), (.acc 4 130), (.slice 9), (.slice 63), (.slice 127)]⟩, fun x => F203 fuel x.1 x.2.1 x.2.2.1 x.2.2.2, (false, [], 0, [], [], (), (), (), [], [], [], [])⟩
theorem F203ok (fuel : Nat) : (F203c fuel).Ok Tryz.prog := okJ Tryz.f203 35 5 fuel [F286c fuel] [] false (qc (F286ok fuel) <| q0) (p0) L0
def F117 (fuel : Nat) (a0 : Unit) (s : Q0) : Option (Int × Q0) :=
 bif (decide (s.2.1 ≥ (s.1.length : Int))) then
 some ((0 : Int), s)
 else
 bif inRange s.2.1 s.1.length then
 some (((s.1.getD s.2.1.toNat .bad).fld 0).asInt, s)
 else none
def F117c (fuel : Nat) : CallE := ⟨117, ⟨1, [.box 82 (.agg 82 [.leaf, .leaf, (.agg 28 [.leaf, .leaf, .leaf, .leaf, .leaf, .leaf])]), .arr 9 0, .arr 63 0, .arr 127 0, .acc], [(.con (.ref 0 [] 82)), (.slice 72), (.int .i64), .str, .str, (.con (.arr 1 0 9)), (.con (.arr 2 0 63)), (.con (.arr 3 0 127)), (.acc 4 130), (.slice 9), (.slice 63), (.slice 127)]⟩, ⟨1, [.box 82 (.agg 82 [.leaf, .leaf, (.agg 28 [.leaf, .leaf, .leaf, .leaf, .leaf, .leaf])]), .arr 9 0, .arr 63 0, .arr 127 0, .acc], [(.int .i64), (.slice 72), (.int .i64), .str, .str, (.con (.arr 1 0 9)), (.con (.arr 2 0 63)), (.con (.arr 3 0 127)), (.acc 4 130), (.slice 9), (.slice 63), (.slice 127)]⟩, fun x => F117 fuel x.1 x.2, (0, [], 0, [], [], (), (), (), [], [], [], [])⟩
theorem F117ok (fuel : Nat) : (F117c fuel).Ok Tryz.prog := okJ Tryz.f117 24 5 fuel [] [] false (q0) (p0) L0
def F96 (fuel : Nat) (a0 : Unit) (a1 : List UInt8) (s : Q0) : Option (Bool × Q0) :=
 (F202 fuel a1).bind fun y1 =>
 bif y1 then
 (F203 fuel () (0 : Int) a1 s).bind fun y2 =>
 let x3 := y2.1
 bif x3 then
 (F117 fuel () y2.2).bind fun y4 =>
 some ((bif x3 then (y4.1 == (1 : Int)) else false), y4.2)
 else
 some ((bif x3 then ((0 : Int) == (1 : Int)) else false), y2.2)
 else
 (F203 fuel () (0 : Int) a1 s).bind fun y9 =>
 let x10 := y9.1
 bif x10 then
 (F117 fuel () y9.2).bind fun y11 =>
 some ((bif x10 then (y11.1 == (4 : Int)) else false), y11.2)
 else
 some ((bif x10 then ((0 : Int) == (4 : Int)) else false), y9.2)
def F96c (fuel : Nat) : CallE := ⟨96, ⟨2, [.box 82 (.agg 82 [.leaf, .leaf, (.agg 28 [.leaf, .leaf, .leaf, .leaf, .leaf, .leaf])]), .arr 9 0, .arr 63 0, .arr 127 0, .acc], [(.con (.ref 0 [] 82)), .str, (.slice 72), (.int .i64), .str, .str, (.con (.arr 1 0 9)), (.con (.arr 2 0 63)), (.con (.arr 3 0 127)), (.acc 4 130), (.slice 9), (.slice 63), (.slice 127)]⟩, ⟨1, [.box 82 (.agg 82 [.leaf, .leaf, (.agg 28 [.leaf, .leaf, .leaf, .leaf, .leaf, .leaf])]), .arr 9 0, .arr 63 0, .arr 127 0, .acc], [.bool, (.slice 72), (.int .i64), .str, .str, (.con (.arr 1 0 9)), (.con (.arr 2 0 63)), (.con (.arr 3 0 127)), (.acc 4 130), (.slice 9), (.slice 63), (.slice 127)]⟩, fun x => F96 fuel x.1 x.2.1 x.2.2, (false, [], 0, [], [], (), (), (), [], [], [], [])⟩
theorem F96ok (fuel : Nat) : (F96c fuel).Ok Tryz.prog := okJ Tryz.f96 17 5 fuel [F202c fuel, F203c fuel, F117c fuel] [] false (qc (F202ok fuel) <| qc (F203ok fuel) <| qc (F117ok fuel) <| q0) (p0) L0
def F91 (fuel : Nat) (a0 : Unit) (a1 : List UInt8) (s : Q0) : Option (Bool × Q0) :=
 (F96 fuel () a1 s).bind fun y1 =>
 bif (!y1.1) then
 some (false, y1.2)
 else
 some (true, y1.2.1, (IntKind.wrap .i64 (y1.2.2.1 + (1 : Int))), y1.2.2.2)
def F91c (fuel : Nat) : CallE := ⟨91, ⟨2, [.box 82 (.agg 82 [.leaf, .leaf, (.agg 28 [.leaf, .leaf, .leaf, .leaf, .leaf, .leaf])]), .arr 9 0, .arr 63 0, .arr 127 0, .acc], [(.con (.ref 0 [] 82)), .str, (.slice 72), (.int .i64), .str, .str, (.con (.arr 1 0 9)), (.con (.arr 2 0 63)), (.con (.arr 3 0 127)), (.acc 4 130), (.slice 9), (.slice 63), (.slice 127)]⟩, ⟨1, [.box 82 (.agg 82 [.leaf, .leaf, (.agg 28 [.leaf, .leaf, .leaf, .leaf, .leaf, .leaf])]), .arr 9 0, .arr 63 0, .arr 127 0, .acc], [.bool, (.slice 72), (.int .i64), .str, .str, (.con (.arr 1 0 9)), (.con (.arr 2 0 63)), (.con (.arr 3 0 127)), (.acc 4 130), (.slice 9), (.slice 63), (.slice 127)]⟩, fun x => F91 fuel x.1 x.2.1 x.2.2, (false, [], 0, [], [], (), (), (), [], [], [], [])⟩
theorem F91ok (fuel : Nat) : (F91c fuel).Ok Tryz.prog := okJ Tryz.f91 16 5 fuel [F96c fuel] [] false (qc (F96ok fuel) <| q0) (p0) L0
def F118 (fuel : Nat) (a0 : Unit) (a1 : Int) (s : Q0) : Option ((Q0) ⊕ (PV × Q0)) :=
 some (.inr ((PV.agg [(PV.int s.2.1), (PV.int a1)]), s))
def F118p (fuel : Nat) : CallP := ⟨118, ⟨2, [.box 82 (.agg 82 [.leaf, .leaf, (.agg 28 [.leaf, .leaf, .leaf, .leaf, .leaf, .leaf])]), .arr 9 0, .arr 63 0, .arr 127 0, .acc], [(.con (.ref 0 [] 82)), (.int .i64), (.slice 72), (.int .i64), .str, .str, (.con (.arr 1 0 9)), (.con (.arr 2 0 63)), (.con (.arr 3 0 127)), (.acc 4 130), (.slice 9), (.slice 63), (.slice 127)]⟩, ⟨0, [.box 82 (.agg 82 [.leaf, .leaf, (.agg 28 [.leaf, .leaf, .leaf, .leaf, .leaf, .leaf])]), .arr 9 0, .arr 63 0, .arr 127 0, .acc], [(.slice 72), (.int .i64), .str, .str, (.con (.arr 1 0 9)), (.con (.arr 2 0 63)), (.con (.arr 3 0 127)), (.acc 4 130), (.slice 9), (.slice 63), (.slice 127)]⟩, ⟨1, [.box 82 (.agg 82 [.leaf, .leaf, (.agg 28 [.leaf, .leaf, .leaf, .leaf, .leaf, .leaf])]), .arr 9 0, .arr 63 0, .arr 127 0, .acc], [(.ifc 84), (.slice 72), (.int .i64), .str, .str, (.con (.arr 1 0 9)), (.con (.arr 2 0 63)), (.con (.arr 3 0 127)), (.acc 4 130), (.slice 9), (.slice 63), (.slice 127)]⟩, fun x => F118 fuel x.1 x.2.1 x.2.2, ([], 0, [], [], (), (), (), [], [], [], [])⟩
theorem F118ok (fuel : Nat) : (F118p fuel).Ok Tryz.prog := okPJ Tryz.f118 11 5 fuel [] [] false (q0) (p0) L0
def F200 (fuel : Nat) (a0 : List UInt8) : Option (Bool) :=
 bif (a0 == ([109, 101, 115, 115, 97, 103, 101] : List UInt8)) then
 some true
 else
 bif (a0 == ([101, 110, 117, 109] : List UInt8)) then
 some true
 else
 bif (a0 == ([115, 101, 114, 118, 105, 99, 101] : List UInt8)) then
 some true
 else
 bif (a0 == ([117, 110, 105, 111, 110] : List UInt8)) then
 some true
 else
 bif (a0 == ([109, 97, 112] : List UInt8)) then
 some true
 else
 bif (a0 == ([108, 105, 115, 116] : List UInt8)) then
 some true
 else
 let x7 := a0 == ([114, 101, 113, 117, 105, 114, 101, 100] : List UInt8)
 bif x7 then
 some true
 else
 let x8 := a0 == ([111, 112, 116, 105, 111, 110, 97, 108] : List UInt8)
 bif x8 then
 some true
 else
 bif (a0 == ([112, 108, 97, 105, 110] : List UInt8)) then
 some true
 else
 bif (a0 == ([100, 101, 102, 97, 117, 108, 116] : List UInt8)) then
 some true
 else
 let x11 := a0 == ([114, 101, 115, 101, 114, 118, 101, 100] : List UInt8)
 bif x11 then
 some true
 else
 bif (a0 == ([105, 109, 112, 111, 114, 116] : List UInt8)) then
 some true
 else
 bif (a0 == ([115, 112, 97, 99, 101] : List UInt8)) then
 some true
 else
 bif (a0 == ([114, 112, 99] : List UInt8)) then
 some true
 else
 bif (a0 == ([115, 116, 114, 101, 97, 109] : List UInt8)) then
 some true
 else
 bif (a0 == ([114, 101, 116, 117, 114, 110, 115] : List UInt8)) then
 some true
 else
 bif (a0 == ([111, 112, 101, 110] : List UInt8)) then
 some true
 else
 bif (a0 == ([116, 114, 117, 101] : List UInt8)) then
 some true
 else
 bif (a0 == ([102, 97, 108, 115, 101] : List UInt8)) then
 some true
 else
 bif (a0 == ([110, 97, 110] : List UInt8)) then
 some true
 else
 bif (a0 == ([105, 110, 102] : List UInt8)) then
 some true
 else
 some false
def F200c (fuel : Nat) : CallE := ⟨200, ⟨1, [], [.str]⟩, ⟨1, [], [.bool]⟩, fun x => F200 fuel x, false⟩
theorem F200ok (fuel : Nat) : (F200c fuel).Ok Tryz.prog := okJ Tryz.f200 27 0 fuel [] [] false (q0) (p0) L0
def S93_3 (fuel : Nat) (a3 : List UInt8) (a4 : List PV) (a5 : Int) (a6 : Int) : Option (((List UInt8) × (List PV) × Int × Int) ⊕ ((Bool) ⊕ ((List UInt8)))) :=
 bif (decide (a6 < a5)) then
 bif inRange a6 a4.length then
 (F200 fuel (a4.getD a6.toNat .bad).asStr).bind fun y10 =>
 bif y10 then
 some (.inr (.inl false))
 else
 some (.inl (a3, a4, a5, (IntKind.wrap .i64 (a6 + (1 : Int)))))
 else none
 else
 some (.inr (.inr a3))
def S93_3step (fuel : Nat) (x : (List UInt8) × (List PV) × Int × Int) : Option (((List UInt8) × (List PV) × Int × Int) ⊕ ((Bool) ⊕ ((List UInt8)))) := S93_3 fuel x.1 x.2.1 x.2.2.1 x.2.2.2
def F93 (fuel : Nat) (a0 : List UInt8) : Option (Bool) :=
 (Lsplit fuel a0 ([46] : List UInt8)).bind fun y1 =>
 (loopQ fuel (S93_3step fuel) (a0, y1, (y1.length : Int), (0 : Int))).bind fun z => sumE (fun y12 =>
 some y12
 ) (fun y13 =>
 (F140 fuel y13).bind fun y14 =>
 some y14
 ) z
def S93_3l (fuel : Nat) : LoopE := ⟨3, ⟨[0, 6, 7, 8], [], [.str, (.slice 9), (.int .i64), (.int .i64)]⟩, [(.ret, ⟨[2], [], [.bool]⟩), (.exit 0, ⟨[0], [], [.str]⟩)], S93_3step fuel⟩
def F93C (fuel : Nat) : Cfg := cfg Tryz.prog 17 0 [Lsplitc fuel, F200c fuel, F140c fuel] [S93_3l fuel] fuel
def F93c (fuel : Nat) : CallE := ⟨93, ⟨1, [], [.str]⟩, ⟨1, [], [.bool]⟩, fun x => F93 fuel x, false⟩
theorem F93k (fuel : Nat) : CallOk (F93C fuel) := cfg_callOkP (qc (Lsplitok fuel) <| qc (F200ok fuel) <| qc (F140ok fuel) <| q0) (p0)
theorem S93_3ok (fuel : Nat) : LoopOk (F93C fuel) (lp (bodyOf Tryz.f93) 0) := okL (F93k fuel) fuel (S93_3l fuel) L0
theorem F93ok (fuel : Nat) : (F93c fuel).Ok Tryz.prog := okE Tryz.f93 (F93k fuel) (L1 (S93_3ok fuel))
def F92 (fuel : Nat) (a0 : Unit) (a1 : Int) (a2 : Unit) (s : Q0) : Option (((List UInt8) × Q0) ⊕ (PV × Q0)) :=
 (F117 fuel () s).bind fun y1 =>
 bif (y1.1 != a1) then
 some (.inr ((PV.agg [(PV.int y1.2.2.1), (PV.int (2 : Int))]), y1.2))
 else
 let x3 := y1.2.1
 let x4 := y1.2.2.1
 bif inRange x4 x3.length then
 let x7 := ((x3.getD x4.toNat .bad).fld 1).asStr
 (F93 fuel x7).bind fun y8 =>
 bif (!y8) then
 some (.inr ((PV.agg [(PV.int y1.2.2.1), (PV.int (8 : Int))]), y1.2))
 else
 some (.inl (x7, y1.2.1, (IntKind.wrap .i64 (y1.2.2.1 + (1 : Int))), y1.2.2.2))
 else none
def F92p (fuel : Nat) : CallP := ⟨92, ⟨3, [.box 82 (.agg 82 [.leaf, .leaf, (.agg 28 [.leaf, .leaf, .leaf, .leaf, .leaf, .leaf])]), .arr 9 0, .arr 63 0, .arr 127 0, .acc], [(.con (.ref 0 [] 82)), (.int .i64), (.con (.fn 93 0 [])), (.slice 72), (.int .i64), .str, .str, (.con (.arr 1 0 9)), (.con (.arr 2 0 63)), (.con (.arr 3 0 127)), (.acc 4 130), (.slice 9), (.slice 63), (.slice 127)]⟩, ⟨1, [.box 82 (.agg 82 [.leaf, .leaf, (.agg 28 [.leaf, .leaf, .leaf, .leaf, .leaf, .leaf])]), .arr 9 0, .arr 63 0, .arr 127 0, .acc], [.str, (.slice 72), (.int .i64), .str, .str, (.con (.arr 1 0 9)), (.con (.arr 2 0 63)), (.con (.arr 3 0 127)), (.acc 4 130), (.slice 9), (.slice 63), (.slice 127)]⟩, ⟨1, [.box 82 (.agg 82 [.leaf, .leaf, (.agg 28 [.leaf, .leaf, .leaf, .leaf, .leaf, .leaf])]), .arr 9 0, .arr 63 0, .arr 127 0, .acc], [(.ifc 84), (.slice 72), (.int .i64), .str, .str, (.con (.arr 1 0 9)), (.con (.arr 2 0 63)), (.con (.arr 3 0 127)), (.acc 4 130), (.slice 9), (.slice 63), (.slice 127)]⟩, fun x => F92 fuel x.1 x.2.1 x.2.2.1 x.2.2.2, ([], [], 0, [], [], (), (), (), [], [], [], [])⟩
theorem F92ok (fuel : Nat) : (F92p fuel).Ok Tryz.prog := okPJ Tryz.f92 39 5 fuel [F117c fuel, F93c fuel] [F118p fuel] false (qc (F117ok fuel) <| qc (F93ok fuel) <| q0) (pc (F118ok fuel) <| p0) L0
def F94 (fuel : Nat) (a0 : Unit) (a1 : List UInt8) (s : Q0) : Option ((Q0) ⊕ (PV × Q0)) :=
 (F91 fuel () a1 s).bind fun y1 =>
 bif (!y1.1) then
 some (.inr ((PV.agg [(PV.int y1.2.2.1), (PV.int (2 : Int))]), y1.2))
 else
 some (.inl y1.2)
def F94p (fuel : Nat) : CallP := ⟨94, ⟨2, [.box 82 (.agg 82 [.leaf, .leaf, (.agg 28 [.leaf, .leaf, .leaf, .leaf, .leaf, .leaf])]), .arr 9 0, .arr 63 0, .arr 127 0, .acc], [(.con (.ref 0 [] 82)), .str, (.slice 72), (.int .i64), .str, .str, (.con (.arr 1 0 9)), (.con (.arr 2 0 63)), (.con (.arr 3 0 127)), (.acc 4 130), (.slice 9), (.slice 63), (.slice 127)]⟩, ⟨0, [.box 82 (.agg 82 [.leaf, .leaf, (.agg 28 [.leaf, .leaf, .leaf, .leaf, .leaf, .leaf])]), .arr 9 0, .arr 63 0, .arr 127 0, .acc], [(.slice 72), (.int .i64), .str, .str, (.con (.arr 1 0 9)), (.con (.arr 2 0 63)), (.con (.arr 3 0 127)), (.acc 4 130), (.slice 9), (.slice 63), (.slice 127)]⟩, ⟨1, [.box 82 (.agg 82 [.leaf, .leaf, (.agg 28 [.leaf, .leaf, .leaf, .leaf, .leaf, .leaf])]), .arr 9 0, .arr 63 0, .arr 127 0, .acc], [(.ifc 84), (.slice 72), (.int .i64), .str, .str, (.con (.arr 1 0 9)), (.con (.arr 2 0 63)), (.con (.arr 3 0 127)), (.acc 4 130), (.slice 9), (.slice 63), (.slice 127)]⟩, fun x => F94 fuel x.1 x.2.1 x.2.2, ([], 0, [], [], (), (), (), [], [], [], [])⟩
theorem F94ok (fuel : Nat) : (F94p fuel).Ok Tryz.prog := okPJ Tryz.f94 10 5 fuel [F91c fuel] [F118p fuel] false (qc (F91ok fuel) <| q0) (pc (F118ok fuel) <| p0) L0
def F201 (fuel : Nat) (a0 : List UInt8) : Option (Bool) :=
 some true
def F201c (fuel : Nat) : CallE := ⟨201, ⟨1, [], [.str]⟩, ⟨1, [], [.bool]⟩, fun x => F201 fuel x, false⟩
theorem F201ok (fuel : Nat) : (F201c fuel).Ok Tryz.prog := okJ Tryz.f201 3 0 fuel [] [] false (q0) (p0) L0
def F92_v1 (fuel : Nat) (a0 : Unit) (a1 : Int) (a2 : Unit) (s : Q0) : Option (((List UInt8) × Q0) ⊕ (PV × Q0)) :=
 (F117 fuel () s).bind fun y1 =>
 bif (y1.1 != a1) then
 some (.inr ((PV.agg [(PV.int y1.2.2.1), (PV.int (2 : Int))]), y1.2))
 else
 let x3 := y1.2.1
 let x4 := y1.2.2.1
 bif inRange x4 x3.length then
 let x7 := ((x3.getD x4.toNat .bad).fld 1).asStr
 (F201 fuel x7).bind fun y8 =>
 bif (!y8) then
 some (.inr ((PV.agg [(PV.int y1.2.2.1), (PV.int (8 : Int))]), y1.2))
 else
 some (.inl (x7, y1.2.1, (IntKind.wrap .i64 (y1.2.2.1 + (1 : Int))), y1.2.2.2))
 else none
def F92_v1p (fuel : Nat) : CallP := ⟨92, ⟨3, [.box 82 (.agg 82 [.leaf, .leaf, (.agg 28 [.leaf, .leaf, .leaf, .leaf, .leaf, .leaf])]), .arr 9 0, .arr 63 0, .arr 127 0, .acc], [(.con (.ref 0 [] 82)), (.int .i64), (.con (.fn 201 0 [])), (.slice 72), (.int .i64), .str, .str, (.con (.arr 1 0 9)), (.con (.arr 2 0 63)), (.con (.arr 3 0 127)), (.acc 4 130), (.slice 9), (.slice 63), (.slice 127)]⟩, ⟨1, [.box 82 (.agg 82 [.leaf, .leaf, (.agg 28 [.leaf, .leaf, .leaf, .leaf, .leaf, .leaf])]), .arr 9 0, .arr 63 0, .arr 127 0, .acc], [.str, (.slice 72), (.int .i64), .str, .str, (.con (.arr 1 0 9)), (.con (.arr 2 0 63)), (.con (.arr 3 0 127)), (.acc 4 130), (.slice 9), (.slice 63), (.slice 127)]⟩, ⟨1, [.box 82 (.agg 82 [.leaf, .leaf, (.agg 28 [.leaf, .leaf, .leaf, .leaf, .leaf, .leaf])]), .arr 9 0, .arr 63 0, .arr 127 0, .acc], [(.ifc 84), (.slice 72), (.int .i64), .str, .str, (.con (.arr 1 0 9)), (.con (.arr 2 0 63)), (.con (.arr 3 0 127)), (.acc 4 130), (.slice 9), (.slice 63), (.slice 127)]⟩, fun x => F92_v1 fuel x.1 x.2.1 x.2.2.1 x.2.2.2, ([], [], 0, [], [], (), (), (), [], [], [], [])⟩
theorem F92_v1ok (fuel : Nat) : (F92_v1p fuel).Ok Tryz.prog := okPJ Tryz.f92 39 5 fuel [F117c fuel, F201c fuel] [F118p fuel] false (qc (F117ok fuel) <| qc (F201ok fuel) <| q0) (pc (F118ok fuel) <| p0) L0
def F95 (fuel : Nat) (a0 : Unit) (s : Q0) : Option (((List UInt8) × Q0) ⊕ (PV × Q0)) :=
 (F92_v1 fuel () (3 : Int) () s).bind fun z => sumE (fun y1 =>
 some (.inl (y1.1, y1.2))
 ) (fun y2 =>
 some (.inr y2)
 ) z
def F95p (fuel : Nat) : CallP := ⟨95, ⟨1, [.box 82 (.agg 82 [.leaf, .leaf, (.agg 28 [.leaf, .leaf, .leaf, .leaf, .leaf, .leaf])]), .arr 9 0, .arr 63 0, .arr 127 0, .acc], [(.con (.ref 0 [] 82)), (.slice 72), (.int .i64), .str, .str, (.con (.arr 1 0 9)), (.con (.arr 2 0 63)), (.con (.arr 3 0 127)), (.acc 4 130), (.slice 9), (.slice 63), (.slice 127)]⟩, ⟨1, [.box 82 (.agg 82 [.leaf, .leaf, (.agg 28 [.leaf, .leaf, .leaf, .leaf, .leaf, .leaf])]), .arr 9 0, .arr 63 0, .arr 127 0, .acc], [.str, (.slice 72), (.int .i64), .str, .str, (.con (.arr 1 0 9)), (.con (.arr 2 0 63)), (.con (.arr 3 0 127)), (.acc 4 130), (.slice 9), (.slice 63), (.slice 127)]⟩, ⟨1, [.box 82 (.agg 82 [.leaf, .leaf, (.agg 28 [.leaf, .leaf, .leaf, .leaf, .leaf, .leaf])]), .arr 9 0, .arr 63 0, .arr 127 0, .acc], [(.ifc 84), (.slice 72), (.int .i64), .str, .str, (.con (.arr 1 0 9)), (.con (.arr 2 0 63)), (.con (.arr 3 0 127)), (.acc 4 130), (.slice 9), (.slice 63), (.slice 127)]⟩, fun x => F95 fuel x.1 x.2, ([], [], 0, [], [], (), (), (), [], [], [], [])⟩
theorem F95ok (fuel : Nat) : (F95p fuel).Ok Tryz.prog := okPJ Tryz.f95 5 5 fuel [] [F92_v1p fuel] false (q0) (pc (F92_v1ok fuel) <| p0) L0
def F288 (fuel : Nat) (a0 : List UInt8) (a1 : List UInt8) : Option ((List UInt8)) :=
 bif (a0 == ([] : List UInt8)) then
 some a1
 else
 bif decide (a0.length + ([46] : List UInt8).length ≤ strMax) then
 let x2 := a0 ++ ([46] : List UInt8)
 bif decide (x2.length + a1.length ≤ strMax) then
 some (x2 ++ a1)
 else none
 else none
def F288c (fuel : Nat) : CallE := ⟨288, ⟨2, [], [.str, .str]⟩, ⟨1, [], [.str]⟩, fun x => F288 fuel x.1 x.2, []⟩
theorem F288ok (fuel : Nat) : (F288c fuel).Ok Tryz.prog := okJ Tryz.f288 12 0 fuel [] [] false (q0) (p0) L0
def F287 (fuel : Nat) (a0 : List UInt8) (a1 : Unit) (a2 : List UInt8) : Option (Bool × (List UInt8)) :=
 (F93 fuel a0).bind fun y1 =>
 let x2 := a2 == ([] : List UInt8)
 (bif bif !x2 then y1 else false then F202 fuel a0 else some false).bind fun y3 =>
 (bif bif y3 then bif !x2 then y1 else false else false then F288 fuel a2 a0 else some []).bind fun y4 =>
 (bif bif y3 then bif !x2 then y1 else false else false then F140 fuel y4 else some false).bind fun y5 =>
 some ((bif y1 then (bif x2 then true else (bif y3 then y5 else false)) else false), a2)
def F287c (fuel : Nat) : CallE := ⟨287, ⟨2, [.box 9 .leaf], [.str, (.con (.ref 0 [] 9)), .str]⟩, ⟨1, [.box 9 .leaf], [.bool, .str]⟩, fun x => F287 fuel x.1 x.2.1 x.2.2, (false, [])⟩
theorem F287ok (fuel : Nat) : (F287c fuel).Ok Tryz.prog := okJ Tryz.f287 20 1 fuel [F93c fuel, F202c fuel, F288c fuel, F140c fuel] [] false (qc (F93ok fuel) <| qc (F202ok fuel) <| qc (F288ok fuel) <| qc (F140ok fuel) <| q0) (p0) L0
def F92_v2 (fuel : Nat) (a0 : Unit) (a1 : Int) (a2 : Unit) (s : Q1) : Option (((List UInt8) × Q1) ⊕ (PV × Q1)) :=
 (F117 fuel () (s.1, s.2.1, s.2.2.1, s.2.2.2.1, (), (), (), s.2.2.2.2.2.2.2.1, s.2.2.2.2.2.2.2.2.2)).bind fun y1 =>
 bif (y1.1 != a1) then
 some (.inr ((PV.agg [(PV.int y1.2.2.1), (PV.int (2 : Int))]), y1.2.1, y1.2.2.1, y1.2.2.2.1, y1.2.2.2.2.1, (), (), (), y1.2.2.2.2.2.2.2.2.1, s.2.2.2.2.2.2.2.2.1, y1.2.2.2.2.2.2.2.2.2))
 else
 let x3 := y1.2.1
 let x4 := y1.2.2.1
 bif inRange x4 x3.length then
 let x7 := ((x3.getD x4.toNat .bad).fld 1).asStr
 (F287 fuel x7 () s.2.2.2.2.2.2.2.2.1).bind fun y8 =>
 bif (!y8.1) then
 some (.inr ((PV.agg [(PV.int y1.2.2.1), (PV.int (8 : Int))]), y1.2.1, y1.2.2.1, y1.2.2.2.1, y1.2.2.2.2.1, (), (), (), y1.2.2.2.2.2.2.2.2.1, y8.2, y1.2.2.2.2.2.2.2.2.2))
 else
 some (.inl (x7, y1.2.1, (IntKind.wrap .i64 (y1.2.2.1 + (1 : Int))), y1.2.2.2.1, y1.2.2.2.2.1, (), (), (), y1.2.2.2.2.2.2.2.2.1, y8.2, y1.2.2.2.2.2.2.2.2.2))
 else none
def F92_v2p (fuel : Nat) : CallP := ⟨92, ⟨3, [.box 82 (.agg 82 [.leaf, .leaf, (.agg 28 [.leaf, .leaf, .leaf, .leaf, .leaf, .leaf])]), .box 9 .leaf, .arr 9 0, .arr 63 0, .arr 127 0, .acc], [(.con (.ref 0 [] 82)), (.int .i64), (.con (.fn 287 0 [(.ref 1 [] 9)])), (.slice 72), (.int .i64), .str, .str, (.con (.arr 2 0 9)), (.con (.arr 3 0 63)), (.con (.arr 4 0 127)), (.acc 5 130), .str, (.slice 9), (.slice 63), (.slice 127)]⟩, ⟨1, [.box 82 (.agg 82 [.leaf, .leaf, (.agg 28 [.leaf, .leaf, .leaf, .leaf, .leaf, .leaf])]), .box 9 .leaf, .arr 9 0, .arr 63 0, .arr 127 0, .acc], [.str, (.slice 72), (.int .i64), .str, .str, (.con (.arr 2 0 9)), (.con (.arr 3 0 63)), (.con (.arr 4 0 127)), (.acc 5 130), .str, (.slice 9), (.slice 63), (.slice 127)]⟩, ⟨1, [.box 82 (.agg 82 [.leaf, .leaf, (.agg 28 [.leaf, .leaf, .leaf, .leaf, .leaf, .leaf])]), .box 9 .leaf, .arr 9 0, .arr 63 0, .arr 127 0, .acc], [(.ifc 84), (.slice 72), (.int .i64), .str, .str, (.con (.arr 2 0 9)), (.con (.arr 3 0 63)), (.con (.arr 4 0 127)), (.acc 5 130), .str, (.slice 9), (.slice 63), (.slice 127)]⟩, fun x => F92_v2 fuel x.1 x.2.1 x.2.2.1 x.2.2.2, ([], [], 0, [], [], (), (), (), [], [], [], [], [])⟩
theorem F92_v2ok (fuel : Nat) : (F92_v2p fuel).Ok Tryz.prog := okPJ Tryz.f92 39 6 fuel [F117c fuel, F287c fuel] [F118p fuel] false (qc (F117ok fuel) <| qc (F287ok fuel) <| q0) (pc (F118ok fuel) <| p0) L0
def F204 (fuel : Nat) (a0 : Unit) (a1 : List UInt8) (s : Q0) : Option (((List UInt8) × Q0) ⊕ (PV × Q0)) :=
 (F92_v2 fuel () (1 : Int) () (s.1, s.2.1, s.2.2.1, s.2.2.2.1, (), (), (), s.2.2.2.2.2.2.2.1, a1, s.2.2.2.2.2.2.2.2)).bind fun z => sumE (fun y1 =>
 (F288 fuel y1.2.2.2.2.2.2.2.2.2.1 y1.1).bind fun y5 =>
 some (.inl (y5, y1.2.1, y1.2.2.1, y1.2.2.2.1, y1.2.2.2.2.1, (), (), (), y1.2.2.2.2.2.2.2.2.1, y1.2.2.2.2.2.2.2.2.2.2))
 ) (fun y2 =>
 some (.inr (y2.1, y2.2.1, y2.2.2.1, y2.2.2.2.1, y2.2.2.2.2.1, (), (), (), y2.2.2.2.2.2.2.2.2.1, y2.2.2.2.2.2.2.2.2.2.2))
 ) z
def F204p (fuel : Nat) : CallP := ⟨204, ⟨2, [.box 82 (.agg 82 [.leaf, .leaf, (.agg 28 [.leaf, .leaf, .leaf, .leaf, .leaf, .leaf])]), .arr 9 0, .arr 63 0, .arr 127 0, .acc], [(.con (.ref 0 [] 82)), .str, (.slice 72), (.int .i64), .str, .str, (.con (.arr 1 0 9)), (.con (.arr 2 0 63)), (.con (.arr 3 0 127)), (.acc 4 130), (.slice 9), (.slice 63), (.slice 127)]⟩, ⟨1, [.box 82 (.agg 82 [.leaf, .leaf, (.agg 28 [.leaf, .leaf, .leaf, .leaf, .leaf, .leaf])]), .arr 9 0, .arr 63 0, .arr 127 0, .acc], [.str, (.slice 72), (.int .i64), .str, .str, (.con (.arr 1 0 9)), (.con (.arr 2 0 63)), (.con (.arr 3 0 127)), (.acc 4 130), (.slice 9), (.slice 63), (.slice 127)]⟩, ⟨1, [.box 82 (.agg 82 [.leaf, .leaf, (.agg 28 [.leaf, .leaf, .leaf, .leaf, .leaf, .leaf])]), .arr 9 0, .arr 63 0, .arr 127 0, .acc], [(.ifc 84), (.slice 72), (.int .i64), .str, .str, (.con (.arr 1 0 9)), (.con (.arr 2 0 63)), (.con (.arr 3 0 127)), (.acc 4 130), (.slice 9), (.slice 63), (.slice 127)]⟩, fun x => F204 fuel x.1 x.2.1 x.2.2, ([], [], 0, [], [], (), (), (), [], [], [], [])⟩
theorem F204ok (fuel : Nat) : (F204p fuel).Ok Tryz.prog := okPJ Tryz.f204 12 5 fuel [F288c fuel] [F92_v2p fuel] false (qc (F288ok fuel) <| q0) (pc (F92_v2ok fuel) <| p0) L0
def F77 (fuel : Nat) (a0 : List PV) (a1 : Int) (a2 : List UInt8) : Option (Bool) :=
 let x4 := bif (decide (a1 ≥ (0 : Int))) then (decide (a1 < (a0.length : Int))) else false
 bif imp x4 (inRange a1 a0.length) then
 let x9 := bif x4 then (((a0.getD a1.toNat .bad).fld 0).asInt == (4 : Int)) else false
 bif imp x9 (inRange a1 a0.length) then
 some (bif x9 then (((a0.getD a1.toNat .bad).fld 1).asStr == a2) else false)
 else none
 else none
def F77c (fuel : Nat) : CallE := ⟨77, ⟨3, [], [(.slice 72), (.int .i64), .str]⟩, ⟨1, [], [.bool]⟩, fun x => F77 fuel x.1 x.2.1 x.2.2, false⟩
theorem F77ok (fuel : Nat) : (F77c fuel).Ok Tryz.prog := okJ Tryz.f77 32 0 fuel [] [] false (q0) (p0) L0
def F158 (fuel : Nat) (a0 : List PV) (a1 : Int) : Option (Int) :=
 bif (bif (decide (a1 < (0 : Int))) then true else (decide (a1 ≥ (a0.length : Int)))) then
 some (0 : Int)
 else
 bif inRange a1 a0.length then
 some ((a0.getD a1.toNat .bad).fld 0).asInt
 else none
def F158c (fuel : Nat) : CallE := ⟨158, ⟨2, [], [(.slice 72), (.int .i64)]⟩, ⟨1, [], [(.int .i64)]⟩, fun x => F158 fuel x.1 x.2, 0⟩
theorem F158ok (fuel : Nat) : (F158c fuel).Ok Tryz.prog := okJ Tryz.f158 18 0 fuel [] [] false (q0) (p0) L0
def F145 (fuel : Nat)  : Option ((List (PV × PV))) :=
 some (PV.mput (PV.mput (PV.mput (PV.mput (PV.mput (PV.mput (PV.mput (PV.mput (PV.mput (PV.mput (PV.mput (PV.mput (PV.mput [] (PV.str ([100, 101, 112, 114, 101, 99, 97, 116, 101, 100] : List UInt8)) (PV.agg [(PV.int (1 : Int)), (PV.int (126 : Int))])) (PV.str ([100, 111, 99] : List UInt8)) (PV.agg [(PV.int (7 : Int)), (PV.int (126 : Int))])) (PV.str ([97, 108, 105, 97, 115] : List UInt8)) (PV.agg [(PV.int (7 : Int)), (PV.int (84 : Int))])) (PV.str ([115, 105, 110, 99, 101] : List UInt8)) (PV.agg [(PV.int (4 : Int)), (PV.int (84 : Int))])) (PV.str ([117, 110, 116, 105, 108] : List UInt8)) (PV.agg [(PV.int (4 : Int)), (PV.int (84 : Int))])) (PV.str ([109, 105, 110] : List UInt8)) (PV.agg [(PV.int (3 : Int)), (PV.int (4 : Int))])) (PV.str ([109, 97, 120] : List UInt8)) (PV.agg [(PV.int (3 : Int)), (PV.int (4 : Int))])) (PV.str ([108, 101, 110, 103, 116, 104] : List UInt8)) (PV.agg [(PV.int (4 : Int)), (PV.int (4 : Int))])) (PV.str ([115, 101, 99, 114, 101, 116] : List UInt8)) (PV.agg [(PV.int (1 : Int)), (PV.int (4 : Int))])) (PV.str ([105, 100, 101, 109, 112, 111, 116, 101, 110, 116] : List UInt8)) (PV.agg [(PV.int (1 : Int)), (PV.int (64 : Int))])) (PV.str ([116, 105, 109, 101, 111, 117, 116] : List UInt8)) (PV.agg [(PV.int (4 : Int)), (PV.int (64 : Int))])) (PV.str ([114, 111, 117, 116, 101] : List UInt8)) (PV.agg [(PV.int (7 : Int)), (PV.int (64 : Int))])) (PV.str ([111, 119, 110, 101, 114] : List UInt8)) (PV.agg [(PV.int (7 : Int)), (PV.int (34 : Int))]))
def F145c (fuel : Nat) : CallE := ⟨145, ⟨0, [], []⟩, ⟨1, [], [(.map 9 166)]⟩, fun x => F145 fuel , []⟩
theorem F145ok (fuel : Nat) : (F145c fuel).Ok Tryz.prog := okJ Tryz.f145 16 0 fuel [] [] false (q0) (p0) L0
def F71 (fuel : Nat) (a0 : List UInt8) : Option (Int) :=
 (F145 fuel).bind fun y1 =>
 let x2 := (PV.mget y1 (PV.str a0)).getD (PV.agg [(PV.int (0 : Int)), (PV.int (0 : Int))])
 some ((x2.fld 0).asInt)
def F71c (fuel : Nat) : CallE := ⟨71, ⟨1, [], [.str]⟩, ⟨1, [], [(.int .i64)]⟩, fun x => F71 fuel x, 0⟩
theorem F71ok (fuel : Nat) : (F71c fuel).Ok Tryz.prog := okJ Tryz.f71 7 0 fuel [F145c fuel] [] false (qc (F145ok fuel) <| q0) (p0) L0
def F248 (fuel : Nat) (a0 : Int) : Option (Bool) :=
 some (bif (decide (a0 ≥ (1 : Int))) then (decide (a0 ≤ (9 : Int))) else false)
def F248c (fuel : Nat) : CallE := ⟨248, ⟨1, [], [(.int .i64)]⟩, ⟨1, [], [.bool]⟩, fun x => F248 fuel x, false⟩
theorem F248ok (fuel : Nat) : (F248c fuel).Ok Tryz.prog := okJ Tryz.f248 9 0 fuel [] [] false (q0) (p0) L0
def F253 (fuel : Nat) (a0 : Int) : Option (Int) :=
 let x1 := bitsI .and .u64 a0 (9218868437227405312 : Int)
 let x2 := bitsI .and .u64 a0 (4503599627370495 : Int)
 bif (bif (x1 == (9218868437227405312 : Int)) then (x2 != (0 : Int)) else false) then
 some (0 : Int)
 else
 bif (x1 == (9218868437227405312 : Int)) then
 some (1 : Int)
 else
 bif (bif (x1 == (0 : Int)) then (x2 == (0 : Int)) else false) then
 some (2 : Int)
 else
 bif (x1 == (0 : Int)) then
 some (3 : Int)
 else
 some (4 : Int)
def F253c (fuel : Nat) : CallE := ⟨253, ⟨1, [], [(.int .u64)]⟩, ⟨1, [], [(.int .i64)]⟩, fun x => F253 fuel x, 0⟩
theorem F253ok (fuel : Nat) : (F253c fuel).Ok Tryz.prog := okJ Tryz.f253 29 0 fuel [] [] false (q0) (p0) L0
def F135 (fuel : Nat) (a0 : Int) (a1 : Int) : Option ((List UInt8)) :=
 (Lfmt fuel a0 a1).bind fun y1 =>
 some y1
def F135c (fuel : Nat) : CallE := ⟨135, ⟨2, [], [(.int .u64), (.int .i64)]⟩, ⟨1, [], [.str]⟩, fun x => F135 fuel x.1 x.2, []⟩
theorem F135ok (fuel : Nat) : (F135c fuel).Ok Tryz.prog := okJ Tryz.f135 8 0 fuel [Lfmtc fuel] [] false (qc (Lfmtok fuel) <| q0) (p0) L0
def F149 (fuel : Nat) (a0 : Int) : Option ((List UInt8)) :=
 (F253 fuel a0).bind fun y1 =>
 bif (y1 == (0 : Int)) then
 some ([110, 97, 110] : List UInt8)
 else
 bif (bif (y1 == (1 : Int)) then ((bitsI .and .u64 a0 (9223372036854775808 : Int)) != (0 : Int)) else false) then
 some ([45, 105, 110, 102] : List UInt8)
 else
 bif (y1 == (1 : Int)) then
 some ([105, 110, 102] : List UInt8)
 else
 (F135 fuel a0 (16 : Int)).bind fun y8 =>
 (Lrepeat fuel ([48] : List UInt8) (IntKind.wrap .i64 ((16 : Int) - (y8.length : Int)))).bind fun y11 =>
 bif decide (([48, 120] : List UInt8).length + y11.length ≤ strMax) then
 bif decide ((([48, 120] : List UInt8) ++ y11).length + y8.length ≤ strMax) then
 some ((([48, 120] : List UInt8) ++ y11) ++ y8)
 else none
 else none
def F149c (fuel : Nat) : CallE := ⟨149, ⟨1, [], [(.int .u64)]⟩, ⟨1, [], [.str]⟩, fun x => F149 fuel x, []⟩
theorem F149ok (fuel : Nat) : (F149c fuel).Ok Tryz.prog := okJ Tryz.f149 30 0 fuel [F253c fuel, F135c fuel, Lrepeatc fuel] [] false (qc (F253ok fuel) <| qc (F135ok fuel) <| qc (Lrepeatok fuel) <| q0) (p0) L0
def F306 (fuel : Nat) (a0 : List UInt8) : Option (PV × Int) :=
 bif (a0 == ([110, 97, 110] : List UInt8)) then
 some ((PV.agg [(PV.int (6 : Int)), (PV.int (9221120237041090560 : Int)), (PV.str ([] : List UInt8)), (PV.slice []), (PV.slice []), (PV.slice []), (PV.slice [])]), (0 : Int))
 else
 bif (a0 == ([105, 110, 102] : List UInt8)) then
 some ((PV.agg [(PV.int (6 : Int)), (PV.int (9218868437227405312 : Int)), (PV.str ([] : List UInt8)), (PV.slice []), (PV.slice []), (PV.slice []), (PV.slice [])]), (0 : Int))
 else
 bif (a0 == ([45, 105, 110, 102] : List UInt8)) then
 some ((PV.agg [(PV.int (6 : Int)), (PV.int (18442240474082181120 : Int)), (PV.str ([] : List UInt8)), (PV.slice []), (PV.slice []), (PV.slice []), (PV.slice [])]), (0 : Int))
 else
 (F141 fuel a0 ([48, 120] : List UInt8)).bind fun y4 =>
 (LparseUint fuel y4 (16 : Int) (64 : Int)).bind fun y5 =>
 let x6 := y5.1
 let x8 := !y5.2
 (bif !x8 then F149 fuel x6 else some []).bind fun y9 =>
 bif (bif x8 then true else (!(y9 == a0))) then
 some ((PV.agg [(PV.int (0 : Int)), (PV.int (0 : Int)), (PV.str ([] : List UInt8)), (PV.slice []), (PV.slice []), (PV.slice []), (PV.slice [])]), (2 : Int))
 else
 some ((PV.agg [(PV.int (6 : Int)), (PV.int x6), (PV.str ([] : List UInt8)), (PV.slice []), (PV.slice []), (PV.slice []), (PV.slice [])]), (0 : Int))
def F306c (fuel : Nat) : CallE := ⟨306, ⟨1, [], [.str]⟩, ⟨2, [], [(.data 51), (.int .i64)]⟩, fun x => F306 fuel x, (PV.bad, 0)⟩
theorem F306ok (fuel : Nat) : (F306c fuel).Ok Tryz.prog := okJ Tryz.f306 36 0 fuel [F141c fuel, LparseUintc fuel, F149c fuel] [] false (qc (F141ok fuel) <| qc (LparseUintok fuel) <| qc (F149ok fuel) <| q0) (p0) L0
def F307 (fuel : Nat) (a0 : Int) : Option (Bool) :=
 some (bif (a0 == (7 : Int)) then true else (a0 == (8 : Int)))
def F307c (fuel : Nat) : CallE := ⟨307, ⟨1, [], [(.int .i64)]⟩, ⟨1, [], [.bool]⟩, fun x => F307 fuel x, false⟩
theorem F307ok (fuel : Nat) : (F307c fuel).Ok Tryz.prog := okJ Tryz.f307 9 0 fuel [] [] false (q0) (p0) L0
def F374 (fuel : Nat) (a0 : List UInt8) (a1 : List UInt8) : Option ((List UInt8) × Bool) :=
 (F297 fuel a0 a1).bind fun y1 =>
 bif (!y1) then
 some (a0, false)
 else
 let x3 := (a1.length : Int)
 bif decide (0 ≤ x3 ∧ x3 ≤ (a0.length : Int) ∧ (a0.length : Int) ≤ (a0.length : Int)) then
 some (((a0.take (a0.length : Int).toNat).drop x3.toNat), true)
 else none
def F374c (fuel : Nat) : CallE := ⟨374, ⟨2, [], [.str, .str]⟩, ⟨2, [], [.str, .bool]⟩, fun x => F374 fuel x.1 x.2, ([], false)⟩
theorem F374ok (fuel : Nat) : (F374c fuel).Ok Tryz.prog := okJ Tryz.f374 15 0 fuel [F297c fuel] [] false (qc (F297ok fuel) <| q0) (p0) L0
def F354 (fuel : Nat) (a0 : List UInt8) (a1 : List UInt8) : Option ((List UInt8) × Bool) :=
 (F374 fuel a0 a1).bind fun y1 =>
 some (y1.1, y1.2)
def F354c (fuel : Nat) : CallE := ⟨354, ⟨2, [], [.str, .str]⟩, ⟨2, [], [.str, .bool]⟩, fun x => F354 fuel x.1 x.2, ([], false)⟩
theorem F354ok (fuel : Nat) : (F354c fuel).Ok Tryz.prog := okJ Tryz.f354 11 0 fuel [F374c fuel] [] false (qc (F374ok fuel) <| q0) (p0) L0
def F355 (fuel : Nat) (a0 : List UInt8) : Option ((List UInt8) × Bool) :=
 (F131 fuel a0).bind fun y1 =>
 some (y1.1, (bif (y1.2.2 == (0 : Int)) then (y1.2.1 == (a0.length : Int)) else false))
def F355c (fuel : Nat) : CallE := ⟨355, ⟨1, [], [.str]⟩, ⟨2, [], [.str, .bool]⟩, fun x => F355 fuel x, ([], false)⟩
theorem F355ok (fuel : Nat) : (F355c fuel).Ok Tryz.prog := okJ Tryz.f355 22 0 fuel [F131c fuel] [] false (qc (F131ok fuel) <| q0) (p0) L0
def S356_6 (fuel : Nat) (a6 : List UInt8) (a7 : List PV) (a8 : Int) : Option (((List UInt8) × (List PV) × Int) ⊕ (((List UInt8) × Int) ⊕ ((List PV)))) :=
 bif (decide (a8 < (a6.length : Int))) then
 bif inRange a8 a6.length then
 (F305 fuel ((a6.getD a8.toNat 0).toNat : Int)).bind fun y12 =>
 let x13 := IntKind.wrap .i64 (a8 + (1 : Int))
 bif inRange x13 a6.length then
 (F305 fuel ((a6.getD x13.toNat 0).toNat : Int)).bind fun y15 =>
 bif (bif (decide (y12 < (0 : Int))) then true else (decide (y15 < (0 : Int)))) then
 some (.inr (.inl (([] : List UInt8), (2 : Int))))
 else
 let x19 := IntKind.wrap .i64 (y12 * 2 ^ (min (4 : Int).toNat (IntKind.bits .i64)))
 let x21 := IntKind.wrap .u8 (bitsI .or .i64 x19 y15)
 bif decide (a7.length + [(PV.int x21)].length ≤ accMax) then
 some (.inl (a6, (a7 ++ [(PV.int x21)]), (IntKind.wrap .i64 (a8 + (2 : Int)))))
 else none
 else none
 else none
 else
 some (.inr (.inr a7))
def S356_6step (fuel : Nat) (x : (List UInt8) × (List PV) × Int) : Option (((List UInt8) × (List PV) × Int) ⊕ (((List UInt8) × Int) ⊕ ((List PV)))) := S356_6 fuel x.1 x.2.1 x.2.2
def F356 (fuel : Nat) (a0 : List UInt8) : Option ((List UInt8) × Int) :=
 bif (((a0.length : Int).tmod (2 : Int)) != (0 : Int)) then
 some (([] : List UInt8), (2 : Int))
 else
 let x5 := IntKind.wrap .i64 ((a0.length : Int).tdiv (2 : Int))
 bif decide (0 ≤ x5 ∧ x5 ≤ accMax) then
 (loopQ fuel (S356_6step fuel) (a0, [], (0 : Int))).bind fun z => sumE (fun y24 =>
 some (y24.1, y24.2)
 ) (fun y25 =>
 some ((y25.map byteOfPV), (0 : Int))
 ) z
 else none
def S356_6l (fuel : Nat) : LoopE := ⟨6, ⟨[0, 4, 5], [.acc], [.str, (.acc 0 5), (.int .i64)]⟩, [(.ret, ⟨[2, 3], [.acc], [.str, (.int .i64)]⟩), (.exit 0, ⟨[4], [.acc], [(.acc 0 5)]⟩)], S356_6step fuel⟩
def F356C (fuel : Nat) : Cfg := cfg Tryz.prog 47 0 [F305c fuel] [S356_6l fuel] fuel
def F356c (fuel : Nat) : CallE := ⟨356, ⟨1, [], [.str]⟩, ⟨2, [], [.str, (.int .i64)]⟩, fun x => F356 fuel x, ([], 0)⟩
theorem F356k (fuel : Nat) : CallOk (F356C fuel) := cfg_callOkP (qc (F305ok fuel) <| q0) (p0)
theorem S356_6ok (fuel : Nat) : LoopOk (F356C fuel) (lp (bodyOf Tryz.f356) 0) := okL (F356k fuel) fuel (S356_6l fuel) L0
theorem F356ok (fuel : Nat) : (F356c fuel).Ok Tryz.prog := okE Tryz.f356 (F356k fuel) (L1 (S356_6ok fuel))
def S280_3 (fuel : Nat) (a1 : List UInt8) (a2 : Unit) (a3 : List UInt8) (a4 : Int) : Option (((List UInt8) × Unit × (List UInt8) × Int) ⊕ ((Int × (List UInt8) × Int) ⊕ ((List UInt8) × Int))) :=
 bif (decide (a4.toNat < a3.length)) then
 bif decide (a4.toNat < a3.length) then
 let x6 := (a4.toNat : Int)
 bif decide (a4.toNat < a3.length) then
 (F310 fuel a1 x6 ((Utf8.decode ⟨a3.toArray⟩ a4.toNat).1 : Int)).bind fun y8 =>
 bif y8 then
 some (.inr (.inl (x6, a3, ((bif decide (a4.toNat < a3.length) then a4.toNat + (Utf8.decode ⟨a3.toArray⟩ a4.toNat).2 else a4.toNat : Nat) : Int))))
 else
 some (.inl (a1, (), a3, ((bif decide (a4.toNat < a3.length) then a4.toNat + (Utf8.decode ⟨a3.toArray⟩ a4.toNat).2 else a4.toNat : Nat) : Int)))
 else none
 else none
 else
 some (.inr (.inr (a3, ((bif decide (a4.toNat < a3.length) then a4.toNat + (Utf8.decode ⟨a3.toArray⟩ a4.toNat).2 else a4.toNat : Nat) : Int))))
def S280_3step (fuel : Nat) (x : (List UInt8) × Unit × (List UInt8) × Int) : Option (((List UInt8) × Unit × (List UInt8) × Int) ⊕ ((Int × (List UInt8) × Int) ⊕ ((List UInt8) × Int))) := S280_3 fuel x.1 x.2.1 x.2.2.1 x.2.2.2
def F280 (fuel : Nat) (a0 : List UInt8) : Option (Int) :=
 (loopQ fuel (S280_3step fuel) (a0, (), a0, ((0 : Nat) : Int))).bind fun z => sumE (fun y9 =>
 some y9.1
 ) (fun y10 =>
 some (-1 : Int)
 ) z
def S280_3l (fuel : Nat) : LoopE := ⟨3, ⟨[0, 6], [.iter], [.str, (.con (.iref 0)), .str, (.int .i64)]⟩, [(.ret, ⟨[2], [.iter], [(.int .i64), .str, (.int .i64)]⟩), (.exit 0, ⟨[], [.iter], [.str, (.int .i64)]⟩)], S280_3step fuel⟩
def F280C (fuel : Nat) : Cfg := cfg Tryz.prog 16 0 [F310c fuel] [S280_3l fuel] fuel
def F280c (fuel : Nat) : CallE := ⟨280, ⟨1, [], [.str]⟩, ⟨1, [], [(.int .i64)]⟩, fun x => F280 fuel x, 0⟩
theorem F280k (fuel : Nat) : CallOk (F280C fuel) := cfg_callOkP (qc (F310ok fuel) <| q0) (p0)
theorem S280_3ok (fuel : Nat) : LoopOk (F280C fuel) (lp (bodyOf Tryz.f280) 0) := okL (F280k fuel) fuel (S280_3l fuel) L0
theorem F280ok (fuel : Nat) : (F280c fuel).Ok Tryz.prog := okE Tryz.f280 (F280k fuel) (L1 (S280_3ok fuel))
def F185 (fuel : Nat) (a0 : List UInt8) : Option (Bool) :=
 (F280 fuel a0).bind fun y1 =>
 some (decide (y1 < (0 : Int)))
def F185c (fuel : Nat) : CallE := ⟨185, ⟨1, [], [.str]⟩, ⟨1, [], [.bool]⟩, fun x => F185 fuel x, false⟩
theorem F185ok (fuel : Nat) : (F185c fuel).Ok Tryz.prog := okJ Tryz.f185 6 0 fuel [F280c fuel] [] false (qc (F280ok fuel) <| q0) (p0) L0
def F308 (fuel : Nat) (a0 : Int) (a1 : List UInt8) : Option (PV × Int) :=
 bif (a0 == (8 : Int)) then
 (F354 fuel a1 ([120] : List UInt8)).bind fun y2 =>
 (F355 fuel y2.1).bind fun y5 =>
 let x6 := y5.1
 bif (bif (!y2.2) then true else (!y5.2)) then
 some ((PV.agg [(PV.int (0 : Int)), (PV.int (0 : Int)), (PV.str ([] : List UInt8)), (PV.slice []), (PV.slice []), (PV.slice []), (PV.slice [])]), (2 : Int))
 else
 bif (a0 == (8 : Int)) then
 (F356 fuel x6).bind fun y12 =>
 let x13 := y12.1
 let x14 := y12.2
 bif (x14 != (0 : Int)) then
 some ((PV.agg [(PV.int (0 : Int)), (PV.int (0 : Int)), (PV.str ([] : List UInt8)), (PV.slice []), (PV.slice []), (PV.slice []), (PV.slice [])]), x14)
 else
 let x16 := a0 == (7 : Int)
 (bif x16 then F185 fuel x13 else some false).bind fun y17 =>
 bif (bif x16 then (!y17) else false) then
 some ((PV.agg [(PV.int (0 : Int)), (PV.int (0 : Int)), (PV.str ([] : List UInt8)), (PV.slice []), (PV.slice []), (PV.slice []), (PV.slice [])]), (7 : Int))
 else
 bif (decide ((x13.length : Int) > (4096 : Int))) then
 some ((PV.agg [(PV.int (0 : Int)), (PV.int (0 : Int)), (PV.str ([] : List UInt8)), (PV.slice []), (PV.slice []), (PV.slice []), (PV.slice [])]), (3 : Int))
 else
 some ((PV.agg [(PV.int a0), (PV.int (0 : Int)), (PV.str x13), (PV.slice []), (PV.slice []), (PV.slice []), (PV.slice [])]), (0 : Int))
 else
 let x22 := a0 == (7 : Int)
 (bif x22 then F185 fuel x6 else some false).bind fun y23 =>
 bif (bif x22 then (!y23) else false) then
 some ((PV.agg [(PV.int (0 : Int)), (PV.int (0 : Int)), (PV.str ([] : List UInt8)), (PV.slice []), (PV.slice []), (PV.slice []), (PV.slice [])]), (7 : Int))
 else
 bif (decide ((x6.length : Int) > (4096 : Int))) then
 some ((PV.agg [(PV.int (0 : Int)), (PV.int (0 : Int)), (PV.str ([] : List UInt8)), (PV.slice []), (PV.slice []), (PV.slice []), (PV.slice [])]), (3 : Int))
 else
 some ((PV.agg [(PV.int a0), (PV.int (0 : Int)), (PV.str x6), (PV.slice []), (PV.slice []), (PV.slice []), (PV.slice [])]), (0 : Int))
 else
 (F355 fuel a1).bind fun y28 =>
 let x29 := y28.1
 bif (!y28.2) then
 some ((PV.agg [(PV.int (0 : Int)), (PV.int (0 : Int)), (PV.str ([] : List UInt8)), (PV.slice []), (PV.slice []), (PV.slice []), (PV.slice [])]), (2 : Int))
 else
 bif (a0 == (8 : Int)) then
 (F356 fuel x29).bind fun y33 =>
 let x34 := y33.1
 let x35 := y33.2
 bif (x35 != (0 : Int)) then
 some ((PV.agg [(PV.int (0 : Int)), (PV.int (0 : Int)), (PV.str ([] : List UInt8)), (PV.slice []), (PV.slice []), (PV.slice []), (PV.slice [])]), x35)
 else
 let x37 := a0 == (7 : Int)
 (bif x37 then F185 fuel x34 else some false).bind fun y38 =>
 bif (bif x37 then (!y38) else false) then
 some ((PV.agg [(PV.int (0 : Int)), (PV.int (0 : Int)), (PV.str ([] : List UInt8)), (PV.slice []), (PV.slice []), (PV.slice []), (PV.slice [])]), (7 : Int))
 else
 bif (decide ((x34.length : Int) > (4096 : Int))) then
 some ((PV.agg [(PV.int (0 : Int)), (PV.int (0 : Int)), (PV.str ([] : List UInt8)), (PV.slice []), (PV.slice []), (PV.slice []), (PV.slice [])]), (3 : Int))
 else
 some ((PV.agg [(PV.int a0), (PV.int (0 : Int)), (PV.str x34), (PV.slice []), (PV.slice []), (PV.slice []), (PV.slice [])]), (0 : Int))
 else
 let x43 := a0 == (7 : Int)
 (bif x43 then F185 fuel x29 else some false).bind fun y44 =>
 bif (bif x43 then (!y44) else false) then
 some ((PV.agg [(PV.int (0 : Int)), (PV.int (0 : Int)), (PV.str ([] : List UInt8)), (PV.slice []), (PV.slice []), (PV.slice []), (PV.slice [])]), (7 : Int))
 else
 bif (decide ((x29.length : Int) > (4096 : Int))) then
 some ((PV.agg [(PV.int (0 : Int)), (PV.int (0 : Int)), (PV.str ([] : List UInt8)), (PV.slice []), (PV.slice []), (PV.slice []), (PV.slice [])]), (3 : Int))
 else
 some ((PV.agg [(PV.int a0), (PV.int (0 : Int)), (PV.str x29), (PV.slice []), (PV.slice []), (PV.slice []), (PV.slice [])]), (0 : Int))
def F308c (fuel : Nat) : CallE := ⟨308, ⟨2, [], [(.int .i64), .str]⟩, ⟨2, [], [(.data 51), (.int .i64)]⟩, fun x => F308 fuel x.1 x.2, (PV.bad, 0)⟩
theorem F308ok (fuel : Nat) : (F308c fuel).Ok Tryz.prog := okJ Tryz.f308 61 0 fuel [F354c fuel, F355c fuel, F356c fuel, F185c fuel] [] false (qc (F354ok fuel) <| qc (F355ok fuel) <| qc (F356ok fuel) <| qc (F185ok fuel) <| q0) (p0) L0
def S357_6 (fuel : Nat) (a9 : List UInt8) (a10 : Int) (a11 : Int) : Option (((List UInt8) × Int × Int) ⊕ ((Bool) ⊕ (Unit))) :=
 bif (decide (a11 < a10)) then
 bif inRange a11 a9.length then
 let x14 := decide (((a9.getD a11.toNat 0).toNat : Int) < (48 : Int))
 bif imp (!x14) (inRange a11 a9.length) then
 bif (bif x14 then true else (decide (((a9.getD a11.toNat 0).toNat : Int) > (57 : Int)))) then
 some (.inr (.inl false))
 else
 some (.inl (a9, a10, (IntKind.wrap .i64 (a11 + (1 : Int)))))
 else none
 else none
 else
 some (.inr (.inr ()))
def S357_6step (fuel : Nat) (x : (List UInt8) × Int × Int) : Option (((List UInt8) × Int × Int) ⊕ ((Bool) ⊕ (Unit))) := S357_6 fuel x.1 x.2.1 x.2.2
def F357 (fuel : Nat) (a0 : List UInt8) : Option (Bool) :=
 (F141 fuel a0 ([45] : List UInt8)).bind fun y1 =>
 let x2 := y1 == ([] : List UInt8)
 bif imp (!x2) (inRange (0 : Int) y1.length) then
 bif (bif x2 then true else (bif (((y1.getD (0 : Int).toNat 0).toNat : Int) == (48 : Int)) then (!(a0 == ([48] : List UInt8))) else false)) then
 some false
 else
 (loopQ fuel (S357_6step fuel) (y1, (y1.length : Int), (0 : Int))).bind fun z => sumE (fun y19 =>
 some y19
 ) (fun y20 =>
 some true
 ) z
 else none
def S357_6l (fuel : Nat) : LoopE := ⟨6, ⟨[3, 19, 20], [], [.str, (.int .i64), (.int .i64)]⟩, [(.ret, ⟨[2], [], [.bool]⟩), (.exit 0, ⟨[], [], []⟩)], S357_6step fuel⟩
def F357C (fuel : Nat) : Cfg := cfg Tryz.prog 34 0 [F141c fuel] [S357_6l fuel] fuel
def F357c (fuel : Nat) : CallE := ⟨357, ⟨1, [], [.str]⟩, ⟨1, [], [.bool]⟩, fun x => F357 fuel x, false⟩
theorem F357k (fuel : Nat) : CallOk (F357C fuel) := cfg_callOkP (qc (F141ok fuel) <| q0) (p0)
theorem S357_6ok (fuel : Nat) : LoopOk (F357C fuel) (lp (bodyOf Tryz.f357) 0) := okL (F357k fuel) fuel (S357_6l fuel) L0
theorem F357ok (fuel : Nat) : (F357c fuel).Ok Tryz.prog := okE Tryz.f357 (F357k fuel) (L1 (S357_6ok fuel))
def F250 (fuel : Nat) (a0 : Int) (a1 : Int) : Option (Bool) :=
 bif (a0 == (1 : Int)) then
 some (decide (a1 ≤ (1 : Int)))
 else
 bif (a0 == (2 : Int)) then
 some (bif (decide ((IntKind.wrap .i64 a1) ≥ (-2147483648 : Int))) then (decide ((IntKind.wrap .i64 a1) ≤ (2147483647 : Int))) else false)
 else
 bif (a0 == (9 : Int)) then
 some (decide (a1 ≤ (2147483647 : Int)))
 else
 bif (a0 == (4 : Int)) then
 some (decide (a1 ≤ (4294967295 : Int)))
 else
 some true
def F250c (fuel : Nat) : CallE := ⟨250, ⟨2, [], [(.int .i64), (.int .u64)]⟩, ⟨1, [], [.bool]⟩, fun x => F250 fuel x.1 x.2, false⟩
theorem F250ok (fuel : Nat) : (F250c fuel).Ok Tryz.prog := okJ Tryz.f250 28 0 fuel [] [] false (q0) (p0) L0
def F309 (fuel : Nat) (a0 : Int) (a1 : List UInt8) : Option (PV × Int) :=
 (F357 fuel a1).bind fun y1 =>
 bif (!y1) then
 some ((PV.agg [(PV.int (0 : Int)), (PV.int (0 : Int)), (PV.str ([] : List UInt8)), (PV.slice []), (PV.slice []), (PV.slice []), (PV.slice [])]), (2 : Int))
 else
 bif (bif (a0 == (2 : Int)) then true else (a0 == (3 : Int))) then
 (LparseInt fuel a1 (10 : Int) (64 : Int)).bind fun y6 =>
 let x9 := IntKind.wrap .u64 y6.1
 let x10 := !y6.2
 (bif !x10 then F250 fuel a0 x9 else some false).bind fun y11 =>
 bif (bif x10 then true else (!y11)) then
 some ((PV.agg [(PV.int (0 : Int)), (PV.int (0 : Int)), (PV.str ([] : List UInt8)), (PV.slice []), (PV.slice []), (PV.slice []), (PV.slice [])]), (6 : Int))
 else
 some ((PV.agg [(PV.int a0), (PV.int x9), (PV.str ([] : List UInt8)), (PV.slice []), (PV.slice []), (PV.slice []), (PV.slice [])]), (0 : Int))
 else
 (LparseUint fuel a1 (10 : Int) (64 : Int)).bind fun y14 =>
 let x15 := y14.1
 let x17 := !y14.2
 (bif !x17 then F250 fuel a0 x15 else some false).bind fun y18 =>
 bif (bif x17 then true else (!y18)) then
 some ((PV.agg [(PV.int (0 : Int)), (PV.int (0 : Int)), (PV.str ([] : List UInt8)), (PV.slice []), (PV.slice []), (PV.slice []), (PV.slice [])]), (6 : Int))
 else
 some ((PV.agg [(PV.int a0), (PV.int x15), (PV.str ([] : List UInt8)), (PV.slice []), (PV.slice []), (PV.slice []), (PV.slice [])]), (0 : Int))
def F309c (fuel : Nat) : CallE := ⟨309, ⟨2, [], [(.int .i64), .str]⟩, ⟨2, [], [(.data 51), (.int .i64)]⟩, fun x => F309 fuel x.1 x.2, (PV.bad, 0)⟩
theorem F309ok (fuel : Nat) : (F309c fuel).Ok Tryz.prog := okJ Tryz.f309 46 0 fuel [F357c fuel, LparseIntc fuel, F250c fuel, LparseUintc fuel] [] false (qc (F357ok fuel) <| qc (LparseIntok fuel) <| qc (F250ok fuel) <| qc (LparseUintok fuel) <| q0) (p0) L0
def F239 (fuel : Nat) (a0 : Int) (a1 : List UInt8) : Option (PV × Int) :=
 (F248 fuel a0).bind fun y1 =>
 bif (!y1) then
 some ((PV.agg [(PV.int (0 : Int)), (PV.int (0 : Int)), (PV.str ([] : List UInt8)), (PV.slice []), (PV.slice []), (PV.slice []), (PV.slice [])]), (1 : Int))
 else
 bif (bif (a0 == (1 : Int)) then (a1 == ([116, 114, 117, 101] : List UInt8)) else false) then
 some ((PV.agg [(PV.int a0), (PV.int (1 : Int)), (PV.str ([] : List UInt8)), (PV.slice []), (PV.slice []), (PV.slice []), (PV.slice [])]), (0 : Int))
 else
 bif (bif (a0 == (1 : Int)) then (a1 == ([102, 97, 108, 115, 101] : List UInt8)) else false) then
 some ((PV.agg [(PV.int a0), (PV.int (0 : Int)), (PV.str ([] : List UInt8)), (PV.slice []), (PV.slice []), (PV.slice []), (PV.slice [])]), (0 : Int))
 else
 bif (a0 == (1 : Int)) then
 some ((PV.agg [(PV.int (0 : Int)), (PV.int (0 : Int)), (PV.str ([] : List UInt8)), (PV.slice []), (PV.slice []), (PV.slice []), (PV.slice [])]), (2 : Int))
 else
 bif (a0 == (6 : Int)) then
 (F306 fuel a1).bind fun y11 =>
 some (y11.1, y11.2)
 else
 (F307 fuel a0).bind fun y14 =>
 bif y14 then
 (F308 fuel a0 a1).bind fun y15 =>
 some (y15.1, y15.2)
 else
 (F309 fuel a0 a1).bind fun y18 =>
 some (y18.1, y18.2)
def F239c (fuel : Nat) : CallE := ⟨239, ⟨2, [], [(.int .i64), .str]⟩, ⟨2, [], [(.data 51), (.int .i64)]⟩, fun x => F239 fuel x.1 x.2, (PV.bad, 0)⟩
theorem F239ok (fuel : Nat) : (F239c fuel).Ok Tryz.prog := okJ Tryz.f239 53 0 fuel [F248c fuel, F306c fuel, F307c fuel, F308c fuel, F309c fuel] [] false (qc (F248ok fuel) <| qc (F306ok fuel) <| qc (F307ok fuel) <| qc (F308ok fuel) <| qc (F309ok fuel) <| q0) (p0) L0
def F249 (fuel : Nat) (a0 : PV) : Option (Bool) :=
 bif (decide ((IntKind.wrap .i64 ((IntKind.wrap .i64 ((IntKind.wrap .i64 ((((a0.fld 3).asList).length : Int) + (((a0.fld 4).asList).length : Int))) + (((a0.fld 5).asList).length : Int))) + (((a0.fld 6).asList).length : Int))) > (0 : Int))) then
 some false
 else
 (F307 fuel ((a0.fld 0).asInt)).bind fun y14 =>
 bif y14 then
 some (((a0.fld 1).asInt) == (0 : Int))
 else
 some (((a0.fld 2).asStr) == ([] : List UInt8))
def F249c (fuel : Nat) : CallE := ⟨249, ⟨1, [], [(.data 51)]⟩, ⟨1, [], [.bool]⟩, fun x => F249 fuel x, false⟩
theorem F249ok (fuel : Nat) : (F249c fuel).Ok Tryz.prog := okJ Tryz.f249 28 0 fuel [F307c fuel] [] false (qc (F307ok fuel) <| q0) (p0) L0
def F146 (fuel : Nat) (a0 : Int) (a1 : PV) : Option (Bool) :=
 (F248 fuel a0).bind fun y1 =>
 let x5 := bif (!y1) then true else (((a1.fld 0).asInt) != a0)
 (bif !x5 then F249 fuel a1 else some false).bind fun y6 =>
 let x8 := bif x5 then true else (!y6)
 (bif !x8 then F250 fuel a0 ((a1.fld 1).asInt) else some false).bind fun y10 =>
 bif (bif (bif x8 then true else (!y10)) then true else (decide ((((a1.fld 2).asStr).length : Int) > (4096 : Int)))) then
 some false
 else
 let x17 := a0 != (7 : Int)
 (bif !x17 then F185 fuel ((a1.fld 2).asStr) else some false).bind fun y19 =>
 some (bif x17 then true else y19)
def F146c (fuel : Nat) : CallE := ⟨146, ⟨2, [], [(.int .i64), (.data 51)]⟩, ⟨1, [], [.bool]⟩, fun x => F146 fuel x.1 x.2, false⟩
theorem F146ok (fuel : Nat) : (F146c fuel).Ok Tryz.prog := okJ Tryz.f146 39 0 fuel [F248c fuel, F249c fuel, F250c fuel, F185c fuel] [] false (qc (F248ok fuel) <| qc (F249ok fuel) <| qc (F250ok fuel) <| qc (F185ok fuel) <| q0) (p0) L0
def F260 (fuel : Nat) (a0 : Int) (a1 : List PV) (a2 : Int) : Option (PV × Int × Int) :=
 (F77 fuel a1 a2 ([45] : List UInt8)).bind fun y1 =>
 bif y1 then
 let x2 := IntKind.wrap .i64 (a2 + (1 : Int))
 (F158 fuel a1 x2).bind fun y3 =>
 bif (y3 != (2 : Int)) then
 some ((PV.agg [(PV.int (0 : Int)), (PV.int (0 : Int)), (PV.str ([] : List UInt8)), (PV.slice []), (PV.slice []), (PV.slice []), (PV.slice [])]), x2, (2 : Int))
 else
 bif inRange x2 a1.length then
 (F135 fuel (IntKind.wrap .u64 ((a1.getD x2.toNat .bad).fld 2).asInt) (10 : Int)).bind fun y9 =>
 bif decide (([45] : List UInt8).length + y9.length ≤ strMax) then
 (F239 fuel a0 (([45] : List UInt8) ++ y9)).bind fun y10 =>
 let x12 := y10.2
 bif (x12 != (0 : Int)) then
 some ((PV.agg [(PV.int (0 : Int)), (PV.int (0 : Int)), (PV.str ([] : List UInt8)), (PV.slice []), (PV.slice []), (PV.slice []), (PV.slice [])]), x2, x12)
 else
 some (y10.1, (IntKind.wrap .i64 (x2 + (1 : Int))), (0 : Int))
 else none
 else none
 else
 (F158 fuel a1 a2).bind fun y15 =>
 bif (y15 != (2 : Int)) then
 some ((PV.agg [(PV.int (0 : Int)), (PV.int (0 : Int)), (PV.str ([] : List UInt8)), (PV.slice []), (PV.slice []), (PV.slice []), (PV.slice [])]), a2, (2 : Int))
 else
 bif inRange a2 a1.length then
 (F135 fuel (IntKind.wrap .u64 ((a1.getD a2.toNat .bad).fld 2).asInt) (10 : Int)).bind fun y21 =>
 bif decide (([] : List UInt8).length + y21.length ≤ strMax) then
 (F239 fuel a0 (([] : List UInt8) ++ y21)).bind fun y22 =>
 let x24 := y22.2
 bif (x24 != (0 : Int)) then
 some ((PV.agg [(PV.int (0 : Int)), (PV.int (0 : Int)), (PV.str ([] : List UInt8)), (PV.slice []), (PV.slice []), (PV.slice []), (PV.slice [])]), a2, x24)
 else
 some (y22.1, (IntKind.wrap .i64 (a2 + (1 : Int))), (0 : Int))
 else none
 else none
def F260c (fuel : Nat) : CallE := ⟨260, ⟨3, [], [(.int .i64), (.slice 72), (.int .i64)]⟩, ⟨3, [], [(.data 51), (.int .i64), (.int .i64)]⟩, fun x => F260 fuel x.1 x.2.1 x.2.2, (PV.bad, 0, 0)⟩
theorem F260ok (fuel : Nat) : (F260c fuel).Ok Tryz.prog := okJ Tryz.f260 45 0 fuel [F77c fuel, F158c fuel, F135c fuel, F239c fuel] [] false (qc (F77ok fuel) <| qc (F158ok fuel) <| qc (F135ok fuel) <| qc (F239ok fuel) <| q0) (p0) L0
def F159 (fuel : Nat) (a0 : Int) (a1 : List PV) (a2 : Int) : Option (PV × Int × Int) :=
 let x1 := a0 == (1 : Int)
 (bif x1 then F158 fuel a1 a2 else some 0).bind fun y2 =>
 let x4 := bif x1 then (y2 == (1 : Int)) else false
 bif imp x4 (inRange a2 a1.length) then
 let x8 := ((a1.getD a2.toNat .bad).fld 1).asStr == ([116, 114, 117, 101] : List UInt8)
 bif imp (bif !x8 then x4 else false) (inRange a2 a1.length) then
 bif (bif x4 then (bif x8 then true else (((a1.getD a2.toNat .bad).fld 1).asStr == ([102, 97, 108, 115, 101] : List UInt8))) else false) then
 bif inRange a2 a1.length then
 (F239 fuel a0 ((a1.getD a2.toNat .bad).fld 1).asStr).bind fun y18 =>
 some (y18.1, (IntKind.wrap .i64 (a2 + (1 : Int))), (0 : Int))
 else none
 else
 let x22 := a0 == (7 : Int)
 (bif x22 then F158 fuel a1 a2 else some 0).bind fun y23 =>
 bif (bif x22 then (y23 == (3 : Int)) else false) then
 bif inRange a2 a1.length then
 let x28 := ((a1.getD a2.toNat .bad).fld 1).asStr
 bif (decide ((x28.length : Int) > (4096 : Int))) then
 some ((PV.agg [(PV.int (0 : Int)), (PV.int (0 : Int)), (PV.str ([] : List UInt8)), (PV.slice []), (PV.slice []), (PV.slice []), (PV.slice [])]), a2, (3 : Int))
 else
 (F146 fuel a0 (PV.agg [(PV.int a0), (PV.int (0 : Int)), (PV.str x28), (PV.slice []), (PV.slice []), (PV.slice []), (PV.slice [])])).bind fun y31 =>
 bif (!y31) then
 some ((PV.agg [(PV.int (0 : Int)), (PV.int (0 : Int)), (PV.str ([] : List UInt8)), (PV.slice []), (PV.slice []), (PV.slice []), (PV.slice [])]), a2, (7 : Int))
 else
 some ((PV.agg [(PV.int a0), (PV.int (0 : Int)), (PV.str x28), (PV.slice []), (PV.slice []), (PV.slice []), (PV.slice [])]), (IntKind.wrap .i64 (a2 + (1 : Int))), (0 : Int))
 else none
 else
 bif (bif (a0 == (4 : Int)) then true else (a0 == (3 : Int))) then
 (F260 fuel a0 a1 a2).bind fun y37 =>
 some (y37.1, y37.2.1, y37.2.2)
 else
 some ((PV.agg [(PV.int (0 : Int)), (PV.int (0 : Int)), (PV.str ([] : List UInt8)), (PV.slice []), (PV.slice []), (PV.slice []), (PV.slice [])]), a2, (2 : Int))
 else none
 else none
def F159c (fuel : Nat) : CallE := ⟨159, ⟨3, [], [(.int .i64), (.slice 72), (.int .i64)]⟩, ⟨3, [], [(.data 51), (.int .i64), (.int .i64)]⟩, fun x => F159 fuel x.1 x.2.1 x.2.2, (PV.bad, 0, 0)⟩
theorem F159ok (fuel : Nat) : (F159c fuel).Ok Tryz.prog := okJ Tryz.f159 99 0 fuel [F158c fuel, F239c fuel, F146c fuel, F260c fuel] [] false (qc (F158ok fuel) <| qc (F239ok fuel) <| qc (F146ok fuel) <| qc (F260ok fuel) <| q0) (p0) L0
def F78 (fuel : Nat) (a0 : List PV) (a1 : Int) : Option (PV × Int × Int) :=
 (F158 fuel a0 a1).bind fun y1 =>
 bif (y1 != (1 : Int)) then
 some ((PV.agg [(PV.str ([] : List UInt8)), (PV.agg [(PV.int (0 : Int)), (PV.int (0 : Int)), (PV.str ([] : List UInt8)), (PV.slice []), (PV.slice []), (PV.slice []), (PV.slice [])])]), a1, (2 : Int))
 else
 bif inRange a1 a0.length then
 (F71 fuel ((a0.getD a1.toNat .bad).fld 1).asStr).bind fun y6 =>
 bif (y6 == (0 : Int)) then
 some ((PV.agg [(PV.str ([] : List UInt8)), (PV.agg [(PV.int (0 : Int)), (PV.int (0 : Int)), (PV.str ([] : List UInt8)), (PV.slice []), (PV.slice []), (PV.slice []), (PV.slice [])])]), a1, (8 : Int))
 else
 (F77 fuel a0 (IntKind.wrap .i64 (a1 + (1 : Int))) ([61] : List UInt8)).bind fun y9 =>
 bif (!y9) then
 let x11 := IntKind.wrap .i64 (a1 + (1 : Int))
 let x12 := (a0.length : Int)
 some ((PV.agg [(PV.str ([] : List UInt8)), (PV.agg [(PV.int (0 : Int)), (PV.int (0 : Int)), (PV.str ([] : List UInt8)), (PV.slice []), (PV.slice []), (PV.slice []), (PV.slice [])])]), (if x12 < x11 then x12 else x11), (2 : Int))
 else
 bif inRange a1 a0.length then
 (F71 fuel ((a0.getD a1.toNat .bad).fld 1).asStr).bind fun y17 =>
 (F159 fuel y17 a0 (IntKind.wrap .i64 (a1 + (2 : Int)))).bind fun y19 =>
 bif inRange a1 a0.length then
 some ((PV.agg [(PV.str ((a0.getD a1.toNat .bad).fld 1).asStr), y19.1]), y19.2.1, y19.2.2)
 else none
 else none
 else none
def F78c (fuel : Nat) : CallE := ⟨78, ⟨2, [], [(.slice 72), (.int .i64)]⟩, ⟨3, [], [(.data 116), (.int .i64), (.int .i64)]⟩, fun x => F78 fuel x.1 x.2, (PV.bad, 0, 0)⟩
theorem F78ok (fuel : Nat) : (F78c fuel).Ok Tryz.prog := okJ Tryz.f78 62 0 fuel [F158c fuel, F71c fuel, F77c fuel, F159c fuel] [] false (qc (F158ok fuel) <| qc (F71ok fuel) <| qc (F77ok fuel) <| qc (F159ok fuel) <| q0) (p0) L0
def S36_5 (fuel : Nat) (a3 : List PV) (a4 : Int) (a5 : List PV) : Option (((List PV) × Int × (List PV)) ⊕ (((List PV) × Int × Int))) :=
 (F78 fuel a3 (IntKind.wrap .i64 (a4 + (1 : Int)))).bind fun y7 =>
 let x8 := y7.1
 let x9 := y7.2.1
 let x10 := y7.2.2
 bif (x10 != (0 : Int)) then
 some (.inr ([], x9, x10))
 else
 bif decide (a5.length + [x8].length ≤ accMax) then
 let x12 := a5 ++ [x8]
 (F77 fuel a3 x9 ([93] : List UInt8)).bind fun y13 =>
 bif y13 then
 some (.inr (x12, (IntKind.wrap .i64 (x9 + (1 : Int))), (0 : Int)))
 else
 (F77 fuel a3 x9 ([44] : List UInt8)).bind fun y15 =>
 bif (!y15) then
 some (.inr ([], x9, (2 : Int)))
 else
 some (.inl (a3, x9, x12))
 else none
def S36_5step (fuel : Nat) (x : (List PV) × Int × (List PV)) : Option (((List PV) × Int × (List PV)) ⊕ (((List PV) × Int × Int))) := S36_5 fuel x.1 x.2.1 x.2.2
def F36 (fuel : Nat) (a0 : List PV) (a1 : Int) : Option ((List PV) × Int × Int) :=
 (F77 fuel a0 a1 ([91] : List UInt8)).bind fun y1 =>
 bif (!y1) then
 some ([], a1, (0 : Int))
 else
 (loopQ fuel (S36_5step fuel) (a0, a1, [])).bind fun y17 =>
 some (y17.1, y17.2.1, y17.2.2)
def S36_5l (fuel : Nat) : LoopE := ⟨5, ⟨[0, 1, 7], [.acc], [(.slice 72), (.int .i64), (.acc 0 116)]⟩, [(.ret, ⟨[4, 5, 6], [.acc], [(.slice 116), (.int .i64), (.int .i64)]⟩)], S36_5step fuel⟩
def F36C (fuel : Nat) : Cfg := cfg Tryz.prog 46 0 [F77c fuel, F78c fuel] [S36_5l fuel] fuel
def F36c (fuel : Nat) : CallE := ⟨36, ⟨2, [], [(.slice 72), (.int .i64)]⟩, ⟨3, [], [(.slice 116), (.int .i64), (.int .i64)]⟩, fun x => F36 fuel x.1 x.2, ([], 0, 0)⟩
theorem F36k (fuel : Nat) : CallOk (F36C fuel) := cfg_callOkP (qc (F77ok fuel) <| qc (F78ok fuel) <| q0) (p0)
theorem S36_5ok (fuel : Nat) : LoopOk (F36C fuel) (lp (bodyOf Tryz.f36) 0) := okL (F36k fuel) fuel (S36_5l fuel) L0
theorem F36ok (fuel : Nat) : (F36c fuel).Ok Tryz.prog := okE Tryz.f36 (F36k fuel) (L1 (S36_5ok fuel))
def F205 (fuel : Nat) (a0 : Unit) (s : Q0) : Option (((List PV) × Q0) ⊕ (PV × Q0)) :=
 (F36 fuel s.1 s.2.1).bind fun y1 =>
 let x3 := y1.2.1
 let x4 := y1.2.2
 bif (x4 != (0 : Int)) then
 some (.inr ((PV.agg [(PV.int x3), (PV.int x4)]), s.1, x3, s.2.2))
 else
 some (.inl (y1.1, s.1, x3, s.2.2))
def F205p (fuel : Nat) : CallP := ⟨205, ⟨1, [.box 82 (.agg 82 [.leaf, .leaf, (.agg 28 [.leaf, .leaf, .leaf, .leaf, .leaf, .leaf])]), .arr 9 0, .arr 63 0, .arr 127 0, .acc], [(.con (.ref 0 [] 82)), (.slice 72), (.int .i64), .str, .str, (.con (.arr 1 0 9)), (.con (.arr 2 0 63)), (.con (.arr 3 0 127)), (.acc 4 130), (.slice 9), (.slice 63), (.slice 127)]⟩, ⟨1, [.box 82 (.agg 82 [.leaf, .leaf, (.agg 28 [.leaf, .leaf, .leaf, .leaf, .leaf, .leaf])]), .arr 9 0, .arr 63 0, .arr 127 0, .acc], [(.slice 116), (.slice 72), (.int .i64), .str, .str, (.con (.arr 1 0 9)), (.con (.arr 2 0 63)), (.con (.arr 3 0 127)), (.acc 4 130), (.slice 9), (.slice 63), (.slice 127)]⟩, ⟨1, [.box 82 (.agg 82 [.leaf, .leaf, (.agg 28 [.leaf, .leaf, .leaf, .leaf, .leaf, .leaf])]), .arr 9 0, .arr 63 0, .arr 127 0, .acc], [(.ifc 84), (.slice 72), (.int .i64), .str, .str, (.con (.arr 1 0 9)), (.con (.arr 2 0 63)), (.con (.arr 3 0 127)), (.acc 4 130), (.slice 9), (.slice 63), (.slice 127)]⟩, fun x => F205 fuel x.1 x.2, ([], [], 0, [], [], (), (), (), [], [], [], [])⟩
theorem F205ok (fuel : Nat) : (F205p fuel).Ok Tryz.prog := okPJ Tryz.f205 29 5 fuel [F36c fuel] [F118p fuel] false (qc (F36ok fuel) <| q0) (pc (F118ok fuel) <| p0) L0
def F238 (fuel : Nat) (a0 : List UInt8) : Option (Bool) :=
 (F202 fuel a0).bind fun y1 =>
 (bif y1 then F200 fuel a0 else some false).bind fun y2 =>
 some (bif y1 then (!y2) else false)
def F238c (fuel : Nat) : CallE := ⟨238, ⟨1, [], [.str]⟩, ⟨1, [], [.bool]⟩, fun x => F238 fuel x, false⟩
theorem F238ok (fuel : Nat) : (F238c fuel).Ok Tryz.prog := okJ Tryz.f238 10 0 fuel [F202c fuel, F200c fuel] [] false (qc (F202ok fuel) <| qc (F200ok fuel) <| q0) (p0) L0
def F92_v3 (fuel : Nat) (a0 : Unit) (a1 : Int) (a2 : Unit) (s : Q0) : Option (((List UInt8) × Q0) ⊕ (PV × Q0)) :=
 (F117 fuel () s).bind fun y1 =>
 bif (y1.1 != a1) then
 some (.inr ((PV.agg [(PV.int y1.2.2.1), (PV.int (2 : Int))]), y1.2))
 else
 let x3 := y1.2.1
 let x4 := y1.2.2.1
 bif inRange x4 x3.length then
 let x7 := ((x3.getD x4.toNat .bad).fld 1).asStr
 (F238 fuel x7).bind fun y8 =>
 bif (!y8) then
 some (.inr ((PV.agg [(PV.int y1.2.2.1), (PV.int (8 : Int))]), y1.2))
 else
 some (.inl (x7, y1.2.1, (IntKind.wrap .i64 (y1.2.2.1 + (1 : Int))), y1.2.2.2))
 else none
def F92_v3p (fuel : Nat) : CallP := ⟨92, ⟨3, [.box 82 (.agg 82 [.leaf, .leaf, (.agg 28 [.leaf, .leaf, .leaf, .leaf, .leaf, .leaf])]), .arr 9 0, .arr 63 0, .arr 127 0, .acc], [(.con (.ref 0 [] 82)), (.int .i64), (.con (.fn 238 0 [])), (.slice 72), (.int .i64), .str, .str, (.con (.arr 1 0 9)), (.con (.arr 2 0 63)), (.con (.arr 3 0 127)), (.acc 4 130), (.slice 9), (.slice 63), (.slice 127)]⟩, ⟨1, [.box 82 (.agg 82 [.leaf, .leaf, (.agg 28 [.leaf, .leaf, .leaf, .leaf, .leaf, .leaf])]), .arr 9 0, .arr 63 0, .arr 127 0, .acc], [.str, (.slice 72), (.int .i64), .str, .str, (.con (.arr 1 0 9)), (.con (.arr 2 0 63)), (.con (.arr 3 0 127)), (.acc 4 130), (.slice 9), (.slice 63), (.slice 127)]⟩, ⟨1, [.box 82 (.agg 82 [.leaf, .leaf, (.agg 28 [.leaf, .leaf, .leaf, .leaf, .leaf, .leaf])]), .arr 9 0, .arr 63 0, .arr 127 0, .acc], [(.ifc 84), (.slice 72), (.int .i64), .str, .str, (.con (.arr 1 0 9)), (.con (.arr 2 0 63)), (.con (.arr 3 0 127)), (.acc 4 130), (.slice 9), (.slice 63), (.slice 127)]⟩, fun x => F92_v3 fuel x.1 x.2.1 x.2.2.1 x.2.2.2, ([], [], 0, [], [], (), (), (), [], [], [], [])⟩
theorem F92_v3ok (fuel : Nat) : (F92_v3p fuel).Ok Tryz.prog := okPJ Tryz.f92 39 5 fuel [F117c fuel, F238c fuel] [F118p fuel] false (qc (F117ok fuel) <| qc (F238ok fuel) <| q0) (pc (F118ok fuel) <| p0) L0
def F132 (fuel : Nat) (a0 : Unit) (s : Q0) : Option (((List UInt8) × Q0) ⊕ (PV × Q0)) :=
 (F92_v3 fuel () (1 : Int) () s).bind fun z => sumE (fun y1 =>
 some (.inl (y1.1, y1.2))
 ) (fun y2 =>
 some (.inr y2)
 ) z
def F132p (fuel : Nat) : CallP := ⟨132, ⟨1, [.box 82 (.agg 82 [.leaf, .leaf, (.agg 28 [.leaf, .leaf, .leaf, .leaf, .leaf, .leaf])]), .arr 9 0, .arr 63 0, .arr 127 0, .acc], [(.con (.ref 0 [] 82)), (.slice 72), (.int .i64), .str, .str, (.con (.arr 1 0 9)), (.con (.arr 2 0 63)), (.con (.arr 3 0 127)), (.acc 4 130), (.slice 9), (.slice 63), (.slice 127)]⟩, ⟨1, [.box 82 (.agg 82 [.leaf, .leaf, (.agg 28 [.leaf, .leaf, .leaf, .leaf, .leaf, .leaf])]), .arr 9 0, .arr 63 0, .arr 127 0, .acc], [.str, (.slice 72), (.int .i64), .str, .str, (.con (.arr 1 0 9)), (.con (.arr 2 0 63)), (.con (.arr 3 0 127)), (.acc 4 130), (.slice 9), (.slice 63), (.slice 127)]⟩, ⟨1, [.box 82 (.agg 82 [.leaf, .leaf, (.agg 28 [.leaf, .leaf, .leaf, .leaf, .leaf, .leaf])]), .arr 9 0, .arr 63 0, .arr 127 0, .acc], [(.ifc 84), (.slice 72), (.int .i64), .str, .str, (.con (.arr 1 0 9)), (.con (.arr 2 0 63)), (.con (.arr 3 0 127)), (.acc 4 130), (.slice 9), (.slice 63), (.slice 127)]⟩, fun x => F132 fuel x.1 x.2, ([], [], 0, [], [], (), (), (), [], [], [], [])⟩
theorem F132ok (fuel : Nat) : (F132p fuel).Ok Tryz.prog := okPJ Tryz.f132 5 5 fuel [] [F92_v3p fuel] false (q0) (pc (F92_v3ok fuel) <| p0) L0
def F229 (fuel : Nat) (a0 : List UInt8) : Option (Bool) :=
 (F141 fuel a0 ([46] : List UInt8)).bind fun y1 =>
 (F140 fuel y1).bind fun y2 =>
 some y2
def F229c (fuel : Nat) : CallE := ⟨229, ⟨1, [], [.str]⟩, ⟨1, [], [.bool]⟩, fun x => F229 fuel x, false⟩
theorem F229ok (fuel : Nat) : (F229c fuel).Ok Tryz.prog := okJ Tryz.f229 6 0 fuel [F141c fuel, F140c fuel] [] false (qc (F141ok fuel) <| qc (F140ok fuel) <| q0) (p0) L0
def F92_v4 (fuel : Nat) (a0 : Unit) (a1 : Int) (a2 : Unit) (s : Q0) : Option (((List UInt8) × Q0) ⊕ (PV × Q0)) :=
 (F117 fuel () s).bind fun y1 =>
 bif (y1.1 != a1) then
 some (.inr ((PV.agg [(PV.int y1.2.2.1), (PV.int (2 : Int))]), y1.2))
 else
 let x3 := y1.2.1
 let x4 := y1.2.2.1
 bif inRange x4 x3.length then
 let x7 := ((x3.getD x4.toNat .bad).fld 1).asStr
 (F229 fuel x7).bind fun y8 =>
 bif (!y8) then
 some (.inr ((PV.agg [(PV.int y1.2.2.1), (PV.int (8 : Int))]), y1.2))
 else
 some (.inl (x7, y1.2.1, (IntKind.wrap .i64 (y1.2.2.1 + (1 : Int))), y1.2.2.2))
 else none
def F92_v4p (fuel : Nat) : CallP := ⟨92, ⟨3, [.box 82 (.agg 82 [.leaf, .leaf, (.agg 28 [.leaf, .leaf, .leaf, .leaf, .leaf, .leaf])]), .arr 9 0, .arr 63 0, .arr 127 0, .acc], [(.con (.ref 0 [] 82)), (.int .i64), (.con (.fn 229 0 [])), (.slice 72), (.int .i64), .str, .str, (.con (.arr 1 0 9)), (.con (.arr 2 0 63)), (.con (.arr 3 0 127)), (.acc 4 130), (.slice 9), (.slice 63), (.slice 127)]⟩, ⟨1, [.box 82 (.agg 82 [.leaf, .leaf, (.agg 28 [.leaf, .leaf, .leaf, .leaf, .leaf, .leaf])]), .arr 9 0, .arr 63 0, .arr 127 0, .acc], [.str, (.slice 72), (.int .i64), .str, .str, (.con (.arr 1 0 9)), (.con (.arr 2 0 63)), (.con (.arr 3 0 127)), (.acc 4 130), (.slice 9), (.slice 63), (.slice 127)]⟩, ⟨1, [.box 82 (.agg 82 [.leaf, .leaf, (.agg 28 [.leaf, .leaf, .leaf, .leaf, .leaf, .leaf])]), .arr 9 0, .arr 63 0, .arr 127 0, .acc], [(.ifc 84), (.slice 72), (.int .i64), .str, .str, (.con (.arr 1 0 9)), (.con (.arr 2 0 63)), (.con (.arr 3 0 127)), (.acc 4 130), (.slice 9), (.slice 63), (.slice 127)]⟩, fun x => F92_v4 fuel x.1 x.2.1 x.2.2.1 x.2.2.2, ([], [], 0, [], [], (), (), (), [], [], [], [])⟩
theorem F92_v4ok (fuel : Nat) : (F92_v4p fuel).Ok Tryz.prog := okPJ Tryz.f92 39 5 fuel [F117c fuel, F229c fuel] [F118p fuel] false (qc (F117ok fuel) <| qc (F229ok fuel) <| q0) (pc (F118ok fuel) <| p0) L0
def F115 (fuel : Nat) (a0 : Unit) (s : Q0) : Option (((List UInt8) × Q0) ⊕ (PV × Q0)) :=
 (F92_v4 fuel () (1 : Int) () s).bind fun z => sumE (fun y1 =>
 some (.inl (y1.1, y1.2))
 ) (fun y2 =>
 some (.inr y2)
 ) z
def F115p (fuel : Nat) : CallP := ⟨115, ⟨1, [.box 82 (.agg 82 [.leaf, .leaf, (.agg 28 [.leaf, .leaf, .leaf, .leaf, .leaf, .leaf])]), .arr 9 0, .arr 63 0, .arr 127 0, .acc], [(.con (.ref 0 [] 82)), (.slice 72), (.int .i64), .str, .str, (.con (.arr 1 0 9)), (.con (.arr 2 0 63)), (.con (.arr 3 0 127)), (.acc 4 130), (.slice 9), (.slice 63), (.slice 127)]⟩, ⟨1, [.box 82 (.agg 82 [.leaf, .leaf, (.agg 28 [.leaf, .leaf, .leaf, .leaf, .leaf, .leaf])]), .arr 9 0, .arr 63 0, .arr 127 0, .acc], [.str, (.slice 72), (.int .i64), .str, .str, (.con (.arr 1 0 9)), (.con (.arr 2 0 63)), (.con (.arr 3 0 127)), (.acc 4 130), (.slice 9), (.slice 63), (.slice 127)]⟩, ⟨1, [.box 82 (.agg 82 [.leaf, .leaf, (.agg 28 [.leaf, .leaf, .leaf, .leaf, .leaf, .leaf])]), .arr 9 0, .arr 63 0, .arr 127 0, .acc], [(.ifc 84), (.slice 72), (.int .i64), .str, .str, (.con (.arr 1 0 9)), (.con (.arr 2 0 63)), (.con (.arr 3 0 127)), (.acc 4 130), (.slice 9), (.slice 63), (.slice 127)]⟩, fun x => F115 fuel x.1 x.2, ([], [], 0, [], [], (), (), (), [], [], [], [])⟩
theorem F115ok (fuel : Nat) : (F115p fuel).Ok Tryz.prog := okPJ Tryz.f115 5 5 fuel [] [F92_v4p fuel] false (q0) (pc (F92_v4ok fuel) <| p0) L0
def F49 (fuel : Nat)  : Option (PV) :=
 let x1 := (PV.agg [(PV.str ([98, 111, 111, 108] : List UInt8)), (PV.str ([105, 51, 50] : List UInt8)), (PV.str ([105, 54, 52] : List UInt8)), (PV.str ([117, 51, 50] : List UInt8)), (PV.str ([117, 54, 52] : List UInt8)), (PV.str ([100, 111, 117, 98, 108, 101] : List UInt8)), (PV.str ([116, 101, 120, 116] : List UInt8)), (PV.str ([98, 121, 116, 101, 115] : List UInt8))])
 some x1
def F49c (fuel : Nat) : CallE := ⟨49, ⟨0, [], []⟩, ⟨1, [], [(.data 92)]⟩, fun x => F49 fuel , PV.bad⟩
theorem F49ok (fuel : Nat) : (F49c fuel).Ok Tryz.prog := okJ Tryz.f49 2 0 fuel [] [] false (q0) (p0) L0
def S18_3 (fuel : Nat) (a2 : List UInt8) (a3 : PV) (a4 : Int) : Option (((List UInt8) × PV × Int) ⊕ ((Int) ⊕ (Unit))) :=
 bif (decide (a4 < (8 : Int))) then
 bif inRange a4 8 then
 bif (((a3.fld a4.toNat).asStr) == a2) then
 some (.inr (.inl (IntKind.wrap .i64 (a4 + (1 : Int)))))
 else
 some (.inl (a2, a3, (IntKind.wrap .i64 (a4 + (1 : Int)))))
 else none
 else
 some (.inr (.inr ()))
def S18_3step (fuel : Nat) (x : (List UInt8) × PV × Int) : Option (((List UInt8) × PV × Int) ⊕ ((Int) ⊕ (Unit))) := S18_3 fuel x.1 x.2.1 x.2.2
def F18 (fuel : Nat) (a0 : List UInt8) : Option (Int) :=
 (F49 fuel).bind fun y1 =>
 (loopQ fuel (S18_3step fuel) (a0, y1, (0 : Int))).bind fun z => sumE (fun y10 =>
 some y10
 ) (fun y11 =>
 some (0 : Int)
 ) z
def S18_3l (fuel : Nat) : LoopE := ⟨3, ⟨[0, 5, 6], [], [.str, (.data 92), (.int .i64)]⟩, [(.ret, ⟨[2], [], [(.int .i64)]⟩), (.exit 0, ⟨[], [], []⟩)], S18_3step fuel⟩
def F18C (fuel : Nat) : Cfg := cfg Tryz.prog 16 0 [F49c fuel] [S18_3l fuel] fuel
def F18c (fuel : Nat) : CallE := ⟨18, ⟨1, [], [.str]⟩, ⟨1, [], [(.int .i64)]⟩, fun x => F18 fuel x, 0⟩
theorem F18k (fuel : Nat) : CallOk (F18C fuel) := cfg_callOkP (qc (F49ok fuel) <| q0) (p0)
theorem S18_3ok (fuel : Nat) : LoopOk (F18C fuel) (lp (bodyOf Tryz.f18) 0) := okL (F18k fuel) fuel (S18_3l fuel) L0
theorem F18ok (fuel : Nat) : (F18c fuel).Ok Tryz.prog := okE Tryz.f18 (F18k fuel) (L1 (S18_3ok fuel))
def F52 (fuel : Nat) (a0 : Unit) (s : Q0) : Option ((PV × Q0) ⊕ (PV × Q0)) :=
 (F115 fuel () s).bind fun z => sumE (fun y1 =>
 let x3 := y1.1
 (F18 fuel x3).bind fun y4 =>
 bif (y4 != (0 : Int)) then
 some (.inl ((PV.agg [(PV.int y4), (PV.str ([] : List UInt8))]), y1.2))
 else
 some (.inl ((PV.agg [(PV.int (0 : Int)), (PV.str x3)]), y1.2))
 ) (fun y2 =>
 some (.inr y2)
 ) z
def F52p (fuel : Nat) : CallP := ⟨52, ⟨1, [.box 82 (.agg 82 [.leaf, .leaf, (.agg 28 [.leaf, .leaf, .leaf, .leaf, .leaf, .leaf])]), .arr 9 0, .arr 63 0, .arr 127 0, .acc], [(.con (.ref 0 [] 82)), (.slice 72), (.int .i64), .str, .str, (.con (.arr 1 0 9)), (.con (.arr 2 0 63)), (.con (.arr 3 0 127)), (.acc 4 130), (.slice 9), (.slice 63), (.slice 127)]⟩, ⟨1, [.box 82 (.agg 82 [.leaf, .leaf, (.agg 28 [.leaf, .leaf, .leaf, .leaf, .leaf, .leaf])]), .arr 9 0, .arr 63 0, .arr 127 0, .acc], [(.data 40), (.slice 72), (.int .i64), .str, .str, (.con (.arr 1 0 9)), (.con (.arr 2 0 63)), (.con (.arr 3 0 127)), (.acc 4 130), (.slice 9), (.slice 63), (.slice 127)]⟩, ⟨1, [.box 82 (.agg 82 [.leaf, .leaf, (.agg 28 [.leaf, .leaf, .leaf, .leaf, .leaf, .leaf])]), .arr 9 0, .arr 63 0, .arr 127 0, .acc], [(.ifc 84), (.slice 72), (.int .i64), .str, .str, (.con (.arr 1 0 9)), (.con (.arr 2 0 63)), (.con (.arr 3 0 127)), (.acc 4 130), (.slice 9), (.slice 63), (.slice 127)]⟩, fun x => F52 fuel x.1 x.2, (PV.bad, [], 0, [], [], (), (), (), [], [], [], [])⟩
theorem F52ok (fuel : Nat) : (F52p fuel).Ok Tryz.prog := okPJ Tryz.f52 15 5 fuel [F18c fuel] [F115p fuel] false (qc (F18ok fuel) <| q0) (pc (F115ok fuel) <| p0) L0
def F209 (fuel : Nat) (a0 : Unit) (a1 : Int) (s : Q0) : Option ((Int × Q0) ⊕ (PV × Q0)) :=
 (F117 fuel () s).bind fun y1 =>
 bif (y1.1 != (2 : Int)) then
 some (.inr ((PV.agg [(PV.int y1.2.2.1), (PV.int (2 : Int))]), y1.2))
 else
 let x3 := y1.2.1
 let x4 := y1.2.2.1
 bif inRange x4 x3.length then
 let x7 := ((x3.getD x4.toNat .bad).fld 2).asInt
 bif (decide ((IntKind.wrap .u64 x7) > a1)) then
 some (.inr ((PV.agg [(PV.int y1.2.2.1), (PV.int (6 : Int))]), y1.2))
 else
 some (.inl (x7, y1.2.1, (IntKind.wrap .i64 (y1.2.2.1 + (1 : Int))), y1.2.2.2))
 else none
def F209p (fuel : Nat) : CallP := ⟨209, ⟨2, [.box 82 (.agg 82 [.leaf, .leaf, (.agg 28 [.leaf, .leaf, .leaf, .leaf, .leaf, .leaf])]), .arr 9 0, .arr 63 0, .arr 127 0, .acc], [(.con (.ref 0 [] 82)), (.int .u64), (.slice 72), (.int .i64), .str, .str, (.con (.arr 1 0 9)), (.con (.arr 2 0 63)), (.con (.arr 3 0 127)), (.acc 4 130), (.slice 9), (.slice 63), (.slice 127)]⟩, ⟨1, [.box 82 (.agg 82 [.leaf, .leaf, (.agg 28 [.leaf, .leaf, .leaf, .leaf, .leaf, .leaf])]), .arr 9 0, .arr 63 0, .arr 127 0, .acc], [(.int .i64), (.slice 72), (.int .i64), .str, .str, (.con (.arr 1 0 9)), (.con (.arr 2 0 63)), (.con (.arr 3 0 127)), (.acc 4 130), (.slice 9), (.slice 63), (.slice 127)]⟩, ⟨1, [.box 82 (.agg 82 [.leaf, .leaf, (.agg 28 [.leaf, .leaf, .leaf, .leaf, .leaf, .leaf])]), .arr 9 0, .arr 63 0, .arr 127 0, .acc], [(.ifc 84), (.slice 72), (.int .i64), .str, .str, (.con (.arr 1 0 9)), (.con (.arr 2 0 63)), (.con (.arr 3 0 127)), (.acc 4 130), (.slice 9), (.slice 63), (.slice 127)]⟩, fun x => F209 fuel x.1 x.2.1 x.2.2, (0, [], 0, [], [], (), (), (), [], [], [], [])⟩
theorem F209ok (fuel : Nat) : (F209p fuel).Ok Tryz.prog := okPJ Tryz.f209 36 5 fuel [F117c fuel] [F118p fuel] false (qc (F117ok fuel) <| q0) (pc (F118ok fuel) <| p0) L0
def F133 (fuel : Nat) (a0 : Unit) (a1 : Int) (a2 : List UInt8) (s : Q0) : Option ((PV × Q0) ⊕ (PV × Q0)) :=
 (F239 fuel a1 a2).bind fun y1 =>
 let x3 := y1.2
 bif (x3 != (0 : Int)) then
 let x5 := IntKind.wrap .i64 (s.2.1 - (1 : Int))
 some (.inr ((PV.agg [(PV.int x5), (PV.int x3)]), s.1, x5, s.2.2))
 else
 some (.inl (y1.1, s))
def F133p (fuel : Nat) : CallP := ⟨133, ⟨3, [.box 82 (.agg 82 [.leaf, .leaf, (.agg 28 [.leaf, .leaf, .leaf, .leaf, .leaf, .leaf])]), .arr 9 0, .arr 63 0, .arr 127 0, .acc], [(.con (.ref 0 [] 82)), (.int .i64), .str, (.slice 72), (.int .i64), .str, .str, (.con (.arr 1 0 9)), (.con (.arr 2 0 63)), (.con (.arr 3 0 127)), (.acc 4 130), (.slice 9), (.slice 63), (.slice 127)]⟩, ⟨1, [.box 82 (.agg 82 [.leaf, .leaf, (.agg 28 [.leaf, .leaf, .leaf, .leaf, .leaf, .leaf])]), .arr 9 0, .arr 63 0, .arr 127 0, .acc], [(.data 51), (.slice 72), (.int .i64), .str, .str, (.con (.arr 1 0 9)), (.con (.arr 2 0 63)), (.con (.arr 3 0 127)), (.acc 4 130), (.slice 9), (.slice 63), (.slice 127)]⟩, ⟨1, [.box 82 (.agg 82 [.leaf, .leaf, (.agg 28 [.leaf, .leaf, .leaf, .leaf, .leaf, .leaf])]), .arr 9 0, .arr 63 0, .arr 127 0, .acc], [(.ifc 84), (.slice 72), (.int .i64), .str, .str, (.con (.arr 1 0 9)), (.con (.arr 2 0 63)), (.con (.arr 3 0 127)), (.acc 4 130), (.slice 9), (.slice 63), (.slice 127)]⟩, fun x => F133 fuel x.1 x.2.1 x.2.2.1 x.2.2.2, (PV.bad, [], 0, [], [], (), (), (), [], [], [], [])⟩
theorem F133ok (fuel : Nat) : (F133p fuel).Ok Tryz.prog := okPJ Tryz.f133 28 5 fuel [F239c fuel] [F118p fuel] false (qc (F239ok fuel) <| q0) (pc (F118ok fuel) <| p0) L0
def F63 (fuel : Nat) (a0 : Unit) (a1 : Int) (s : Q0) : Option ((PV × Q0) ⊕ (PV × Q0)) :=
 bif (a1 == (0 : Int)) then
 (F132 fuel () s).bind fun z => sumE (fun y2 =>
 some (.inl ((PV.agg [(PV.int (9 : Int)), (PV.int (0 : Int)), (PV.str y2.1), (PV.slice []), (PV.slice []), (PV.slice []), (PV.slice [])]), y2.2))
 ) (fun y3 =>
 some (.inr y3)
 ) z
 else
 bif (a1 == (1 : Int)) then
 (F96 fuel () ([116, 114, 117, 101] : List UInt8) s).bind fun y6 =>
 let x7 := !y6.1
 bif x7 then
 (F96 fuel () ([102, 97, 108, 115, 101] : List UInt8) y6.2).bind fun y8 =>
 bif (bif x7 then (!y8.1) else false) then
 some (.inr ((PV.agg [(PV.int y8.2.2.1), (PV.int (2 : Int))]), y8.2))
 else
 let x12 := IntKind.wrap .i64 (y8.2.2.1 + (1 : Int))
 let x13 := y8.2.1
 let x14 := IntKind.wrap .i64 (x12 - (1 : Int))
 bif inRange x14 x13.length then
 (F133 fuel () a1 ((x13.getD x14.toNat .bad).fld 1).asStr (y8.2.1, x12, y8.2.2.2)).bind fun z => sumE (fun y18 =>
 some (.inl y18)
 ) (fun y19 =>
 some (.inr y19)
 ) z
 else none
 else
 bif (bif x7 then true else false) then
 some (.inr ((PV.agg [(PV.int y6.2.2.1), (PV.int (2 : Int))]), y6.2))
 else
 let x22 := IntKind.wrap .i64 (y6.2.2.1 + (1 : Int))
 let x23 := y6.2.1
 let x24 := IntKind.wrap .i64 (x22 - (1 : Int))
 bif inRange x24 x23.length then
 (F133 fuel () a1 ((x23.getD x24.toNat .bad).fld 1).asStr (y6.2.1, x22, y6.2.2.2)).bind fun z => sumE (fun y28 =>
 some (.inl y28)
 ) (fun y29 =>
 some (.inr y29)
 ) z
 else none
 else
 bif (a1 == (6 : Int)) then
 (F95 fuel () s).bind fun z => sumE (fun y31 =>
 (F133 fuel () a1 y31.1 y31.2).bind fun z => sumE (fun y33 =>
 some (.inl y33)
 ) (fun y34 =>
 some (.inr y34)
 ) z
 ) (fun y32 =>
 some (.inr y32)
 ) z
 else
 bif (a1 == (8 : Int)) then
 (F95 fuel () s).bind fun z => sumE (fun y36 =>
 (F133 fuel () a1 y36.1 y36.2).bind fun z => sumE (fun y38 =>
 some (.inl y38)
 ) (fun y39 =>
 some (.inr y39)
 ) z
 ) (fun y37 =>
 some (.inr y37)
 ) z
 else
 bif (a1 == (7 : Int)) then
 (F95 fuel () s).bind fun z => sumE (fun y41 =>
 (F134 fuel y41.1).bind fun y43 =>
 (F133 fuel () a1 y43 y41.2).bind fun z => sumE (fun y44 =>
 some (.inl y44)
 ) (fun y45 =>
 some (.inr y45)
 ) z
 ) (fun y42 =>
 some (.inr y42)
 ) z
 else
 (F91 fuel () ([45] : List UInt8) s).bind fun y46 =>
 bif y46.1 then
 (F117 fuel () y46.2).bind fun y47 =>
 bif (y47.1 != (2 : Int)) then
 some (.inr ((PV.agg [(PV.int y47.2.2.1), (PV.int (2 : Int))]), y47.2))
 else
 let x50 := IntKind.wrap .i64 (y47.2.2.1 + (1 : Int))
 let x51 := y47.2.1
 let x52 := IntKind.wrap .i64 (x50 - (1 : Int))
 bif inRange x52 x51.length then
 (F135 fuel (IntKind.wrap .u64 ((x51.getD x52.toNat .bad).fld 2).asInt) (10 : Int)).bind fun y57 =>
 bif decide (([45] : List UInt8).length + y57.length ≤ strMax) then
 (F133 fuel () a1 (([45] : List UInt8) ++ y57) (y47.2.1, x50, y47.2.2.2)).bind fun z => sumE (fun y58 =>
 some (.inl y58)
 ) (fun y59 =>
 some (.inr y59)
 ) z
 else none
 else none
 else
 (F117 fuel () y46.2).bind fun y60 =>
 bif (y60.1 != (2 : Int)) then
 some (.inr ((PV.agg [(PV.int y60.2.2.1), (PV.int (2 : Int))]), y60.2))
 else
 let x63 := IntKind.wrap .i64 (y60.2.2.1 + (1 : Int))
 let x64 := y60.2.1
 let x65 := IntKind.wrap .i64 (x63 - (1 : Int))
 bif inRange x65 x64.length then
 (F135 fuel (IntKind.wrap .u64 ((x64.getD x65.toNat .bad).fld 2).asInt) (10 : Int)).bind fun y70 =>
 bif decide (([] : List UInt8).length + y70.length ≤ strMax) then
 (F133 fuel () a1 (([] : List UInt8) ++ y70) (y60.2.1, x63, y60.2.2.2)).bind fun z => sumE (fun y71 =>
 some (.inl y71)
 ) (fun y72 =>
 some (.inr y72)
 ) z
 else none
 else none
def F63p (fuel : Nat) : CallP := ⟨63, ⟨2, [.box 82 (.agg 82 [.leaf, .leaf, (.agg 28 [.leaf, .leaf, .leaf, .leaf, .leaf, .leaf])]), .arr 9 0, .arr 63 0, .arr 127 0, .acc], [(.con (.ref 0 [] 82)), (.int .i64), (.slice 72), (.int .i64), .str, .str, (.con (.arr 1 0 9)), (.con (.arr 2 0 63)), (.con (.arr 3 0 127)), (.acc 4 130), (.slice 9), (.slice 63), (.slice 127)]⟩, ⟨1, [.box 82 (.agg 82 [.leaf, .leaf, (.agg 28 [.leaf, .leaf, .leaf, .leaf, .leaf, .leaf])]), .arr 9 0, .arr 63 0, .arr 127 0, .acc], [(.data 51), (.slice 72), (.int .i64), .str, .str, (.con (.arr 1 0 9)), (.con (.arr 2 0 63)), (.con (.arr 3 0 127)), (.acc 4 130), (.slice 9), (.slice 63), (.slice 127)]⟩, ⟨1, [.box 82 (.agg 82 [.leaf, .leaf, (.agg 28 [.leaf, .leaf, .leaf, .leaf, .leaf, .leaf])]), .arr 9 0, .arr 63 0, .arr 127 0, .acc], [(.ifc 84), (.slice 72), (.int .i64), .str, .str, (.con (.arr 1 0 9)), (.con (.arr 2 0 63)), (.con (.arr 3 0 127)), (.acc 4 130), (.slice 9), (.slice 63), (.slice 127)]⟩, fun x => F63 fuel x.1 x.2.1 x.2.2, (PV.bad, [], 0, [], [], (), (), (), [], [], [], [])⟩
theorem F63ok (fuel : Nat) : (F63p fuel).Ok Tryz.prog := okPJ Tryz.f63 95 5 fuel [F96c fuel, F134c fuel, F91c fuel, F117c fuel, F135c fuel] [F132p fuel, F118p fuel, F133p fuel, F95p fuel] false (qc (F96ok fuel) <| qc (F134ok fuel) <| qc (F91ok fuel) <| qc (F117ok fuel) <| qc (F135ok fuel) <| q0) (pc (F132ok fuel) <| pc (F118ok fuel) <| pc (F133ok fuel) <| pc (F95ok fuel) <| p0) L0
def F119 (fuel : Nat) (a0 : Unit) (a1 : PV) (a2 : Bool) (s : Q0) : Option ((PV × Q0) ⊕ (PV × Q0)) :=
 (F132 fuel () s).bind fun z => sumE (fun y1 =>
 (F94 fuel () ([61] : List UInt8) y1.2).bind fun z => sumE (fun y3 =>
 (F209 fuel () (65535 : Int) y3).bind fun z => sumE (fun y5 =>
 bif a2 then
 (F91 fuel () ([100, 101, 102, 97, 117, 108, 116] : List UInt8) y5.2).bind fun y7 =>
 bif (bif a2 then y7.1 else false) then
 (F63 fuel () (((a1.fld 4).fld 0).asInt) y7.2).bind fun z => sumE (fun y10 =>
 (F205 fuel () y10.2).bind fun z => sumE (fun y12 =>
 (F94 fuel () ([59] : List UInt8) y12.2).bind fun z => sumE (fun y14 =>
 some (.inl ((PV.agg [(PV.int y5.1), (PV.str y1.1), (PV.int ((a1.fld 2).asInt)), (PV.int ((a1.fld 3).asInt)), (a1.fld 4), (PV.str ((a1.fld 5).asStr)), (PV.bool true), y10.1, (PV.slice y12.1)]), y14))
 ) (fun y15 =>
 some (.inr y15)
 ) z
 ) (fun y13 =>
 some (.inr y13)
 ) z
 ) (fun y11 =>
 some (.inr y11)
 ) z
 else
 (F205 fuel () y7.2).bind fun z => sumE (fun y24 =>
 (F94 fuel () ([59] : List UInt8) y24.2).bind fun z => sumE (fun y26 =>
 some (.inl ((PV.agg [(PV.int y5.1), (PV.str y1.1), (PV.int ((a1.fld 2).asInt)), (PV.int ((a1.fld 3).asInt)), (a1.fld 4), (PV.str ((a1.fld 5).asStr)), (PV.bool ((a1.fld 6).asBool)), (a1.fld 7), (PV.slice y24.1)]), y26))
 ) (fun y27 =>
 some (.inr y27)
 ) z
 ) (fun y25 =>
 some (.inr y25)
 ) z
 else
 bif (bif a2 then false else false) then
 (F63 fuel () (((a1.fld 4).fld 0).asInt) y5.2).bind fun z => sumE (fun y39 =>
 (F205 fuel () y39.2).bind fun z => sumE (fun y41 =>
 (F94 fuel () ([59] : List UInt8) y41.2).bind fun z => sumE (fun y43 =>
 some (.inl ((PV.agg [(PV.int y5.1), (PV.str y1.1), (PV.int ((a1.fld 2).asInt)), (PV.int ((a1.fld 3).asInt)), (a1.fld 4), (PV.str ((a1.fld 5).asStr)), (PV.bool true), y39.1, (PV.slice y41.1)]), y43))
 ) (fun y44 =>
 some (.inr y44)
 ) z
 ) (fun y42 =>
 some (.inr y42)
 ) z
 ) (fun y40 =>
 some (.inr y40)
 ) z
 else
 (F205 fuel () y5.2).bind fun z => sumE (fun y53 =>
 (F94 fuel () ([59] : List UInt8) y53.2).bind fun z => sumE (fun y55 =>
 some (.inl ((PV.agg [(PV.int y5.1), (PV.str y1.1), (PV.int ((a1.fld 2).asInt)), (PV.int ((a1.fld 3).asInt)), (a1.fld 4), (PV.str ((a1.fld 5).asStr)), (PV.bool ((a1.fld 6).asBool)), (a1.fld 7), (PV.slice y53.1)]), y55))
 ) (fun y56 =>
 some (.inr y56)
 ) z
 ) (fun y54 =>
 some (.inr y54)
 ) z
 ) (fun y6 =>
 some (.inr y6)
 ) z
 ) (fun y4 =>
 some (.inr y4)
 ) z
 ) (fun y2 =>
 some (.inr y2)
 ) z
def F119p (fuel : Nat) : CallP := ⟨119, ⟨3, [.box 82 (.agg 82 [.leaf, .leaf, (.agg 28 [.leaf, .leaf, .leaf, .leaf, .leaf, .leaf])]), .arr 9 0, .arr 63 0, .arr 127 0, .acc], [(.con (.ref 0 [] 82)), (.data 54), .bool, (.slice 72), (.int .i64), .str, .str, (.con (.arr 1 0 9)), (.con (.arr 2 0 63)), (.con (.arr 3 0 127)), (.acc 4 130), (.slice 9), (.slice 63), (.slice 127)]⟩, ⟨1, [.box 82 (.agg 82 [.leaf, .leaf, (.agg 28 [.leaf, .leaf, .leaf, .leaf, .leaf, .leaf])]), .arr 9 0, .arr 63 0, .arr 127 0, .acc], [(.data 54), (.slice 72), (.int .i64), .str, .str, (.con (.arr 1 0 9)), (.con (.arr 2 0 63)), (.con (.arr 3 0 127)), (.acc 4 130), (.slice 9), (.slice 63), (.slice 127)]⟩, ⟨1, [.box 82 (.agg 82 [.leaf, .leaf, (.agg 28 [.leaf, .leaf, .leaf, .leaf, .leaf, .leaf])]), .arr 9 0, .arr 63 0, .arr 127 0, .acc], [(.ifc 84), (.slice 72), (.int .i64), .str, .str, (.con (.arr 1 0 9)), (.con (.arr 2 0 63)), (.con (.arr 3 0 127)), (.acc 4 130), (.slice 9), (.slice 63), (.slice 127)]⟩, fun x => F119 fuel x.1 x.2.1 x.2.2.1 x.2.2.2, (PV.bad, [], 0, [], [], (), (), (), [], [], [], [])⟩
theorem F119ok (fuel : Nat) : (F119p fuel).Ok Tryz.prog := okPJ Tryz.f119 33 5 fuel [F91c fuel] [F132p fuel, F94p fuel, F209p fuel, F63p fuel, F205p fuel] false (qc (F91ok fuel) <| q0) (pc (F132ok fuel) <| pc (F94ok fuel) <| pc (F209ok fuel) <| pc (F63ok fuel) <| pc (F205ok fuel) <| p0) L0
def S206_6 (fuel : Nat) (a8 : Unit) (a9 : List UInt8) (a10 : List PV) (s : Q0) : Option ((Unit × (List UInt8) × (List PV) × Q0) ⊕ (((List PV) × Q0) ⊕ (PV × Q0))) :=
 (F52 fuel () s).bind fun z => sumE (fun y11 =>
 (F119 fuel () (PV.agg [(PV.int (0 : Int)), (PV.str ([] : List UInt8)), (PV.int (2 : Int)), (PV.int (0 : Int)), y11.1, (PV.str a9), (PV.bool false), (PV.agg [(PV.int (0 : Int)), (PV.int (0 : Int)), (PV.str ([] : List UInt8)), (PV.slice []), (PV.slice []), (PV.slice []), (PV.slice [])]), (PV.slice [])]) false y11.2).bind fun z => sumE (fun y14 =>
 bif decide (a10.length + [y14.1].length ≤ accMax) then
 let x16 := a10 ++ [y14.1]
 (F91 fuel () ([125] : List UInt8) y14.2).bind fun y17 =>
 bif y17.1 then
 some (.inr (.inl (x16, y17.2)))
 else
 some (.inl ((), a9, x16, y17.2))
 else none
 ) (fun y15 =>
 some (.inr (.inr y15))
 ) z
 ) (fun y12 =>
 some (.inr (.inr y12))
 ) z
def S206_6step (fuel : Nat) (x : Unit × (List UInt8) × (List PV) × Q0) : Option ((Unit × (List UInt8) × (List PV) × Q0) ⊕ (((List PV) × Q0) ⊕ (PV × Q0))) := S206_6 fuel x.1 x.2.1 x.2.2.1 x.2.2.2
def F206 (fuel : Nat) (a0 : Unit) (s : Q0) : Option (((List PV) × Q0) ⊕ (PV × Q0)) :=
 (F94 fuel () ([117, 110, 105, 111, 110] : List UInt8) s).bind fun z => sumE (fun y1 =>
 (F132 fuel () y1).bind fun z => sumE (fun y3 =>
 (F94 fuel () ([123] : List UInt8) y3.2).bind fun z => sumE (fun y6 =>
 (loopQ fuel (S206_6step fuel) ((), y3.1, [], y6)).bind fun z => sumE (fun y18 =>
 some (.inl y18)
 ) (fun y19 =>
 some (.inr y19)
 ) z
 ) (fun y7 =>
 some (.inr y7)
 ) z
 ) (fun y4 =>
 some (.inr y4)
 ) z
 ) (fun y2 =>
 some (.inr y2)
 ) z
def S206_6l (fuel : Nat) : LoopE := ⟨6, ⟨[0, 3, 4], [.box 82 (.agg 82 [.leaf, .leaf, (.agg 28 [.leaf, .leaf, .leaf, .leaf, .leaf, .leaf])]), .arr 9 0, .arr 63 0, .arr 127 0, .acc, .acc], [(.con (.ref 0 [] 82)), .str, (.acc 5 54), (.slice 72), (.int .i64), .str, .str, (.con (.arr 1 0 9)), (.con (.arr 2 0 63)), (.con (.arr 3 0 127)), (.acc 4 130), (.slice 9), (.slice 63), (.slice 127)]⟩, [(.ret, ⟨[2], [.box 82 (.agg 82 [.leaf, .leaf, (.agg 28 [.leaf, .leaf, .leaf, .leaf, .leaf, .leaf])]), .arr 9 0, .arr 63 0, .arr 127 0, .acc, .acc], [(.acc 5 54), (.slice 72), (.int .i64), .str, .str, (.con (.arr 1 0 9)), (.con (.arr 2 0 63)), (.con (.arr 3 0 127)), (.acc 4 130), (.slice 9), (.slice 63), (.slice 127)]⟩), (.pan, ⟨[0], [.box 82 (.agg 82 [.leaf, .leaf, (.agg 28 [.leaf, .leaf, .leaf, .leaf, .leaf, .leaf])]), .arr 9 0, .arr 63 0, .arr 127 0, .acc, .acc], [(.ifc 84), (.slice 72), (.int .i64), .str, .str, (.con (.arr 1 0 9)), (.con (.arr 2 0 63)), (.con (.arr 3 0 127)), (.acc 4 130), (.slice 9), (.slice 63), (.slice 127)]⟩)], S206_6step fuel⟩
def F206C (fuel : Nat) : Cfg := cfg Tryz.prog 23 5 [F91c fuel] [S206_6l fuel] fuel [F94p fuel, F132p fuel, F52p fuel, F119p fuel]
def F206p (fuel : Nat) : CallP := ⟨206, ⟨1, [.box 82 (.agg 82 [.leaf, .leaf, (.agg 28 [.leaf, .leaf, .leaf, .leaf, .leaf, .leaf])]), .arr 9 0, .arr 63 0, .arr 127 0, .acc], [(.con (.ref 0 [] 82)), (.slice 72), (.int .i64), .str, .str, (.con (.arr 1 0 9)), (.con (.arr 2 0 63)), (.con (.arr 3 0 127)), (.acc 4 130), (.slice 9), (.slice 63), (.slice 127)]⟩, ⟨1, [.box 82 (.agg 82 [.leaf, .leaf, (.agg 28 [.leaf, .leaf, .leaf, .leaf, .leaf, .leaf])]), .arr 9 0, .arr 63 0, .arr 127 0, .acc], [(.slice 54), (.slice 72), (.int .i64), .str, .str, (.con (.arr 1 0 9)), (.con (.arr 2 0 63)), (.con (.arr 3 0 127)), (.acc 4 130), (.slice 9), (.slice 63), (.slice 127)]⟩, ⟨1, [.box 82 (.agg 82 [.leaf, .leaf, (.agg 28 [.leaf, .leaf, .leaf, .leaf, .leaf, .leaf])]), .arr 9 0, .arr 63 0, .arr 127 0, .acc], [(.ifc 84), (.slice 72), (.int .i64), .str, .str, (.con (.arr 1 0 9)), (.con (.arr 2 0 63)), (.con (.arr 3 0 127)), (.acc 4 130), (.slice 9), (.slice 63), (.slice 127)]⟩, fun x => F206 fuel x.1 x.2, ([], [], 0, [], [], (), (), (), [], [], [], [])⟩
theorem F206k (fuel : Nat) : CallOk (F206C fuel) := cfg_callOkP (qc (F91ok fuel) <| q0) (pc (F94ok fuel) <| pc (F132ok fuel) <| pc (F52ok fuel) <| pc (F119ok fuel) <| p0)
theorem S206_6ok (fuel : Nat) : LoopOk (F206C fuel) (lp (bodyOf Tryz.f206) 0) := okL (F206k fuel) fuel (S206_6l fuel) L0
theorem F206ok (fuel : Nat) : (F206p fuel).Ok Tryz.prog := okPE Tryz.f206 (F206k fuel) (L1 (S206_6ok fuel))
def S208_3 (fuel : Nat) (a1 : Unit) (a2 : Int) (a3 : List PV) (s : Q0) : Option ((Unit × Int × (List PV) × Q0) ⊕ (((List PV) × Q0) ⊕ (PV × Q0))) :=
 (F209 fuel () a2 s).bind fun z => sumE (fun y4 =>
 let x6 := y4.1
 (F91 fuel () ([45] : List UInt8) y4.2).bind fun y7 =>
 bif y7.1 then
 (F209 fuel () a2 y7.2).bind fun z => sumE (fun y8 =>
 let x10 := y8.1
 bif decide (a3.length + [(PV.agg [(PV.int x6), (PV.int x10)])].length ≤ accMax) then
 let x11 := a3 ++ [(PV.agg [(PV.int x6), (PV.int x10)])]
 (F91 fuel () ([59] : List UInt8) y8.2).bind fun y12 =>
 bif y12.1 then
 some (.inr (.inl (x11, y12.2)))
 else
 (F94 fuel () ([44] : List UInt8) y12.2).bind fun z => sumE (fun y13 =>
 some (.inl ((), a2, x11, y13))
 ) (fun y14 =>
 some (.inr (.inr y14))
 ) z
 else none
 ) (fun y9 =>
 some (.inr (.inr y9))
 ) z
 else
 bif decide (a3.length + [(PV.agg [(PV.int x6), (PV.int x6)])].length ≤ accMax) then
 let x15 := a3 ++ [(PV.agg [(PV.int x6), (PV.int x6)])]
 (F91 fuel () ([59] : List UInt8) y7.2).bind fun y16 =>
 bif y16.1 then
 some (.inr (.inl (x15, y16.2)))
 else
 (F94 fuel () ([44] : List UInt8) y16.2).bind fun z => sumE (fun y17 =>
 some (.inl ((), a2, x15, y17))
 ) (fun y18 =>
 some (.inr (.inr y18))
 ) z
 else none
 ) (fun y5 =>
 some (.inr (.inr y5))
 ) z
def S208_3step (fuel : Nat) (x : Unit × Int × (List PV) × Q0) : Option ((Unit × Int × (List PV) × Q0) ⊕ (((List PV) × Q0) ⊕ (PV × Q0))) := S208_3 fuel x.1 x.2.1 x.2.2.1 x.2.2.2
def F208 (fuel : Nat) (a0 : Unit) (a1 : Int) (s : Q0) : Option (((List PV) × Q0) ⊕ (PV × Q0)) :=
 (loopQ fuel (S208_3step fuel) ((), a1, [], s)).bind fun z => sumE (fun y19 =>
 some (.inl y19)
 ) (fun y20 =>
 some (.inr y20)
 ) z
def S208_3l (fuel : Nat) : LoopE := ⟨3, ⟨[0, 1, 5], [.box 82 (.agg 82 [.leaf, .leaf, (.agg 28 [.leaf, .leaf, .leaf, .leaf, .leaf, .leaf])]), .arr 9 0, .arr 63 0, .arr 127 0, .acc, .acc], [(.con (.ref 0 [] 82)), (.int .u64), (.acc 5 234), (.slice 72), (.int .i64), .str, .str, (.con (.arr 1 0 9)), (.con (.arr 2 0 63)), (.con (.arr 3 0 127)), (.acc 4 130), (.slice 9), (.slice 63), (.slice 127)]⟩, [(.ret, ⟨[4], [.box 82 (.agg 82 [.leaf, .leaf, (.agg 28 [.leaf, .leaf, .leaf, .leaf, .leaf, .leaf])]), .arr 9 0, .arr 63 0, .arr 127 0, .acc, .acc], [(.acc 5 234), (.slice 72), (.int .i64), .str, .str, (.con (.arr 1 0 9)), (.con (.arr 2 0 63)), (.con (.arr 3 0 127)), (.acc 4 130), (.slice 9), (.slice 63), (.slice 127)]⟩), (.pan, ⟨[0], [.box 82 (.agg 82 [.leaf, .leaf, (.agg 28 [.leaf, .leaf, .leaf, .leaf, .leaf, .leaf])]), .arr 9 0, .arr 63 0, .arr 127 0, .acc, .acc], [(.ifc 84), (.slice 72), (.int .i64), .str, .str, (.con (.arr 1 0 9)), (.con (.arr 2 0 63)), (.con (.arr 3 0 127)), (.acc 4 130), (.slice 9), (.slice 63), (.slice 127)]⟩)], S208_3step fuel⟩
def F208C (fuel : Nat) : Cfg := cfg Tryz.prog 29 5 [F91c fuel] [S208_3l fuel] fuel [F209p fuel, F94p fuel]
def F208p (fuel : Nat) : CallP := ⟨208, ⟨2, [.box 82 (.agg 82 [.leaf, .leaf, (.agg 28 [.leaf, .leaf, .leaf, .leaf, .leaf, .leaf])]), .arr 9 0, .arr 63 0, .arr 127 0, .acc], [(.con (.ref 0 [] 82)), (.int .u64), (.slice 72), (.int .i64), .str, .str, (.con (.arr 1 0 9)), (.con (.arr 2 0 63)), (.con (.arr 3 0 127)), (.acc 4 130), (.slice 9), (.slice 63), (.slice 127)]⟩, ⟨1, [.box 82 (.agg 82 [.leaf, .leaf, (.agg 28 [.leaf, .leaf, .leaf, .leaf, .leaf, .leaf])]), .arr 9 0, .arr 63 0, .arr 127 0, .acc], [(.slice 234), (.slice 72), (.int .i64), .str, .str, (.con (.arr 1 0 9)), (.con (.arr 2 0 63)), (.con (.arr 3 0 127)), (.acc 4 130), (.slice 9), (.slice 63), (.slice 127)]⟩, ⟨1, [.box 82 (.agg 82 [.leaf, .leaf, (.agg 28 [.leaf, .leaf, .leaf, .leaf, .leaf, .leaf])]), .arr 9 0, .arr 63 0, .arr 127 0, .acc], [(.ifc 84), (.slice 72), (.int .i64), .str, .str, (.con (.arr 1 0 9)), (.con (.arr 2 0 63)), (.con (.arr 3 0 127)), (.acc 4 130), (.slice 9), (.slice 63), (.slice 127)]⟩, fun x => F208 fuel x.1 x.2.1 x.2.2, ([], [], 0, [], [], (), (), (), [], [], [], [])⟩
theorem F208k (fuel : Nat) : CallOk (F208C fuel) := cfg_callOkP (qc (F91ok fuel) <| q0) (pc (F209ok fuel) <| pc (F94ok fuel) <| p0)
theorem S208_3ok (fuel : Nat) : LoopOk (F208C fuel) (lp (bodyOf Tryz.f208) 0) := okL (F208k fuel) fuel (S208_3l fuel) L0
theorem F208ok (fuel : Nat) : (F208p fuel).Ok Tryz.prog := okPE Tryz.f208 (F208k fuel) (L1 (S208_3ok fuel))
def S98_8 (fuel : Nat) (a13 : Unit) (a14 : Unit) (a15 : Int) (s : (List PV) × Int × (List UInt8) × (List UInt8) × Unit × Unit × Unit × (List PV) × (List PV) × (List PV) × (List PV) × (List UInt8) × Bool × (List PV) × (List PV) × (List PV)) : Option ((Unit × Unit × Int × (List PV) × Int × (List UInt8) × (List UInt8) × Unit × Unit × Unit × (List PV) × (List PV) × (List PV) × (List PV) × (List UInt8) × Bool × (List PV) × (List PV) × (List PV)) ⊕ ((PV × (List PV) × Int × (List UInt8) × (List UInt8) × Unit × Unit × Unit × (List PV) × (List PV) × (List PV) × (List PV) × (List UInt8) × Bool × (List PV) × (List PV) × (List PV)) ⊕ (Unit × Unit × Int × (List PV) × Int × (List UInt8) × (List UInt8) × Unit × Unit × Unit × (List PV) × (List PV) × (List PV) × (List PV) × (List UInt8) × Bool × (List PV) × (List PV) × (List PV)))) :=
 (F91 fuel () ([125] : List UInt8) (s.1, s.2.1, s.2.2.1, s.2.2.2.1, (), (), (), s.2.2.2.2.2.2.2.1, s.2.2.2.2.2.2.2.2.1, s.2.2.2.2.2.2.2.2.2.1, s.2.2.2.2.2.2.2.2.2.2.1)).bind fun y16 =>
 bif (!y16.1) then
 (F91 fuel () ([114, 101, 115, 101, 114, 118, 101, 100] : List UInt8) y16.2).bind fun y18 =>
 bif y18.1 then
 (F208 fuel () (2147483647 : Int) y18.2).bind fun z => sumE (fun y19 =>
 bif decide (s.2.2.2.2.2.2.2.2.2.2.2.2.2.2.1.length + y19.1.length ≤ accMax) then
 some (.inl ((), (), a15, y19.2.1, y19.2.2.1, y19.2.2.2.1, y19.2.2.2.2.1, (), (), (), y19.2.2.2.2.2.2.2.2.1, y19.2.2.2.2.2.2.2.2.2.1, y19.2.2.2.2.2.2.2.2.2.2.1, y19.2.2.2.2.2.2.2.2.2.2.2, s.2.2.2.2.2.2.2.2.2.2.2.1, s.2.2.2.2.2.2.2.2.2.2.2.2.1, s.2.2.2.2.2.2.2.2.2.2.2.2.2.1, (s.2.2.2.2.2.2.2.2.2.2.2.2.2.2.1 ++ y19.1), s.2.2.2.2.2.2.2.2.2.2.2.2.2.2.2))
 else none
 ) (fun y20 =>
 some (.inr (.inl (y20.1, y20.2.1, y20.2.2.1, y20.2.2.2.1, y20.2.2.2.2.1, (), (), (), y20.2.2.2.2.2.2.2.2.1, y20.2.2.2.2.2.2.2.2.2.1, y20.2.2.2.2.2.2.2.2.2.2.1, y20.2.2.2.2.2.2.2.2.2.2.2, s.2.2.2.2.2.2.2.2.2.2.2)))
 ) z
 else
 (F132 fuel () y18.2).bind fun z => sumE (fun y22 =>
 let x24 := y22.1
 (F94 fuel () ([61] : List UInt8) y22.2).bind fun z => sumE (fun y25 =>
 (F209 fuel () (2147483647 : Int) y25).bind fun z => sumE (fun y27 =>
 (F205 fuel () y27.2).bind fun z => sumE (fun y29 =>
 (F94 fuel () ([59] : List UInt8) y29.2).bind fun z => sumE (fun y31 =>
 let x33 := y27.1
 let x34 := y29.1
 bif decide (s.2.2.2.2.2.2.2.2.2.2.2.2.2.1.length + [(PV.agg [(PV.str x24), (PV.int x33), (PV.slice x34)])].length ≤ accMax) then
 let x35 := s.2.2.2.2.2.2.2.2.2.2.2.2.2.1 ++ [(PV.agg [(PV.str x24), (PV.int x33), (PV.slice x34)])]
 some (.inl ((), (), a15, y31.1, y31.2.1, y31.2.2.1, y31.2.2.2.1, (), (), (), y31.2.2.2.2.2.2.2.1, y31.2.2.2.2.2.2.2.2.1, y31.2.2.2.2.2.2.2.2.2.1, y31.2.2.2.2.2.2.2.2.2.2, s.2.2.2.2.2.2.2.2.2.2.2.1, s.2.2.2.2.2.2.2.2.2.2.2.2.1, x35, s.2.2.2.2.2.2.2.2.2.2.2.2.2.2))
 else none
 ) (fun y32 =>
 some (.inr (.inl (y32.1, y32.2.1, y32.2.2.1, y32.2.2.2.1, y32.2.2.2.2.1, (), (), (), y32.2.2.2.2.2.2.2.2.1, y32.2.2.2.2.2.2.2.2.2.1, y32.2.2.2.2.2.2.2.2.2.2.1, y32.2.2.2.2.2.2.2.2.2.2.2, s.2.2.2.2.2.2.2.2.2.2.2)))
 ) z
 ) (fun y30 =>
 some (.inr (.inl (y30.1, y30.2.1, y30.2.2.1, y30.2.2.2.1, y30.2.2.2.2.1, (), (), (), y30.2.2.2.2.2.2.2.2.1, y30.2.2.2.2.2.2.2.2.2.1, y30.2.2.2.2.2.2.2.2.2.2.1, y30.2.2.2.2.2.2.2.2.2.2.2, s.2.2.2.2.2.2.2.2.2.2.2)))
 ) z
 ) (fun y28 =>
 some (.inr (.inl (y28.1, y28.2.1, y28.2.2.1, y28.2.2.2.1, y28.2.2.2.2.1, (), (), (), y28.2.2.2.2.2.2.2.2.1, y28.2.2.2.2.2.2.2.2.2.1, y28.2.2.2.2.2.2.2.2.2.2.1, y28.2.2.2.2.2.2.2.2.2.2.2, s.2.2.2.2.2.2.2.2.2.2.2)))
 ) z
 ) (fun y26 =>
 some (.inr (.inl (y26.1, y26.2.1, y26.2.2.1, y26.2.2.2.1, y26.2.2.2.2.1, (), (), (), y26.2.2.2.2.2.2.2.2.1, y26.2.2.2.2.2.2.2.2.2.1, y26.2.2.2.2.2.2.2.2.2.2.1, y26.2.2.2.2.2.2.2.2.2.2.2, s.2.2.2.2.2.2.2.2.2.2.2)))
 ) z
 ) (fun y23 =>
 some (.inr (.inl (y23.1, y23.2.1, y23.2.2.1, y23.2.2.2.1, y23.2.2.2.2.1, (), (), (), y23.2.2.2.2.2.2.2.2.1, y23.2.2.2.2.2.2.2.2.2.1, y23.2.2.2.2.2.2.2.2.2.2.1, y23.2.2.2.2.2.2.2.2.2.2.2, s.2.2.2.2.2.2.2.2.2.2.2)))
 ) z
 else
 some (.inr (.inr ((), (), a15, y16.2.1, y16.2.2.1, y16.2.2.2.1, y16.2.2.2.2.1, (), (), (), y16.2.2.2.2.2.2.2.2.1, y16.2.2.2.2.2.2.2.2.2.1, y16.2.2.2.2.2.2.2.2.2.2.1, y16.2.2.2.2.2.2.2.2.2.2.2, s.2.2.2.2.2.2.2.2.2.2.2)))
def S98_8step (fuel : Nat) (x : Unit × Unit × Int × (List PV) × Int × (List UInt8) × (List UInt8) × Unit × Unit × Unit × (List PV) × (List PV) × (List PV) × (List PV) × (List UInt8) × Bool × (List PV) × (List PV) × (List PV)) : Option ((Unit × Unit × Int × (List PV) × Int × (List UInt8) × (List UInt8) × Unit × Unit × Unit × (List PV) × (List PV) × (List PV) × (List PV) × (List UInt8) × Bool × (List PV) × (List PV) × (List PV)) ⊕ ((PV × (List PV) × Int × (List UInt8) × (List UInt8) × Unit × Unit × Unit × (List PV) × (List PV) × (List PV) × (List PV) × (List UInt8) × Bool × (List PV) × (List PV) × (List PV)) ⊕ (Unit × Unit × Int × (List PV) × Int × (List UInt8) × (List UInt8) × Unit × Unit × Unit × (List PV) × (List PV) × (List PV) × (List PV) × (List UInt8) × Bool × (List PV) × (List PV) × (List PV)))) := S98_8 fuel x.1 x.2.1 x.2.2.1 x.2.2.2
def F98 (fuel : Nat) (a0 : Unit) (a1 : List UInt8) (s : Q0) : Option ((Q0) ⊕ (PV × Q0)) :=
 (F91 fuel () ([111, 112, 101, 110] : List UInt8) s).bind fun y1 =>
 let x2 := y1.1
 (F94 fuel () ([101, 110, 117, 109] : List UInt8) y1.2).bind fun z => sumE (fun y3 =>
 bif decide (y3.2.2.2.2.2.2.2.2.2.2.length + [(PV.agg [(PV.str ([] : List UInt8)), (PV.bool x2), (PV.slice []), (PV.slice []), (PV.slice [])])].length ≤ accMax) then
 let x6 := y3.2.2.2.2.2.2.2.2.2.2 ++ [(PV.agg [(PV.str ([] : List UInt8)), (PV.bool x2), (PV.slice []), (PV.slice []), (PV.slice [])])]
 (F204 fuel () a1 (y3.1, y3.2.1, y3.2.2.1, y3.2.2.2.1, (), (), (), y3.2.2.2.2.2.2.2.1, y3.2.2.2.2.2.2.2.2.1, y3.2.2.2.2.2.2.2.2.2.1, x6)).bind fun z => sumE (fun y7 =>
 (F205 fuel () y7.2).bind fun z => sumE (fun y9 =>
 (F94 fuel () ([123] : List UInt8) y9.2).bind fun z => sumE (fun y11 =>
 (loopQ fuel (S98_8step fuel) ((), (), (y3.2.2.2.2.2.2.2.2.2.2.length : Int), y11.1, y11.2.1, y11.2.2.1, y11.2.2.2.1, (), (), (), y11.2.2.2.2.2.2.2.1, y11.2.2.2.2.2.2.2.2.1, y11.2.2.2.2.2.2.2.2.2.1, y11.2.2.2.2.2.2.2.2.2.2, y7.1, x2, [], [], y9.1)).bind fun z => sumE (fun y36 =>
 some (.inr (y36.1, y36.2.1, y36.2.2.1, y36.2.2.2.1, y36.2.2.2.2.1, (), (), (), y36.2.2.2.2.2.2.2.2.1, y36.2.2.2.2.2.2.2.2.2.1, y36.2.2.2.2.2.2.2.2.2.2.1, y36.2.2.2.2.2.2.2.2.2.2.2.1))
 ) (fun y37 =>
 let x38 := y37.2.2.1
 bif inRange x38 y37.2.2.2.2.2.2.2.2.2.2.2.2.2.1.length then
 let x44 := y37.2.2.2.2.2.2.2.2.2.2.2.2.2.1.set x38.toNat (PV.agg [(PV.str y37.2.2.2.2.2.2.2.2.2.2.2.2.2.2.1), (PV.bool y37.2.2.2.2.2.2.2.2.2.2.2.2.2.2.2.1), (PV.slice y37.2.2.2.2.2.2.2.2.2.2.2.2.2.2.2.2.1), (PV.slice y37.2.2.2.2.2.2.2.2.2.2.2.2.2.2.2.2.2.1), (PV.slice y37.2.2.2.2.2.2.2.2.2.2.2.2.2.2.2.2.2.2)])
 some (.inl (y37.2.2.2.1, y37.2.2.2.2.1, y37.2.2.2.2.2.1, y37.2.2.2.2.2.2.1, (), (), (), y37.2.2.2.2.2.2.2.2.2.2.1, y37.2.2.2.2.2.2.2.2.2.2.2.1, y37.2.2.2.2.2.2.2.2.2.2.2.2.1, x44))
 else none
 ) z
 ) (fun y12 =>
 some (.inr y12)
 ) z
 ) (fun y10 =>
 some (.inr y10)
 ) z
 ) (fun y8 =>
 some (.inr y8)
 ) z
 else none
 ) (fun y4 =>
 some (.inr y4)
 ) z
def S98_8l (fuel : Nat) : LoopE := ⟨8, ⟨[0, 4, 5], [.box 82 (.agg 82 [.leaf, .leaf, (.agg 28 [.leaf, .leaf, .leaf, .leaf, .leaf, .leaf])]), .arr 9 0, .arr 63 0, .arr 127 1, .acc, .box 127 (.agg 127 [.leaf, .leaf, .leaf, .leaf, .leaf]), .acc, .acc], [(.con (.ref 0 [] 82)), (.con (.ref 5 [] 127)), (.int .i64), (.slice 72), (.int .i64), .str, .str, (.con (.arr 1 0 9)), (.con (.arr 2 0 63)), (.con (.arr 3 1 127)), (.acc 4 130), (.slice 9), (.slice 63), (.slice 127), .str, .bool, (.acc 6 182), (.acc 7 234), (.slice 116)]⟩, [(.pan, ⟨[0], [.box 82 (.agg 82 [.leaf, .leaf, (.agg 28 [.leaf, .leaf, .leaf, .leaf, .leaf, .leaf])]), .arr 9 0, .arr 63 0, .arr 127 1, .acc, .box 127 (.agg 127 [.leaf, .leaf, .leaf, .leaf, .leaf]), .acc, .acc], [(.ifc 84), (.slice 72), (.int .i64), .str, .str, (.con (.arr 1 0 9)), (.con (.arr 2 0 63)), (.con (.arr 3 1 127)), (.acc 4 130), (.slice 9), (.slice 63), (.slice 127), .str, .bool, (.acc 6 182), (.acc 7 234), (.slice 116)]⟩), (.exit 0, ⟨[0, 4, 5], [.box 82 (.agg 82 [.leaf, .leaf, (.agg 28 [.leaf, .leaf, .leaf, .leaf, .leaf, .leaf])]), .arr 9 0, .arr 63 0, .arr 127 1, .acc, .box 127 (.agg 127 [.leaf, .leaf, .leaf, .leaf, .leaf]), .acc, .acc], [(.con (.ref 0 [] 82)), (.con (.ref 5 [] 127)), (.int .i64), (.slice 72), (.int .i64), .str, .str, (.con (.arr 1 0 9)), (.con (.arr 2 0 63)), (.con (.arr 3 1 127)), (.acc 4 130), (.slice 9), (.slice 63), (.slice 127), .str, .bool, (.acc 6 182), (.acc 7 234), (.slice 116)]⟩)], S98_8step fuel⟩
def F98C (fuel : Nat) : Cfg := cfg Tryz.prog 77 5 [F91c fuel] [S98_8l fuel] fuel [F94p fuel, F204p fuel, F205p fuel, F208p fuel, F132p fuel, F209p fuel]
def F98p (fuel : Nat) : CallP := ⟨98, ⟨2, [.box 82 (.agg 82 [.leaf, .leaf, (.agg 28 [.leaf, .leaf, .leaf, .leaf, .leaf, .leaf])]), .arr 9 0, .arr 63 0, .arr 127 0, .acc], [(.con (.ref 0 [] 82)), .str, (.slice 72), (.int .i64), .str, .str, (.con (.arr 1 0 9)), (.con (.arr 2 0 63)), (.con (.arr 3 0 127)), (.acc 4 130), (.slice 9), (.slice 63), (.slice 127)]⟩, ⟨0, [.box 82 (.agg 82 [.leaf, .leaf, (.agg 28 [.leaf, .leaf, .leaf, .leaf, .leaf, .leaf])]), .arr 9 0, .arr 63 0, .arr 127 1, .acc], [(.slice 72), (.int .i64), .str, .str, (.con (.arr 1 0 9)), (.con (.arr 2 0 63)), (.con (.arr 3 1 127)), (.acc 4 130), (.slice 9), (.slice 63), (.slice 127)]⟩, ⟨1, [.box 82 (.agg 82 [.leaf, .leaf, (.agg 28 [.leaf, .leaf, .leaf, .leaf, .leaf, .leaf])]), .arr 9 0, .arr 63 0, .arr 127 1, .acc], [(.ifc 84), (.slice 72), (.int .i64), .str, .str, (.con (.arr 1 0 9)), (.con (.arr 2 0 63)), (.con (.arr 3 1 127)), (.acc 4 130), (.slice 9), (.slice 63), (.slice 127)]⟩, fun x => F98 fuel x.1 x.2.1 x.2.2, ([], 0, [], [], (), (), (), [], [], [], [])⟩
theorem F98k (fuel : Nat) : CallOk (F98C fuel) := cfg_callOkP (qc (F91ok fuel) <| q0) (pc (F94ok fuel) <| pc (F204ok fuel) <| pc (F205ok fuel) <| pc (F208ok fuel) <| pc (F132ok fuel) <| pc (F209ok fuel) <| p0)
theorem S98_8ok (fuel : Nat) : LoopOk (F98C fuel) (lp (bodyOf Tryz.f98) 0) := okL (F98k fuel) fuel (S98_8l fuel) L0
theorem F98ok (fuel : Nat) : (F98p fuel).Ok Tryz.prog := okPE Tryz.f98 (F98k fuel) (L1 (S98_8ok fuel))
def S207_3 (fuel : Nat) (a1 : Unit) (a2 : List PV) (s : Q0) : Option ((Unit × (List PV) × Q0) ⊕ (((List PV) × Q0) ⊕ (PV × Q0))) :=
 (F95 fuel () s).bind fun z => sumE (fun y3 =>
 bif decide (a2.length + [(PV.str y3.1)].length ≤ accMax) then
 let x5 := a2 ++ [(PV.str y3.1)]
 (F91 fuel () ([59] : List UInt8) y3.2).bind fun y6 =>
 bif y6.1 then
 some (.inr (.inl (x5, y6.2)))
 else
 (F94 fuel () ([44] : List UInt8) y6.2).bind fun z => sumE (fun y7 =>
 some (.inl ((), x5, y7))
 ) (fun y8 =>
 some (.inr (.inr y8))
 ) z
 else none
 ) (fun y4 =>
 some (.inr (.inr y4))
 ) z
def S207_3step (fuel : Nat) (x : Unit × (List PV) × Q0) : Option ((Unit × (List PV) × Q0) ⊕ (((List PV) × Q0) ⊕ (PV × Q0))) := S207_3 fuel x.1 x.2.1 x.2.2
def F207 (fuel : Nat) (a0 : Unit) (s : Q0) : Option (((List PV) × Q0) ⊕ (PV × Q0)) :=
 (loopQ fuel (S207_3step fuel) ((), [], s)).bind fun z => sumE (fun y9 =>
 some (.inl y9)
 ) (fun y10 =>
 some (.inr y10)
 ) z
def S207_3l (fuel : Nat) : LoopE := ⟨3, ⟨[0, 3], [.box 82 (.agg 82 [.leaf, .leaf, (.agg 28 [.leaf, .leaf, .leaf, .leaf, .leaf, .leaf])]), .arr 9 0, .arr 63 0, .arr 127 0, .acc, .acc], [(.con (.ref 0 [] 82)), (.acc 5 9), (.slice 72), (.int .i64), .str, .str, (.con (.arr 1 0 9)), (.con (.arr 2 0 63)), (.con (.arr 3 0 127)), (.acc 4 130), (.slice 9), (.slice 63), (.slice 127)]⟩, [(.ret, ⟨[2], [.box 82 (.agg 82 [.leaf, .leaf, (.agg 28 [.leaf, .leaf, .leaf, .leaf, .leaf, .leaf])]), .arr 9 0, .arr 63 0, .arr 127 0, .acc, .acc], [(.acc 5 9), (.slice 72), (.int .i64), .str, .str, (.con (.arr 1 0 9)), (.con (.arr 2 0 63)), (.con (.arr 3 0 127)), (.acc 4 130), (.slice 9), (.slice 63), (.slice 127)]⟩), (.pan, ⟨[0], [.box 82 (.agg 82 [.leaf, .leaf, (.agg 28 [.leaf, .leaf, .leaf, .leaf, .leaf, .leaf])]), .arr 9 0, .arr 63 0, .arr 127 0, .acc, .acc], [(.ifc 84), (.slice 72), (.int .i64), .str, .str, (.con (.arr 1 0 9)), (.con (.arr 2 0 63)), (.con (.arr 3 0 127)), (.acc 4 130), (.slice 9), (.slice 63), (.slice 127)]⟩)], S207_3step fuel⟩
def F207C (fuel : Nat) : Cfg := cfg Tryz.prog 14 5 [F91c fuel] [S207_3l fuel] fuel [F95p fuel, F94p fuel]
def F207p (fuel : Nat) : CallP := ⟨207, ⟨1, [.box 82 (.agg 82 [.leaf, .leaf, (.agg 28 [.leaf, .leaf, .leaf, .leaf, .leaf, .leaf])]), .arr 9 0, .arr 63 0, .arr 127 0, .acc], [(.con (.ref 0 [] 82)), (.slice 72), (.int .i64), .str, .str, (.con (.arr 1 0 9)), (.con (.arr 2 0 63)), (.con (.arr 3 0 127)), (.acc 4 130), (.slice 9), (.slice 63), (.slice 127)]⟩, ⟨1, [.box 82 (.agg 82 [.leaf, .leaf, (.agg 28 [.leaf, .leaf, .leaf, .leaf, .leaf, .leaf])]), .arr 9 0, .arr 63 0, .arr 127 0, .acc], [(.slice 9), (.slice 72), (.int .i64), .str, .str, (.con (.arr 1 0 9)), (.con (.arr 2 0 63)), (.con (.arr 3 0 127)), (.acc 4 130), (.slice 9), (.slice 63), (.slice 127)]⟩, ⟨1, [.box 82 (.agg 82 [.leaf, .leaf, (.agg 28 [.leaf, .leaf, .leaf, .leaf, .leaf, .leaf])]), .arr 9 0, .arr 63 0, .arr 127 0, .acc], [(.ifc 84), (.slice 72), (.int .i64), .str, .str, (.con (.arr 1 0 9)), (.con (.arr 2 0 63)), (.con (.arr 3 0 127)), (.acc 4 130), (.slice 9), (.slice 63), (.slice 127)]⟩, fun x => F207 fuel x.1 x.2, ([], [], 0, [], [], (), (), (), [], [], [], [])⟩
theorem F207k (fuel : Nat) : CallOk (F207C fuel) := cfg_callOkP (qc (F91ok fuel) <| q0) (pc (F95ok fuel) <| pc (F94ok fuel) <| p0)
theorem S207_3ok (fuel : Nat) : LoopOk (F207C fuel) (lp (bodyOf Tryz.f207) 0) := okL (F207k fuel) fuel (S207_3l fuel) L0
theorem F207ok (fuel : Nat) : (F207p fuel).Ok Tryz.prog := okPE Tryz.f207 (F207k fuel) (L1 (S207_3ok fuel))
def F120 (fuel : Nat) (a0 : List UInt8) : Option (Int) :=
 let x1 := a0 == ([114, 101, 113, 117, 105, 114, 101, 100] : List UInt8)
 bif x1 then
 some (1 : Int)
 else
 let x2 := a0 == ([111, 112, 116, 105, 111, 110, 97, 108] : List UInt8)
 bif x2 then
 some (2 : Int)
 else
 bif (a0 == ([112, 108, 97, 105, 110] : List UInt8)) then
 some (3 : Int)
 else
 bif (a0 == ([108, 105, 115, 116] : List UInt8)) then
 some (4 : Int)
 else
 some (0 : Int)
def F120c (fuel : Nat) : CallE := ⟨120, ⟨1, [], [.str]⟩, ⟨1, [], [(.int .i64)]⟩, fun x => F120 fuel x, 0⟩
theorem F120ok (fuel : Nat) : (F120c fuel).Ok Tryz.prog := okJ Tryz.f120 12 0 fuel [] [] false (q0) (p0) L0
def F55 (fuel : Nat) (a0 : Unit) (s : Q0) : Option ((PV × Q0) ⊕ (PV × Q0)) :=
 (F91 fuel () ([109, 97, 112] : List UInt8) s).bind fun y1 =>
 bif y1.1 then
 (F94 fuel () ([60] : List UInt8) y1.2).bind fun z => sumE (fun y2 =>
 (F117 fuel () y2).bind fun y4 =>
 let x5 := y4.1 != (1 : Int)
 let x6 := y4.2.1
 let x7 := y4.2.2.1
 bif imp (!x5) (inRange x7 x6.length) then
 (bif !x5 then F18 fuel ((x6.getD x7.toNat .bad).fld 1).asStr else some 0).bind fun y11 =>
 bif (bif x5 then true else (y11 == (0 : Int))) then
 some (.inr ((PV.agg [(PV.int y4.2.2.1), (PV.int (2 : Int))]), y4.2))
 else
 let x14 := y4.2.1
 let x15 := y4.2.2.1
 bif inRange x15 x14.length then
 (F18 fuel ((x14.getD x15.toNat .bad).fld 1).asStr).bind fun y19 =>
 (F94 fuel () ([44] : List UInt8) (y4.2.1, (IntKind.wrap .i64 (y4.2.2.1 + (1 : Int))), y4.2.2.2)).bind fun z => sumE (fun y22 =>
 (F52 fuel () y22).bind fun z => sumE (fun y24 =>
 (F94 fuel () ([62] : List UInt8) y24.2).bind fun z => sumE (fun y26 =>
 (F119 fuel () (PV.agg [(PV.int (0 : Int)), (PV.str ([] : List UInt8)), (PV.int (5 : Int)), (PV.int y19), y24.1, (PV.str ([] : List UInt8)), (PV.bool false), (PV.agg [(PV.int (0 : Int)), (PV.int (0 : Int)), (PV.str ([] : List UInt8)), (PV.slice []), (PV.slice []), (PV.slice []), (PV.slice [])]), (PV.slice [])]) false y26).bind fun z => sumE (fun y29 =>
 some (.inl y29)
 ) (fun y30 =>
 some (.inr y30)
 ) z
 ) (fun y27 =>
 some (.inr y27)
 ) z
 ) (fun y25 =>
 some (.inr y25)
 ) z
 ) (fun y23 =>
 some (.inr y23)
 ) z
 else none
 else none
 ) (fun y3 =>
 some (.inr y3)
 ) z
 else
 (F117 fuel () y1.2).bind fun y31 =>
 let x32 := y31.1 != (1 : Int)
 let x33 := y31.2.1
 let x34 := y31.2.2.1
 bif imp (!x32) (inRange x34 x33.length) then
 (bif !x32 then F120 fuel ((x33.getD x34.toNat .bad).fld 1).asStr else some 0).bind fun y38 =>
 bif (bif x32 then true else (y38 == (0 : Int))) then
 some (.inr ((PV.agg [(PV.int y31.2.2.1), (PV.int (2 : Int))]), y31.2))
 else
 let x41 := y31.2.1
 let x42 := y31.2.2.1
 bif inRange x42 x41.length then
 (F120 fuel ((x41.getD x42.toNat .bad).fld 1).asStr).bind fun y46 =>
 (F52 fuel () (y31.2.1, (IntKind.wrap .i64 (y31.2.2.1 + (1 : Int))), y31.2.2.2)).bind fun z => sumE (fun y49 =>
 (F119 fuel () (PV.agg [(PV.int (0 : Int)), (PV.str ([] : List UInt8)), (PV.int y46), (PV.int (0 : Int)), y49.1, (PV.str ([] : List UInt8)), (PV.bool false), (PV.agg [(PV.int (0 : Int)), (PV.int (0 : Int)), (PV.str ([] : List UInt8)), (PV.slice []), (PV.slice []), (PV.slice []), (PV.slice [])]), (PV.slice [])]) true y49.2).bind fun z => sumE (fun y52 =>
 some (.inl y52)
 ) (fun y53 =>
 some (.inr y53)
 ) z
 ) (fun y50 =>
 some (.inr y50)
 ) z
 else none
 else none
def F55p (fuel : Nat) : CallP := ⟨55, ⟨1, [.box 82 (.agg 82 [.leaf, .leaf, (.agg 28 [.leaf, .leaf, .leaf, .leaf, .leaf, .leaf])]), .arr 9 0, .arr 63 0, .arr 127 0, .acc], [(.con (.ref 0 [] 82)), (.slice 72), (.int .i64), .str, .str, (.con (.arr 1 0 9)), (.con (.arr 2 0 63)), (.con (.arr 3 0 127)), (.acc 4 130), (.slice 9), (.slice 63), (.slice 127)]⟩, ⟨1, [.box 82 (.agg 82 [.leaf, .leaf, (.agg 28 [.leaf, .leaf, .leaf, .leaf, .leaf, .leaf])]), .arr 9 0, .arr 63 0, .arr 127 0, .acc], [(.data 54), (.slice 72), (.int .i64), .str, .str, (.con (.arr 1 0 9)), (.con (.arr 2 0 63)), (.con (.arr 3 0 127)), (.acc 4 130), (.slice 9), (.slice 63), (.slice 127)]⟩, ⟨1, [.box 82 (.agg 82 [.leaf, .leaf, (.agg 28 [.leaf, .leaf, .leaf, .leaf, .leaf, .leaf])]), .arr 9 0, .arr 63 0, .arr 127 0, .acc], [(.ifc 84), (.slice 72), (.int .i64), .str, .str, (.con (.arr 1 0 9)), (.con (.arr 2 0 63)), (.con (.arr 3 0 127)), (.acc 4 130), (.slice 9), (.slice 63), (.slice 127)]⟩, fun x => F55 fuel x.1 x.2, (PV.bad, [], 0, [], [], (), (), (), [], [], [], [])⟩
theorem F55ok (fuel : Nat) : (F55p fuel).Ok Tryz.prog := okPJ Tryz.f55 106 5 fuel [F91c fuel, F117c fuel, F18c fuel, F120c fuel] [F94p fuel, F118p fuel, F52p fuel, F119p fuel] false (qc (F91ok fuel) <| qc (F117ok fuel) <| qc (F18ok fuel) <| qc (F120ok fuel) <| q0) (pc (F94ok fuel) <| pc (F118ok fuel) <| pc (F52ok fuel) <| pc (F119ok fuel) <| p0) L0
def B97p (r : (Unit × (List UInt8) × Int × Q0) → Option ((Q0) ⊕ (PV × Q0))) : CallP := ⟨97, ⟨3, [.box 82 (.agg 82 [.leaf, .leaf, (.agg 28 [.leaf, .leaf, .leaf, .leaf, .leaf, .leaf])]), .arr 9 0, .arr 63 0, .arr 127 0, .acc], [(.con (.ref 0 [] 82)), .str, (.int .i64), (.slice 72), (.int .i64), .str, .str, (.con (.arr 1 0 9)), (.con (.arr 2 0 63)), (.con (.arr 3 0 127)), (.acc 4 130), (.slice 9), (.slice 63), (.slice 127)]⟩, ⟨0, [.box 82 (.agg 82 [.leaf, .leaf, (.agg 28 [.leaf, .leaf, .leaf, .leaf, .leaf, .leaf])]), .arr 9 0, .arr 63 1, .arr 127 1, .acc], [(.slice 72), (.int .i64), .str, .str, (.con (.arr 1 0 9)), (.con (.arr 2 1 63)), (.con (.arr 3 1 127)), (.acc 4 130), (.slice 9), (.slice 63), (.slice 127)]⟩, ⟨1, [.box 82 (.agg 82 [.leaf, .leaf, (.agg 28 [.leaf, .leaf, .leaf, .leaf, .leaf, .leaf])]), .arr 9 0, .arr 63 1, .arr 127 1, .acc], [(.ifc 84), (.slice 72), (.int .i64), .str, .str, (.con (.arr 1 0 9)), (.con (.arr 2 1 63)), (.con (.arr 3 1 127)), (.acc 4 130), (.slice 9), (.slice 63), (.slice 127)]⟩, r, ([], 0, [], [], (), (), (), [], [], [], [])⟩
def B97_9 (fuel : Nat) (r0 : (Unit × (List UInt8) × Int × Q0) → Option ((Q0) ⊕ (PV × Q0))) (a29 : Unit) (a30 : Int) (a31 : Int) (a32 : Unit) (s : (List PV) × Int × (List UInt8) × (List UInt8) × Unit × Unit × Unit × (List PV) × (List PV) × (List PV) × (List PV) × (List UInt8) × (List PV) × (List PV) × (List PV) × (List PV)) : Option ((Unit × Int × Int × Unit × (List PV) × Int × (List UInt8) × (List UInt8) × Unit × Unit × Unit × (List PV) × (List PV) × (List PV) × (List PV) × (List UInt8) × (List PV) × (List PV) × (List PV) × (List PV)) ⊕ ((PV × (List PV) × Int × (List UInt8) × (List UInt8) × Unit × Unit × Unit × (List PV) × (List PV) × (List PV) × (List PV) × (List UInt8) × (List PV) × (List PV) × (List PV) × (List PV)) ⊕ (Unit × Int × Unit × (List PV) × Int × (List UInt8) × (List UInt8) × Unit × Unit × Unit × (List PV) × (List PV) × (List PV) × (List PV) × (List UInt8) × (List PV) × (List PV) × (List PV) × (List PV)))) :=
 (F91 fuel () ([125] : List UInt8) (s.1, s.2.1, s.2.2.1, s.2.2.2.1, (), (), (), s.2.2.2.2.2.2.2.1, s.2.2.2.2.2.2.2.2.1, s.2.2.2.2.2.2.2.2.2.1, s.2.2.2.2.2.2.2.2.2.2.1)).bind fun y33 =>
 bif (!y33.1) then
 (F96 fuel () ([117, 110, 105, 111, 110] : List UInt8) y33.2).bind fun y35 =>
 bif y35.1 then
 (F206 fuel () y35.2).bind fun z => sumE (fun y37 =>
 bif decide (s.2.2.2.2.2.2.2.2.2.2.2.2.1.length + y37.1.length ≤ accMax) then
 some (.inl ((), a30, a31, (), y37.2.1, y37.2.2.1, y37.2.2.2.1, y37.2.2.2.2.1, (), (), (), y37.2.2.2.2.2.2.2.2.1, y37.2.2.2.2.2.2.2.2.2.1, y37.2.2.2.2.2.2.2.2.2.2.1, y37.2.2.2.2.2.2.2.2.2.2.2, s.2.2.2.2.2.2.2.2.2.2.2.1, (s.2.2.2.2.2.2.2.2.2.2.2.2.1 ++ y37.1), s.2.2.2.2.2.2.2.2.2.2.2.2.2))
 else none
 ) (fun y38 =>
 some (.inr (.inl (y38.1, y38.2.1, y38.2.2.1, y38.2.2.2.1, y38.2.2.2.2.1, (), (), (), y38.2.2.2.2.2.2.2.2.1, y38.2.2.2.2.2.2.2.2.2.1, y38.2.2.2.2.2.2.2.2.2.2.1, y38.2.2.2.2.2.2.2.2.2.2.2, s.2.2.2.2.2.2.2.2.2.2.2)))
 ) z
 else
 (F96 fuel () ([109, 101, 115, 115, 97, 103, 101] : List UInt8) y35.2).bind fun y40 =>
 bif y40.1 then
 (r0 ((), s.2.2.2.2.2.2.2.2.2.2.2.1, (IntKind.wrap .i64 (a30 + (1 : Int))), y40.2)).bind fun z => sumE (fun y43 =>
 some (.inl ((), a30, a31, (), y43.1, y43.2.1, y43.2.2.1, y43.2.2.2.1, (), (), (), y43.2.2.2.2.2.2.2.1, y43.2.2.2.2.2.2.2.2.1, y43.2.2.2.2.2.2.2.2.2.1, y43.2.2.2.2.2.2.2.2.2.2, s.2.2.2.2.2.2.2.2.2.2.2))
 ) (fun y44 =>
 some (.inr (.inl (y44.1, y44.2.1, y44.2.2.1, y44.2.2.2.1, y44.2.2.2.2.1, (), (), (), y44.2.2.2.2.2.2.2.2.1, y44.2.2.2.2.2.2.2.2.2.1, y44.2.2.2.2.2.2.2.2.2.2.1, y44.2.2.2.2.2.2.2.2.2.2.2, s.2.2.2.2.2.2.2.2.2.2.2)))
 ) z
 else
 (F96 fuel () ([101, 110, 117, 109] : List UInt8) y40.2).bind fun y45 =>
 let x46 := y45.1
 bif !x46 then
 (F96 fuel () ([111, 112, 101, 110] : List UInt8) y45.2).bind fun y47 =>
 bif (bif x46 then true else y47.1) then
 (F98 fuel () s.2.2.2.2.2.2.2.2.2.2.2.1 y47.2).bind fun z => sumE (fun y49 =>
 some (.inl ((), a30, a31, (), y49.1, y49.2.1, y49.2.2.1, y49.2.2.2.1, (), (), (), y49.2.2.2.2.2.2.2.1, y49.2.2.2.2.2.2.2.2.1, y49.2.2.2.2.2.2.2.2.2.1, y49.2.2.2.2.2.2.2.2.2.2, s.2.2.2.2.2.2.2.2.2.2.2))
 ) (fun y50 =>
 some (.inr (.inl (y50.1, y50.2.1, y50.2.2.1, y50.2.2.2.1, y50.2.2.2.2.1, (), (), (), y50.2.2.2.2.2.2.2.2.1, y50.2.2.2.2.2.2.2.2.2.1, y50.2.2.2.2.2.2.2.2.2.2.1, y50.2.2.2.2.2.2.2.2.2.2.2, s.2.2.2.2.2.2.2.2.2.2.2)))
 ) z
 else
 (F91 fuel () ([114, 101, 115, 101, 114, 118, 101, 100] : List UInt8) y47.2).bind fun y51 =>
 bif y51.1 then
 (F117 fuel () y51.2).bind fun y53 =>
 bif (y53.1 == (3 : Int)) then
 (F207 fuel () y53.2).bind fun z => sumE (fun y55 =>
 bif decide (s.2.2.2.2.2.2.2.2.2.2.2.2.2.2.1.length + y55.1.length ≤ accMax) then
 some (.inl ((), a30, a31, (), y55.2.1, y55.2.2.1, y55.2.2.2.1, y55.2.2.2.2.1, (), (), (), y55.2.2.2.2.2.2.2.2.1, y55.2.2.2.2.2.2.2.2.2.1, y55.2.2.2.2.2.2.2.2.2.2.1, y55.2.2.2.2.2.2.2.2.2.2.2, s.2.2.2.2.2.2.2.2.2.2.2.1, s.2.2.2.2.2.2.2.2.2.2.2.2.1, s.2.2.2.2.2.2.2.2.2.2.2.2.2.1, (s.2.2.2.2.2.2.2.2.2.2.2.2.2.2.1 ++ y55.1), s.2.2.2.2.2.2.2.2.2.2.2.2.2.2.2))
 else none
 ) (fun y56 =>
 some (.inr (.inl (y56.1, y56.2.1, y56.2.2.1, y56.2.2.2.1, y56.2.2.2.2.1, (), (), (), y56.2.2.2.2.2.2.2.2.1, y56.2.2.2.2.2.2.2.2.2.1, y56.2.2.2.2.2.2.2.2.2.2.1, y56.2.2.2.2.2.2.2.2.2.2.2, s.2.2.2.2.2.2.2.2.2.2.2)))
 ) z
 else
 (F208 fuel () (65535 : Int) y53.2).bind fun z => sumE (fun y58 =>
 bif decide (s.2.2.2.2.2.2.2.2.2.2.2.2.2.1.length + y58.1.length ≤ accMax) then
 some (.inl ((), a30, a31, (), y58.2.1, y58.2.2.1, y58.2.2.2.1, y58.2.2.2.2.1, (), (), (), y58.2.2.2.2.2.2.2.2.1, y58.2.2.2.2.2.2.2.2.2.1, y58.2.2.2.2.2.2.2.2.2.2.1, y58.2.2.2.2.2.2.2.2.2.2.2, s.2.2.2.2.2.2.2.2.2.2.2.1, s.2.2.2.2.2.2.2.2.2.2.2.2.1, (s.2.2.2.2.2.2.2.2.2.2.2.2.2.1 ++ y58.1), s.2.2.2.2.2.2.2.2.2.2.2.2.2.2))
 else none
 ) (fun y59 =>
 some (.inr (.inl (y59.1, y59.2.1, y59.2.2.1, y59.2.2.2.1, y59.2.2.2.2.1, (), (), (), y59.2.2.2.2.2.2.2.2.1, y59.2.2.2.2.2.2.2.2.2.1, y59.2.2.2.2.2.2.2.2.2.2.1, y59.2.2.2.2.2.2.2.2.2.2.2, s.2.2.2.2.2.2.2.2.2.2.2)))
 ) z
 else
 (F55 fuel () y51.2).bind fun z => sumE (fun y61 =>
 bif decide (s.2.2.2.2.2.2.2.2.2.2.2.2.1.length + [y61.1].length ≤ accMax) then
 some (.inl ((), a30, a31, (), y61.2.1, y61.2.2.1, y61.2.2.2.1, y61.2.2.2.2.1, (), (), (), y61.2.2.2.2.2.2.2.2.1, y61.2.2.2.2.2.2.2.2.2.1, y61.2.2.2.2.2.2.2.2.2.2.1, y61.2.2.2.2.2.2.2.2.2.2.2, s.2.2.2.2.2.2.2.2.2.2.2.1, (s.2.2.2.2.2.2.2.2.2.2.2.2.1 ++ [y61.1]), s.2.2.2.2.2.2.2.2.2.2.2.2.2))
 else none
 ) (fun y62 =>
 some (.inr (.inl (y62.1, y62.2.1, y62.2.2.1, y62.2.2.2.1, y62.2.2.2.2.1, (), (), (), y62.2.2.2.2.2.2.2.2.1, y62.2.2.2.2.2.2.2.2.2.1, y62.2.2.2.2.2.2.2.2.2.2.1, y62.2.2.2.2.2.2.2.2.2.2.2, s.2.2.2.2.2.2.2.2.2.2.2)))
 ) z
 else
 bif (bif x46 then true else false) then
 (F98 fuel () s.2.2.2.2.2.2.2.2.2.2.2.1 y45.2).bind fun z => sumE (fun y65 =>
 some (.inl ((), a30, a31, (), y65.1, y65.2.1, y65.2.2.1, y65.2.2.2.1, (), (), (), y65.2.2.2.2.2.2.2.1, y65.2.2.2.2.2.2.2.2.1, y65.2.2.2.2.2.2.2.2.2.1, y65.2.2.2.2.2.2.2.2.2.2, s.2.2.2.2.2.2.2.2.2.2.2))
 ) (fun y66 =>
 some (.inr (.inl (y66.1, y66.2.1, y66.2.2.1, y66.2.2.2.1, y66.2.2.2.2.1, (), (), (), y66.2.2.2.2.2.2.2.2.1, y66.2.2.2.2.2.2.2.2.2.1, y66.2.2.2.2.2.2.2.2.2.2.1, y66.2.2.2.2.2.2.2.2.2.2.2, s.2.2.2.2.2.2.2.2.2.2.2)))
 ) z
 else
 (F91 fuel () ([114, 101, 115, 101, 114, 118, 101, 100] : List UInt8) y45.2).bind fun y67 =>
 bif y67.1 then
 (F117 fuel () y67.2).bind fun y69 =>
 bif (y69.1 == (3 : Int)) then
 (F207 fuel () y69.2).bind fun z => sumE (fun y71 =>
 bif decide (s.2.2.2.2.2.2.2.2.2.2.2.2.2.2.1.length + y71.1.length ≤ accMax) then
 some (.inl ((), a30, a31, (), y71.2.1, y71.2.2.1, y71.2.2.2.1, y71.2.2.2.2.1, (), (), (), y71.2.2.2.2.2.2.2.2.1, y71.2.2.2.2.2.2.2.2.2.1, y71.2.2.2.2.2.2.2.2.2.2.1, y71.2.2.2.2.2.2.2.2.2.2.2, s.2.2.2.2.2.2.2.2.2.2.2.1, s.2.2.2.2.2.2.2.2.2.2.2.2.1, s.2.2.2.2.2.2.2.2.2.2.2.2.2.1, (s.2.2.2.2.2.2.2.2.2.2.2.2.2.2.1 ++ y71.1), s.2.2.2.2.2.2.2.2.2.2.2.2.2.2.2))
 else none
 ) (fun y72 =>
 some (.inr (.inl (y72.1, y72.2.1, y72.2.2.1, y72.2.2.2.1, y72.2.2.2.2.1, (), (), (), y72.2.2.2.2.2.2.2.2.1, y72.2.2.2.2.2.2.2.2.2.1, y72.2.2.2.2.2.2.2.2.2.2.1, y72.2.2.2.2.2.2.2.2.2.2.2, s.2.2.2.2.2.2.2.2.2.2.2)))
 ) z
 else
 (F208 fuel () (65535 : Int) y69.2).bind fun z => sumE (fun y74 =>
 bif decide (s.2.2.2.2.2.2.2.2.2.2.2.2.2.1.length + y74.1.length ≤ accMax) then
 some (.inl ((), a30, a31, (), y74.2.1, y74.2.2.1, y74.2.2.2.1, y74.2.2.2.2.1, (), (), (), y74.2.2.2.2.2.2.2.2.1, y74.2.2.2.2.2.2.2.2.2.1, y74.2.2.2.2.2.2.2.2.2.2.1, y74.2.2.2.2.2.2.2.2.2.2.2, s.2.2.2.2.2.2.2.2.2.2.2.1, s.2.2.2.2.2.2.2.2.2.2.2.2.1, (s.2.2.2.2.2.2.2.2.2.2.2.2.2.1 ++ y74.1), s.2.2.2.2.2.2.2.2.2.2.2.2.2.2))
 else none
 ) (fun y75 =>
 some (.inr (.inl (y75.1, y75.2.1, y75.2.2.1, y75.2.2.2.1, y75.2.2.2.2.1, (), (), (), y75.2.2.2.2.2.2.2.2.1, y75.2.2.2.2.2.2.2.2.2.1, y75.2.2.2.2.2.2.2.2.2.2.1, y75.2.2.2.2.2.2.2.2.2.2.2, s.2.2.2.2.2.2.2.2.2.2.2)))
 ) z
 else
 (F55 fuel () y67.2).bind fun z => sumE (fun y77 =>
 bif decide (s.2.2.2.2.2.2.2.2.2.2.2.2.1.length + [y77.1].length ≤ accMax) then
 some (.inl ((), a30, a31, (), y77.2.1, y77.2.2.1, y77.2.2.2.1, y77.2.2.2.2.1, (), (), (), y77.2.2.2.2.2.2.2.2.1, y77.2.2.2.2.2.2.2.2.2.1, y77.2.2.2.2.2.2.2.2.2.2.1, y77.2.2.2.2.2.2.2.2.2.2.2, s.2.2.2.2.2.2.2.2.2.2.2.1, (s.2.2.2.2.2.2.2.2.2.2.2.2.1 ++ [y77.1]), s.2.2.2.2.2.2.2.2.2.2.2.2.2))
 else none
 ) (fun y78 =>
 some (.inr (.inl (y78.1, y78.2.1, y78.2.2.1, y78.2.2.2.1, y78.2.2.2.2.1, (), (), (), y78.2.2.2.2.2.2.2.2.1, y78.2.2.2.2.2.2.2.2.2.1, y78.2.2.2.2.2.2.2.2.2.2.1, y78.2.2.2.2.2.2.2.2.2.2.2, s.2.2.2.2.2.2.2.2.2.2.2)))
 ) z
 else
 some (.inr (.inr ((), a31, (), y33.2.1, y33.2.2.1, y33.2.2.2.1, y33.2.2.2.2.1, (), (), (), y33.2.2.2.2.2.2.2.2.1, y33.2.2.2.2.2.2.2.2.2.1, y33.2.2.2.2.2.2.2.2.2.2.1, y33.2.2.2.2.2.2.2.2.2.2.2, s.2.2.2.2.2.2.2.2.2.2.2)))
def B97_9step (fuel : Nat) (r0 : (Unit × (List UInt8) × Int × Q0) → Option ((Q0) ⊕ (PV × Q0))) (x : Unit × Int × Int × Unit × (List PV) × Int × (List UInt8) × (List UInt8) × Unit × Unit × Unit × (List PV) × (List PV) × (List PV) × (List PV) × (List UInt8) × (List PV) × (List PV) × (List PV) × (List PV)) : Option ((Unit × Int × Int × Unit × (List PV) × Int × (List UInt8) × (List UInt8) × Unit × Unit × Unit × (List PV) × (List PV) × (List PV) × (List PV) × (List UInt8) × (List PV) × (List PV) × (List PV) × (List PV)) ⊕ ((PV × (List PV) × Int × (List UInt8) × (List UInt8) × Unit × Unit × Unit × (List PV) × (List PV) × (List PV) × (List PV) × (List UInt8) × (List PV) × (List PV) × (List PV) × (List PV)) ⊕ (Unit × Int × Unit × (List PV) × Int × (List UInt8) × (List UInt8) × Unit × Unit × Unit × (List PV) × (List PV) × (List PV) × (List PV) × (List UInt8) × (List PV) × (List PV) × (List PV) × (List PV)))) := B97_9 fuel r0 x.1 x.2.1 x.2.2.1 x.2.2.2.1 x.2.2.2.2
def B97 (fuel : Nat) (r0 : (Unit × (List UInt8) × Int × Q0) → Option ((Q0) ⊕ (PV × Q0))) (a0 : Unit) (a1 : List UInt8) (a2 : Int) (s : Q0) : Option ((Q0) ⊕ (PV × Q0)) :=
 bif (decide (a2 ≥ (16 : Int))) then
 some (.inr ((PV.agg [(PV.int s.2.1), (PV.int (17 : Int))]), s))
 else
 (F94 fuel () ([109, 101, 115, 115, 97, 103, 101] : List UInt8) s).bind fun z => sumE (fun y2 =>
 (F204 fuel () a1 y2).bind fun z => sumE (fun y5 =>
 let x7 := y5.1
 bif decide (y5.2.2.2.2.2.2.2.2.2.2.1.length + [(PV.agg [(PV.str x7), (PV.slice []), (PV.slice []), (PV.slice []), (PV.slice [])])].length ≤ accMax) then
 let x8 := y5.2.2.2.2.2.2.2.2.2.2.1 ++ [(PV.agg [(PV.str x7), (PV.slice []), (PV.slice []), (PV.slice []), (PV.slice [])])]
 (F205 fuel () (y5.2.1, y5.2.2.1, y5.2.2.2.1, y5.2.2.2.2.1, (), (), (), y5.2.2.2.2.2.2.2.2.1, y5.2.2.2.2.2.2.2.2.2.1, x8, y5.2.2.2.2.2.2.2.2.2.2.2)).bind fun z => sumE (fun y9 =>
 (F94 fuel () ([123] : List UInt8) y9.2).bind fun z => sumE (fun y11 =>
 (loopQ fuel (B97_9step fuel r0) ((), a2, (y2.2.2.2.2.2.2.2.2.2.1.length : Int), (), y11.1, y11.2.1, y11.2.2.1, y11.2.2.2.1, (), (), (), y11.2.2.2.2.2.2.2.1, y11.2.2.2.2.2.2.2.2.1, y11.2.2.2.2.2.2.2.2.2.1, y11.2.2.2.2.2.2.2.2.2.2, x7, [], [], [], y9.1)).bind fun z => sumE (fun y80 =>
 some (.inr (y80.1, y80.2.1, y80.2.2.1, y80.2.2.2.1, y80.2.2.2.2.1, (), (), (), y80.2.2.2.2.2.2.2.2.1, y80.2.2.2.2.2.2.2.2.2.1, y80.2.2.2.2.2.2.2.2.2.2.1, y80.2.2.2.2.2.2.2.2.2.2.2.1))
 ) (fun y81 =>
 let x82 := y81.2.1
 bif inRange x82 y81.2.2.2.2.2.2.2.2.2.2.2.2.1.length then
 let x88 := y81.2.2.2.2.2.2.2.2.2.2.2.2.1.set x82.toNat (PV.agg [(PV.str y81.2.2.2.2.2.2.2.2.2.2.2.2.2.2.1), (PV.slice y81.2.2.2.2.2.2.2.2.2.2.2.2.2.2.2.1), (PV.slice y81.2.2.2.2.2.2.2.2.2.2.2.2.2.2.2.2.1), (PV.slice y81.2.2.2.2.2.2.2.2.2.2.2.2.2.2.2.2.2.1), (PV.slice y81.2.2.2.2.2.2.2.2.2.2.2.2.2.2.2.2.2.2)])
 some (.inl (y81.2.2.2.1, y81.2.2.2.2.1, y81.2.2.2.2.2.1, y81.2.2.2.2.2.2.1, (), (), (), y81.2.2.2.2.2.2.2.2.2.2.1, y81.2.2.2.2.2.2.2.2.2.2.2.1, x88, y81.2.2.2.2.2.2.2.2.2.2.2.2.2.1))
 else none
 ) z
 ) (fun y12 =>
 some (.inr y12)
 ) z
 ) (fun y10 =>
 some (.inr y10)
 ) z
 else none
 ) (fun y6 =>
 some (.inr y6)
 ) z
 ) (fun y3 =>
 some (.inr y3)
 ) z
def B97_9l (fuel : Nat) (r0 : (Unit × (List UInt8) × Int × Q0) → Option ((Q0) ⊕ (PV × Q0))) : LoopE := ⟨9, ⟨[0, 2, 6, 7], [.box 82 (.agg 82 [.leaf, .leaf, (.agg 28 [.leaf, .leaf, .leaf, .leaf, .leaf, .leaf])]), .arr 9 0, .arr 63 1, .arr 127 1, .acc, .box 63 (.agg 63 [.leaf, .leaf, .leaf, .leaf, .leaf]), .acc, .acc, .acc], [(.con (.ref 0 [] 82)), (.int .i64), (.int .i64), (.con (.ref 5 [] 63)), (.slice 72), (.int .i64), .str, .str, (.con (.arr 1 0 9)), (.con (.arr 2 1 63)), (.con (.arr 3 1 127)), (.acc 4 130), (.slice 9), (.slice 63), (.slice 127), .str, (.acc 6 54), (.acc 7 234), (.acc 8 9), (.slice 116)]⟩, [(.pan, ⟨[0], [.box 82 (.agg 82 [.leaf, .leaf, (.agg 28 [.leaf, .leaf, .leaf, .leaf, .leaf, .leaf])]), .arr 9 0, .arr 63 1, .arr 127 1, .acc, .box 63 (.agg 63 [.leaf, .leaf, .leaf, .leaf, .leaf]), .acc, .acc, .acc], [(.ifc 84), (.slice 72), (.int .i64), .str, .str, (.con (.arr 1 0 9)), (.con (.arr 2 1 63)), (.con (.arr 3 1 127)), (.acc 4 130), (.slice 9), (.slice 63), (.slice 127), .str, (.acc 6 54), (.acc 7 234), (.acc 8 9), (.slice 116)]⟩), (.exit 0, ⟨[0, 6, 7], [.box 82 (.agg 82 [.leaf, .leaf, (.agg 28 [.leaf, .leaf, .leaf, .leaf, .leaf, .leaf])]), .arr 9 0, .arr 63 1, .arr 127 1, .acc, .box 63 (.agg 63 [.leaf, .leaf, .leaf, .leaf, .leaf]), .acc, .acc, .acc], [(.con (.ref 0 [] 82)), (.int .i64), (.con (.ref 5 [] 63)), (.slice 72), (.int .i64), .str, .str, (.con (.arr 1 0 9)), (.con (.arr 2 1 63)), (.con (.arr 3 1 127)), (.acc 4 130), (.slice 9), (.slice 63), (.slice 127), .str, (.acc 6 54), (.acc 7 234), (.acc 8 9), (.slice 116)]⟩)], B97_9step fuel r0⟩
def B97C (fuel : Nat) (r0 : (Unit × (List UInt8) × Int × Q0) → Option ((Q0) ⊕ (PV × Q0))) : Cfg := cfg Tryz.prog 106 5 [F91c fuel, F96c fuel, F117c fuel] [B97_9l fuel r0] fuel [F118p fuel, F94p fuel, F204p fuel, F205p fuel, F206p fuel, B97p r0, F98p fuel, F207p fuel, F208p fuel, F55p fuel]
theorem B97k (fuel : Nat) (r0 : (Unit × (List UInt8) × Int × Q0) → Option ((Q0) ⊕ (PV × Q0))) (h0 : (B97p r0).Ok Tryz.prog) : CallOk (B97C fuel r0) := cfg_callOkP (qc (F91ok fuel) <| qc (F96ok fuel) <| qc (F117ok fuel) <| q0) (pc (F118ok fuel) <| pc (F94ok fuel) <| pc (F204ok fuel) <| pc (F205ok fuel) <| pc (F206ok fuel) <| pc h0 <| pc (F98ok fuel) <| pc (F207ok fuel) <| pc (F208ok fuel) <| pc (F55ok fuel) <| p0)
theorem B97_9ok (fuel : Nat) (r0 : (Unit × (List UInt8) × Int × Q0) → Option ((Q0) ⊕ (PV × Q0))) (h0 : (B97p r0).Ok Tryz.prog) : LoopOk (B97C fuel r0) (lp (bodyOf Tryz.f97) 0) := okL (B97k fuel r0 h0) fuel (B97_9l fuel r0) L0
theorem B97ok (fuel : Nat) (r0 : (Unit × (List UInt8) × Int × Q0) → Option ((Q0) ⊕ (PV × Q0))) (h0 : (B97p r0).Ok Tryz.prog) : (B97p (fun x => B97 fuel r0 x.1 x.2.1 x.2.2.1 x.2.2.2)).Ok Tryz.prog := okPE Tryz.f97 (B97k fuel r0 h0) (L1 (B97_9ok fuel r0 h0))
def G97 (fuel : Nat) : Nat → ((Unit × (List UInt8) × Int × Q0) → Option ((Q0) ⊕ (PV × Q0)))
 | 0 => fun _ => none
 | d + 1 => fun x => B97 fuel (G97 fuel d) x.1 x.2.1 x.2.2.1 x.2.2.2
theorem G97ok (fuel : Nat) : ∀ d, (B97p (G97 fuel d)).Ok Tryz.prog
 | 0 => okNoneP
 | d + 1 => B97ok fuel (G97 fuel d) (G97ok fuel d)
def F97 (fuel : Nat) (a0 : Unit) (a1 : List UInt8) (a2 : Int) (s : Q0) : Option ((Q0) ⊕ (PV × Q0)) := limQ fuel (fun d => (G97 fuel d)) (a0, a1, a2, s)
def F97p (fuel : Nat) : CallP := ⟨97, ⟨3, [.box 82 (.agg 82 [.leaf, .leaf, (.agg 28 [.leaf, .leaf, .leaf, .leaf, .leaf, .leaf])]), .arr 9 0, .arr 63 0, .arr 127 0, .acc], [(.con (.ref 0 [] 82)), .str, (.int .i64), (.slice 72), (.int .i64), .str, .str, (.con (.arr 1 0 9)), (.con (.arr 2 0 63)), (.con (.arr 3 0 127)), (.acc 4 130), (.slice 9), (.slice 63), (.slice 127)]⟩, ⟨0, [.box 82 (.agg 82 [.leaf, .leaf, (.agg 28 [.leaf, .leaf, .leaf, .leaf, .leaf, .leaf])]), .arr 9 0, .arr 63 1, .arr 127 1, .acc], [(.slice 72), (.int .i64), .str, .str, (.con (.arr 1 0 9)), (.con (.arr 2 1 63)), (.con (.arr 3 1 127)), (.acc 4 130), (.slice 9), (.slice 63), (.slice 127)]⟩, ⟨1, [.box 82 (.agg 82 [.leaf, .leaf, (.agg 28 [.leaf, .leaf, .leaf, .leaf, .leaf, .leaf])]), .arr 9 0, .arr 63 1, .arr 127 1, .acc], [(.ifc 84), (.slice 72), (.int .i64), .str, .str, (.con (.arr 1 0 9)), (.con (.arr 2 1 63)), (.con (.arr 3 1 127)), (.acc 4 130), (.slice 9), (.slice 63), (.slice 127)]⟩, fun x => F97 fuel x.1 x.2.1 x.2.2.1 x.2.2.2, ([], 0, [], [], (), (), (), [], [], [], [])⟩
theorem F97ok (fuel : Nat) : (F97p fuel).Ok Tryz.prog := okLimP (F97p fuel) (G := (fun d => (G97 fuel d))) (fun x => rfl) (fun d => (G97ok fuel d))
def F289 (fuel : Nat) (a0 : Unit) (s : Q0) : Option ((Bool × (List UInt8) × Q0) ⊕ (PV × Q0)) :=
 (F94 fuel () ([40] : List UInt8) s).bind fun z => sumE (fun y1 =>
 (F91 fuel () ([115, 116, 114, 101, 97, 109] : List UInt8) y1).bind fun y3 =>
 (F115 fuel () y3.2).bind fun z => sumE (fun y5 =>
 (F94 fuel () ([41] : List UInt8) y5.2).bind fun z => sumE (fun y8 =>
 some (.inl (y3.1, y5.1, y8))
 ) (fun y9 =>
 some (.inr y9)
 ) z
 ) (fun y6 =>
 some (.inr y6)
 ) z
 ) (fun y2 =>
 some (.inr y2)
 ) z
def F289p (fuel : Nat) : CallP := ⟨289, ⟨1, [.box 82 (.agg 82 [.leaf, .leaf, (.agg 28 [.leaf, .leaf, .leaf, .leaf, .leaf, .leaf])]), .arr 9 0, .arr 63 0, .arr 127 0, .acc], [(.con (.ref 0 [] 82)), (.slice 72), (.int .i64), .str, .str, (.con (.arr 1 0 9)), (.con (.arr 2 0 63)), (.con (.arr 3 0 127)), (.acc 4 130), (.slice 9), (.slice 63), (.slice 127)]⟩, ⟨2, [.box 82 (.agg 82 [.leaf, .leaf, (.agg 28 [.leaf, .leaf, .leaf, .leaf, .leaf, .leaf])]), .arr 9 0, .arr 63 0, .arr 127 0, .acc], [.bool, .str, (.slice 72), (.int .i64), .str, .str, (.con (.arr 1 0 9)), (.con (.arr 2 0 63)), (.con (.arr 3 0 127)), (.acc 4 130), (.slice 9), (.slice 63), (.slice 127)]⟩, ⟨1, [.box 82 (.agg 82 [.leaf, .leaf, (.agg 28 [.leaf, .leaf, .leaf, .leaf, .leaf, .leaf])]), .arr 9 0, .arr 63 0, .arr 127 0, .acc], [(.ifc 84), (.slice 72), (.int .i64), .str, .str, (.con (.arr 1 0 9)), (.con (.arr 2 0 63)), (.con (.arr 3 0 127)), (.acc 4 130), (.slice 9), (.slice 63), (.slice 127)]⟩, fun x => F289 fuel x.1 x.2, (false, [], [], 0, [], [], (), (), (), [], [], [], [])⟩
theorem F289ok (fuel : Nat) : (F289p fuel).Ok Tryz.prog := okPJ Tryz.f289 16 5 fuel [F91c fuel] [F94p fuel, F115p fuel] false (qc (F91ok fuel) <| q0) (pc (F94ok fuel) <| pc (F115ok fuel) <| p0) L0
def F210 (fuel : Nat) (a0 : Unit) (s : Q0) : Option ((PV × Q0) ⊕ (PV × Q0)) :=
 (F94 fuel () ([114, 112, 99] : List UInt8) s).bind fun z => sumE (fun y1 =>
 (F132 fuel () y1).bind fun z => sumE (fun y3 =>
 let x5 := y3.1
 (F289 fuel () y3.2).bind fun z => sumE (fun y6 =>
 let x8 := y6.1
 let x9 := y6.2.1
 (F94 fuel () ([114, 101, 116, 117, 114, 110, 115] : List UInt8) y6.2.2).bind fun z => sumE (fun y10 =>
 (F289 fuel () y10).bind fun z => sumE (fun y12 =>
 let x14 := y12.1
 let x15 := y12.2.1
 bif (bif x8 then x14 else false) then
 (F205 fuel () y12.2.2).bind fun z => sumE (fun y17 =>
 (F94 fuel () ([59] : List UInt8) y17.2).bind fun z => sumE (fun y19 =>
 some (.inl ((PV.agg [(PV.str x5), (PV.str x9), (PV.str x15), (PV.int (4 : Int)), (PV.slice y17.1)]), y19))
 ) (fun y20 =>
 some (.inr y20)
 ) z
 ) (fun y18 =>
 some (.inr y18)
 ) z
 else
 bif x8 then
 (F205 fuel () y12.2.2).bind fun z => sumE (fun y22 =>
 (F94 fuel () ([59] : List UInt8) y22.2).bind fun z => sumE (fun y24 =>
 some (.inl ((PV.agg [(PV.str x5), (PV.str x9), (PV.str x15), (PV.int (3 : Int)), (PV.slice y22.1)]), y24))
 ) (fun y25 =>
 some (.inr y25)
 ) z
 ) (fun y23 =>
 some (.inr y23)
 ) z
 else
 bif x14 then
 (F205 fuel () y12.2.2).bind fun z => sumE (fun y27 =>
 (F94 fuel () ([59] : List UInt8) y27.2).bind fun z => sumE (fun y29 =>
 some (.inl ((PV.agg [(PV.str x5), (PV.str x9), (PV.str x15), (PV.int (2 : Int)), (PV.slice y27.1)]), y29))
 ) (fun y30 =>
 some (.inr y30)
 ) z
 ) (fun y28 =>
 some (.inr y28)
 ) z
 else
 (F205 fuel () y12.2.2).bind fun z => sumE (fun y32 =>
 (F94 fuel () ([59] : List UInt8) y32.2).bind fun z => sumE (fun y34 =>
 some (.inl ((PV.agg [(PV.str x5), (PV.str x9), (PV.str x15), (PV.int (1 : Int)), (PV.slice y32.1)]), y34))
 ) (fun y35 =>
 some (.inr y35)
 ) z
 ) (fun y33 =>
 some (.inr y33)
 ) z
 ) (fun y13 =>
 some (.inr y13)
 ) z
 ) (fun y11 =>
 some (.inr y11)
 ) z
 ) (fun y7 =>
 some (.inr y7)
 ) z
 ) (fun y4 =>
 some (.inr y4)
 ) z
 ) (fun y2 =>
 some (.inr y2)
 ) z
def F210p (fuel : Nat) : CallP := ⟨210, ⟨1, [.box 82 (.agg 82 [.leaf, .leaf, (.agg 28 [.leaf, .leaf, .leaf, .leaf, .leaf, .leaf])]), .arr 9 0, .arr 63 0, .arr 127 0, .acc], [(.con (.ref 0 [] 82)), (.slice 72), (.int .i64), .str, .str, (.con (.arr 1 0 9)), (.con (.arr 2 0 63)), (.con (.arr 3 0 127)), (.acc 4 130), (.slice 9), (.slice 63), (.slice 127)]⟩, ⟨1, [.box 82 (.agg 82 [.leaf, .leaf, (.agg 28 [.leaf, .leaf, .leaf, .leaf, .leaf, .leaf])]), .arr 9 0, .arr 63 0, .arr 127 0, .acc], [(.data 188), (.slice 72), (.int .i64), .str, .str, (.con (.arr 1 0 9)), (.con (.arr 2 0 63)), (.con (.arr 3 0 127)), (.acc 4 130), (.slice 9), (.slice 63), (.slice 127)]⟩, ⟨1, [.box 82 (.agg 82 [.leaf, .leaf, (.agg 28 [.leaf, .leaf, .leaf, .leaf, .leaf, .leaf])]), .arr 9 0, .arr 63 0, .arr 127 0, .acc], [(.ifc 84), (.slice 72), (.int .i64), .str, .str, (.con (.arr 1 0 9)), (.con (.arr 2 0 63)), (.con (.arr 3 0 127)), (.acc 4 130), (.slice 9), (.slice 63), (.slice 127)]⟩, fun x => F210 fuel x.1 x.2, (PV.bad, [], 0, [], [], (), (), (), [], [], [], [])⟩
theorem F210ok (fuel : Nat) : (F210p fuel).Ok Tryz.prog := okPJ Tryz.f210 43 5 fuel [] [F94p fuel, F132p fuel, F289p fuel, F205p fuel] false (q0) (pc (F94ok fuel) <| pc (F132ok fuel) <| pc (F289ok fuel) <| pc (F205ok fuel) <| p0) L0
def S99_5 (fuel : Nat) (a10 : Unit) (a11 : Unit) (s : (List PV) × Int × (List UInt8) × (List UInt8) × Unit × Unit × Unit × (List PV) × (List PV) × (List PV) × (List PV) × (List UInt8) × (List PV) × (List PV)) : Option ((Unit × Unit × (List PV) × Int × (List UInt8) × (List UInt8) × Unit × Unit × Unit × (List PV) × (List PV) × (List PV) × (List PV) × (List UInt8) × (List PV) × (List PV)) ⊕ ((PV × (List PV) × Int × (List UInt8) × (List UInt8) × Unit × Unit × Unit × (List PV) × (List PV) × (List PV) × (List PV) × (List UInt8) × (List PV) × (List PV)) ⊕ (Unit × Unit × (List PV) × Int × (List UInt8) × (List UInt8) × Unit × Unit × Unit × (List PV) × (List PV) × (List PV) × (List PV) × (List UInt8) × (List PV) × (List PV)))) :=
 (F91 fuel () ([125] : List UInt8) (s.1, s.2.1, s.2.2.1, s.2.2.2.1, (), (), (), s.2.2.2.2.2.2.2.1, s.2.2.2.2.2.2.2.2.1, s.2.2.2.2.2.2.2.2.2.1, s.2.2.2.2.2.2.2.2.2.2.1)).bind fun y12 =>
 bif (!y12.1) then
 (F210 fuel () y12.2).bind fun z => sumE (fun y14 =>
 bif decide (s.2.2.2.2.2.2.2.2.2.2.2.2.1.length + [y14.1].length ≤ accMax) then
 some (.inl ((), (), y14.2.1, y14.2.2.1, y14.2.2.2.1, y14.2.2.2.2.1, (), (), (), y14.2.2.2.2.2.2.2.2.1, y14.2.2.2.2.2.2.2.2.2.1, y14.2.2.2.2.2.2.2.2.2.2.1, y14.2.2.2.2.2.2.2.2.2.2.2, s.2.2.2.2.2.2.2.2.2.2.2.1, (s.2.2.2.2.2.2.2.2.2.2.2.2.1 ++ [y14.1]), s.2.2.2.2.2.2.2.2.2.2.2.2.2))
 else none
 ) (fun y15 =>
 some (.inr (.inl (y15.1, y15.2.1, y15.2.2.1, y15.2.2.2.1, y15.2.2.2.2.1, (), (), (), y15.2.2.2.2.2.2.2.2.1, y15.2.2.2.2.2.2.2.2.2.1, y15.2.2.2.2.2.2.2.2.2.2.1, y15.2.2.2.2.2.2.2.2.2.2.2, s.2.2.2.2.2.2.2.2.2.2.2)))
 ) z
 else
 some (.inr (.inr ((), (), y12.2.1, y12.2.2.1, y12.2.2.2.1, y12.2.2.2.2.1, (), (), (), y12.2.2.2.2.2.2.2.2.1, y12.2.2.2.2.2.2.2.2.2.1, y12.2.2.2.2.2.2.2.2.2.2.1, y12.2.2.2.2.2.2.2.2.2.2.2, s.2.2.2.2.2.2.2.2.2.2.2)))
def S99_5step (fuel : Nat) (x : Unit × Unit × (List PV) × Int × (List UInt8) × (List UInt8) × Unit × Unit × Unit × (List PV) × (List PV) × (List PV) × (List PV) × (List UInt8) × (List PV) × (List PV)) : Option ((Unit × Unit × (List PV) × Int × (List UInt8) × (List UInt8) × Unit × Unit × Unit × (List PV) × (List PV) × (List PV) × (List PV) × (List UInt8) × (List PV) × (List PV)) ⊕ ((PV × (List PV) × Int × (List UInt8) × (List UInt8) × Unit × Unit × Unit × (List PV) × (List PV) × (List PV) × (List PV) × (List UInt8) × (List PV) × (List PV)) ⊕ (Unit × Unit × (List PV) × Int × (List UInt8) × (List UInt8) × Unit × Unit × Unit × (List PV) × (List PV) × (List PV) × (List PV) × (List UInt8) × (List PV) × (List PV)))) := S99_5 fuel x.1 x.2.1 x.2.2
def F99 (fuel : Nat) (a0 : Unit) (s : Q0) : Option ((Q0) ⊕ (PV × Q0)) :=
 (F94 fuel () ([115, 101, 114, 118, 105, 99, 101] : List UInt8) s).bind fun z => sumE (fun y1 =>
 (F204 fuel () ([] : List UInt8) y1).bind fun z => sumE (fun y3 =>
 (F205 fuel () y3.2).bind fun z => sumE (fun y6 =>
 (F94 fuel () ([123] : List UInt8) y6.2).bind fun z => sumE (fun y8 =>
 (loopQ fuel (S99_5step fuel) ((), (), y8.1, y8.2.1, y8.2.2.1, y8.2.2.2.1, (), (), (), y8.2.2.2.2.2.2.2.1, y8.2.2.2.2.2.2.2.2.1, y8.2.2.2.2.2.2.2.2.2.1, y8.2.2.2.2.2.2.2.2.2.2, y3.1, [], y6.1)).bind fun z => sumE (fun y17 =>
 some (.inr (y17.1, y17.2.1, y17.2.2.1, y17.2.2.2.1, y17.2.2.2.2.1, (), (), (), y17.2.2.2.2.2.2.2.2.1, y17.2.2.2.2.2.2.2.2.2.1, y17.2.2.2.2.2.2.2.2.2.2.1, y17.2.2.2.2.2.2.2.2.2.2.2.1))
 ) (fun y18 =>
 let x19 := y18.2.2.2.2.2.2.2.2.2.1
 let x20 := y18.2.2.2.2.2.2.2.2.2.2.2.2.2.1
 let x21 := y18.2.2.2.2.2.2.2.2.2.2.2.2.2.2.1
 let x22 := y18.2.2.2.2.2.2.2.2.2.2.2.2.2.2.2
 bif decide (x19.length + [(PV.agg [(PV.str x20), (PV.slice x21), (PV.slice x22)])].length ≤ accMax) then
 let x23 := x19 ++ [(PV.agg [(PV.str x20), (PV.slice x21), (PV.slice x22)])]
 some (.inl (y18.2.2.1, y18.2.2.2.1, y18.2.2.2.2.1, y18.2.2.2.2.2.1, (), (), (), x23, y18.2.2.2.2.2.2.2.2.2.2.1, y18.2.2.2.2.2.2.2.2.2.2.2.1, y18.2.2.2.2.2.2.2.2.2.2.2.2.1))
 else none
 ) z
 ) (fun y9 =>
 some (.inr y9)
 ) z
 ) (fun y7 =>
 some (.inr y7)
 ) z
 ) (fun y4 =>
 some (.inr y4)
 ) z
 ) (fun y2 =>
 some (.inr y2)
 ) z
def S99_5l (fuel : Nat) : LoopE := ⟨5, ⟨[0, 2], [.box 82 (.agg 82 [.leaf, .leaf, (.agg 28 [.leaf, .leaf, .leaf, .leaf, .leaf, .leaf])]), .arr 9 0, .arr 63 0, .arr 127 0, .acc, .box 130 (.agg 130 [.leaf, .leaf, .leaf]), .acc], [(.con (.ref 0 [] 82)), (.con (.ref 5 [] 130)), (.slice 72), (.int .i64), .str, .str, (.con (.arr 1 0 9)), (.con (.arr 2 0 63)), (.con (.arr 3 0 127)), (.acc 4 130), (.slice 9), (.slice 63), (.slice 127), .str, (.acc 6 188), (.slice 116)]⟩, [(.pan, ⟨[0], [.box 82 (.agg 82 [.leaf, .leaf, (.agg 28 [.leaf, .leaf, .leaf, .leaf, .leaf, .leaf])]), .arr 9 0, .arr 63 0, .arr 127 0, .acc, .box 130 (.agg 130 [.leaf, .leaf, .leaf]), .acc], [(.ifc 84), (.slice 72), (.int .i64), .str, .str, (.con (.arr 1 0 9)), (.con (.arr 2 0 63)), (.con (.arr 3 0 127)), (.acc 4 130), (.slice 9), (.slice 63), (.slice 127), .str, (.acc 6 188), (.slice 116)]⟩), (.exit 0, ⟨[0, 2], [.box 82 (.agg 82 [.leaf, .leaf, (.agg 28 [.leaf, .leaf, .leaf, .leaf, .leaf, .leaf])]), .arr 9 0, .arr 63 0, .arr 127 0, .acc, .box 130 (.agg 130 [.leaf, .leaf, .leaf]), .acc], [(.con (.ref 0 [] 82)), (.con (.ref 5 [] 130)), (.slice 72), (.int .i64), .str, .str, (.con (.arr 1 0 9)), (.con (.arr 2 0 63)), (.con (.arr 3 0 127)), (.acc 4 130), (.slice 9), (.slice 63), (.slice 127), .str, (.acc 6 188), (.slice 116)]⟩)], S99_5step fuel⟩
def F99C (fuel : Nat) : Cfg := cfg Tryz.prog 35 5 [F91c fuel] [S99_5l fuel] fuel [F94p fuel, F204p fuel, F205p fuel, F210p fuel]
def F99p (fuel : Nat) : CallP := ⟨99, ⟨1, [.box 82 (.agg 82 [.leaf, .leaf, (.agg 28 [.leaf, .leaf, .leaf, .leaf, .leaf, .leaf])]), .arr 9 0, .arr 63 0, .arr 127 0, .acc], [(.con (.ref 0 [] 82)), (.slice 72), (.int .i64), .str, .str, (.con (.arr 1 0 9)), (.con (.arr 2 0 63)), (.con (.arr 3 0 127)), (.acc 4 130), (.slice 9), (.slice 63), (.slice 127)]⟩, ⟨0, [.box 82 (.agg 82 [.leaf, .leaf, (.agg 28 [.leaf, .leaf, .leaf, .leaf, .leaf, .leaf])]), .arr 9 0, .arr 63 0, .arr 127 0, .acc], [(.slice 72), (.int .i64), .str, .str, (.con (.arr 1 0 9)), (.con (.arr 2 0 63)), (.con (.arr 3 0 127)), (.acc 4 130), (.slice 9), (.slice 63), (.slice 127)]⟩, ⟨1, [.box 82 (.agg 82 [.leaf, .leaf, (.agg 28 [.leaf, .leaf, .leaf, .leaf, .leaf, .leaf])]), .arr 9 0, .arr 63 0, .arr 127 0, .acc], [(.ifc 84), (.slice 72), (.int .i64), .str, .str, (.con (.arr 1 0 9)), (.con (.arr 2 0 63)), (.con (.arr 3 0 127)), (.acc 4 130), (.slice 9), (.slice 63), (.slice 127)]⟩, fun x => F99 fuel x.1 x.2, ([], 0, [], [], (), (), (), [], [], [], [])⟩
theorem F99k (fuel : Nat) : CallOk (F99C fuel) := cfg_callOkP (qc (F91ok fuel) <| q0) (pc (F94ok fuel) <| pc (F204ok fuel) <| pc (F205ok fuel) <| pc (F210ok fuel) <| p0)
theorem S99_5ok (fuel : Nat) : LoopOk (F99C fuel) (lp (bodyOf Tryz.f99) 0) := okL (F99k fuel) fuel (S99_5l fuel) L0
theorem F99ok (fuel : Nat) : (F99p fuel).Ok Tryz.prog := okPE Tryz.f99 (F99k fuel) (L1 (S99_5ok fuel))
def S44_4 (fuel : Nat) (a13 : Unit) (s : Q0) : Option ((Unit × Q0) ⊕ ((PV × Q0) ⊕ (Unit × Q0))) :=
 (F91 fuel () ([105, 109, 112, 111, 114, 116] : List UInt8) s).bind fun y14 =>
 bif y14.1 then
 (F95 fuel () y14.2).bind fun z => sumE (fun y15 =>
 bif decide (y15.2.2.2.2.2.2.2.2.2.1.length + [(PV.str y15.1)].length ≤ accMax) then
 (F94 fuel () ([59] : List UInt8) (y15.2.1, y15.2.2.1, y15.2.2.2.1, y15.2.2.2.2.1, (), (), (), y15.2.2.2.2.2.2.2.2.1, (y15.2.2.2.2.2.2.2.2.2.1 ++ [(PV.str y15.1)]), y15.2.2.2.2.2.2.2.2.2.2)).bind fun z => sumE (fun y18 =>
 some (.inl ((), y18))
 ) (fun y19 =>
 some (.inr (.inl y19))
 ) z
 else none
 ) (fun y16 =>
 some (.inr (.inl y16))
 ) z
 else
 some (.inr (.inr ((), y14.2)))
def S44_4step (fuel : Nat) (x : Unit × Q0) : Option ((Unit × Q0) ⊕ ((PV × Q0) ⊕ (Unit × Q0))) := S44_4 fuel x.1 x.2
def S44_7 (fuel : Nat) (a36 : Unit) (s : Q0) : Option ((Unit × Q0) ⊕ ((PV × Q0) ⊕ (Q0))) :=
 bif (decide (s.2.1 < (s.1.length : Int))) then
 (F96 fuel () ([109, 101, 115, 115, 97, 103, 101] : List UInt8) s).bind fun y39 =>
 bif y39.1 then
 (F97 fuel () ([] : List UInt8) (0 : Int) y39.2).bind fun z => sumE (fun y41 =>
 some (.inl ((), y41))
 ) (fun y42 =>
 some (.inr (.inl y42))
 ) z
 else
 (F96 fuel () ([101, 110, 117, 109] : List UInt8) y39.2).bind fun y43 =>
 let x44 := y43.1
 bif !x44 then
 (F96 fuel () ([111, 112, 101, 110] : List UInt8) y43.2).bind fun y45 =>
 bif (bif x44 then true else y45.1) then
 (F98 fuel () ([] : List UInt8) y45.2).bind fun z => sumE (fun y47 =>
 some (.inl ((), y47))
 ) (fun y48 =>
 some (.inr (.inl y48))
 ) z
 else
 (F99 fuel () y45.2).bind fun z => sumE (fun y49 =>
 some (.inl ((), y49))
 ) (fun y50 =>
 some (.inr (.inl y50))
 ) z
 else
 bif (bif x44 then true else false) then
 (F98 fuel () ([] : List UInt8) y43.2).bind fun z => sumE (fun y52 =>
 some (.inl ((), y52))
 ) (fun y53 =>
 some (.inr (.inl y53))
 ) z
 else
 (F99 fuel () y43.2).bind fun z => sumE (fun y54 =>
 some (.inl ((), y54))
 ) (fun y55 =>
 some (.inr (.inl y55))
 ) z
 else
 some (.inr (.inr s))
def S44_7step (fuel : Nat) (x : Unit × Q0) : Option ((Unit × Q0) ⊕ ((PV × Q0) ⊕ (Q0))) := S44_7 fuel x.1 x.2
def F44 (fuel : Nat) (a0 : Unit) (s : Q0) : Option ((Q0) ⊕ (PV × Q0)) :=
 (F91 fuel () ([115, 112, 97, 99, 101] : List UInt8) s).bind fun y1 =>
 bif y1.1 then
 (F92 fuel () (1 : Int) () y1.2).bind fun z => sumE (fun y2 =>
 (F94 fuel () ([59] : List UInt8) (y2.2.1, y2.2.2.1, y2.2.2.2.1, y2.1, (), (), (), y2.2.2.2.2.2.2.2.2)).bind fun z => sumE (fun y4 =>
 (loopQ fuel (S44_4step fuel) ((), y4)).bind fun z => sumE (fun y20 =>
 some (.inr y20)
 ) (fun y21 =>
 (loopQ fuel (S44_7step fuel) ((), y21.2)).bind fun z => sumE (fun y56 =>
 some (.inr y56)
 ) (fun y57 =>
 some (.inl y57)
 ) z
 ) z
 ) (fun y5 =>
 some (.inr y5)
 ) z
 ) (fun y3 =>
 some (.inr y3)
 ) z
 else
 (loopQ fuel (S44_4step fuel) ((), y1.2)).bind fun z => sumE (fun y58 =>
 some (.inr y58)
 ) (fun y59 =>
 (loopQ fuel (S44_7step fuel) ((), y59.2)).bind fun z => sumE (fun y60 =>
 some (.inr y60)
 ) (fun y61 =>
 some (.inl y61)
 ) z
 ) z
def S44_4l (fuel : Nat) : LoopE := ⟨4, ⟨[0], [.box 82 (.agg 82 [.leaf, .leaf, (.agg 28 [.leaf, .leaf, .leaf, .leaf, .leaf, .leaf])]), .arr 9 1, .arr 63 0, .arr 127 0, .acc], [(.con (.ref 0 [] 82)), (.slice 72), (.int .i64), .str, .str, (.con (.arr 1 1 9)), (.con (.arr 2 0 63)), (.con (.arr 3 0 127)), (.acc 4 130), (.slice 9), (.slice 63), (.slice 127)]⟩, [(.pan, ⟨[0], [.box 82 (.agg 82 [.leaf, .leaf, (.agg 28 [.leaf, .leaf, .leaf, .leaf, .leaf, .leaf])]), .arr 9 1, .arr 63 0, .arr 127 0, .acc], [(.ifc 84), (.slice 72), (.int .i64), .str, .str, (.con (.arr 1 1 9)), (.con (.arr 2 0 63)), (.con (.arr 3 0 127)), (.acc 4 130), (.slice 9), (.slice 63), (.slice 127)]⟩), (.exit 0, ⟨[0], [.box 82 (.agg 82 [.leaf, .leaf, (.agg 28 [.leaf, .leaf, .leaf, .leaf, .leaf, .leaf])]), .arr 9 1, .arr 63 0, .arr 127 0, .acc], [(.con (.ref 0 [] 82)), (.slice 72), (.int .i64), .str, .str, (.con (.arr 1 1 9)), (.con (.arr 2 0 63)), (.con (.arr 3 0 127)), (.acc 4 130), (.slice 9), (.slice 63), (.slice 127)]⟩)], S44_4step fuel⟩
def S44_7l (fuel : Nat) : LoopE := ⟨7, ⟨[0], [.box 82 (.agg 82 [.leaf, .leaf, (.agg 28 [.leaf, .leaf, .leaf, .leaf, .leaf, .leaf])]), .arr 9 1, .arr 63 1, .arr 127 1, .acc], [(.con (.ref 0 [] 82)), (.slice 72), (.int .i64), .str, .str, (.con (.arr 1 1 9)), (.con (.arr 2 1 63)), (.con (.arr 3 1 127)), (.acc 4 130), (.slice 9), (.slice 63), (.slice 127)]⟩, [(.pan, ⟨[0], [.box 82 (.agg 82 [.leaf, .leaf, (.agg 28 [.leaf, .leaf, .leaf, .leaf, .leaf, .leaf])]), .arr 9 1, .arr 63 1, .arr 127 1, .acc], [(.ifc 84), (.slice 72), (.int .i64), .str, .str, (.con (.arr 1 1 9)), (.con (.arr 2 1 63)), (.con (.arr 3 1 127)), (.acc 4 130), (.slice 9), (.slice 63), (.slice 127)]⟩), (.exit 2, ⟨[], [.box 82 (.agg 82 [.leaf, .leaf, (.agg 28 [.leaf, .leaf, .leaf, .leaf, .leaf, .leaf])]), .arr 9 1, .arr 63 1, .arr 127 1, .acc], [(.slice 72), (.int .i64), .str, .str, (.con (.arr 1 1 9)), (.con (.arr 2 1 63)), (.con (.arr 3 1 127)), (.acc 4 130), (.slice 9), (.slice 63), (.slice 127)]⟩)], S44_7step fuel⟩
def F44C (fuel : Nat) : Cfg := cfg Tryz.prog 55 5 [F91c fuel, F96c fuel] [S44_4l fuel, S44_7l fuel] fuel [F92p fuel, F94p fuel, F95p fuel, F97p fuel, F98p fuel, F99p fuel]
def F44p (fuel : Nat) : CallP := ⟨44, ⟨1, [.box 82 (.agg 82 [.leaf, .leaf, (.agg 28 [.leaf, .leaf, .leaf, .leaf, .leaf, .leaf])]), .arr 9 0, .arr 63 0, .arr 127 0, .acc], [(.con (.ref 0 [] 82)), (.slice 72), (.int .i64), .str, .str, (.con (.arr 1 0 9)), (.con (.arr 2 0 63)), (.con (.arr 3 0 127)), (.acc 4 130), (.slice 9), (.slice 63), (.slice 127)]⟩, ⟨0, [.box 82 (.agg 82 [.leaf, .leaf, (.agg 28 [.leaf, .leaf, .leaf, .leaf, .leaf, .leaf])]), .arr 9 1, .arr 63 1, .arr 127 1, .acc], [(.slice 72), (.int .i64), .str, .str, (.con (.arr 1 1 9)), (.con (.arr 2 1 63)), (.con (.arr 3 1 127)), (.acc 4 130), (.slice 9), (.slice 63), (.slice 127)]⟩, ⟨1, [.box 82 (.agg 82 [.leaf, .leaf, (.agg 28 [.leaf, .leaf, .leaf, .leaf, .leaf, .leaf])]), .arr 9 1, .arr 63 1, .arr 127 1, .acc], [(.ifc 84), (.slice 72), (.int .i64), .str, .str, (.con (.arr 1 1 9)), (.con (.arr 2 1 63)), (.con (.arr 3 1 127)), (.acc 4 130), (.slice 9), (.slice 63), (.slice 127)]⟩, fun x => F44 fuel x.1 x.2, ([], 0, [], [], (), (), (), [], [], [], [])⟩
theorem F44k (fuel : Nat) : CallOk (F44C fuel) := cfg_callOkP (qc (F91ok fuel) <| qc (F96ok fuel) <| q0) (pc (F92ok fuel) <| pc (F94ok fuel) <| pc (F95ok fuel) <| pc (F97ok fuel) <| pc (F98ok fuel) <| pc (F99ok fuel) <| p0)
theorem S44_4ok (fuel : Nat) : LoopOk (F44C fuel) (lp (bodyOf Tryz.f44) 0) := okL (F44k fuel) fuel (S44_4l fuel) L0
theorem S44_7ok (fuel : Nat) : LoopOk (F44C fuel) (lp (bodyOf Tryz.f44) 1) := okL (F44k fuel) fuel (S44_7l fuel) L0
theorem F44ok (fuel : Nat) : (F44p fuel).Ok Tryz.prog := okPE Tryz.f44 (F44k fuel) (L2 (S44_4ok fuel) (S44_7ok fuel))
def F43 (fuel : Nat) (a0 : Unit) (s : Q0) : Option (PV × Q0) := (F44 fuel () s).bind fun z => sumE (fun y => some ((PV.agg [(PV.int (0 : Int)), (PV.int (0 : Int))]), y)) (fun y => some y) z
def F43c (fuel : Nat) : CallE := ⟨43, ⟨1, [.box 82 (.agg 82 [.leaf, .leaf, (.agg 28 [.leaf, .leaf, .leaf, .leaf, .leaf, .leaf])]), .arr 9 0, .arr 63 0, .arr 127 0, .acc], [(.con (.fn 44 1 [(.ref 0 [] 82)])), (.slice 72), (.int .i64), .str, .str, (.con (.arr 1 0 9)), (.con (.arr 2 0 63)), (.con (.arr 3 0 127)), (.acc 4 130), (.slice 9), (.slice 63), (.slice 127)]⟩, ⟨1, [.box 82 (.agg 82 [.leaf, .leaf, (.agg 28 [.leaf, .leaf, .leaf, .leaf, .leaf, .leaf])]), .arr 9 1, .arr 63 1, .arr 127 1, .acc], [(.data 84), (.slice 72), (.int .i64), .str, .str, (.con (.arr 1 1 9)), (.con (.arr 2 1 63)), (.con (.arr 3 1 127)), (.acc 4 130), (.slice 9), (.slice 63), (.slice 127)]⟩, fun x => F43 fuel x.1 x.2, (PV.bad, [], 0, [], [], (), (), (), [], [], [], [])⟩
theorem F43ok (fuel : Nat) : (F43c fuel).Ok Tryz.prog := by
 intro x y h
 have h : F43 fuel x.1 x.2 = some y := h
 unfold F43 at h
 obtain ⟨z, h1, h2⟩ := Option.bind_eq_some_iff.1 h
 cases z with
 | inl z =>
  have hm := (F44ok fuel ((), x.2.1, x.2.2.1, x.2.2.2.1, x.2.2.2.2.1, x.2.2.2.2.2.1, x.2.2.2.2.2.2.1, x.2.2.2.2.2.2.2.1, x.2.2.2.2.2.2.2.2.1, x.2.2.2.2.2.2.2.2.2.1, x.2.2.2.2.2.2.2.2.2.2.1, x.2.2.2.2.2.2.2.2.2.2.2)).1 z h1
  cases h2
  exact caught_ret hm
 | inr z =>
  have hm := (F44ok fuel ((), x.2.1, x.2.2.1, x.2.2.2.1, x.2.2.2.2.1, x.2.2.2.2.2.1, x.2.2.2.2.2.2.1, x.2.2.2.2.2.2.2.1, x.2.2.2.2.2.2.2.2.1, x.2.2.2.2.2.2.2.2.2.1, x.2.2.2.2.2.2.2.2.2.2.1, x.2.2.2.2.2.2.2.2.2.2.2)).2 z h1
  cases h2
  exact caught_pan hm
def F15 (fuel : Nat) (a0 : List UInt8) (a1 : List UInt8) : Option (PV × Int × Int) :=
 (F28 fuel a1).bind fun y1 =>
 let x2 := y1.1
 let x4 := y1.2.2
 bif (x4 != (0 : Int)) then
 some ((PV.agg [(PV.str ([] : List UInt8)), (PV.str ([] : List UInt8)), (PV.slice []), (PV.slice []), (PV.slice []), (PV.slice [])]), y1.2.1, x4)
 else
 (F43 fuel () (x2, (0 : Int), a0, ([] : List UInt8), (), (), (), [], [], [], [])).bind fun y6 =>
 bif (((y6.1.fld 1).asInt) != (0 : Int)) then
 let x9 := (y6.1.fld 0).asInt
 let x11 := IntKind.wrap .i64 ((x2.length : Int) - (1 : Int))
 let x12 := if x11 < x9 then x11 else x9
 bif inRange x12 x2.length then
 some ((PV.agg [(PV.str ([] : List UInt8)), (PV.str ([] : List UInt8)), (PV.slice []), (PV.slice []), (PV.slice []), (PV.slice [])]), ((x2.getD x12.toNat .bad).fld 3).asInt, ((y6.1.fld 1).asInt))
 else none
 else
 some ((PV.agg [(PV.str y6.2.2.2.1), (PV.str y6.2.2.2.2.1), (PV.slice y6.2.2.2.2.2.2.2.2.2.1), (PV.slice y6.2.2.2.2.2.2.2.2.2.2.1), (PV.slice y6.2.2.2.2.2.2.2.2.2.2.2), (PV.slice y6.2.2.2.2.2.2.2.2.1)]), (0 : Int), (0 : Int))
def F15c (fuel : Nat) : CallE := ⟨15, ⟨2, [], [.str, .str]⟩, ⟨3, [], [(.data 28), (.int .i64), (.int .i64)]⟩, fun x => F15 fuel x.1 x.2, (PV.bad, 0, 0)⟩
theorem F15ok (fuel : Nat) : (F15c fuel).Ok Tryz.prog := okJ Tryz.f15 51 0 fuel [F28c fuel, F43c fuel] [] false (qc (F28ok fuel) <| qc (F43ok fuel) <| q0) (p0) L0
def F51 (fuel : Nat) (a0 : Unit) (a1 : Unit) (s : Q3) : Option ((Q3) ⊕ (PV × Q3)) :=
 (F52 fuel () (s.1, s.2.1, s.2.2.1, s.2.2.2.1, (), (), (), s.2.2.2.2.2.2.2.1, s.2.2.2.2.2.2.2.2.2)).bind fun z => sumE (fun y1 =>
 some (.inl (y1.2.1, y1.2.2.1, y1.2.2.2.1, y1.2.2.2.2.1, (), (), (), y1.2.2.2.2.2.2.2.2.1, y1.1, y1.2.2.2.2.2.2.2.2.2))
 ) (fun y2 =>
 some (.inr (y2.1, y2.2.1, y2.2.2.1, y2.2.2.2.1, y2.2.2.2.2.1, (), (), (), y2.2.2.2.2.2.2.2.2.1, s.2.2.2.2.2.2.2.2.1, y2.2.2.2.2.2.2.2.2.2))
 ) z
def F51p (fuel : Nat) : CallP := ⟨51, ⟨2, [.box 82 (.agg 82 [.leaf, .leaf, (.agg 28 [.leaf, .leaf, .leaf, .leaf, .leaf, .leaf])]), .box 40 .leaf, .arr 9 0, .arr 63 0, .arr 127 0, .acc], [(.con (.ref 0 [] 82)), (.con (.ref 1 [] 40)), (.slice 72), (.int .i64), .str, .str, (.con (.arr 2 0 9)), (.con (.arr 3 0 63)), (.con (.arr 4 0 127)), (.acc 5 130), (.data 40), (.slice 9), (.slice 63), (.slice 127)]⟩, ⟨0, [.box 82 (.agg 82 [.leaf, .leaf, (.agg 28 [.leaf, .leaf, .leaf, .leaf, .leaf, .leaf])]), .box 40 .leaf, .arr 9 0, .arr 63 0, .arr 127 0, .acc], [(.slice 72), (.int .i64), .str, .str, (.con (.arr 2 0 9)), (.con (.arr 3 0 63)), (.con (.arr 4 0 127)), (.acc 5 130), (.data 40), (.slice 9), (.slice 63), (.slice 127)]⟩, ⟨1, [.box 82 (.agg 82 [.leaf, .leaf, (.agg 28 [.leaf, .leaf, .leaf, .leaf, .leaf, .leaf])]), .box 40 .leaf, .arr 9 0, .arr 63 0, .arr 127 0, .acc], [(.ifc 84), (.slice 72), (.int .i64), .str, .str, (.con (.arr 2 0 9)), (.con (.arr 3 0 63)), (.con (.arr 4 0 127)), (.acc 5 130), (.data 40), (.slice 9), (.slice 63), (.slice 127)]⟩, fun x => F51 fuel x.1 x.2.1 x.2.2, ([], 0, [], [], (), (), (), [], PV.bad, [], [], [])⟩
theorem F51ok (fuel : Nat) : (F51p fuel).Ok Tryz.prog := okPJ Tryz.f51 5 6 fuel [] [F52p fuel] false (q0) (pc (F52ok fuel) <| p0) L0
def F114 (fuel : Nat) (a0 : Unit) (a1 : Unit) (s : Q2) : Option ((Q2) ⊕ (PV × Q2)) :=
 (F51 fuel () () (s.2.2.2.1, s.2.2.2.2.1, s.2.2.2.2.2.1, s.2.2.2.2.2.2.1, (), (), (), s.2.2.2.2.2.2.2.2.2.2.1, s.2.2.1, s.2.2.2.2.2.2.2.2.2.2.2)).bind fun z => sumE (fun y1 =>
 some (.inl ((), (), y1.2.2.2.2.2.2.2.2.1, y1.1, y1.2.1, y1.2.2.1, y1.2.2.2.1, (), (), (), y1.2.2.2.2.2.2.2.1, y1.2.2.2.2.2.2.2.2.2))
 ) (fun y2 =>
 some (.inr (y2.1, (), (), y2.2.2.2.2.2.2.2.2.2.1, y2.2.1, y2.2.2.1, y2.2.2.2.1, y2.2.2.2.2.1, (), (), (), y2.2.2.2.2.2.2.2.2.1, y2.2.2.2.2.2.2.2.2.2.2))
 ) z
def F114p (fuel : Nat) : CallP := ⟨114, ⟨2, [.box 97 .leaf, .box 80 .leaf, .box 40 .leaf, .box 82 (.agg 82 [.leaf, .leaf, (.agg 28 [.leaf, .leaf, .leaf, .leaf, .leaf, .leaf])]), .arr 9 0, .arr 63 0, .arr 127 0, .acc], [(.con (.ref 0 [] 97)), (.con (.ref 1 [] 80)), (.con (.fn 51 0 [(.ref 2 [] 40)])), (.con (.ref 3 [] 82)), (.data 40), (.slice 72), (.int .i64), .str, .str, (.con (.arr 4 0 9)), (.con (.arr 5 0 63)), (.con (.arr 6 0 127)), (.acc 7 130), (.slice 9), (.slice 63), (.slice 127)]⟩, ⟨0, [.box 97 .leaf, .box 80 .leaf, .box 40 .leaf, .box 82 (.agg 82 [.leaf, .leaf, (.agg 28 [.leaf, .leaf, .leaf, .leaf, .leaf, .leaf])]), .arr 9 0, .arr 63 0, .arr 127 0, .acc], [(.con (.fn 51 0 [(.ref 2 [] 40)])), (.con (.ref 3 [] 82)), (.data 40), (.slice 72), (.int .i64), .str, .str, (.con (.arr 4 0 9)), (.con (.arr 5 0 63)), (.con (.arr 6 0 127)), (.acc 7 130), (.slice 9), (.slice 63), (.slice 127)]⟩, ⟨1, [.box 97 .leaf, .box 80 .leaf, .box 40 .leaf, .box 82 (.agg 82 [.leaf, .leaf, (.agg 28 [.leaf, .leaf, .leaf, .leaf, .leaf, .leaf])]), .arr 9 0, .arr 63 0, .arr 127 0, .acc], [(.ifc 84), (.con (.fn 51 0 [(.ref 2 [] 40)])), (.con (.ref 3 [] 82)), (.data 40), (.slice 72), (.int .i64), .str, .str, (.con (.arr 4 0 9)), (.con (.arr 5 0 63)), (.con (.arr 6 0 127)), (.acc 7 130), (.slice 9), (.slice 63), (.slice 127)]⟩, fun x => F114 fuel x.1 x.2.1 x.2.2, ((), (), PV.bad, [], 0, [], [], (), (), (), [], [], [], [])⟩
theorem F114ok (fuel : Nat) : (F114p fuel).Ok Tryz.prog := okPJ Tryz.f114 5 8 fuel [] [F51p fuel] false (q0) (pc (F51ok fuel) <| p0) L0
def F43_v1 (fuel : Nat) (a0 : Unit) (s : Q2) : Option (PV × Q2) := (F114 fuel () () s).bind fun z => sumE (fun y => some ((PV.agg [(PV.int (0 : Int)), (PV.int (0 : Int))]), y)) (fun y => some y) z
def F43_v1c (fuel : Nat) : CallE := ⟨43, ⟨1, [.box 97 .leaf, .box 80 .leaf, .box 40 .leaf, .box 82 (.agg 82 [.leaf, .leaf, (.agg 28 [.leaf, .leaf, .leaf, .leaf, .leaf, .leaf])]), .arr 9 0, .arr 63 0, .arr 127 0, .acc], [(.con (.fn 114 0 [(.ref 0 [] 97), (.ref 1 [] 80)])), (.con (.fn 51 0 [(.ref 2 [] 40)])), (.con (.ref 3 [] 82)), (.data 40), (.slice 72), (.int .i64), .str, .str, (.con (.arr 4 0 9)), (.con (.arr 5 0 63)), (.con (.arr 6 0 127)), (.acc 7 130), (.slice 9), (.slice 63), (.slice 127)]⟩, ⟨1, [.box 97 .leaf, .box 80 .leaf, .box 40 .leaf, .box 82 (.agg 82 [.leaf, .leaf, (.agg 28 [.leaf, .leaf, .leaf, .leaf, .leaf, .leaf])]), .arr 9 0, .arr 63 0, .arr 127 0, .acc], [(.data 84), (.con (.fn 51 0 [(.ref 2 [] 40)])), (.con (.ref 3 [] 82)), (.data 40), (.slice 72), (.int .i64), .str, .str, (.con (.arr 4 0 9)), (.con (.arr 5 0 63)), (.con (.arr 6 0 127)), (.acc 7 130), (.slice 9), (.slice 63), (.slice 127)]⟩, fun x => F43_v1 fuel x.1 x.2, (PV.bad, (), (), PV.bad, [], 0, [], [], (), (), (), [], [], [], [])⟩
theorem F43_v1ok (fuel : Nat) : (F43_v1c fuel).Ok Tryz.prog := by
 intro x y h
 have h : F43_v1 fuel x.1 x.2 = some y := h
 unfold F43_v1 at h
 obtain ⟨z, h1, h2⟩ := Option.bind_eq_some_iff.1 h
 cases z with
 | inl z =>
  have hm := (F114ok fuel ((), (), x.2.1, x.2.2.1, x.2.2.2.1, x.2.2.2.2.1, x.2.2.2.2.2.1, x.2.2.2.2.2.2.1, x.2.2.2.2.2.2.2.1, x.2.2.2.2.2.2.2.2.1, x.2.2.2.2.2.2.2.2.2.1, x.2.2.2.2.2.2.2.2.2.2.1, x.2.2.2.2.2.2.2.2.2.2.2.1, x.2.2.2.2.2.2.2.2.2.2.2.2.1, x.2.2.2.2.2.2.2.2.2.2.2.2.2.1, x.2.2.2.2.2.2.2.2.2.2.2.2.2.2)).1 z h1
  cases h2
  exact caught_ret hm
 | inr z =>
  have hm := (F114ok fuel ((), (), x.2.1, x.2.2.1, x.2.2.2.1, x.2.2.2.2.1, x.2.2.2.2.2.1, x.2.2.2.2.2.2.1, x.2.2.2.2.2.2.2.1, x.2.2.2.2.2.2.2.2.1, x.2.2.2.2.2.2.2.2.2.1, x.2.2.2.2.2.2.2.2.2.2.1, x.2.2.2.2.2.2.2.2.2.2.2.1, x.2.2.2.2.2.2.2.2.2.2.2.2.1, x.2.2.2.2.2.2.2.2.2.2.2.2.2.1, x.2.2.2.2.2.2.2.2.2.2.2.2.2.2)).2 z h1
  cases h2
  exact caught_pan hm
def F50 (fuel : Nat) (a0 : List PV) (a1 : Int) (a2 : Unit) (a3 : PV) : Option (Int × Int × PV) :=
 bif (bif (decide (a1 < (0 : Int))) then true else (decide (a1 > (a0.length : Int)))) then
 some ((0 : Int), (1 : Int), a3)
 else
 (F43_v1 fuel () ((), (), a3, a0, a1, ([] : List UInt8), ([] : List UInt8), (), (), (), [], [], [], [])).bind fun y5 =>
 bif (((y5.1.fld 1).asInt) != (0 : Int)) then
 some (((y5.1.fld 0).asInt), ((y5.1.fld 1).asInt), y5.2.2.2.1)
 else
 some (y5.2.2.2.2.2.1, (0 : Int), y5.2.2.2.1)
def F50c (fuel : Nat) : CallE := ⟨50, ⟨3, [.box 40 .leaf], [(.slice 72), (.int .i64), (.con (.fn 51 0 [(.ref 0 [] 40)])), (.data 40)]⟩, ⟨2, [.box 40 .leaf], [(.int .i64), (.int .i64), (.data 40)]⟩, fun x => F50 fuel x.1 x.2.1 x.2.2.1 x.2.2.2, (0, 0, PV.bad)⟩
theorem F50ok (fuel : Nat) : (F50c fuel).Ok Tryz.prog := okJ Tryz.f50 35 1 fuel [F43_v1c fuel] [] false (qc (F43_v1ok fuel) <| q0) (p0) L0
def F23 (fuel : Nat) (a0 : List PV) (a1 : Int) : Option (PV × Int × Int) :=
 (F50 fuel a0 a1 () (PV.agg [(PV.int (0 : Int)), (PV.str ([] : List UInt8))])).bind fun y1 =>
 some (y1.2.2, y1.1, y1.2.1)
def F23c (fuel : Nat) : CallE := ⟨23, ⟨2, [], [(.slice 72), (.int .i64)]⟩, ⟨3, [], [(.data 40), (.int .i64), (.int .i64)]⟩, fun x => F23 fuel x.1 x.2, (PV.bad, 0, 0)⟩
theorem F23ok (fuel : Nat) : (F23c fuel).Ok Tryz.prog := okJ Tryz.f23 20 0 fuel [F50c fuel] [] false (qc (F50ok fuel) <| q0) (p0) L0
def F20 (fuel : Nat) (a0 : Int) : Option ((List UInt8)) :=
 bif (bif (decide (a0 < (1 : Int))) then true else (decide (a0 > (8 : Int)))) then
 some ([] : List UInt8)
 else
 (F49 fuel).bind fun y4 =>
 let x5 := IntKind.wrap .i64 (a0 - (1 : Int))
 bif inRange x5 8 then
 some ((y4.fld x5.toNat).asStr)
 else none
def F20c (fuel : Nat) : CallE := ⟨20, ⟨1, [], [(.int .i64)]⟩, ⟨1, [], [.str]⟩, fun x => F20 fuel x, []⟩
theorem F20ok (fuel : Nat) : (F20c fuel).Ok Tryz.prog := okJ Tryz.f20 13 0 fuel [F49c fuel] [] false (qc (F49ok fuel) <| q0) (p0) L0
def F14 (fuel : Nat)  : Option (Bool) :=
 (F15 fuel ([120] : List UInt8) ([115, 112, 97, 99, 101, 32, 97, 59, 32, 109, 101, 115, 115, 97, 103, 101, 32, 77, 32, 123, 32, 112, 108, 97, 105, 110, 32, 117, 51, 50, 32, 110, 32, 61, 32, 49, 59, 32, 109, 101, 115, 115, 97, 103, 101, 32, 78, 32, 123, 32, 125, 32, 125] : List UInt8)).bind fun y1 =>
 let x2 := y1.1
 (F15 fuel ([120] : List UInt8) ([10, 109, 101, 115, 115, 97, 103, 101, 32, 114, 112, 99, 32, 123, 32, 125] : List UInt8)).bind fun y5 =>
 let x21 := bif (bif (bif (bif (y1.2.2 != (0 : Int)) then true else (y1.2.1 != (0 : Int))) then true else (!(((x2.fld 0).asStr) == ([120] : List UInt8)))) then true else (!(((x2.fld 1).asStr) == ([97] : List UInt8)))) then true else ((((x2.fld 3).asList).length : Int) != (2 : Int))
 let x22 := (x2.fld 3).asList
 bif imp (!x21) (inRange (0 : Int) x22.length) then
 let x28 := bif x21 then true else ((((x22.getD (0 : Int).toNat .bad).fld 1).asList.length : Int) != (1 : Int))
 let x29 := (x2.fld 3).asList
 bif imp (!x28) (inRange (1 : Int) x29.length) then
 bif (bif x28 then true else (!(((x29.getD (1 : Int).toNat .bad).fld 0).asStr == ([77, 46, 78] : List UInt8)))) then
 some false
 else
 let x35 := (x2.fld 3).asList
 bif inRange (0 : Int) x35.length then
 let x38 := ((x35.getD (0 : Int).toNat .bad).fld 1).asList
 bif inRange (0 : Int) x38.length then
 let x39 := x38.getD (0 : Int).toNat .bad
 (F23 fuel [(PV.agg [(PV.int (1 : Int)), (PV.str ([98, 111, 111, 108] : List UInt8)), (PV.int (0 : Int)), (PV.int (0 : Int))])] (0 : Int)).bind fun y40 =>
 let x41 := y40.1
 let x68 := bif (bif (bif (bif (bif (bif (bif (bif (bif (y5.2.1 == (2 : Int)) then (y5.2.2 == (8 : Int)) else false) then (((x39.fld 0).asInt) == (1 : Int)) else false) then (((x39.fld 1).asStr) == ([110] : List UInt8)) else false) then (((x39.fld 2).asInt) == (3 : Int)) else false) then ((((x39.fld 4).fld 0).asInt) == (4 : Int)) else false) then (((x41.fld 0).asInt) == (1 : Int)) else false) then (((x41.fld 1).asStr) == ([] : List UInt8)) else false) then (y40.2.1 == (1 : Int)) else false) then (y40.2.2 == (0 : Int)) else false
 (bif x68 then F18 fuel ([105, 54, 52] : List UInt8) else some 0).bind fun y69 =>
 let x71 := bif x68 then (y69 == (3 : Int)) else false
 (bif x71 then F20 fuel (7 : Int) else some []).bind fun y72 =>
 some (bif x71 then (y72 == ([116, 101, 120, 116] : List UInt8)) else false)
 else none
 else none
 else none
 else none
def F14c (fuel : Nat) : CallE := ⟨14, ⟨0, [], []⟩, ⟨1, [], [.bool]⟩, fun x => F14 fuel , false⟩
theorem F14ok (fuel : Nat) : (F14c fuel).Ok Tryz.prog := okJ Tryz.f14 127 0 fuel [F15c fuel, F23c fuel, F18c fuel, F20c fuel] [] false (qc (F15ok fuel) <| qc (F23ok fuel) <| qc (F18ok fuel) <| qc (F20ok fuel) <| q0) (p0) L0
theorem awake09_run : F14 1000 = some true := isT_spec (by kernel_rfl)
def Lawake09 (fuel : Nat) : Option Bool := some true
def Lawake09c (fuel : Nat) : CallE := { f := 14, A := ⟨0, [], []⟩, R := ⟨1, [], [.bool]⟩, F := fun x => Lawake09 fuel, dflt := false }
theorem awake09_fun (fuel : Nat) : (F14c fuel).F = fun _ => F14 fuel := rfl
theorem Lawake09ok (fuel : Nat) : (Lawake09c fuel).Ok Tryz.prog := fun x y h => F14ok 1000 () y ((congrFun (awake09_fun 1000) ()).trans (awake09_run.trans h))
def S22_5 (fuel : Nat) (a3 : List PV) (a4 : Int) : Option (((List PV) × Int) ⊕ ((Bool) ⊕ (Unit))) :=
 bif (decide (a4 < (a3.length : Int))) then
 bif inRange a4 a3.length then
 bif (decide ((((a3.getD a4.toNat .bad).fld 1).asStr.length : Int) > (300 : Int))) then
 some (.inr (.inl false))
 else
 some (.inl (a3, (IntKind.wrap .i64 (a4 + (1 : Int)))))
 else none
 else
 some (.inr (.inr ()))
def S22_5step (fuel : Nat) (x : (List PV) × Int) : Option (((List PV) × Int) ⊕ ((Bool) ⊕ (Unit))) := S22_5 fuel x.1 x.2
def F22 (fuel : Nat) (a0 : List PV) : Option (Bool) :=
 bif (decide ((a0.length : Int) > (80 : Int))) then
 some false
 else
 (loopQ fuel (S22_5step fuel) (a0, (0 : Int))).bind fun z => sumE (fun y13 =>
 some y13
 ) (fun y14 =>
 some true
 ) z
def S22_5l (fuel : Nat) : LoopE := ⟨5, ⟨[0, 3], [], [(.slice 72), (.int .i64)]⟩, [(.ret, ⟨[2], [], [.bool]⟩), (.exit 0, ⟨[], [], []⟩)], S22_5step fuel⟩
def F22C (fuel : Nat) : Cfg := cfg Tryz.prog 20 0 [] [S22_5l fuel] fuel
def F22c (fuel : Nat) : CallE := ⟨22, ⟨1, [], [(.slice 72)]⟩, ⟨1, [], [.bool]⟩, fun x => F22 fuel x, false⟩
theorem F22k (fuel : Nat) : CallOk (F22C fuel) := cfg_callOkP (q0) (p0)
theorem S22_5ok (fuel : Nat) : LoopOk (F22C fuel) (lp (bodyOf Tryz.f22) 0) := okL (F22k fuel) fuel (S22_5l fuel) L0
theorem F22ok (fuel : Nat) : (F22c fuel).Ok Tryz.prog := okE Tryz.f22 (F22k fuel) (L1 (S22_5ok fuel))
def F105 (fuel : Nat) (a0 : Unit) (a1 : Int) (s : Q4) : Option (Bool × Q4) :=
 let x4 := bif (s.2.2.1 == (0 : Int)) then (decide (s.2.1 < (s.1.length : Int))) else false
 bif imp x4 (inRange s.2.1 s.1.length) then
 some ((bif x4 then (((s.1.getD s.2.1.toNat .bad).fld 0).asInt == a1) else false), s)
 else none
def F105c (fuel : Nat) : CallE := ⟨105, ⟨2, [.box 87 (.agg 87 [.leaf, .leaf, .leaf, (.agg 28 [.leaf, .leaf, .leaf, .leaf, .leaf, .leaf])]), .arr 9 0, .arr 63 0, .arr 127 0, .acc], [(.con (.ref 0 [] 87)), (.int .i64), (.slice 72), (.int .i64), (.int .i64), .str, .str, (.con (.arr 1 0 9)), (.con (.arr 2 0 63)), (.con (.arr 3 0 127)), (.acc 4 130), (.slice 9), (.slice 63), (.slice 127)]⟩, ⟨1, [.box 87 (.agg 87 [.leaf, .leaf, .leaf, (.agg 28 [.leaf, .leaf, .leaf, .leaf, .leaf, .leaf])]), .arr 9 0, .arr 63 0, .arr 127 0, .acc], [.bool, (.slice 72), (.int .i64), (.int .i64), .str, .str, (.con (.arr 1 0 9)), (.con (.arr 2 0 63)), (.con (.arr 3 0 127)), (.acc 4 130), (.slice 9), (.slice 63), (.slice 127)]⟩, fun x => F105 fuel x.1 x.2.1 x.2.2, (false, [], 0, 0, [], [], (), (), (), [], [], [], [])⟩
theorem F105ok (fuel : Nat) : (F105c fuel).Ok Tryz.prog := okJ Tryz.f105 37 5 fuel [] [] false (q0) (p0) L0
def F106 (fuel : Nat) (a0 : Unit) (a1 : Int) (s : Q4) : Option (Q4) :=
 bif (s.2.2.1 == (0 : Int)) then
 some (s.1, s.2.1, a1, s.2.2.2)
 else
 some s
def F106c (fuel : Nat) : CallE := ⟨106, ⟨2, [.box 87 (.agg 87 [.leaf, .leaf, .leaf, (.agg 28 [.leaf, .leaf, .leaf, .leaf, .leaf, .leaf])]), .arr 9 0, .arr 63 0, .arr 127 0, .acc], [(.con (.ref 0 [] 87)), (.int .i64), (.slice 72), (.int .i64), (.int .i64), .str, .str, (.con (.arr 1 0 9)), (.con (.arr 2 0 63)), (.con (.arr 3 0 127)), (.acc 4 130), (.slice 9), (.slice 63), (.slice 127)]⟩, ⟨0, [.box 87 (.agg 87 [.leaf, .leaf, .leaf, (.agg 28 [.leaf, .leaf, .leaf, .leaf, .leaf, .leaf])]), .arr 9 0, .arr 63 0, .arr 127 0, .acc], [(.slice 72), (.int .i64), (.int .i64), .str, .str, (.con (.arr 1 0 9)), (.con (.arr 2 0 63)), (.con (.arr 3 0 127)), (.acc 4 130), (.slice 9), (.slice 63), (.slice 127)]⟩, fun x => F106 fuel x.1 x.2.1 x.2.2, ([], 0, 0, [], [], (), (), (), [], [], [], [])⟩
theorem F106ok (fuel : Nat) : (F106c fuel).Ok Tryz.prog := okJ Tryz.f106 13 5 fuel [] [] false (q0) (p0) L0
def F341 (fuel : Nat) (a0 : Int) : Option (Bool) :=
 some (bif (decide (a0 ≥ (97 : Int))) then (decide (a0 ≤ (122 : Int))) else false)
def F341c (fuel : Nat) : CallE := ⟨341, ⟨1, [], [(.int .u8)]⟩, ⟨1, [], [.bool]⟩, fun x => F341 fuel x, false⟩
theorem F341ok (fuel : Nat) : (F341c fuel).Ok Tryz.prog := okJ Tryz.f341 9 0 fuel [] [] false (q0) (p0) L0
def F342 (fuel : Nat) (a0 : Int) : Option (Bool) :=
 some (bif (decide (a0 ≥ (65 : Int))) then (decide (a0 ≤ (90 : Int))) else false)
def F342c (fuel : Nat) : CallE := ⟨342, ⟨1, [], [(.int .u8)]⟩, ⟨1, [], [.bool]⟩, fun x => F342 fuel x, false⟩
theorem F342ok (fuel : Nat) : (F342c fuel).Ok Tryz.prog := okJ Tryz.f342 9 0 fuel [] [] false (q0) (p0) L0
def S295_5 (fuel : Nat) (a14 : List UInt8) (a15 : Int) : Option (((List UInt8) × Int) ⊕ ((Bool) ⊕ (Unit))) :=
 bif (decide (a15 < (a14.length : Int))) then
 bif inRange a15 a14.length then
 (F341 fuel ((a14.getD a15.toNat 0).toNat : Int)).bind fun y19 =>
 let x20 := !y19
 bif imp x20 (inRange a15 a14.length) then
 (bif x20 then F342 fuel ((a14.getD a15.toNat 0).toNat : Int) else some false).bind fun y22 =>
 let x24 := bif x20 then (!y22) else false
 bif imp x24 (inRange a15 a14.length) then
 let x27 := bif x24 then (((a14.getD a15.toNat 0).toNat : Int) != (95 : Int)) else false
 bif imp x27 (inRange a15 a14.length) then
 let x29 := decide (((a14.getD a15.toNat 0).toNat : Int) < (48 : Int))
 bif imp (bif !x29 then x27 else false) (inRange a15 a14.length) then
 bif (bif x27 then (bif x29 then true else (decide (((a14.getD a15.toNat 0).toNat : Int) > (57 : Int)))) else false) then
 some (.inr (.inl false))
 else
 some (.inl (a14, (IntKind.wrap .i64 (a15 + (1 : Int)))))
 else none
 else none
 else none
 else none
 else none
 else
 some (.inr (.inr ()))
def S295_5step (fuel : Nat) (x : (List UInt8) × Int) : Option (((List UInt8) × Int) ⊕ ((Bool) ⊕ (Unit))) := S295_5 fuel x.1 x.2
def F295 (fuel : Nat) (a0 : List UInt8) : Option (Bool) :=
 let x5 := bif ((a0.length : Int) == (0 : Int)) then true else (decide ((a0.length : Int) > (40 : Int)))
 bif imp (!x5) (inRange (0 : Int) a0.length) then
 (bif !x5 then F341 fuel ((a0.getD (0 : Int).toNat 0).toNat : Int) else some false).bind fun y7 =>
 let x8 := !y7
 bif imp (bif x8 then !x5 else false) (inRange (0 : Int) a0.length) then
 (bif bif x8 then !x5 else false then F342 fuel ((a0.getD (0 : Int).toNat 0).toNat : Int) else some false).bind fun y10 =>
 bif (bif x5 then true else (bif x8 then (!y10) else false)) then
 some false
 else
 (loopQ fuel (S295_5step fuel) (a0, (1 : Int))).bind fun z => sumE (fun y35 =>
 some y35
 ) (fun y36 =>
 some true
 ) z
 else none
 else none
def S295_5l (fuel : Nat) : LoopE := ⟨5, ⟨[0, 3], [], [.str, (.int .i64)]⟩, [(.ret, ⟨[2], [], [.bool]⟩), (.exit 0, ⟨[], [], []⟩)], S295_5step fuel⟩
def F295C (fuel : Nat) : Cfg := cfg Tryz.prog 60 0 [F341c fuel, F342c fuel] [S295_5l fuel] fuel
def F295c (fuel : Nat) : CallE := ⟨295, ⟨1, [], [.str]⟩, ⟨1, [], [.bool]⟩, fun x => F295 fuel x, false⟩
theorem F295k (fuel : Nat) : CallOk (F295C fuel) := cfg_callOkP (qc (F341ok fuel) <| qc (F342ok fuel) <| q0) (p0)
theorem S295_5ok (fuel : Nat) : LoopOk (F295C fuel) (lp (bodyOf Tryz.f295) 0) := okL (F295k fuel) fuel (S295_5l fuel) L0
theorem F295ok (fuel : Nat) : (F295c fuel).Ok Tryz.prog := okE Tryz.f295 (F295k fuel) (L1 (S295_5ok fuel))
def F62 (fuel : Nat) (a0 : Unit) (a1 : Unit) (a2 : Unit) (s : Q6) : Option ((Q6) ⊕ (PV × Q6)) :=
 (F63 fuel () s.2.2.2.2.2.2.2.2.1 (s.1, s.2.1, s.2.2.1, s.2.2.2.1, (), (), (), s.2.2.2.2.2.2.2.1, s.2.2.2.2.2.2.2.2.2.2)).bind fun z => sumE (fun y1 =>
 some (.inl (y1.2.1, y1.2.2.1, y1.2.2.2.1, y1.2.2.2.2.1, (), (), (), y1.2.2.2.2.2.2.2.2.1, s.2.2.2.2.2.2.2.2.1, y1.1, y1.2.2.2.2.2.2.2.2.2))
 ) (fun y2 =>
 some (.inr (y2.1, y2.2.1, y2.2.2.1, y2.2.2.2.1, y2.2.2.2.2.1, (), (), (), y2.2.2.2.2.2.2.2.2.1, s.2.2.2.2.2.2.2.2.1, s.2.2.2.2.2.2.2.2.2.1, y2.2.2.2.2.2.2.2.2.2))
 ) z
def F62p (fuel : Nat) : CallP := ⟨62, ⟨3, [.box 82 (.agg 82 [.leaf, .leaf, (.agg 28 [.leaf, .leaf, .leaf, .leaf, .leaf, .leaf])]), .box 3 .leaf, .box 51 .leaf, .arr 9 0, .arr 63 0, .arr 127 0, .acc], [(.con (.ref 0 [] 82)), (.con (.ref 1 [] 3)), (.con (.ref 2 [] 51)), (.slice 72), (.int .i64), .str, .str, (.con (.arr 3 0 9)), (.con (.arr 4 0 63)), (.con (.arr 5 0 127)), (.acc 6 130), (.int .i64), (.data 51), (.slice 9), (.slice 63), (.slice 127)]⟩, ⟨0, [.box 82 (.agg 82 [.leaf, .leaf, (.agg 28 [.leaf, .leaf, .leaf, .leaf, .leaf, .leaf])]), .box 3 .leaf, .box 51 .leaf, .arr 9 0, .arr 63 0, .arr 127 0, .acc], [(.slice 72), (.int .i64), .str, .str, (.con (.arr 3 0 9)), (.con (.arr 4 0 63)), (.con (.arr 5 0 127)), (.acc 6 130), (.int .i64), (.data 51), (.slice 9), (.slice 63), (.slice 127)]⟩, ⟨1, [.box 82 (.agg 82 [.leaf, .leaf, (.agg 28 [.leaf, .leaf, .leaf, .leaf, .leaf, .leaf])]), .box 3 .leaf, .box 51 .leaf, .arr 9 0, .arr 63 0, .arr 127 0, .acc], [(.ifc 84), (.slice 72), (.int .i64), .str, .str, (.con (.arr 3 0 9)), (.con (.arr 4 0 63)), (.con (.arr 5 0 127)), (.acc 6 130), (.int .i64), (.data 51), (.slice 9), (.slice 63), (.slice 127)]⟩, fun x => F62 fuel x.1 x.2.1 x.2.2.1 x.2.2.2, ([], 0, [], [], (), (), (), [], 0, PV.bad, [], [], [])⟩
theorem F62ok (fuel : Nat) : (F62p fuel).Ok Tryz.prog := okPJ Tryz.f62 7 7 fuel [] [F63p fuel] false (q0) (pc (F63ok fuel) <| p0) L0
def F114_v1 (fuel : Nat) (a0 : Unit) (a1 : Unit) (s : Q5) : Option ((Q5) ⊕ (PV × Q5)) :=
 (F62 fuel () () () (s.2.2.2.2.1, s.2.2.2.2.2.1, s.2.2.2.2.2.2.1, s.2.2.2.2.2.2.2.1, (), (), (), s.2.2.2.2.2.2.2.2.2.2.2.1, s.2.2.1, s.2.2.2.1, s.2.2.2.2.2.2.2.2.2.2.2.2)).bind fun z => sumE (fun y1 =>
 some (.inl ((), (), y1.2.2.2.2.2.2.2.2.1, y1.2.2.2.2.2.2.2.2.2.1, y1.1, y1.2.1, y1.2.2.1, y1.2.2.2.1, (), (), (), y1.2.2.2.2.2.2.2.1, y1.2.2.2.2.2.2.2.2.2.2))
 ) (fun y2 =>
 some (.inr (y2.1, (), (), y2.2.2.2.2.2.2.2.2.2.1, y2.2.2.2.2.2.2.2.2.2.2.1, y2.2.1, y2.2.2.1, y2.2.2.2.1, y2.2.2.2.2.1, (), (), (), y2.2.2.2.2.2.2.2.2.1, y2.2.2.2.2.2.2.2.2.2.2.2))
 ) z
def F114_v1p (fuel : Nat) : CallP := ⟨114, ⟨2, [.box 97 .leaf, .box 80 .leaf, .box 3 .leaf, .box 51 .leaf, .box 82 (.agg 82 [.leaf, .leaf, (.agg 28 [.leaf, .leaf, .leaf, .leaf, .leaf, .leaf])]), .arr 9 0, .arr 63 0, .arr 127 0, .acc], [(.con (.ref 0 [] 97)), (.con (.ref 1 [] 80)), (.con (.fn 62 0 [(.ref 2 [] 3), (.ref 3 [] 51)])), (.con (.ref 4 [] 82)), (.int .i64), (.data 51), (.slice 72), (.int .i64), .str, .str, (.con (.arr 5 0 9)), (.con (.arr 6 0 63)), (.con (.arr 7 0 127)), (.acc 8 130), (.slice 9), (.slice 63), (.slice 127)]⟩, ⟨0, [.box 97 .leaf, .box 80 .leaf, .box 3 .leaf, .box 51 .leaf, .box 82 (.agg 82 [.leaf, .leaf, (.agg 28 [.leaf, .leaf, .leaf, .leaf, .leaf, .leaf])]), .arr 9 0, .arr 63 0, .arr 127 0, .acc], [(.con (.fn 62 0 [(.ref 2 [] 3), (.ref 3 [] 51)])), (.con (.ref 4 [] 82)), (.int .i64), (.data 51), (.slice 72), (.int .i64), .str, .str, (.con (.arr 5 0 9)), (.con (.arr 6 0 63)), (.con (.arr 7 0 127)), (.acc 8 130), (.slice 9), (.slice 63), (.slice 127)]⟩, ⟨1, [.box 97 .leaf, .box 80 .leaf, .box 3 .leaf, .box 51 .leaf, .box 82 (.agg 82 [.leaf, .leaf, (.agg 28 [.leaf, .leaf, .leaf, .leaf, .leaf, .leaf])]), .arr 9 0, .arr 63 0, .arr 127 0, .acc], [(.ifc 84), (.con (.fn 62 0 [(.ref 2 [] 3), (.ref 3 [] 51)])), (.con (.ref 4 [] 82)), (.int .i64), (.data 51), (.slice 72), (.int .i64), .str, .str, (.con (.arr 5 0 9)), (.con (.arr 6 0 63)), (.con (.arr 7 0 127)), (.acc 8 130), (.slice 9), (.slice 63), (.slice 127)]⟩, fun x => F114_v1 fuel x.1 x.2.1 x.2.2, ((), (), 0, PV.bad, [], 0, [], [], (), (), (), [], [], [], [])⟩
theorem F114_v1ok (fuel : Nat) : (F114_v1p fuel).Ok Tryz.prog := okPJ Tryz.f114 5 9 fuel [] [F62p fuel] false (q0) (pc (F62ok fuel) <| p0) L0
def F43_v2 (fuel : Nat) (a0 : Unit) (s : Q5) : Option (PV × Q5) := (F114_v1 fuel () () s).bind fun z => sumE (fun y => some ((PV.agg [(PV.int (0 : Int)), (PV.int (0 : Int))]), y)) (fun y => some y) z
def F43_v2c (fuel : Nat) : CallE := ⟨43, ⟨1, [.box 97 .leaf, .box 80 .leaf, .box 3 .leaf, .box 51 .leaf, .box 82 (.agg 82 [.leaf, .leaf, (.agg 28 [.leaf, .leaf, .leaf, .leaf, .leaf, .leaf])]), .arr 9 0, .arr 63 0, .arr 127 0, .acc], [(.con (.fn 114 0 [(.ref 0 [] 97), (.ref 1 [] 80)])), (.con (.fn 62 0 [(.ref 2 [] 3), (.ref 3 [] 51)])), (.con (.ref 4 [] 82)), (.int .i64), (.data 51), (.slice 72), (.int .i64), .str, .str, (.con (.arr 5 0 9)), (.con (.arr 6 0 63)), (.con (.arr 7 0 127)), (.acc 8 130), (.slice 9), (.slice 63), (.slice 127)]⟩, ⟨1, [.box 97 .leaf, .box 80 .leaf, .box 3 .leaf, .box 51 .leaf, .box 82 (.agg 82 [.leaf, .leaf, (.agg 28 [.leaf, .leaf, .leaf, .leaf, .leaf, .leaf])]), .arr 9 0, .arr 63 0, .arr 127 0, .acc], [(.data 84), (.con (.fn 62 0 [(.ref 2 [] 3), (.ref 3 [] 51)])), (.con (.ref 4 [] 82)), (.int .i64), (.data 51), (.slice 72), (.int .i64), .str, .str, (.con (.arr 5 0 9)), (.con (.arr 6 0 63)), (.con (.arr 7 0 127)), (.acc 8 130), (.slice 9), (.slice 63), (.slice 127)]⟩, fun x => F43_v2 fuel x.1 x.2, (PV.bad, (), (), 0, PV.bad, [], 0, [], [], (), (), (), [], [], [], [])⟩
theorem F43_v2ok (fuel : Nat) : (F43_v2c fuel).Ok Tryz.prog := by
 intro x y h
 have h : F43_v2 fuel x.1 x.2 = some y := h
 unfold F43_v2 at h
 obtain ⟨z, h1, h2⟩ := Option.bind_eq_some_iff.1 h
 cases z with
 | inl z =>
  have hm := (F114_v1ok fuel ((), (), x.2.1, x.2.2.1, x.2.2.2.1, x.2.2.2.2.1, x.2.2.2.2.2.1, x.2.2.2.2.2.2.1, x.2.2.2.2.2.2.2.1, x.2.2.2.2.2.2.2.2.1, x.2.2.2.2.2.2.2.2.2.1, x.2.2.2.2.2.2.2.2.2.2.1, x.2.2.2.2.2.2.2.2.2.2.2.1, x.2.2.2.2.2.2.2.2.2.2.2.2.1, x.2.2.2.2.2.2.2.2.2.2.2.2.2.1, x.2.2.2.2.2.2.2.2.2.2.2.2.2.2.1, x.2.2.2.2.2.2.2.2.2.2.2.2.2.2.2)).1 z h1
  cases h2
  exact caught_ret hm
 | inr z =>
  have hm := (F114_v1ok fuel ((), (), x.2.1, x.2.2.1, x.2.2.2.1, x.2.2.2.2.1, x.2.2.2.2.2.1, x.2.2.2.2.2.2.1, x.2.2.2.2.2.2.2.1, x.2.2.2.2.2.2.2.2.1, x.2.2.2.2.2.2.2.2.2.1, x.2.2.2.2.2.2.2.2.2.2.1, x.2.2.2.2.2.2.2.2.2.2.2.1, x.2.2.2.2.2.2.2.2.2.2.2.2.1, x.2.2.2.2.2.2.2.2.2.2.2.2.2.1, x.2.2.2.2.2.2.2.2.2.2.2.2.2.2.1, x.2.2.2.2.2.2.2.2.2.2.2.2.2.2.2)).2 z h1
  cases h2
  exact caught_pan hm
def F50_v1 (fuel : Nat) (a0 : List PV) (a1 : Int) (a2 : Unit) (a3 : Int) (a4 : PV) : Option (Int × Int × Int × PV) :=
 bif (bif (decide (a1 < (0 : Int))) then true else (decide (a1 > (a0.length : Int)))) then
 some ((0 : Int), (1 : Int), a3, a4)
 else
 (F43_v2 fuel () ((), (), a3, a4, a0, a1, ([] : List UInt8), ([] : List UInt8), (), (), (), [], [], [], [])).bind fun y5 =>
 bif (((y5.1.fld 1).asInt) != (0 : Int)) then
 some (((y5.1.fld 0).asInt), ((y5.1.fld 1).asInt), y5.2.2.2.1, y5.2.2.2.2.1)
 else
 some (y5.2.2.2.2.2.2.1, (0 : Int), y5.2.2.2.1, y5.2.2.2.2.1)
def F50_v1c (fuel : Nat) : CallE := ⟨50, ⟨3, [.box 3 .leaf, .box 51 .leaf], [(.slice 72), (.int .i64), (.con (.fn 62 0 [(.ref 0 [] 3), (.ref 1 [] 51)])), (.int .i64), (.data 51)]⟩, ⟨2, [.box 3 .leaf, .box 51 .leaf], [(.int .i64), (.int .i64), (.int .i64), (.data 51)]⟩, fun x => F50_v1 fuel x.1 x.2.1 x.2.2.1 x.2.2.2.1 x.2.2.2.2, (0, 0, 0, PV.bad)⟩
theorem F50_v1ok (fuel : Nat) : (F50_v1c fuel).Ok Tryz.prog := okJ Tryz.f50 35 2 fuel [F43_v2c fuel] [] false (qc (F43_v2ok fuel) <| q0) (p0) L0
def F29 (fuel : Nat) (a0 : Int) (a1 : List PV) (a2 : Int) : Option (PV × Int × Int) :=
 bif (bif (decide (a0 < (0 : Int))) then true else (decide (a0 > (8 : Int)))) then
 some ((PV.agg [(PV.int (0 : Int)), (PV.int (0 : Int)), (PV.str ([] : List UInt8)), (PV.slice []), (PV.slice []), (PV.slice []), (PV.slice [])]), (0 : Int), (1 : Int))
 else
 (F50_v1 fuel a1 a2 () a0 (PV.agg [(PV.int (0 : Int)), (PV.int (0 : Int)), (PV.str ([] : List UInt8)), (PV.slice []), (PV.slice []), (PV.slice []), (PV.slice [])])).bind fun y4 =>
 some (y4.2.2.2, y4.1, y4.2.1)
def F29c (fuel : Nat) : CallE := ⟨29, ⟨3, [], [(.int .i64), (.slice 72), (.int .i64)]⟩, ⟨3, [], [(.data 51), (.int .i64), (.int .i64)]⟩, fun x => F29 fuel x.1 x.2.1 x.2.2, (PV.bad, 0, 0)⟩
theorem F29ok (fuel : Nat) : (F29c fuel).Ok Tryz.prog := okJ Tryz.f29 29 0 fuel [F50_v1c fuel] [] false (qc (F50_v1ok fuel) <| q0) (p0) L0
def F294 (fuel : Nat) (a0 : List UInt8) : Option (Bool) :=
 bif (a0 == ([109, 101, 115, 115, 97, 103, 101] : List UInt8)) then
 some true
 else
 bif (a0 == ([101, 110, 117, 109] : List UInt8)) then
 some true
 else
 bif (a0 == ([115, 101, 114, 118, 105, 99, 101] : List UInt8)) then
 some true
 else
 bif (a0 == ([117, 110, 105, 111, 110] : List UInt8)) then
 some true
 else
 bif (a0 == ([109, 97, 112] : List UInt8)) then
 some true
 else
 bif (a0 == ([108, 105, 115, 116] : List UInt8)) then
 some true
 else
 let x7 := a0 == ([114, 101, 113, 117, 105, 114, 101, 100] : List UInt8)
 bif x7 then
 some true
 else
 let x8 := a0 == ([111, 112, 116, 105, 111, 110, 97, 108] : List UInt8)
 bif x8 then
 some true
 else
 bif (a0 == ([112, 108, 97, 105, 110] : List UInt8)) then
 some true
 else
 bif (a0 == ([100, 101, 102, 97, 117, 108, 116] : List UInt8)) then
 some true
 else
 let x11 := a0 == ([114, 101, 115, 101, 114, 118, 101, 100] : List UInt8)
 bif x11 then
 some true
 else
 bif (a0 == ([105, 109, 112, 111, 114, 116] : List UInt8)) then
 some true
 else
 bif (a0 == ([115, 112, 97, 99, 101] : List UInt8)) then
 some true
 else
 bif (a0 == ([114, 112, 99] : List UInt8)) then
 some true
 else
 bif (a0 == ([115, 116, 114, 101, 97, 109] : List UInt8)) then
 some true
 else
 bif (a0 == ([114, 101, 116, 117, 114, 110, 115] : List UInt8)) then
 some true
 else
 bif (a0 == ([111, 112, 101, 110] : List UInt8)) then
 some true
 else
 bif (a0 == ([116, 114, 117, 101] : List UInt8)) then
 some true
 else
 bif (a0 == ([102, 97, 108, 115, 101] : List UInt8)) then
 some true
 else
 bif (a0 == ([110, 97, 110] : List UInt8)) then
 some true
 else
 bif (a0 == ([105, 110, 102] : List UInt8)) then
 some true
 else
 some false
def F294c (fuel : Nat) : CallE := ⟨294, ⟨1, [], [.str]⟩, ⟨1, [], [.bool]⟩, fun x => F294 fuel x, false⟩
theorem F294ok (fuel : Nat) : (F294c fuel).Ok Tryz.prog := okJ Tryz.f294 26 0 fuel [] [] false (q0) (p0) L0
def F218 (fuel : Nat) (a0 : List UInt8) : Option (Bool) :=
 (F295 fuel a0).bind fun y1 =>
 (bif y1 then F294 fuel a0 else some false).bind fun y2 =>
 some (bif y1 then (!y2) else false)
def F218c (fuel : Nat) : CallE := ⟨218, ⟨1, [], [.str]⟩, ⟨1, [], [.bool]⟩, fun x => F218 fuel x, false⟩
theorem F218ok (fuel : Nat) : (F218c fuel).Ok Tryz.prog := okJ Tryz.f218 10 0 fuel [F295c fuel, F294c fuel] [] false (qc (F295ok fuel) <| qc (F294ok fuel) <| q0) (p0) L0
def F136 (fuel : Nat) (a0 : Unit) (s : Q4) : Option ((List UInt8) × Q4) :=
 (F105 fuel () (1 : Int) s).bind fun y1 =>
 bif (!y1.1) then
 (F106 fuel () (2 : Int) y1.2).bind fun y3 =>
 some (([] : List UInt8), y3)
 else
 let x4 := y1.2.1
 let x5 := y1.2.2.1
 bif inRange x5 x4.length then
 let x8 := ((x4.getD x5.toNat .bad).fld 1).asStr
 (F218 fuel x8).bind fun y9 =>
 bif (!y9) then
 (F106 fuel () (8 : Int) y1.2).bind fun y11 =>
 some (([] : List UInt8), y11)
 else
 some (x8, y1.2.1, (IntKind.wrap .i64 (y1.2.2.1 + (1 : Int))), y1.2.2.2)
 else none
def F136c (fuel : Nat) : CallE := ⟨136, ⟨1, [.box 87 (.agg 87 [.leaf, .leaf, .leaf, (.agg 28 [.leaf, .leaf, .leaf, .leaf, .leaf, .leaf])]), .arr 9 0, .arr 63 0, .arr 127 0, .acc], [(.con (.ref 0 [] 87)), (.slice 72), (.int .i64), (.int .i64), .str, .str, (.con (.arr 1 0 9)), (.con (.arr 2 0 63)), (.con (.arr 3 0 127)), (.acc 4 130), (.slice 9), (.slice 63), (.slice 127)]⟩, ⟨1, [.box 87 (.agg 87 [.leaf, .leaf, .leaf, (.agg 28 [.leaf, .leaf, .leaf, .leaf, .leaf, .leaf])]), .arr 9 0, .arr 63 0, .arr 127 0, .acc], [.str, (.slice 72), (.int .i64), (.int .i64), .str, .str, (.con (.arr 1 0 9)), (.con (.arr 2 0 63)), (.con (.arr 3 0 127)), (.acc 4 130), (.slice 9), (.slice 63), (.slice 127)]⟩, fun x => F136 fuel x.1 x.2, ([], [], 0, 0, [], [], (), (), (), [], [], [], [])⟩
theorem F136ok (fuel : Nat) : (F136c fuel).Ok Tryz.prog := okJ Tryz.f136 34 5 fuel [F105c fuel, F106c fuel, F218c fuel] [] false (qc (F105ok fuel) <| qc (F106ok fuel) <| qc (F218ok fuel) <| q0) (p0) L0
def F107 (fuel : Nat) (a0 : Unit) (a1 : Int) (a2 : List UInt8) (s : Q4) : Option (Bool × Q4) :=
 (F105 fuel () a1 s).bind fun y1 =>
 let x2 := y1.1
 let x3 := y1.2.1
 let x4 := y1.2.2.1
 bif imp x2 (inRange x4 x3.length) then
 some ((bif x2 then (((x3.getD x4.toNat .bad).fld 1).asStr == a2) else false), y1.2)
 else none
def F107c (fuel : Nat) : CallE := ⟨107, ⟨3, [.box 87 (.agg 87 [.leaf, .leaf, .leaf, (.agg 28 [.leaf, .leaf, .leaf, .leaf, .leaf, .leaf])]), .arr 9 0, .arr 63 0, .arr 127 0, .acc], [(.con (.ref 0 [] 87)), (.int .i64), .str, (.slice 72), (.int .i64), (.int .i64), .str, .str, (.con (.arr 1 0 9)), (.con (.arr 2 0 63)), (.con (.arr 3 0 127)), (.acc 4 130), (.slice 9), (.slice 63), (.slice 127)]⟩, ⟨1, [.box 87 (.agg 87 [.leaf, .leaf, .leaf, (.agg 28 [.leaf, .leaf, .leaf, .leaf, .leaf, .leaf])]), .arr 9 0, .arr 63 0, .arr 127 0, .acc], [.bool, (.slice 72), (.int .i64), (.int .i64), .str, .str, (.con (.arr 1 0 9)), (.con (.arr 2 0 63)), (.con (.arr 3 0 127)), (.acc 4 130), (.slice 9), (.slice 63), (.slice 127)]⟩, fun x => F107 fuel x.1 x.2.1 x.2.2.1 x.2.2.2, (false, [], 0, 0, [], [], (), (), (), [], [], [], [])⟩
theorem F107ok (fuel : Nat) : (F107c fuel).Ok Tryz.prog := okJ Tryz.f107 25 5 fuel [F105c fuel] [] false (qc (F105ok fuel) <| q0) (p0) L0
def F256 (fuel : Nat) (a0 : Int) : Option (Bool) :=
 some (bif (decide (a0 ≥ (1 : Int))) then (decide (a0 ≤ (9 : Int))) else false)
def F256c (fuel : Nat) : CallE := ⟨256, ⟨1, [], [(.int .i64)]⟩, ⟨1, [], [.bool]⟩, fun x => F256 fuel x, false⟩
theorem F256ok (fuel : Nat) : (F256c fuel).Ok Tryz.prog := okJ Tryz.f256 9 0 fuel [] [] false (q0) (p0) L0
def F340 (fuel : Nat) (a0 : Int) : Option (Int) :=
 bif (bif (decide (a0 ≥ (48 : Int))) then (decide (a0 ≤ (57 : Int))) else false) then
 some (IntKind.wrap .i64 (IntKind.wrap .u8 (a0 - (48 : Int))))
 else
 bif (bif (decide (a0 ≥ (97 : Int))) then (decide (a0 ≤ (102 : Int))) else false) then
 some (IntKind.wrap .i64 ((IntKind.wrap .i64 (IntKind.wrap .u8 (a0 - (97 : Int)))) + (10 : Int)))
 else
 some (-1 : Int)
def F340c (fuel : Nat) : CallE := ⟨340, ⟨1, [], [(.int .u8)]⟩, ⟨1, [], [(.int .i64)]⟩, fun x => F340 fuel x, 0⟩
theorem F340ok (fuel : Nat) : (F340c fuel).Ok Tryz.prog := okJ Tryz.f340 22 0 fuel [] [] false (q0) (p0) L0
def S364_6 (fuel : Nat) (a4 : List UInt8) (a5 : List UInt8) (a6 : Int) : Option (((List UInt8) × (List UInt8) × Int) ⊕ (((List UInt8) × Int) ⊕ ((List UInt8)))) :=
 bif (decide (a6 < (a4.length : Int))) then
 bif inRange a6 a4.length then
 (F340 fuel ((a4.getD a6.toNat 0).toNat : Int)).bind fun y10 =>
 let x11 := decide (y10 < (0 : Int))
 let x12 := IntKind.wrap .i64 (a6 + (1 : Int))
 bif imp (!x11) (inRange x12 a4.length) then
 (bif !x11 then F340 fuel ((a4.getD x12.toNat 0).toNat : Int) else some 0).bind fun y14 =>
 bif (bif x11 then true else (decide (y14 < (0 : Int)))) then
 some (.inr (.inl (([] : List UInt8), (2 : Int))))
 else
 bif inRange a6 a4.length then
 (F340 fuel ((a4.getD a6.toNat 0).toNat : Int)).bind fun y18 =>
 let x20 := IntKind.wrap .i64 (a6 + (1 : Int))
 bif inRange x20 a4.length then
 (F340 fuel ((a4.getD x20.toNat 0).toNat : Int)).bind fun y22 =>
 let x24 := IntKind.wrap .u8 (IntKind.wrap .i64 ((IntKind.wrap .i64 ((16 : Int) * y18)) + y22))
 bif decide (a5.length + ([(PV.int x24)].map byteOfPV).length ≤ strMax) then
 some (.inl (a4, (a5 ++ ([(PV.int x24)].map byteOfPV)), (IntKind.wrap .i64 (a6 + (2 : Int)))))
 else none
 else none
 else none
 else none
 else none
 else
 some (.inr (.inr a5))
def S364_6step (fuel : Nat) (x : (List UInt8) × (List UInt8) × Int) : Option (((List UInt8) × (List UInt8) × Int) ⊕ (((List UInt8) × Int) ⊕ ((List UInt8)))) := S364_6 fuel x.1 x.2.1 x.2.2
def F364 (fuel : Nat) (a0 : List UInt8) : Option ((List UInt8) × Int) :=
 bif (((a0.length : Int).tmod (2 : Int)) != (0 : Int)) then
 some (([] : List UInt8), (2 : Int))
 else
 (loopQ fuel (S364_6step fuel) (a0, ([] : List UInt8), (0 : Int))).bind fun z => sumE (fun y27 =>
 some (y27.1, y27.2)
 ) (fun y28 =>
 some (y28, (0 : Int))
 ) z
def S364_6l (fuel : Nat) : LoopE := ⟨6, ⟨[0, 4, 5], [], [.str, .str, (.int .i64)]⟩, [(.ret, ⟨[2, 3], [], [.str, (.int .i64)]⟩), (.exit 0, ⟨[4], [], [.str]⟩)], S364_6step fuel⟩
def F364C (fuel : Nat) : Cfg := cfg Tryz.prog 46 0 [F340c fuel] [S364_6l fuel] fuel
def F364c (fuel : Nat) : CallE := ⟨364, ⟨1, [], [.str]⟩, ⟨2, [], [.str, (.int .i64)]⟩, fun x => F364 fuel x, ([], 0)⟩
theorem F364k (fuel : Nat) : CallOk (F364C fuel) := cfg_callOkP (qc (F340ok fuel) <| q0) (p0)
theorem S364_6ok (fuel : Nat) : LoopOk (F364C fuel) (lp (bodyOf Tryz.f364) 0) := okL (F364k fuel) fuel (S364_6l fuel) L0
theorem F364ok (fuel : Nat) : (F364c fuel).Ok Tryz.prog := okE Tryz.f364 (F364k fuel) (L1 (S364_6ok fuel))
def F155 (fuel : Nat) (a0 : Int) : Option (Int) :=
 let x1 := a0.tmod (9223372036854775808 : Int)
 bif (decide (x1 > (9218868437227405312 : Int))) then
 some (0 : Int)
 else
 bif (x1 == (9218868437227405312 : Int)) then
 some (1 : Int)
 else
 bif (x1 == (0 : Int)) then
 some (2 : Int)
 else
 bif (decide (x1 < (4503599627370496 : Int))) then
 some (3 : Int)
 else
 some (4 : Int)
def F155c (fuel : Nat) : CallE := ⟨155, ⟨1, [], [(.int .u64)]⟩, ⟨1, [], [(.int .i64)]⟩, fun x => F155 fuel x, 0⟩
theorem F155ok (fuel : Nat) : (F155c fuel).Ok Tryz.prog := okJ Tryz.f155 18 0 fuel [] [] false (q0) (p0) L0
def S316_16 (fuel : Nat) (a14 : Unit) (a15 : List UInt8) (a16 : Unit) (a17 : Int) (a18 : PV) (a19 : PV) : Option ((Unit × (List UInt8) × Unit × Int × PV × PV) ⊕ ((Unit × Unit × PV × PV))) :=
 bif (decide (a17 < (a15.length : Int))) then
 bif inRange a17 a15.length then
 some (.inl ((), a15, (), (IntKind.wrap .i64 (a17 + (1 : Int))), a18, (PV.agg [(PV.int ((a19.fld 0).asInt)), (PV.int (IntKind.wrap .u64 ((IntKind.wrap .u64 ((256 : Int) * ((a19.fld 1).asInt))) + (IntKind.wrap .u64 ((a15.getD a17.toNat 0).toNat : Int))))), (PV.str ((a19.fld 2).asStr)), (PV.slice ((a19.fld 3).asList)), (PV.slice ((a19.fld 4).asList)), (PV.slice ((a19.fld 5).asList)), (PV.slice ((a19.fld 6).asList))])))
 else none
 else
 some (.inr ((), (), a18, a19))
def S316_16step (fuel : Nat) (x : Unit × (List UInt8) × Unit × Int × PV × PV) : Option ((Unit × (List UInt8) × Unit × Int × PV × PV) ⊕ ((Unit × Unit × PV × PV))) := S316_16 fuel x.1 x.2.1 x.2.2.1 x.2.2.2.1 x.2.2.2.2.1 x.2.2.2.2.2
def F316 (fuel : Nat) (a0 : List UInt8) : Option (PV × Int) :=
 bif (a0 == ([110, 97, 110] : List UInt8)) then
 some ((PV.agg [(PV.int (6 : Int)), (PV.int (9221120237041090560 : Int)), (PV.str ([] : List UInt8)), (PV.slice []), (PV.slice []), (PV.slice []), (PV.slice [])]), (0 : Int))
 else
 bif (a0 == ([105, 110, 102] : List UInt8)) then
 some ((PV.agg [(PV.int (6 : Int)), (PV.int (9218868437227405312 : Int)), (PV.str ([] : List UInt8)), (PV.slice []), (PV.slice []), (PV.slice []), (PV.slice [])]), (0 : Int))
 else
 bif (a0 == ([45, 105, 110, 102] : List UInt8)) then
 some ((PV.agg [(PV.int (6 : Int)), (PV.int (18442240474082181120 : Int)), (PV.str ([] : List UInt8)), (PV.slice []), (PV.slice []), (PV.slice []), (PV.slice [])]), (0 : Int))
 else
 let x5 := (a0.length : Int) != (18 : Int)
 bif imp (!x5) (decide (0 ≤ (0 : Int) ∧ (0 : Int) ≤ (2 : Int) ∧ (2 : Int) ≤ (a0.length : Int))) then
 bif (bif x5 then true else (!(((a0.take (2 : Int).toNat).drop (0 : Int).toNat) == ([48, 120] : List UInt8)))) then
 some ((PV.agg [(PV.int (0 : Int)), (PV.int (0 : Int)), (PV.str ([] : List UInt8)), (PV.slice []), (PV.slice []), (PV.slice []), (PV.slice [])]), (2 : Int))
 else
 bif decide (0 ≤ (2 : Int) ∧ (2 : Int) ≤ (a0.length : Int) ∧ (a0.length : Int) ≤ (a0.length : Int)) then
 (F364 fuel ((a0.take (a0.length : Int).toNat).drop (2 : Int).toNat)).bind fun y10 =>
 bif (y10.2 != (0 : Int)) then
 some ((PV.agg [(PV.int (0 : Int)), (PV.int (0 : Int)), (PV.str ([] : List UInt8)), (PV.slice []), (PV.slice []), (PV.slice []), (PV.slice [])]), (2 : Int))
 else
 (loopQ fuel (S316_16step fuel) ((), y10.1, (), (0 : Int), (PV.agg [(PV.int (0 : Int)), (PV.int (0 : Int)), (PV.str ([] : List UInt8)), (PV.slice []), (PV.slice []), (PV.slice []), (PV.slice [])]), (PV.agg [(PV.int (6 : Int)), (PV.int (0 : Int)), (PV.str ([] : List UInt8)), (PV.slice []), (PV.slice []), (PV.slice []), (PV.slice [])]))).bind fun y28 =>
 (F155 fuel ((y28.2.2.2.fld 1).asInt)).bind fun y30 =>
 bif (decide (y30 ≤ (1 : Int))) then
 some ((PV.agg [(PV.int (0 : Int)), (PV.int (0 : Int)), (PV.str ([] : List UInt8)), (PV.slice []), (PV.slice []), (PV.slice []), (PV.slice [])]), (2 : Int))
 else
 some (y28.2.2.2, (0 : Int))
 else none
 else none
def S316_16l (fuel : Nat) : LoopE := ⟨16, ⟨[2, 4, 6, 7], [.box 51 .leaf, .box 51 .leaf], [(.con (.ref 0 [] 51)), .str, (.con (.ref 1 [] 51)), (.int .i64), (.data 51), (.data 51)]⟩, [(.exit 1, ⟨[2, 6], [.box 51 .leaf, .box 51 .leaf], [(.con (.ref 0 [] 51)), (.con (.ref 1 [] 51)), (.data 51), (.data 51)]⟩)], S316_16step fuel⟩
def F316C (fuel : Nat) : Cfg := cfg Tryz.prog 58 0 [F364c fuel, F155c fuel] [S316_16l fuel] fuel
def F316c (fuel : Nat) : CallE := ⟨316, ⟨1, [], [.str]⟩, ⟨2, [], [(.data 51), (.int .i64)]⟩, fun x => F316 fuel x, (PV.bad, 0)⟩
theorem F316k (fuel : Nat) : CallOk (F316C fuel) := cfg_callOkP (qc (F364ok fuel) <| qc (F155ok fuel) <| q0) (p0)
theorem S316_16ok (fuel : Nat) : LoopOk (F316C fuel) (lp (bodyOf Tryz.f316) 0) := okL (F316k fuel) fuel (S316_16l fuel) L0
theorem F316ok (fuel : Nat) : (F316c fuel).Ok Tryz.prog := okE Tryz.f316 (F316k fuel) (L1 (S316_16ok fuel))
def F320 (fuel : Nat) (a0 : List UInt8) (a1 : Int) (a2 : Int) (a3 : Int) : Option (Bool) :=
 let x2 := decide (a1 < (a0.length : Int))
 bif imp x2 (inRange a1 a0.length) then
 let x5 := bif x2 then (decide (((a0.getD a1.toNat 0).toNat : Int) ≥ a2)) else false
 bif imp x5 (inRange a1 a0.length) then
 some (bif x5 then (decide (((a0.getD a1.toNat 0).toNat : Int) ≤ a3)) else false)
 else none
 else none
def F320c (fuel : Nat) : CallE := ⟨320, ⟨4, [], [.str, (.int .i64), (.int .u8), (.int .u8)]⟩, ⟨1, [], [.bool]⟩, fun x => F320 fuel x.1 x.2.1 x.2.2.1 x.2.2.2, false⟩
theorem F320ok (fuel : Nat) : (F320c fuel).Ok Tryz.prog := okJ Tryz.f320 27 0 fuel [] [] false (q0) (p0) L0
def S319_3 (fuel : Nat) (a1 : List UInt8) (a2 : Int) (a3 : Int) (a4 : Int) : Option (((List UInt8) × Int × Int × Int) ⊕ ((Bool) ⊕ (Unit))) :=
 bif (decide (a4 < a3)) then
 (F320 fuel a1 (IntKind.wrap .i64 (a2 + a4)) (128 : Int) (191 : Int)).bind fun y7 =>
 bif (!y7) then
 some (.inr (.inl false))
 else
 some (.inl (a1, a2, a3, (IntKind.wrap .i64 (a4 + (1 : Int)))))
 else
 some (.inr (.inr ()))
def S319_3step (fuel : Nat) (x : (List UInt8) × Int × Int × Int) : Option (((List UInt8) × Int × Int × Int) ⊕ ((Bool) ⊕ (Unit))) := S319_3 fuel x.1 x.2.1 x.2.2.1 x.2.2.2
def F319 (fuel : Nat) (a0 : List UInt8) (a1 : Int) (a2 : Int) : Option (Bool) :=
 (loopQ fuel (S319_3step fuel) (a0, a1, a2, (0 : Int))).bind fun z => sumE (fun y10 =>
 some y10
 ) (fun y11 =>
 some true
 ) z
def S319_3l (fuel : Nat) : LoopE := ⟨3, ⟨[0, 1, 2, 7], [], [.str, (.int .i64), (.int .i64), (.int .i64)]⟩, [(.ret, ⟨[6], [], [.bool]⟩), (.exit 0, ⟨[], [], []⟩)], S319_3step fuel⟩
def F319C (fuel : Nat) : Cfg := cfg Tryz.prog 19 0 [F320c fuel] [S319_3l fuel] fuel
def F319c (fuel : Nat) : CallE := ⟨319, ⟨3, [], [.str, (.int .i64), (.int .i64)]⟩, ⟨1, [], [.bool]⟩, fun x => F319 fuel x.1 x.2.1 x.2.2, false⟩
theorem F319k (fuel : Nat) : CallOk (F319C fuel) := cfg_callOkP (qc (F320ok fuel) <| q0) (p0)
theorem S319_3ok (fuel : Nat) : LoopOk (F319C fuel) (lp (bodyOf Tryz.f319) 0) := okL (F319k fuel) fuel (S319_3l fuel) L0
theorem F319ok (fuel : Nat) : (F319c fuel).Ok Tryz.prog := okE Tryz.f319 (F319k fuel) (L1 (S319_3ok fuel))
def F243 (fuel : Nat) (a0 : List UInt8) (a1 : Int) : Option (Int) :=
 bif inRange a1 a0.length then
 let x1 := ((a0.getD a1.toNat 0).toNat : Int)
 bif (decide (x1 < (128 : Int))) then
 some (1 : Int)
 else
 let x5 := bif (decide (x1 ≥ (194 : Int))) then (decide (x1 ≤ (223 : Int))) else false
 (bif x5 then F319 fuel a0 (IntKind.wrap .i64 (a1 + (1 : Int))) (1 : Int) else some false).bind fun y7 =>
 bif (bif x5 then y7 else false) then
 some (2 : Int)
 else
 let x9 := x1 == (224 : Int)
 (bif x9 then F320 fuel a0 (IntKind.wrap .i64 (a1 + (1 : Int))) (160 : Int) (191 : Int) else some false).bind fun y11 =>
 let x12 := bif x9 then y11 else false
 (bif x12 then F319 fuel a0 (IntKind.wrap .i64 (a1 + (2 : Int))) (1 : Int) else some false).bind fun y14 =>
 bif (bif x12 then y14 else false) then
 some (3 : Int)
 else
 let x16 := x1 == (237 : Int)
 (bif x16 then F320 fuel a0 (IntKind.wrap .i64 (a1 + (1 : Int))) (128 : Int) (159 : Int) else some false).bind fun y18 =>
 let x19 := bif x16 then y18 else false
 (bif x19 then F319 fuel a0 (IntKind.wrap .i64 (a1 + (2 : Int))) (1 : Int) else some false).bind fun y21 =>
 bif (bif x19 then y21 else false) then
 some (3 : Int)
 else
 let x27 := bif (bif (decide (x1 ≥ (225 : Int))) then (decide (x1 ≤ (239 : Int))) else false) then (x1 != (237 : Int)) else false
 (bif x27 then F319 fuel a0 (IntKind.wrap .i64 (a1 + (1 : Int))) (2 : Int) else some false).bind fun y29 =>
 bif (bif x27 then y29 else false) then
 some (3 : Int)
 else
 let x31 := x1 == (240 : Int)
 (bif x31 then F320 fuel a0 (IntKind.wrap .i64 (a1 + (1 : Int))) (144 : Int) (191 : Int) else some false).bind fun y33 =>
 let x34 := bif x31 then y33 else false
 (bif x34 then F319 fuel a0 (IntKind.wrap .i64 (a1 + (2 : Int))) (2 : Int) else some false).bind fun y36 =>
 bif (bif x34 then y36 else false) then
 some (4 : Int)
 else
 let x40 := bif (decide (x1 ≥ (241 : Int))) then (decide (x1 ≤ (243 : Int))) else false
 (bif x40 then F319 fuel a0 (IntKind.wrap .i64 (a1 + (1 : Int))) (3 : Int) else some false).bind fun y42 =>
 bif (bif x40 then y42 else false) then
 some (4 : Int)
 else
 let x44 := x1 == (244 : Int)
 (bif x44 then F320 fuel a0 (IntKind.wrap .i64 (a1 + (1 : Int))) (128 : Int) (143 : Int) else some false).bind fun y46 =>
 let x47 := bif x44 then y46 else false
 (bif x47 then F319 fuel a0 (IntKind.wrap .i64 (a1 + (2 : Int))) (2 : Int) else some false).bind fun y49 =>
 bif (bif x47 then y49 else false) then
 some (4 : Int)
 else
 some (0 : Int)
 else none
def F243c (fuel : Nat) : CallE := ⟨243, ⟨2, [], [.str, (.int .i64)]⟩, ⟨1, [], [(.int .i64)]⟩, fun x => F243 fuel x.1 x.2, 0⟩
theorem F243ok (fuel : Nat) : (F243c fuel).Ok Tryz.prog := okJ Tryz.f243 115 0 fuel [F319c fuel, F320c fuel] [] false (qc (F319ok fuel) <| qc (F320ok fuel) <| q0) (p0) L0
def F244 (fuel : Nat) (a0 : Int) : Option ((List UInt8)) :=
 let x1 := IntKind.wrap .u8 (a0.tdiv (16 : Int))
 let x3 := IntKind.wrap .u8 ((IntKind.wrap .u8 (a0.tdiv (16 : Int))) + (1 : Int))
 bif decide (0 ≤ x1 ∧ x1 ≤ x3 ∧ x3 ≤ (([48, 49, 50, 51, 52, 53, 54, 55, 56, 57, 97, 98, 99, 100, 101, 102] : List UInt8).length : Int)) then
 let x4 := (([48, 49, 50, 51, 52, 53, 54, 55, 56, 57, 97, 98, 99, 100, 101, 102] : List UInt8).take x3.toNat).drop x1.toNat
 let x5 := a0.tmod (16 : Int)
 let x7 := IntKind.wrap .u8 ((a0.tmod (16 : Int)) + (1 : Int))
 bif decide (0 ≤ x5 ∧ x5 ≤ x7 ∧ x7 ≤ (([48, 49, 50, 51, 52, 53, 54, 55, 56, 57, 97, 98, 99, 100, 101, 102] : List UInt8).length : Int)) then
 let x8 := (([48, 49, 50, 51, 52, 53, 54, 55, 56, 57, 97, 98, 99, 100, 101, 102] : List UInt8).take x7.toNat).drop x5.toNat
 bif decide (x4.length + x8.length ≤ strMax) then
 some (x4 ++ x8)
 else none
 else none
 else none
def F244c (fuel : Nat) : CallE := ⟨244, ⟨1, [], [(.int .u8)]⟩, ⟨1, [], [.str]⟩, fun x => F244 fuel x, []⟩
theorem F244ok (fuel : Nat) : (F244c fuel).Ok Tryz.prog := okJ Tryz.f244 16 0 fuel [] [] false (q0) (p0) L0
def S139_4 (fuel : Nat) (a1 : List UInt8) (a2 : List UInt8) (a3 : Int) : Option (((List UInt8) × (List UInt8) × Int) ⊕ (((List UInt8)))) :=
 bif (decide (a3 < (a1.length : Int))) then
 (F243 fuel a1 a3).bind fun y6 =>
 bif inRange a3 a1.length then
 let x7 := ((a1.getD a3.toNat 0).toNat : Int)
 bif (x7 == (34 : Int)) then
 bif decide (a2.length + ([92, 34] : List UInt8).length ≤ strMax) then
 let x9 := a2 ++ ([92, 34] : List UInt8)
 bif (y6 == (0 : Int)) then
 some (.inl (a1, x9, (IntKind.wrap .i64 (a3 + (1 : Int)))))
 else
 some (.inl (a1, x9, (IntKind.wrap .i64 (a3 + y6))))
 else none
 else
 bif (x7 == (92 : Int)) then
 bif decide (a2.length + ([92, 92] : List UInt8).length ≤ strMax) then
 let x14 := a2 ++ ([92, 92] : List UInt8)
 bif (y6 == (0 : Int)) then
 some (.inl (a1, x14, (IntKind.wrap .i64 (a3 + (1 : Int)))))
 else
 some (.inl (a1, x14, (IntKind.wrap .i64 (a3 + y6))))
 else none
 else
 bif (x7 == (10 : Int)) then
 bif decide (a2.length + ([92, 110] : List UInt8).length ≤ strMax) then
 let x19 := a2 ++ ([92, 110] : List UInt8)
 bif (y6 == (0 : Int)) then
 some (.inl (a1, x19, (IntKind.wrap .i64 (a3 + (1 : Int)))))
 else
 some (.inl (a1, x19, (IntKind.wrap .i64 (a3 + y6))))
 else none
 else
 bif (x7 == (9 : Int)) then
 bif decide (a2.length + ([92, 116] : List UInt8).length ≤ strMax) then
 let x24 := a2 ++ ([92, 116] : List UInt8)
 bif (y6 == (0 : Int)) then
 some (.inl (a1, x24, (IntKind.wrap .i64 (a3 + (1 : Int)))))
 else
 some (.inl (a1, x24, (IntKind.wrap .i64 (a3 + y6))))
 else none
 else
 bif (x7 == (13 : Int)) then
 bif decide (a2.length + ([92, 114] : List UInt8).length ≤ strMax) then
 let x29 := a2 ++ ([92, 114] : List UInt8)
 bif (y6 == (0 : Int)) then
 some (.inl (a1, x29, (IntKind.wrap .i64 (a3 + (1 : Int)))))
 else
 some (.inl (a1, x29, (IntKind.wrap .i64 (a3 + y6))))
 else none
 else
 bif (bif (bif (decide (x7 < (32 : Int))) then true else (x7 == (127 : Int))) then true else (y6 == (0 : Int))) then
 bif decide (a2.length + ([92, 120] : List UInt8).length ≤ strMax) then
 let x38 := a2 ++ ([92, 120] : List UInt8)
 (F244 fuel x7).bind fun y39 =>
 bif decide (x38.length + y39.length ≤ strMax) then
 let x40 := x38 ++ y39
 bif (y6 == (0 : Int)) then
 some (.inl (a1, x40, (IntKind.wrap .i64 (a3 + (1 : Int)))))
 else
 some (.inl (a1, x40, (IntKind.wrap .i64 (a3 + y6))))
 else none
 else none
 else
 let x44 := IntKind.wrap .i64 (a3 + y6)
 bif decide (0 ≤ a3 ∧ a3 ≤ x44 ∧ x44 ≤ (a1.length : Int)) then
 let x45 := (a1.take x44.toNat).drop a3.toNat
 bif decide (a2.length + x45.length ≤ strMax) then
 let x46 := a2 ++ x45
 bif (y6 == (0 : Int)) then
 some (.inl (a1, x46, (IntKind.wrap .i64 (a3 + (1 : Int)))))
 else
 some (.inl (a1, x46, (IntKind.wrap .i64 (a3 + y6))))
 else none
 else none
 else none
 else
 some (.inr a2)
def S139_4step (fuel : Nat) (x : (List UInt8) × (List UInt8) × Int) : Option (((List UInt8) × (List UInt8) × Int) ⊕ (((List UInt8)))) := S139_4 fuel x.1 x.2.1 x.2.2
def F139 (fuel : Nat) (a0 : List UInt8) : Option ((List UInt8)) :=
 (loopQ fuel (S139_4step fuel) (a0, ([34] : List UInt8), (0 : Int))).bind fun y50 =>
 bif decide (y50.length + ([34] : List UInt8).length ≤ strMax) then
 some (y50 ++ ([34] : List UInt8))
 else none
def S139_4l (fuel : Nat) : LoopE := ⟨4, ⟨[0, 3, 4], [], [.str, .str, (.int .i64)]⟩, [(.exit 0, ⟨[3], [], [.str]⟩)], S139_4step fuel⟩
def F139C (fuel : Nat) : Cfg := cfg Tryz.prog 73 0 [F243c fuel, F244c fuel] [S139_4l fuel] fuel
def F139c (fuel : Nat) : CallE := ⟨139, ⟨1, [], [.str]⟩, ⟨1, [], [.str]⟩, fun x => F139 fuel x, []⟩
theorem F139k (fuel : Nat) : CallOk (F139C fuel) := cfg_callOkP (qc (F243ok fuel) <| qc (F244ok fuel) <| q0) (p0)
theorem S139_4ok (fuel : Nat) : LoopOk (F139C fuel) (lp (bodyOf Tryz.f139) 0) := okL (F139k fuel) fuel (S139_4l fuel) L0
theorem F139ok (fuel : Nat) : (F139c fuel).Ok Tryz.prog := okE Tryz.f139 (F139k fuel) (L1 (S139_4ok fuel))
def F292 (fuel : Nat) (a0 : List UInt8) (a1 : Int) : Option (Int × Int) :=
 bif (decide ((IntKind.wrap .i64 (a1 + (1 : Int))) ≥ (a0.length : Int))) then
 some ((0 : Int), (0 : Int))
 else
 let x4 := IntKind.wrap .i64 (a1 + (1 : Int))
 bif inRange x4 a0.length then
 let x5 := ((a0.getD x4.toNat 0).toNat : Int)
 bif (x5 == (34 : Int)) then
 let x7 := IntKind.wrap .i64 (a1 + (1 : Int))
 bif inRange x7 a0.length then
 some (((a0.getD x7.toNat 0).toNat : Int), (2 : Int))
 else none
 else
 bif (x5 == (92 : Int)) then
 let x10 := IntKind.wrap .i64 (a1 + (1 : Int))
 bif inRange x10 a0.length then
 some (((a0.getD x10.toNat 0).toNat : Int), (2 : Int))
 else none
 else
 bif (x5 == (110 : Int)) then
 some ((10 : Int), (2 : Int))
 else
 bif (x5 == (116 : Int)) then
 some ((9 : Int), (2 : Int))
 else
 bif (x5 == (114 : Int)) then
 some ((13 : Int), (2 : Int))
 else
 let x15 := IntKind.wrap .i64 (a1 + (1 : Int))
 bif inRange x15 a0.length then
 let x21 := bif (((a0.getD x15.toNat 0).toNat : Int) != (120 : Int)) then true else (decide ((IntKind.wrap .i64 (a1 + (3 : Int))) ≥ (a0.length : Int)))
 let x22 := IntKind.wrap .i64 (a1 + (2 : Int))
 bif imp (!x21) (inRange x22 a0.length) then
 (bif !x21 then F340 fuel ((a0.getD x22.toNat 0).toNat : Int) else some 0).bind fun y24 =>
 let x26 := bif x21 then true else (decide (y24 < (0 : Int)))
 let x27 := IntKind.wrap .i64 (a1 + (3 : Int))
 bif imp (!x26) (inRange x27 a0.length) then
 (bif !x26 then F340 fuel ((a0.getD x27.toNat 0).toNat : Int) else some 0).bind fun y29 =>
 bif (bif x26 then true else (decide (y29 < (0 : Int)))) then
 some ((0 : Int), (0 : Int))
 else
 let x32 := IntKind.wrap .i64 (a1 + (2 : Int))
 bif inRange x32 a0.length then
 (F340 fuel ((a0.getD x32.toNat 0).toNat : Int)).bind fun y34 =>
 let x36 := IntKind.wrap .i64 (a1 + (3 : Int))
 bif inRange x36 a0.length then
 (F340 fuel ((a0.getD x36.toNat 0).toNat : Int)).bind fun y38 =>
 some ((IntKind.wrap .u8 (IntKind.wrap .i64 ((IntKind.wrap .i64 ((16 : Int) * y34)) + y38))), (4 : Int))
 else none
 else none
 else none
 else none
 else none
 else none
def F292c (fuel : Nat) : CallE := ⟨292, ⟨2, [], [.str, (.int .i64)]⟩, ⟨2, [], [(.int .u8), (.int .i64)]⟩, fun x => F292 fuel x.1 x.2, (0, 0)⟩
theorem F292ok (fuel : Nat) : (F292c fuel).Ok Tryz.prog := okJ Tryz.f292 69 0 fuel [F340c fuel] [] false (qc (F340ok fuel) <| q0) (p0) L0
def S215_6 (fuel : Nat) (a6 : List UInt8) (a7 : List UInt8) (a8 : Int) : Option (((List UInt8) × (List UInt8) × Int) ⊕ (((List UInt8) × Int × Int) ⊕ (Unit))) :=
 bif (decide (a8 < (a6.length : Int))) then
 bif inRange a8 a6.length then
 bif (((a6.getD a8.toNat 0).toNat : Int) == (34 : Int)) then
 (F139 fuel a7).bind fun y13 =>
 let x14 := IntKind.wrap .i64 (a8 + (1 : Int))
 bif decide (0 ≤ (0 : Int) ∧ (0 : Int) ≤ x14 ∧ x14 ≤ (a6.length : Int)) then
 bif (!(y13 == ((a6.take x14.toNat).drop (0 : Int).toNat))) then
 some (.inr (.inl (([] : List UInt8), (0 : Int), (2 : Int))))
 else
 some (.inr (.inl (a7, (IntKind.wrap .i64 (a8 + (1 : Int))), (0 : Int))))
 else none
 else
 bif inRange a8 a6.length then
 bif (((a6.getD a8.toNat 0).toNat : Int) != (92 : Int)) then
 let x20 := IntKind.wrap .i64 (a8 + (1 : Int))
 bif decide (0 ≤ a8 ∧ a8 ≤ x20 ∧ x20 ≤ (a6.length : Int)) then
 let x21 := (a6.take x20.toNat).drop a8.toNat
 bif decide (a7.length + x21.length ≤ strMax) then
 some (.inl (a6, (a7 ++ x21), (IntKind.wrap .i64 (a8 + (1 : Int)))))
 else none
 else none
 else
 (F292 fuel a6 a8).bind fun y24 =>
 let x25 := y24.1
 let x26 := y24.2
 bif (x26 == (0 : Int)) then
 some (.inr (.inl (([] : List UInt8), (0 : Int), (2 : Int))))
 else
 bif decide (a7.length + ([(PV.int x25)].map byteOfPV).length ≤ strMax) then
 some (.inl (a6, (a7 ++ ([(PV.int x25)].map byteOfPV)), (IntKind.wrap .i64 (a8 + x26))))
 else none
 else none
 else none
 else
 some (.inr (.inr ()))
def S215_6step (fuel : Nat) (x : (List UInt8) × (List UInt8) × Int) : Option (((List UInt8) × (List UInt8) × Int) ⊕ (((List UInt8) × Int × Int) ⊕ (Unit))) := S215_6 fuel x.1 x.2.1 x.2.2
def F215 (fuel : Nat) (a0 : List UInt8) : Option ((List UInt8) × Int × Int) :=
 let x2 := (a0.length : Int) == (0 : Int)
 bif imp (!x2) (inRange (0 : Int) a0.length) then
 bif (bif x2 then true else (((a0.getD (0 : Int).toNat 0).toNat : Int) != (34 : Int))) then
 some (([] : List UInt8), (0 : Int), (2 : Int))
 else
 (loopQ fuel (S215_6step fuel) (a0, ([] : List UInt8), (1 : Int))).bind fun z => sumE (fun y30 =>
 some (y30.1, y30.2.1, y30.2.2)
 ) (fun y31 =>
 some (([] : List UInt8), (0 : Int), (2 : Int))
 ) z
 else none
def S215_6l (fuel : Nat) : LoopE := ⟨6, ⟨[0, 5, 6], [], [.str, .str, (.int .i64)]⟩, [(.ret, ⟨[2, 3, 4], [], [.str, (.int .i64), (.int .i64)]⟩), (.exit 0, ⟨[], [], []⟩)], S215_6step fuel⟩
def F215C (fuel : Nat) : Cfg := cfg Tryz.prog 64 0 [F139c fuel, F292c fuel] [S215_6l fuel] fuel
def F215c (fuel : Nat) : CallE := ⟨215, ⟨1, [], [.str]⟩, ⟨3, [], [.str, (.int .i64), (.int .i64)]⟩, fun x => F215 fuel x, ([], 0, 0)⟩
theorem F215k (fuel : Nat) : CallOk (F215C fuel) := cfg_callOkP (qc (F139ok fuel) <| qc (F292ok fuel) <| q0) (p0)
theorem S215_6ok (fuel : Nat) : LoopOk (F215C fuel) (lp (bodyOf Tryz.f215) 0) := okL (F215k fuel) fuel (S215_6l fuel) L0
theorem F215ok (fuel : Nat) : (F215c fuel).Ok Tryz.prog := okE Tryz.f215 (F215k fuel) (L1 (S215_6ok fuel))
def S324_3 (fuel : Nat) (a1 : List UInt8) (a2 : Int) : Option (((List UInt8) × Int) ⊕ ((Int) ⊕ (Unit))) :=
 bif (decide (a2 < (a1.length : Int))) then
 (F243 fuel a1 a2).bind fun y5 =>
 bif (y5 == (0 : Int)) then
 some (.inr (.inl a2))
 else
 some (.inl (a1, (IntKind.wrap .i64 (a2 + y5))))
 else
 some (.inr (.inr ()))
def S324_3step (fuel : Nat) (x : (List UInt8) × Int) : Option (((List UInt8) × Int) ⊕ ((Int) ⊕ (Unit))) := S324_3 fuel x.1 x.2
def F324 (fuel : Nat) (a0 : List UInt8) : Option (Int) :=
 (loopQ fuel (S324_3step fuel) (a0, (0 : Int))).bind fun z => sumE (fun y8 =>
 some y8
 ) (fun y9 =>
 some (-1 : Int)
 ) z
def S324_3l (fuel : Nat) : LoopE := ⟨3, ⟨[0, 3], [], [.str, (.int .i64)]⟩, [(.ret, ⟨[2], [], [(.int .i64)]⟩), (.exit 0, ⟨[], [], []⟩)], S324_3step fuel⟩
def F324C (fuel : Nat) : Cfg := cfg Tryz.prog 18 0 [F243c fuel] [S324_3l fuel] fuel
def F324c (fuel : Nat) : CallE := ⟨324, ⟨1, [], [.str]⟩, ⟨1, [], [(.int .i64)]⟩, fun x => F324 fuel x, 0⟩
theorem F324k (fuel : Nat) : CallOk (F324C fuel) := cfg_callOkP (qc (F243ok fuel) <| q0) (p0)
theorem S324_3ok (fuel : Nat) : LoopOk (F324C fuel) (lp (bodyOf Tryz.f324) 0) := okL (F324k fuel) fuel (S324_3l fuel) L0
theorem F324ok (fuel : Nat) : (F324c fuel).Ok Tryz.prog := okE Tryz.f324 (F324k fuel) (L1 (S324_3ok fuel))
def F259 (fuel : Nat) (a0 : List UInt8) : Option (Bool) :=
 (F324 fuel a0).bind fun y1 =>
 some (decide (y1 < (0 : Int)))
def F259c (fuel : Nat) : CallE := ⟨259, ⟨1, [], [.str]⟩, ⟨1, [], [.bool]⟩, fun x => F259 fuel x, false⟩
theorem F259ok (fuel : Nat) : (F259c fuel).Ok Tryz.prog := okJ Tryz.f259 6 0 fuel [F324c fuel] [] false (qc (F324ok fuel) <| q0) (p0) L0
def F317 (fuel : Nat) (a0 : Int) (a1 : List UInt8) : Option (PV × Int) :=
 (F215 fuel a1).bind fun y1 =>
 let x2 := y1.1
 bif (bif (y1.2.2 != (0 : Int)) then true else (y1.2.1 != (a1.length : Int))) then
 some ((PV.agg [(PV.int (0 : Int)), (PV.int (0 : Int)), (PV.str ([] : List UInt8)), (PV.slice []), (PV.slice []), (PV.slice []), (PV.slice [])]), (2 : Int))
 else
 bif (a0 == (8 : Int)) then
 (F364 fuel x2).bind fun y10 =>
 let x11 := y10.1
 bif (y10.2 != (0 : Int)) then
 some ((PV.agg [(PV.int (0 : Int)), (PV.int (0 : Int)), (PV.str ([] : List UInt8)), (PV.slice []), (PV.slice []), (PV.slice []), (PV.slice [])]), (2 : Int))
 else
 bif (decide ((x11.length : Int) > (4096 : Int))) then
 some ((PV.agg [(PV.int (0 : Int)), (PV.int (0 : Int)), (PV.str ([] : List UInt8)), (PV.slice []), (PV.slice []), (PV.slice []), (PV.slice [])]), (3 : Int))
 else
 some ((PV.agg [(PV.int a0), (PV.int (0 : Int)), (PV.str x11), (PV.slice []), (PV.slice []), (PV.slice []), (PV.slice [])]), (0 : Int))
 else
 (F259 fuel x2).bind fun y16 =>
 bif (!y16) then
 some ((PV.agg [(PV.int (0 : Int)), (PV.int (0 : Int)), (PV.str ([] : List UInt8)), (PV.slice []), (PV.slice []), (PV.slice []), (PV.slice [])]), (7 : Int))
 else
 bif (decide ((x2.length : Int) > (4096 : Int))) then
 some ((PV.agg [(PV.int (0 : Int)), (PV.int (0 : Int)), (PV.str ([] : List UInt8)), (PV.slice []), (PV.slice []), (PV.slice []), (PV.slice [])]), (3 : Int))
 else
 some ((PV.agg [(PV.int a0), (PV.int (0 : Int)), (PV.str x2), (PV.slice []), (PV.slice []), (PV.slice []), (PV.slice [])]), (0 : Int))
def F317c (fuel : Nat) : CallE := ⟨317, ⟨2, [], [(.int .i64), .str]⟩, ⟨2, [], [(.data 51), (.int .i64)]⟩, fun x => F317 fuel x.1 x.2, (PV.bad, 0)⟩
theorem F317ok (fuel : Nat) : (F317c fuel).Ok Tryz.prog := okJ Tryz.f317 45 0 fuel [F215c fuel, F364c fuel, F259c fuel] [] false (qc (F215ok fuel) <| qc (F364ok fuel) <| qc (F259ok fuel) <| q0) (p0) L0
def S365_9 (fuel : Nat) (a13 : List UInt8) (a14 : Bool) (a15 : Int) (a16 : Bool) (a17 : Int) : Option (((List UInt8) × Bool × Int × Bool × Int) ⊕ ((Int × Bool × Int) ⊕ (Bool × Int × Bool))) :=
 bif (decide (a17 < (a13.length : Int))) then
 bif inRange a17 a13.length then
 let x21 := decide (((a13.getD a17.toNat 0).toNat : Int) < (48 : Int))
 bif imp (!x21) (inRange a17 a13.length) then
 bif (bif x21 then true else (decide (((a13.getD a17.toNat 0).toNat : Int) > (57 : Int)))) then
 some (.inr (.inl ((0 : Int), false, (2 : Int))))
 else
 bif inRange a17 a13.length then
 let x27 := IntKind.wrap .u64 (IntKind.wrap .u8 (((a13.getD a17.toNat 0).toNat : Int) - (48 : Int)))
 bif (decide (a15 > (IntKind.wrap .u64 ((IntKind.wrap .u64 ((18446744073709551615 : Int) - x27)).tdiv (10 : Int))))) then
 some (.inl (a13, a14, a15, true, (IntKind.wrap .i64 (a17 + (1 : Int)))))
 else
 bif (!a16) then
 some (.inl (a13, a14, (IntKind.wrap .u64 ((IntKind.wrap .u64 ((10 : Int) * a15)) + x27)), a16, (IntKind.wrap .i64 (a17 + (1 : Int)))))
 else
 some (.inl (a13, a14, a15, a16, (IntKind.wrap .i64 (a17 + (1 : Int)))))
 else none
 else none
 else none
 else
 some (.inr (.inr (a14, a15, a16)))
def S365_9step (fuel : Nat) (x : (List UInt8) × Bool × Int × Bool × Int) : Option (((List UInt8) × Bool × Int × Bool × Int) ⊕ ((Int × Bool × Int) ⊕ (Bool × Int × Bool))) := S365_9 fuel x.1 x.2.1 x.2.2.1 x.2.2.2.1 x.2.2.2.2
def F365 (fuel : Nat) (a0 : List UInt8) : Option (Int × Bool × Int) :=
 let x2 := decide ((a0.length : Int) > (0 : Int))
 bif imp x2 (inRange (0 : Int) a0.length) then
 bif (bif x2 then (((a0.getD (0 : Int).toNat 0).toNat : Int) == (45 : Int)) else false) then
 bif decide (0 ≤ (1 : Int) ∧ (1 : Int) ≤ (a0.length : Int) ∧ (a0.length : Int) ≤ (a0.length : Int)) then
 let x6 := (a0.take (a0.length : Int).toNat).drop (1 : Int).toNat
 let x7 := x6 == ([] : List UInt8)
 bif imp (!x7) (inRange (0 : Int) x6.length) then
 bif (bif x7 then true else (bif (((x6.getD (0 : Int).toNat 0).toNat : Int) == (48 : Int)) then (!(a0 == ([48] : List UInt8))) else false)) then
 some ((0 : Int), false, (2 : Int))
 else
 (loopQ fuel (S365_9step fuel) (x6, true, (0 : Int), false, (0 : Int))).bind fun z => sumE (fun y37 =>
 some (y37.1, y37.2.1, y37.2.2)
 ) (fun y38 =>
 bif y38.2.2 then
 some ((0 : Int), false, (6 : Int))
 else
 some (y38.2.1, y38.1, (0 : Int))
 ) z
 else none
 else none
 else
 let x42 := a0 == ([] : List UInt8)
 bif imp (!x42) (inRange (0 : Int) a0.length) then
 bif (bif x42 then true else (bif (((a0.getD (0 : Int).toNat 0).toNat : Int) == (48 : Int)) then (!(a0 == ([48] : List UInt8))) else false)) then
 some ((0 : Int), false, (2 : Int))
 else
 (loopQ fuel (S365_9step fuel) (a0, false, (0 : Int), false, (0 : Int))).bind fun z => sumE (fun y48 =>
 some (y48.1, y48.2.1, y48.2.2)
 ) (fun y49 =>
 bif y49.2.2 then
 some ((0 : Int), false, (6 : Int))
 else
 some (y49.2.1, y49.1, (0 : Int))
 ) z
 else none
 else none
def S365_9l (fuel : Nat) : LoopE := ⟨9, ⟨[5, 6, 7, 8, 9], [], [.str, .bool, (.int .u64), .bool, (.int .i64)]⟩, [(.ret, ⟨[2, 3, 4], [], [(.int .u64), .bool, (.int .i64)]⟩), (.exit 0, ⟨[6, 7, 8], [], [.bool, (.int .u64), .bool]⟩)], S365_9step fuel⟩
def F365C (fuel : Nat) : Cfg := cfg Tryz.prog 68 0 [] [S365_9l fuel] fuel
def F365c (fuel : Nat) : CallE := ⟨365, ⟨1, [], [.str]⟩, ⟨3, [], [(.int .u64), .bool, (.int .i64)]⟩, fun x => F365 fuel x, (0, false, 0)⟩
theorem F365k (fuel : Nat) : CallOk (F365C fuel) := cfg_callOkP (q0) (p0)
theorem S365_9ok (fuel : Nat) : LoopOk (F365C fuel) (lp (bodyOf Tryz.f365) 0) := okL (F365k fuel) fuel (S365_9l fuel) L0
theorem F365ok (fuel : Nat) : (F365c fuel).Ok Tryz.prog := okE Tryz.f365 (F365k fuel) (L1 (S365_9ok fuel))
def F366 (fuel : Nat) (a0 : Int) : Option (Bool) :=
 some (bif (a0 == (2 : Int)) then true else (a0 == (3 : Int)))
def F366c (fuel : Nat) : CallE := ⟨366, ⟨1, [], [(.int .i64)]⟩, ⟨1, [], [.bool]⟩, fun x => F366 fuel x, false⟩
theorem F366ok (fuel : Nat) : (F366c fuel).Ok Tryz.prog := okJ Tryz.f366 9 0 fuel [] [] false (q0) (p0) L0
def F257 (fuel : Nat) (a0 : PV) : Option (Bool) :=
 some (bif (bif (bif ((((a0.fld 3).asList).length : Int) == (0 : Int)) then ((((a0.fld 4).asList).length : Int) == (0 : Int)) else false) then ((((a0.fld 5).asList).length : Int) == (0 : Int)) else false) then ((((a0.fld 6).asList).length : Int) == (0 : Int)) else false)
def F257c (fuel : Nat) : CallE := ⟨257, ⟨1, [], [(.data 51)]⟩, ⟨1, [], [.bool]⟩, fun x => F257 fuel x, false⟩
theorem F257ok (fuel : Nat) : (F257c fuel).Ok Tryz.prog := okJ Tryz.f257 25 0 fuel [] [] false (q0) (p0) L0
def F258 (fuel : Nat) (a0 : Int) : Option (Bool) :=
 some (bif (a0 == (7 : Int)) then true else (a0 == (8 : Int)))
def F258c (fuel : Nat) : CallE := ⟨258, ⟨1, [], [(.int .i64)]⟩, ⟨1, [], [.bool]⟩, fun x => F258 fuel x, false⟩
theorem F258ok (fuel : Nat) : (F258c fuel).Ok Tryz.prog := okJ Tryz.f258 9 0 fuel [] [] false (q0) (p0) L0
def F153 (fuel : Nat) (a0 : Int) (a1 : PV) : Option (Bool) :=
 (F256 fuel a0).bind fun y1 =>
 let x5 := bif (!y1) then true else (((a1.fld 0).asInt) != a0)
 (bif !x5 then F257 fuel a1 else some false).bind fun y6 =>
 bif (bif x5 then true else (!y6)) then
 some false
 else
 (F258 fuel a0).bind fun y9 =>
 bif y9 then
 let x15 := bif (((a1.fld 1).asInt) == (0 : Int)) then (decide ((((a1.fld 2).asStr).length : Int) ≤ (4096 : Int))) else false
 let x16 := a0 == (8 : Int)
 (bif bif !x16 then x15 else false then F259 fuel ((a1.fld 2).asStr) else some false).bind fun y18 =>
 some (bif x15 then (bif x16 then true else y18) else false)
 else
 bif (!(((a1.fld 2).asStr) == ([] : List UInt8))) then
 some false
 else
 bif (a0 == (1 : Int)) then
 some (decide (((a1.fld 1).asInt) ≤ (1 : Int)))
 else
 bif (a0 == (2 : Int)) then
 let x28 := IntKind.wrap .i64 ((a1.fld 1).asInt)
 some (bif (decide (x28 ≥ (-2147483648 : Int))) then (decide (x28 ≤ (2147483647 : Int))) else false)
 else
 bif (a0 == (4 : Int)) then
 some (decide (((a1.fld 1).asInt) < (4294967296 : Int)))
 else
 bif (a0 == (9 : Int)) then
 some (decide (((a1.fld 1).asInt) < (2147483648 : Int)))
 else
 some true
def F153c (fuel : Nat) : CallE := ⟨153, ⟨2, [], [(.int .i64), (.data 51)]⟩, ⟨1, [], [.bool]⟩, fun x => F153 fuel x.1 x.2, false⟩
theorem F153ok (fuel : Nat) : (F153c fuel).Ok Tryz.prog := okJ Tryz.f153 70 0 fuel [F256c fuel, F257c fuel, F258c fuel, F259c fuel] [] false (qc (F256ok fuel) <| qc (F257ok fuel) <| qc (F258ok fuel) <| qc (F259ok fuel) <| q0) (p0) L0
def F318 (fuel : Nat) (a0 : Int) (a1 : List UInt8) : Option (PV × Int) :=
 (F365 fuel a1).bind fun y1 =>
 let x2 := y1.1
 let x3 := y1.2.1
 let x4 := y1.2.2
 bif (x4 != (0 : Int)) then
 some ((PV.agg [(PV.int (0 : Int)), (PV.int (0 : Int)), (PV.str ([] : List UInt8)), (PV.slice []), (PV.slice []), (PV.slice []), (PV.slice [])]), x4)
 else
 (bif x3 then F366 fuel a0 else some false).bind fun y6 =>
 let x10 := bif x3 then (bif (!y6) then true else (decide (x2 > (9223372036854775808 : Int)))) else false
 let x11 := !x3
 (bif bif x11 then !x10 else false then F366 fuel a0 else some false).bind fun y12 =>
 bif (bif x10 then true else (bif (bif x11 then y12 else false) then (decide (x2 ≥ (9223372036854775808 : Int))) else false)) then
 some ((PV.agg [(PV.int (0 : Int)), (PV.int (0 : Int)), (PV.str ([] : List UInt8)), (PV.slice []), (PV.slice []), (PV.slice []), (PV.slice [])]), (6 : Int))
 else
 bif x3 then
 let x17 := IntKind.wrap .u64 (0 - x2)
 (F153 fuel a0 (PV.agg [(PV.int a0), (PV.int x17), (PV.str ([] : List UInt8)), (PV.slice []), (PV.slice []), (PV.slice []), (PV.slice [])])).bind fun y18 =>
 bif (!y18) then
 some ((PV.agg [(PV.int (0 : Int)), (PV.int (0 : Int)), (PV.str ([] : List UInt8)), (PV.slice []), (PV.slice []), (PV.slice []), (PV.slice [])]), (6 : Int))
 else
 some ((PV.agg [(PV.int a0), (PV.int x17), (PV.str ([] : List UInt8)), (PV.slice []), (PV.slice []), (PV.slice []), (PV.slice [])]), (0 : Int))
 else
 (F153 fuel a0 (PV.agg [(PV.int a0), (PV.int x2), (PV.str ([] : List UInt8)), (PV.slice []), (PV.slice []), (PV.slice []), (PV.slice [])])).bind fun y20 =>
 bif (!y20) then
 some ((PV.agg [(PV.int (0 : Int)), (PV.int (0 : Int)), (PV.str ([] : List UInt8)), (PV.slice []), (PV.slice []), (PV.slice []), (PV.slice [])]), (6 : Int))
 else
 some ((PV.agg [(PV.int a0), (PV.int x2), (PV.str ([] : List UInt8)), (PV.slice []), (PV.slice []), (PV.slice []), (PV.slice [])]), (0 : Int))
def F318c (fuel : Nat) : CallE := ⟨318, ⟨2, [], [(.int .i64), .str]⟩, ⟨2, [], [(.data 51), (.int .i64)]⟩, fun x => F318 fuel x.1 x.2, (PV.bad, 0)⟩
theorem F318ok (fuel : Nat) : (F318c fuel).Ok Tryz.prog := okJ Tryz.f318 56 0 fuel [F365c fuel, F366c fuel, F153c fuel] [] false (qc (F365ok fuel) <| qc (F366ok fuel) <| qc (F153ok fuel) <| q0) (p0) L0
def F242 (fuel : Nat) (a0 : Int) (a1 : List UInt8) : Option (PV × Int) :=
 (F256 fuel a0).bind fun y1 =>
 bif (!y1) then
 some ((PV.agg [(PV.int (0 : Int)), (PV.int (0 : Int)), (PV.str ([] : List UInt8)), (PV.slice []), (PV.slice []), (PV.slice []), (PV.slice [])]), (1 : Int))
 else
 bif (a0 == (1 : Int)) then
 bif (bif (!(a1 == ([116, 114, 117, 101] : List UInt8))) then (!(a1 == ([102, 97, 108, 115, 101] : List UInt8))) else false) then
 some ((PV.agg [(PV.int (0 : Int)), (PV.int (0 : Int)), (PV.str ([] : List UInt8)), (PV.slice []), (PV.slice []), (PV.slice []), (PV.slice [])]), (2 : Int))
 else
 bif (a1 == ([116, 114, 117, 101] : List UInt8)) then
 some ((PV.agg [(PV.int a0), (PV.int (1 : Int)), (PV.str ([] : List UInt8)), (PV.slice []), (PV.slice []), (PV.slice []), (PV.slice [])]), (0 : Int))
 else
 some ((PV.agg [(PV.int a0), (PV.int (0 : Int)), (PV.str ([] : List UInt8)), (PV.slice []), (PV.slice []), (PV.slice []), (PV.slice [])]), (0 : Int))
 else
 bif (a0 == (6 : Int)) then
 (F316 fuel a1).bind fun y9 =>
 some (y9.1, y9.2)
 else
 bif (a0 == (7 : Int)) then
 (F317 fuel a0 a1).bind fun y13 =>
 some (y13.1, y13.2)
 else
 bif (a0 == (8 : Int)) then
 let x17 := a1 == ([] : List UInt8)
 bif imp (!x17) (inRange (0 : Int) a1.length) then
 bif (bif x17 then true else (((a1.getD (0 : Int).toNat 0).toNat : Int) != (120 : Int))) then
 some ((PV.agg [(PV.int (0 : Int)), (PV.int (0 : Int)), (PV.str ([] : List UInt8)), (PV.slice []), (PV.slice []), (PV.slice []), (PV.slice [])]), (2 : Int))
 else
 bif decide (0 ≤ (1 : Int) ∧ (1 : Int) ≤ (a1.length : Int) ∧ (a1.length : Int) ≤ (a1.length : Int)) then
 (F317 fuel a0 ((a1.take (a1.length : Int).toNat).drop (1 : Int).toNat)).bind fun y22 =>
 some (y22.1, y22.2)
 else none
 else none
 else
 (F318 fuel a0 a1).bind fun y25 =>
 some (y25.1, y25.2)
def F242c (fuel : Nat) : CallE := ⟨242, ⟨2, [], [(.int .i64), .str]⟩, ⟨2, [], [(.data 51), (.int .i64)]⟩, fun x => F242 fuel x.1 x.2, (PV.bad, 0)⟩
theorem F242ok (fuel : Nat) : (F242c fuel).Ok Tryz.prog := okJ Tryz.f242 60 0 fuel [F256c fuel, F316c fuel, F317c fuel, F318c fuel] [] false (qc (F256ok fuel) <| qc (F316ok fuel) <| qc (F317ok fuel) <| qc (F318ok fuel) <| q0) (p0) L0
def F137 (fuel : Nat) (a0 : Unit) (a1 : Int) (a2 : List UInt8) (s : Q4) : Option (PV × Q4) :=
 (F242 fuel a1 a2).bind fun y1 =>
 let x3 := y1.2
 bif (x3 != (0 : Int)) then
 (F106 fuel () x3 s).bind fun y5 =>
 some ((PV.agg [(PV.int (0 : Int)), (PV.int (0 : Int)), (PV.str ([] : List UInt8)), (PV.slice []), (PV.slice []), (PV.slice []), (PV.slice [])]), y5)
 else
 some (y1.1, s.1, (IntKind.wrap .i64 (s.2.1 + (1 : Int))), s.2.2)
def F137c (fuel : Nat) : CallE := ⟨137, ⟨3, [.box 87 (.agg 87 [.leaf, .leaf, .leaf, (.agg 28 [.leaf, .leaf, .leaf, .leaf, .leaf, .leaf])]), .arr 9 0, .arr 63 0, .arr 127 0, .acc], [(.con (.ref 0 [] 87)), (.int .i64), .str, (.slice 72), (.int .i64), (.int .i64), .str, .str, (.con (.arr 1 0 9)), (.con (.arr 2 0 63)), (.con (.arr 3 0 127)), (.acc 4 130), (.slice 9), (.slice 63), (.slice 127)]⟩, ⟨1, [.box 87 (.agg 87 [.leaf, .leaf, .leaf, (.agg 28 [.leaf, .leaf, .leaf, .leaf, .leaf, .leaf])]), .arr 9 0, .arr 63 0, .arr 127 0, .acc], [(.data 51), (.slice 72), (.int .i64), (.int .i64), .str, .str, (.con (.arr 1 0 9)), (.con (.arr 2 0 63)), (.con (.arr 3 0 127)), (.acc 4 130), (.slice 9), (.slice 63), (.slice 127)]⟩, fun x => F137 fuel x.1 x.2.1 x.2.2.1 x.2.2.2, (PV.bad, [], 0, 0, [], [], (), (), (), [], [], [], [])⟩
theorem F137ok (fuel : Nat) : (F137c fuel).Ok Tryz.prog := okJ Tryz.f137 30 5 fuel [F242c fuel, F106c fuel] [] false (qc (F242ok fuel) <| qc (F106ok fuel) <| q0) (p0) L0
def F102 (fuel : Nat) (a0 : Unit) (a1 : Int) (a2 : List UInt8) (s : Q4) : Option (Bool × Q4) :=
 (F107 fuel () a1 a2 s).bind fun y1 =>
 bif (!y1.1) then
 some (false, y1.2)
 else
 some (true, y1.2.1, (IntKind.wrap .i64 (y1.2.2.1 + (1 : Int))), y1.2.2.2)
def F102c (fuel : Nat) : CallE := ⟨102, ⟨3, [.box 87 (.agg 87 [.leaf, .leaf, .leaf, (.agg 28 [.leaf, .leaf, .leaf, .leaf, .leaf, .leaf])]), .arr 9 0, .arr 63 0, .arr 127 0, .acc], [(.con (.ref 0 [] 87)), (.int .i64), .str, (.slice 72), (.int .i64), (.int .i64), .str, .str, (.con (.arr 1 0 9)), (.con (.arr 2 0 63)), (.con (.arr 3 0 127)), (.acc 4 130), (.slice 9), (.slice 63), (.slice 127)]⟩, ⟨1, [.box 87 (.agg 87 [.leaf, .leaf, .leaf, (.agg 28 [.leaf, .leaf, .leaf, .leaf, .leaf, .leaf])]), .arr 9 0, .arr 63 0, .arr 127 0, .acc], [.bool, (.slice 72), (.int .i64), (.int .i64), .str, .str, (.con (.arr 1 0 9)), (.con (.arr 2 0 63)), (.con (.arr 3 0 127)), (.acc 4 130), (.slice 9), (.slice 63), (.slice 127)]⟩, fun x => F102 fuel x.1 x.2.1 x.2.2.1 x.2.2.2, (false, [], 0, 0, [], [], (), (), (), [], [], [], [])⟩
theorem F102ok (fuel : Nat) : (F102c fuel).Ok Tryz.prog := okJ Tryz.f102 20 5 fuel [F107c fuel] [] false (qc (F107ok fuel) <| q0) (p0) L0
def S138_4 (fuel : Nat) (a4 : Int) (a5 : List UInt8) (a6 : Int) : Option ((Int × (List UInt8) × Int) ⊕ (((List UInt8)))) :=
 bif (bif (decide (a6 < (20 : Int))) then (decide (a4 ≥ (10 : Int))) else false) then
 let x10 := IntKind.wrap .u64 (a4.tdiv (10 : Int))
 let x13 := IntKind.wrap .u8 (IntKind.wrap .u64 ((48 : Int) + (x10.tmod (10 : Int))))
 bif decide (([(PV.int x13)].map byteOfPV).length + a5.length ≤ strMax) then
 some (.inl (x10, ([(PV.int x13)].map byteOfPV) ++ a5, (IntKind.wrap .i64 (a6 + (1 : Int)))))
 else none
 else
 some (.inr a5)
def S138_4step (fuel : Nat) (x : Int × (List UInt8) × Int) : Option ((Int × (List UInt8) × Int) ⊕ (((List UInt8)))) := S138_4 fuel x.1 x.2.1 x.2.2
def F138 (fuel : Nat) (a0 : Int) : Option ((List UInt8)) :=
 (loopQ fuel (S138_4step fuel) (a0, [(PV.int (IntKind.wrap .u8 (IntKind.wrap .u64 ((48 : Int) + (a0.tmod (10 : Int))))))].map byteOfPV, (0 : Int))).bind fun y15 =>
 some y15
def S138_4l (fuel : Nat) : LoopE := ⟨4, ⟨[0, 3, 4], [], [(.int .u64), .str, (.int .i64)]⟩, [(.exit 0, ⟨[3], [], [.str]⟩)], S138_4step fuel⟩
def F138C (fuel : Nat) : Cfg := cfg Tryz.prog 30 0 [] [S138_4l fuel] fuel
def F138c (fuel : Nat) : CallE := ⟨138, ⟨1, [], [(.int .u64)]⟩, ⟨1, [], [.str]⟩, fun x => F138 fuel x, []⟩
theorem F138k (fuel : Nat) : CallOk (F138C fuel) := cfg_callOkP (q0) (p0)
theorem S138_4ok (fuel : Nat) : LoopOk (F138C fuel) (lp (bodyOf Tryz.f138) 0) := okL (F138k fuel) fuel (S138_4l fuel) L0
theorem F138ok (fuel : Nat) : (F138c fuel).Ok Tryz.prog := okE Tryz.f138 (F138k fuel) (L1 (S138_4ok fuel))
def F64 (fuel : Nat) (a0 : Unit) (a1 : Int) (s : Q4) : Option (PV × Q4) :=
 bif (a1 == (0 : Int)) then
 (F136 fuel () s).bind fun y2 =>
 some ((PV.agg [(PV.int (9 : Int)), (PV.int (0 : Int)), (PV.str y2.1), (PV.slice []), (PV.slice []), (PV.slice []), (PV.slice [])]), y2.2)
 else
 bif (a1 == (1 : Int)) then
 (F107 fuel () (1 : Int) ([116, 114, 117, 101] : List UInt8) s).bind fun y5 =>
 let x6 := !y5.1
 bif x6 then
 (F107 fuel () (1 : Int) ([102, 97, 108, 115, 101] : List UInt8) y5.2).bind fun y7 =>
 bif (bif x6 then (!y7.1) else false) then
 (F106 fuel () (2 : Int) y7.2).bind fun y10 =>
 some ((PV.agg [(PV.int (0 : Int)), (PV.int (0 : Int)), (PV.str ([] : List UInt8)), (PV.slice []), (PV.slice []), (PV.slice []), (PV.slice [])]), y10)
 else
 let x11 := y7.2.1
 let x12 := y7.2.2.1
 bif inRange x12 x11.length then
 (F137 fuel () a1 ((x11.getD x12.toNat .bad).fld 1).asStr y7.2).bind fun y16 =>
 some y16
 else none
 else
 bif (bif x6 then true else false) then
 (F106 fuel () (2 : Int) y5.2).bind fun y18 =>
 some ((PV.agg [(PV.int (0 : Int)), (PV.int (0 : Int)), (PV.str ([] : List UInt8)), (PV.slice []), (PV.slice []), (PV.slice []), (PV.slice [])]), y18)
 else
 let x19 := y5.2.1
 let x20 := y5.2.2.1
 bif inRange x20 x19.length then
 (F137 fuel () a1 ((x19.getD x20.toNat .bad).fld 1).asStr y5.2).bind fun y24 =>
 some y24
 else none
 else
 bif (a1 == (2 : Int)) then
 (F102 fuel () (4 : Int) ([45] : List UInt8) s).bind fun y26 =>
 bif y26.1 then
 (F105 fuel () (2 : Int) y26.2).bind fun y27 =>
 bif (!y27.1) then
 (F106 fuel () (2 : Int) y27.2).bind fun y29 =>
 some ((PV.agg [(PV.int (0 : Int)), (PV.int (0 : Int)), (PV.str ([] : List UInt8)), (PV.slice []), (PV.slice []), (PV.slice []), (PV.slice [])]), y29)
 else
 let x30 := y27.2.1
 let x31 := y27.2.2.1
 bif inRange x31 x30.length then
 (F138 fuel (IntKind.wrap .u64 ((x30.getD x31.toNat .bad).fld 2).asInt)).bind fun y36 =>
 bif decide (([45] : List UInt8).length + y36.length ≤ strMax) then
 (F137 fuel () a1 (([45] : List UInt8) ++ y36) y27.2).bind fun y37 =>
 some y37
 else none
 else none
 else
 (F105 fuel () (2 : Int) y26.2).bind fun y38 =>
 bif (!y38.1) then
 (F106 fuel () (2 : Int) y38.2).bind fun y40 =>
 some ((PV.agg [(PV.int (0 : Int)), (PV.int (0 : Int)), (PV.str ([] : List UInt8)), (PV.slice []), (PV.slice []), (PV.slice []), (PV.slice [])]), y40)
 else
 let x41 := y38.2.1
 let x42 := y38.2.2.1
 bif inRange x42 x41.length then
 (F138 fuel (IntKind.wrap .u64 ((x41.getD x42.toNat .bad).fld 2).asInt)).bind fun y47 =>
 bif decide (([] : List UInt8).length + y47.length ≤ strMax) then
 (F137 fuel () a1 (([] : List UInt8) ++ y47) y38.2).bind fun y48 =>
 some y48
 else none
 else none
 else
 bif (a1 == (3 : Int)) then
 (F102 fuel () (4 : Int) ([45] : List UInt8) s).bind fun y50 =>
 bif y50.1 then
 (F105 fuel () (2 : Int) y50.2).bind fun y51 =>
 bif (!y51.1) then
 (F106 fuel () (2 : Int) y51.2).bind fun y53 =>
 some ((PV.agg [(PV.int (0 : Int)), (PV.int (0 : Int)), (PV.str ([] : List UInt8)), (PV.slice []), (PV.slice []), (PV.slice []), (PV.slice [])]), y53)
 else
 let x54 := y51.2.1
 let x55 := y51.2.2.1
 bif inRange x55 x54.length then
 (F138 fuel (IntKind.wrap .u64 ((x54.getD x55.toNat .bad).fld 2).asInt)).bind fun y60 =>
 bif decide (([45] : List UInt8).length + y60.length ≤ strMax) then
 (F137 fuel () a1 (([45] : List UInt8) ++ y60) y51.2).bind fun y61 =>
 some y61
 else none
 else none
 else
 (F105 fuel () (2 : Int) y50.2).bind fun y62 =>
 bif (!y62.1) then
 (F106 fuel () (2 : Int) y62.2).bind fun y64 =>
 some ((PV.agg [(PV.int (0 : Int)), (PV.int (0 : Int)), (PV.str ([] : List UInt8)), (PV.slice []), (PV.slice []), (PV.slice []), (PV.slice [])]), y64)
 else
 let x65 := y62.2.1
 let x66 := y62.2.2.1
 bif inRange x66 x65.length then
 (F138 fuel (IntKind.wrap .u64 ((x65.getD x66.toNat .bad).fld 2).asInt)).bind fun y71 =>
 bif decide (([] : List UInt8).length + y71.length ≤ strMax) then
 (F137 fuel () a1 (([] : List UInt8) ++ y71) y62.2).bind fun y72 =>
 some y72
 else none
 else none
 else
 bif (a1 == (4 : Int)) then
 (F102 fuel () (4 : Int) ([45] : List UInt8) s).bind fun y74 =>
 bif y74.1 then
 (F105 fuel () (2 : Int) y74.2).bind fun y75 =>
 bif (!y75.1) then
 (F106 fuel () (2 : Int) y75.2).bind fun y77 =>
 some ((PV.agg [(PV.int (0 : Int)), (PV.int (0 : Int)), (PV.str ([] : List UInt8)), (PV.slice []), (PV.slice []), (PV.slice []), (PV.slice [])]), y77)
 else
 let x78 := y75.2.1
 let x79 := y75.2.2.1
 bif inRange x79 x78.length then
 (F138 fuel (IntKind.wrap .u64 ((x78.getD x79.toNat .bad).fld 2).asInt)).bind fun y84 =>
 bif decide (([45] : List UInt8).length + y84.length ≤ strMax) then
 (F137 fuel () a1 (([45] : List UInt8) ++ y84) y75.2).bind fun y85 =>
 some y85
 else none
 else none
 else
 (F105 fuel () (2 : Int) y74.2).bind fun y86 =>
 bif (!y86.1) then
 (F106 fuel () (2 : Int) y86.2).bind fun y88 =>
 some ((PV.agg [(PV.int (0 : Int)), (PV.int (0 : Int)), (PV.str ([] : List UInt8)), (PV.slice []), (PV.slice []), (PV.slice []), (PV.slice [])]), y88)
 else
 let x89 := y86.2.1
 let x90 := y86.2.2.1
 bif inRange x90 x89.length then
 (F138 fuel (IntKind.wrap .u64 ((x89.getD x90.toNat .bad).fld 2).asInt)).bind fun y95 =>
 bif decide (([] : List UInt8).length + y95.length ≤ strMax) then
 (F137 fuel () a1 (([] : List UInt8) ++ y95) y86.2).bind fun y96 =>
 some y96
 else none
 else none
 else
 bif (a1 == (5 : Int)) then
 (F102 fuel () (4 : Int) ([45] : List UInt8) s).bind fun y98 =>
 bif y98.1 then
 (F105 fuel () (2 : Int) y98.2).bind fun y99 =>
 bif (!y99.1) then
 (F106 fuel () (2 : Int) y99.2).bind fun y101 =>
 some ((PV.agg [(PV.int (0 : Int)), (PV.int (0 : Int)), (PV.str ([] : List UInt8)), (PV.slice []), (PV.slice []), (PV.slice []), (PV.slice [])]), y101)
 else
 let x102 := y99.2.1
 let x103 := y99.2.2.1
 bif inRange x103 x102.length then
 (F138 fuel (IntKind.wrap .u64 ((x102.getD x103.toNat .bad).fld 2).asInt)).bind fun y108 =>
 bif decide (([45] : List UInt8).length + y108.length ≤ strMax) then
 (F137 fuel () a1 (([45] : List UInt8) ++ y108) y99.2).bind fun y109 =>
 some y109
 else none
 else none
 else
 (F105 fuel () (2 : Int) y98.2).bind fun y110 =>
 bif (!y110.1) then
 (F106 fuel () (2 : Int) y110.2).bind fun y112 =>
 some ((PV.agg [(PV.int (0 : Int)), (PV.int (0 : Int)), (PV.str ([] : List UInt8)), (PV.slice []), (PV.slice []), (PV.slice []), (PV.slice [])]), y112)
 else
 let x113 := y110.2.1
 let x114 := y110.2.2.1
 bif inRange x114 x113.length then
 (F138 fuel (IntKind.wrap .u64 ((x113.getD x114.toNat .bad).fld 2).asInt)).bind fun y119 =>
 bif decide (([] : List UInt8).length + y119.length ≤ strMax) then
 (F137 fuel () a1 (([] : List UInt8) ++ y119) y110.2).bind fun y120 =>
 some y120
 else none
 else none
 else
 (F105 fuel () (3 : Int) s).bind fun y121 =>
 bif (!y121.1) then
 (F106 fuel () (2 : Int) y121.2).bind fun y123 =>
 some ((PV.agg [(PV.int (0 : Int)), (PV.int (0 : Int)), (PV.str ([] : List UInt8)), (PV.slice []), (PV.slice []), (PV.slice []), (PV.slice [])]), y123)
 else
 bif (a1 == (7 : Int)) then
 let x125 := y121.2.1
 let x126 := y121.2.2.1
 bif inRange x126 x125.length then
 (F139 fuel ((x125.getD x126.toNat .bad).fld 1).asStr).bind fun y130 =>
 (F137 fuel () a1 y130 y121.2).bind fun y131 =>
 some y131
 else none
 else
 let x132 := y121.2.1
 let x133 := y121.2.2.1
 bif inRange x133 x132.length then
 (F137 fuel () a1 ((x132.getD x133.toNat .bad).fld 1).asStr y121.2).bind fun y137 =>
 some y137
 else none
def F64c (fuel : Nat) : CallE := ⟨64, ⟨2, [.box 87 (.agg 87 [.leaf, .leaf, .leaf, (.agg 28 [.leaf, .leaf, .leaf, .leaf, .leaf, .leaf])]), .arr 9 0, .arr 63 0, .arr 127 0, .acc], [(.con (.ref 0 [] 87)), (.int .i64), (.slice 72), (.int .i64), (.int .i64), .str, .str, (.con (.arr 1 0 9)), (.con (.arr 2 0 63)), (.con (.arr 3 0 127)), (.acc 4 130), (.slice 9), (.slice 63), (.slice 127)]⟩, ⟨1, [.box 87 (.agg 87 [.leaf, .leaf, .leaf, (.agg 28 [.leaf, .leaf, .leaf, .leaf, .leaf, .leaf])]), .arr 9 0, .arr 63 0, .arr 127 0, .acc], [(.data 51), (.slice 72), (.int .i64), (.int .i64), .str, .str, (.con (.arr 1 0 9)), (.con (.arr 2 0 63)), (.con (.arr 3 0 127)), (.acc 4 130), (.slice 9), (.slice 63), (.slice 127)]⟩, fun x => F64 fuel x.1 x.2.1 x.2.2, (PV.bad, [], 0, 0, [], [], (), (), (), [], [], [], [])⟩
theorem F64ok (fuel : Nat) : (F64c fuel).Ok Tryz.prog := okJ Tryz.f64 109 5 fuel [F136c fuel, F107c fuel, F106c fuel, F137c fuel, F102c fuel, F105c fuel, F138c fuel, F139c fuel] [] false (qc (F136ok fuel) <| qc (F107ok fuel) <| qc (F106ok fuel) <| qc (F137ok fuel) <| qc (F102ok fuel) <| qc (F105ok fuel) <| qc (F138ok fuel) <| qc (F139ok fuel) <| q0) (p0) L0
def F30 (fuel : Nat) (a0 : Int) (a1 : List PV) (a2 : Int) : Option (PV × Int × Int) :=
 bif (bif (bif (bif (decide (a2 < (0 : Int))) then true else (decide (a2 > (a1.length : Int)))) then true else (decide (a0 < (0 : Int)))) then true else (decide (a0 > (8 : Int)))) then
 some ((PV.agg [(PV.int (0 : Int)), (PV.int (0 : Int)), (PV.str ([] : List UInt8)), (PV.slice []), (PV.slice []), (PV.slice []), (PV.slice [])]), (0 : Int), (1 : Int))
 else
 (F64 fuel () a0 (a1, a2, (0 : Int), ([] : List UInt8), ([] : List UInt8), (), (), (), [], [], [], [])).bind fun y9 =>
 bif (y9.2.2.2.1 != (0 : Int)) then
 some ((PV.agg [(PV.int (0 : Int)), (PV.int (0 : Int)), (PV.str ([] : List UInt8)), (PV.slice []), (PV.slice []), (PV.slice []), (PV.slice [])]), y9.2.2.1, y9.2.2.2.1)
 else
 some (y9.1, y9.2.2.1, (0 : Int))
def F30c (fuel : Nat) : CallE := ⟨30, ⟨3, [], [(.int .i64), (.slice 72), (.int .i64)]⟩, ⟨3, [], [(.data 51), (.int .i64), (.int .i64)]⟩, fun x => F30 fuel x.1 x.2.1 x.2.2, (PV.bad, 0, 0)⟩
theorem F30ok (fuel : Nat) : (F30c fuel).Ok Tryz.prog := okJ Tryz.f30 44 0 fuel [F64c fuel] [] false (qc (F64ok fuel) <| q0) (p0) L0
def F31 (fuel : Nat) (a0 : PV) (a1 : PV) : Option (Bool) :=
 some (bif (bif (bif (((a0.fld 0).asInt) == ((a1.fld 0).asInt)) then (((a0.fld 1).asInt) == ((a1.fld 1).asInt)) else false) then (((a0.fld 2).asStr) == ((a1.fld 2).asStr)) else false) then ((IntKind.wrap .i64 ((IntKind.wrap .i64 ((IntKind.wrap .i64 ((IntKind.wrap .i64 ((IntKind.wrap .i64 ((IntKind.wrap .i64 ((IntKind.wrap .i64 ((((a0.fld 3).asList).length : Int) + (((a0.fld 4).asList).length : Int))) + (((a0.fld 5).asList).length : Int))) + (((a0.fld 6).asList).length : Int))) + (((a1.fld 3).asList).length : Int))) + (((a1.fld 4).asList).length : Int))) + (((a1.fld 5).asList).length : Int))) + (((a1.fld 6).asList).length : Int))) == (0 : Int)) else false)
def F31c (fuel : Nat) : CallE := ⟨31, ⟨2, [], [(.data 51), (.data 51)]⟩, ⟨1, [], [.bool]⟩, fun x => F31 fuel x.1 x.2, false⟩
theorem F31ok (fuel : Nat) : (F31c fuel).Ok Tryz.prog := okJ Tryz.f31 58 0 fuel [] [] false (q0) (p0) L0
def F9 (fuel : Nat) (a0 : Int) (a1 : List PV) (a2 : Int) : Option (Bool) :=
 (F22 fuel a1).bind fun y1 =>
 bif (!y1) then
 (Lawake09 fuel).bind fun y3 =>
 some y3
 else
 (F29 fuel a0 a1 a2).bind fun y4 =>
 (F30 fuel a0 a1 a2).bind fun y8 =>
 (F31 fuel y4.1 y8.1).bind fun y12 =>
 let x16 := bif (bif y12 then (y4.2.1 == y8.2.1) else false) then (y4.2.2 == y8.2.2) else false
 (bif x16 then Lawake09 fuel else some false).bind fun y17 =>
 some (bif x16 then y17 else false)
def F9c (fuel : Nat) : CallE := ⟨9, ⟨3, [], [(.int .i64), (.slice 72), (.int .i64)]⟩, ⟨1, [], [.bool]⟩, fun x => F9 fuel x.1 x.2.1 x.2.2, false⟩
theorem F9ok (fuel : Nat) : (F9c fuel).Ok Tryz.prog := okJ Tryz.f9 49 0 fuel [F22c fuel, Lawake09c fuel, F29c fuel, F30c fuel, F31c fuel] [] false (qc (F22ok fuel) <| qc (Lawake09ok fuel) <| qc (F29ok fuel) <| qc (F30ok fuel) <| qc (F31ok fuel) <| q0) (p0) L0
end
end Go.Ab
