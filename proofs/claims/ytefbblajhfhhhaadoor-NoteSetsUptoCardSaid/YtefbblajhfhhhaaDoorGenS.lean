/- A part of the proof: lemmas on how the program runs over plain data. -/
import Derived.Test.YtefbblajhfhhhaaDoorAbInsS
import Derived.Test.YtefbblajhfhhhaaDoorAbLoop
import Derived.KernelRfl
set_option linter.unusedVariables false
set_option linter.unusedSimpArgs false
set_option linter.unnecessarySimpa false
namespace Go.Ab
open Go Go.Proofs
set_option maxRecDepth 100000
noncomputable section

/-- wireschema/note.known -/
def F24 (fuel : Nat)  : Option ((List (PV × PV))) :=
 some (PV.mput (PV.mput (PV.mput (PV.mput (PV.mput (PV.mput (PV.mput (PV.mput (PV.mput (PV.mput (PV.mput (PV.mput (PV.mput [] (PV.str ([100, 101, 112, 114, 101, 99, 97, 116, 101, 100] : List UInt8)) (PV.agg [(PV.int (1 : Int)), (PV.int (126 : Int))])) (PV.str ([100, 111, 99] : List UInt8)) (PV.agg [(PV.int (7 : Int)), (PV.int (126 : Int))])) (PV.str ([97, 108, 105, 97, 115] : List UInt8)) (PV.agg [(PV.int (7 : Int)), (PV.int (84 : Int))])) (PV.str ([115, 105, 110, 99, 101] : List UInt8)) (PV.agg [(PV.int (4 : Int)), (PV.int (84 : Int))])) (PV.str ([117, 110, 116, 105, 108] : List UInt8)) (PV.agg [(PV.int (4 : Int)), (PV.int (84 : Int))])) (PV.str ([109, 105, 110] : List UInt8)) (PV.agg [(PV.int (3 : Int)), (PV.int (4 : Int))])) (PV.str ([109, 97, 120] : List UInt8)) (PV.agg [(PV.int (3 : Int)), (PV.int (4 : Int))])) (PV.str ([108, 101, 110, 103, 116, 104] : List UInt8)) (PV.agg [(PV.int (4 : Int)), (PV.int (4 : Int))])) (PV.str ([115, 101, 99, 114, 101, 116] : List UInt8)) (PV.agg [(PV.int (1 : Int)), (PV.int (4 : Int))])) (PV.str ([105, 100, 101, 109, 112, 111, 116, 101, 110, 116] : List UInt8)) (PV.agg [(PV.int (1 : Int)), (PV.int (64 : Int))])) (PV.str ([116, 105, 109, 101, 111, 117, 116] : List UInt8)) (PV.agg [(PV.int (4 : Int)), (PV.int (64 : Int))])) (PV.str ([114, 111, 117, 116, 101] : List UInt8)) (PV.agg [(PV.int (7 : Int)), (PV.int (64 : Int))])) (PV.str ([111, 119, 110, 101, 114] : List UInt8)) (PV.agg [(PV.int (7 : Int)), (PV.int (34 : Int))]))

def F24c (fuel : Nat) : CallE := ⟨24, ⟨0, [], []⟩, ⟨1, [], [(.map 9 54)]⟩, fun x => F24 fuel , []⟩

theorem F24ok (fuel : Nat) : (F24c fuel).Ok Tryd.prog := okJ Tryd.f24 16 0 fuel [] [] false (q0) (p0) L0

/-- wireschema/note.Kind -/
def F13 (fuel : Nat) (a0 : List UInt8) : Option (Int) :=
 (F24 fuel).bind fun y1 =>
 let x2 := (PV.mget y1 (PV.str a0)).getD (PV.agg [(PV.int (0 : Int)), (PV.int (0 : Int))])
 some ((x2.fld 0).asInt)

def F13c (fuel : Nat) : CallE := ⟨13, ⟨1, [], [.str]⟩, ⟨1, [], [(.int .i64)]⟩, fun x => F13 fuel x, 0⟩

theorem F13ok (fuel : Nat) : (F13c fuel).Ok Tryd.prog := okJ Tryd.f13 7 0 fuel [F24c fuel] [] false (qc (F24ok fuel) <| q0) (p0) L0

/-- wireschema/scalar.Is -/
def F39 (fuel : Nat) (a0 : Int) : Option (Bool) :=
 some (bif (decide (a0 ≥ (1 : Int))) then (decide (a0 ≤ (9 : Int))) else false)

def F39c (fuel : Nat) : CallE := ⟨39, ⟨1, [], [(.int .i64)]⟩, ⟨1, [], [.bool]⟩, fun x => F39 fuel x, false⟩

theorem F39ok (fuel : Nat) : (F39c fuel).Ok Tryd.prog := okJ Tryd.f39 9 0 fuel [] [] false (q0) (p0) L0

/-- wireschema/scalar.texty -/
def F52 (fuel : Nat) (a0 : Int) : Option (Bool) :=
 some (bif (a0 == (7 : Int)) then true else (a0 == (8 : Int)))

def F52c (fuel : Nat) : CallE := ⟨52, ⟨1, [], [(.int .i64)]⟩, ⟨1, [], [.bool]⟩, fun x => F52 fuel x, false⟩

theorem F52ok (fuel : Nat) : (F52c fuel).Ok Tryd.prog := okJ Tryd.f52 9 0 fuel [] [] false (q0) (p0) L0

/-- wireschema/scalar.lean -/
def F40 (fuel : Nat) (a0 : PV) : Option (Bool) :=
 bif (decide ((IntKind.wrap .i64 ((IntKind.wrap .i64 ((IntKind.wrap .i64 ((((a0.fld 3).asList).length : Int) + (((a0.fld 4).asList).length : Int))) + (((a0.fld 5).asList).length : Int))) + (((a0.fld 6).asList).length : Int))) > (0 : Int))) then
 some false
 else
 (F52 fuel ((a0.fld 0).asInt)).bind fun y14 =>
 bif y14 then
 some (((a0.fld 1).asInt) == (0 : Int))
 else
 some (((a0.fld 2).asStr) == ([] : List UInt8))

def F40c (fuel : Nat) : CallE := ⟨40, ⟨1, [], [(.data 29)]⟩, ⟨1, [], [.bool]⟩, fun x => F40 fuel x, false⟩

theorem F40ok (fuel : Nat) : (F40c fuel).Ok Tryd.prog := okJ Tryd.f40 28 0 fuel [F52c fuel] [] false (qc (F52ok fuel) <| q0) (p0) L0

/-- wireschema/scalar.within -/
def F41 (fuel : Nat) (a0 : Int) (a1 : Int) : Option (Bool) :=
 bif (a0 == (1 : Int)) then
 some (decide (a1 ≤ (1 : Int)))
 else
 bif (a0 == (2 : Int)) then
 some (bif (decide ((IntKind.wrap .i64 a1) ≥ (-2147483648 : Int))) then (decide ((IntKind.wrap .i64 a1) ≤ (2147483647 : Int))) else false)
 else
 bif (a0 == (9 : Int)) then
 some (decide (a1 ≤ (2147483647 : Int)))
 else
 bif (a0 == (4 : Int)) then
 some (decide (a1 ≤ (4294967295 : Int)))
 else
 some true

def F41c (fuel : Nat) : CallE := ⟨41, ⟨2, [], [(.int .i64), (.int .u64)]⟩, ⟨1, [], [.bool]⟩, fun x => F41 fuel x.1 x.2, false⟩

theorem F41ok (fuel : Nat) : (F41c fuel).Ok Tryd.prog := okJ Tryd.f41 28 0 fuel [] [] false (q0) (p0) L0

/-- internal/stringslite.HasPrefix -/
def F68 (fuel : Nat) (a0 : List UInt8) (a1 : List UInt8) : Option (Bool) :=
 let x3 := decide ((a0.length : Int) ≥ (a1.length : Int))
 let x4 := (a1.length : Int)
 bif imp x3 (decide (0 ≤ (0 : Int) ∧ (0 : Int) ≤ x4 ∧ x4 ≤ (a0.length : Int))) then
 some (bif x3 then (((a0.take x4.toNat).drop (0 : Int).toNat) == a1) else false)
 else none

def F68c (fuel : Nat) : CallE := ⟨68, ⟨2, [], [.str, .str]⟩, ⟨1, [], [.bool]⟩, fun x => F68 fuel x.1 x.2, false⟩

theorem F68ok (fuel : Nat) : (F68c fuel).Ok Tryd.prog := okJ Tryd.f68 18 0 fuel [] [] false (q0) (p0) L0

/-- strings.HasPrefix -/
def F56 (fuel : Nat) (a0 : List UInt8) (a1 : List UInt8) : Option (Bool) :=
 (F68 fuel a0 a1).bind fun y1 =>
 some y1

def F56c (fuel : Nat) : CallE := ⟨56, ⟨2, [], [.str, .str]⟩, ⟨1, [], [.bool]⟩, fun x => F56 fuel x.1 x.2, false⟩

theorem F56ok (fuel : Nat) : (F56c fuel).Ok Tryd.prog := okJ Tryd.f56 8 0 fuel [F68c fuel] [] false (qc (F68ok fuel) <| q0) (p0) L0

/-- wireschema/utf.wrong -/
def F58 (fuel : Nat) (a0 : List UInt8) (a1 : Int) (a2 : Int) : Option (Bool) :=
 let x1 := a2 == (65533 : Int)
 bif imp x1 (decide (0 ≤ a1 ∧ a1 ≤ (a0.length : Int) ∧ (a0.length : Int) ≤ (a0.length : Int))) then
 (bif x1 then F56 fuel ((a0.take (a0.length : Int).toNat).drop a1.toNat) ([239, 191, 189] : List UInt8) else some false).bind fun y3 =>
 some (bif x1 then (!y3) else false)
 else none

def F58c (fuel : Nat) : CallE := ⟨58, ⟨3, [], [.str, (.int .i64), (.int .i32)]⟩, ⟨1, [], [.bool]⟩, fun x => F58 fuel x.1 x.2.1 x.2.2, false⟩

theorem F58ok (fuel : Nat) : (F58c fuel).Ok Tryd.prog := okJ Tryd.f58 16 0 fuel [F56c fuel] [] false (qc (F56ok fuel) <| q0) (p0) L0

def S53_3 (fuel : Nat) (a1 : List UInt8) (a2 : Unit) (a3 : List UInt8) (a4 : Int) : Option (((List UInt8) × Unit × (List UInt8) × Int) ⊕ ((Int × (List UInt8) × Int) ⊕ ((List UInt8) × Int))) :=
 bif (decide (a4.toNat < a3.length)) then
 bif decide (a4.toNat < a3.length) then
 let x6 := (a4.toNat : Int)
 bif decide (a4.toNat < a3.length) then
 (F58 fuel a1 x6 ((Utf8.decode ⟨a3.toArray⟩ a4.toNat).1 : Int)).bind fun y8 =>
 bif y8 then
 some (.inr (.inl (x6, a3, ((bif decide (a4.toNat < a3.length) then a4.toNat + (Utf8.decode ⟨a3.toArray⟩ a4.toNat).2 else a4.toNat : Nat) : Int))))
 else
 some (.inl (a1, (), a3, ((bif decide (a4.toNat < a3.length) then a4.toNat + (Utf8.decode ⟨a3.toArray⟩ a4.toNat).2 else a4.toNat : Nat) : Int)))
 else none
 else none
 else
 some (.inr (.inr (a3, ((bif decide (a4.toNat < a3.length) then a4.toNat + (Utf8.decode ⟨a3.toArray⟩ a4.toNat).2 else a4.toNat : Nat) : Int))))

def S53_3step (fuel : Nat) (x : (List UInt8) × Unit × (List UInt8) × Int) : Option (((List UInt8) × Unit × (List UInt8) × Int) ⊕ ((Int × (List UInt8) × Int) ⊕ ((List UInt8) × Int))) := S53_3 fuel x.1 x.2.1 x.2.2.1 x.2.2.2

/-- wireschema/utf.Bad -/
def F53 (fuel : Nat) (a0 : List UInt8) : Option (Int) :=
 (loopQ fuel (S53_3step fuel) (a0, (), a0, ((0 : Nat) : Int))).bind fun z => sumE (fun y9 =>
 some y9.1
 ) (fun y10 =>
 some (-1 : Int)
 ) z

def S53_3l (fuel : Nat) : LoopE := ⟨3, ⟨[0, 6], [.iter], [.str, (.con (.iref 0)), .str, (.int .i64)]⟩, [(.ret, ⟨[2], [.iter], [(.int .i64), .str, (.int .i64)]⟩), (.exit 0, ⟨[], [.iter], [.str, (.int .i64)]⟩)], S53_3step fuel⟩

def F53C (fuel : Nat) : Cfg := cfg Tryd.prog 16 0 [F58c fuel] [S53_3l fuel] fuel

def F53c (fuel : Nat) : CallE := ⟨53, ⟨1, [], [.str]⟩, ⟨1, [], [(.int .i64)]⟩, fun x => F53 fuel x, 0⟩

theorem F53k (fuel : Nat) : CallOk (F53C fuel) := cfg_callOkP (qc (F58ok fuel) <| q0) (p0)

theorem S53_3ok (fuel : Nat) : LoopOk (F53C fuel) (lp (bodyOf Tryd.f53) 0) := okL (F53k fuel) fuel (S53_3l fuel) L0

theorem F53ok (fuel : Nat) : (F53c fuel).Ok Tryd.prog := okE Tryd.f53 (F53k fuel) (L1 (S53_3ok fuel))

/-- wireschema/utf.Valid -/
def F42 (fuel : Nat) (a0 : List UInt8) : Option (Bool) :=
 (F53 fuel a0).bind fun y1 =>
 some (decide (y1 < (0 : Int)))

def F42c (fuel : Nat) : CallE := ⟨42, ⟨1, [], [.str]⟩, ⟨1, [], [.bool]⟩, fun x => F42 fuel x, false⟩

theorem F42ok (fuel : Nat) : (F42c fuel).Ok Tryd.prog := okJ Tryd.f42 6 0 fuel [F53c fuel] [] false (qc (F53ok fuel) <| q0) (p0) L0

/-- wireschema/scalar.Fits -/
def F28 (fuel : Nat) (a0 : Int) (a1 : PV) : Option (Bool) :=
 (F39 fuel a0).bind fun y1 =>
 let x5 := bif (!y1) then true else (((a1.fld 0).asInt) != a0)
 (bif !x5 then F40 fuel a1 else some false).bind fun y6 =>
 let x8 := bif x5 then true else (!y6)
 (bif !x8 then F41 fuel a0 ((a1.fld 1).asInt) else some false).bind fun y10 =>
 bif (bif (bif x8 then true else (!y10)) then true else (decide ((((a1.fld 2).asStr).length : Int) > (4096 : Int)))) then
 some false
 else
 let x17 := a0 != (7 : Int)
 (bif !x17 then F42 fuel ((a1.fld 2).asStr) else some false).bind fun y19 =>
 some (bif x17 then true else y19)

def F28c (fuel : Nat) : CallE := ⟨28, ⟨2, [], [(.int .i64), (.data 29)]⟩, ⟨1, [], [.bool]⟩, fun x => F28 fuel x.1 x.2, false⟩

theorem F28ok (fuel : Nat) : (F28c fuel).Ok Tryd.prog := okJ Tryd.f28 39 0 fuel [F39c fuel, F40c fuel, F41c fuel, F42c fuel] [] false (qc (F39ok fuel) <| qc (F40ok fuel) <| qc (F41ok fuel) <| qc (F42ok fuel) <| q0) (p0) L0

/-- wireschema/note.right -/
def F21 (fuel : Nat) (a0 : PV) : Option (Bool) :=
 (F13 fuel ((a0.fld 0).asStr)).bind fun y2 =>
 let x3 := y2 != (0 : Int)
 (bif x3 then F28 fuel y2 (a0.fld 1) else some false).bind fun y5 =>
 some (bif x3 then y5 else false)

def F21c (fuel : Nat) : CallE := ⟨21, ⟨1, [], [(.data 31)]⟩, ⟨1, [], [.bool]⟩, fun x => F21 fuel x, false⟩

theorem F21ok (fuel : Nat) : (F21c fuel).Ok Tryd.prog := okJ Tryd.f21 15 0 fuel [F13c fuel, F28c fuel] [] false (qc (F13ok fuel) <| qc (F28ok fuel) <| q0) (p0) L0

/-- internal/strconv.FormatBool -/
def F43 (fuel : Nat) (a0 : Bool) : Option ((List UInt8)) :=
 bif a0 then
 some ([116, 114, 117, 101] : List UInt8)
 else
 some ([102, 97, 108, 115, 101] : List UInt8)

def F43c (fuel : Nat) : CallE := ⟨43, ⟨1, [], [.bool]⟩, ⟨1, [], [.str]⟩, fun x => F43 fuel x, []⟩

theorem F43ok (fuel : Nat) : (F43c fuel).Ok Tryd.prog := okJ Tryd.f43 4 0 fuel [] [] false (q0) (p0) L0

/-- strconv.FormatBool -/
def F29 (fuel : Nat) (a0 : Bool) : Option ((List UInt8)) :=
 (F43 fuel a0).bind fun y1 =>
 some y1

def F29c (fuel : Nat) : CallE := ⟨29, ⟨1, [], [.bool]⟩, ⟨1, [], [.str]⟩, fun x => F29 fuel x, []⟩

theorem F29ok (fuel : Nat) : (F29c fuel).Ok Tryd.prog := okJ Tryd.f29 5 0 fuel [F43c fuel] [] false (qc (F43ok fuel) <| q0) (p0) L0

/-- wireschema/scalar.Class -/
def F45 (fuel : Nat) (a0 : Int) : Option (Int) :=
 let x1 := bitsI .and .u64 a0 (9218868437227405312 : Int)
 let x2 := bitsI .and .u64 a0 (4503599627370495 : Int)
 bif (bif (x1 == (9218868437227405312 : Int)) then (x2 != (0 : Int)) else false) then
 some (0 : Int)
 else
 bif (x1 == (9218868437227405312 : Int)) then
 some (1 : Int)
 else
 bif (bif (x1 == (0 : Int)) then (x2 == (0 : Int)) else false) then
 some (2 : Int)
 else
 bif (x1 == (0 : Int)) then
 some (3 : Int)
 else
 some (4 : Int)

def F45c (fuel : Nat) : CallE := ⟨45, ⟨1, [], [(.int .u64)]⟩, ⟨1, [], [(.int .i64)]⟩, fun x => F45 fuel x, 0⟩

theorem F45ok (fuel : Nat) : (F45c fuel).Ok Tryd.prog := okJ Tryd.f45 29 0 fuel [] [] false (q0) (p0) L0

/-- strconv.FormatUint -/
def F34 (fuel : Nat) (a0 : Int) (a1 : Int) : Option ((List UInt8)) :=
 (Lfmtu fuel a0 a1).bind fun y1 =>
 some y1

def F34c (fuel : Nat) : CallE := ⟨34, ⟨2, [], [(.int .u64), (.int .i64)]⟩, ⟨1, [], [.str]⟩, fun x => F34 fuel x.1 x.2, []⟩

theorem F34ok (fuel : Nat) : (F34c fuel).Ok Tryd.prog := okJ Tryd.f34 8 0 fuel [Lfmtuc fuel] [] false (qc (Lfmtuok fuel) <| q0) (p0) L0

/-- wireschema/scalar.double -/
def F31 (fuel : Nat) (a0 : Int) : Option ((List UInt8)) :=
 (F45 fuel a0).bind fun y1 =>
 bif (y1 == (0 : Int)) then
 some ([110, 97, 110] : List UInt8)
 else
 bif (bif (y1 == (1 : Int)) then ((bitsI .and .u64 a0 (9223372036854775808 : Int)) != (0 : Int)) else false) then
 some ([45, 105, 110, 102] : List UInt8)
 else
 bif (y1 == (1 : Int)) then
 some ([105, 110, 102] : List UInt8)
 else
 (F34 fuel a0 (16 : Int)).bind fun y8 =>
 (Lrepeat fuel ([48] : List UInt8) (IntKind.wrap .i64 ((16 : Int) - (y8.length : Int)))).bind fun y11 =>
 bif decide (([48, 120] : List UInt8).length + y11.length ≤ strMax) then
 bif decide ((([48, 120] : List UInt8) ++ y11).length + y8.length ≤ strMax) then
 some ((([48, 120] : List UInt8) ++ y11) ++ y8)
 else none
 else none

def F31c (fuel : Nat) : CallE := ⟨31, ⟨1, [], [(.int .u64)]⟩, ⟨1, [], [.str]⟩, fun x => F31 fuel x, []⟩

theorem F31ok (fuel : Nat) : (F31c fuel).Ok Tryd.prog := okJ Tryd.f31 30 0 fuel [F45c fuel, F34c fuel, Lrepeatc fuel] [] false (qc (F45ok fuel) <| qc (F34ok fuel) <| qc (Lrepeatok fuel) <| q0) (p0) L0

/-- wireschema/utf.escape -/
def F59 (fuel : Nat) (a0 : Int) : Option ((List UInt8)) :=
 let x1 := a0.fdiv (2 ^ (min (4 : Int).toNat (IntKind.bits .u8)))
 let x3 := IntKind.wrap .u8 ((a0.fdiv (2 ^ (min (4 : Int).toNat (IntKind.bits .u8)))) + (1 : Int))
 bif decide (0 ≤ x1 ∧ x1 ≤ x3 ∧ x3 ≤ (([48, 49, 50, 51, 52, 53, 54, 55, 56, 57, 97, 98, 99, 100, 101, 102] : List UInt8).length : Int)) then
 let x4 := (([48, 49, 50, 51, 52, 53, 54, 55, 56, 57, 97, 98, 99, 100, 101, 102] : List UInt8).take x3.toNat).drop x1.toNat
 bif decide (([92, 120] : List UInt8).length + x4.length ≤ strMax) then
 let x5 := bitsI .and .u8 a0 (15 : Int)
 let x7 := IntKind.wrap .u8 ((bitsI .and .u8 a0 (15 : Int)) + (1 : Int))
 bif decide (0 ≤ x5 ∧ x5 ≤ x7 ∧ x7 ≤ (([48, 49, 50, 51, 52, 53, 54, 55, 56, 57, 97, 98, 99, 100, 101, 102] : List UInt8).length : Int)) then
 let x8 := (([48, 49, 50, 51, 52, 53, 54, 55, 56, 57, 97, 98, 99, 100, 101, 102] : List UInt8).take x7.toNat).drop x5.toNat
 bif decide ((([92, 120] : List UInt8) ++ x4).length + x8.length ≤ strMax) then
 some ((([92, 120] : List UInt8) ++ x4) ++ x8)
 else none
 else none
 else none
 else none

def F59c (fuel : Nat) : CallE := ⟨59, ⟨1, [], [(.int .u8)]⟩, ⟨1, [], [.str]⟩, fun x => F59 fuel x, []⟩

theorem F59ok (fuel : Nat) : (F59c fuel).Ok Tryd.prog := okJ Tryd.f59 17 0 fuel [] [] false (q0) (p0) L0

/-- wireschema/utf.form -/
def F47 (fuel : Nat) (a0 : List UInt8) (a1 : Int) (a2 : Int) : Option ((List UInt8)) :=
 bif (a2 == (34 : Int)) then
 some ([92, 34] : List UInt8)
 else
 bif (a2 == (92 : Int)) then
 some ([92, 92] : List UInt8)
 else
 bif (a2 == (10 : Int)) then
 some ([92, 110] : List UInt8)
 else
 bif (a2 == (9 : Int)) then
 some ([92, 116] : List UInt8)
 else
 bif (a2 == (13 : Int)) then
 some ([92, 114] : List UInt8)
 else
 let x8 := bif (decide (a2 < (32 : Int))) then true else (a2 == (127 : Int))
 (bif !x8 then F58 fuel a0 a1 a2 else some false).bind fun y9 =>
 bif (bif x8 then true else y9) then
 bif inRange a1 a0.length then
 (F59 fuel ((a0.getD a1.toNat 0).toNat : Int)).bind fun y12 =>
 some y12
 else none
 else
 some ((Utf8.encode a2).data.toList)

def F47c (fuel : Nat) : CallE := ⟨47, ⟨3, [], [.str, (.int .i64), (.int .i32)]⟩, ⟨1, [], [.str]⟩, fun x => F47 fuel x.1 x.2.1 x.2.2, []⟩

theorem F47ok (fuel : Nat) : (F47c fuel).Ok Tryd.prog := okJ Tryd.f47 41 0 fuel [F58c fuel, F59c fuel] [] false (qc (F58ok fuel) <| qc (F59ok fuel) <| q0) (p0) L0

def S32_5 (fuel : Nat) (a2 : List UInt8) (a3 : Unit) (a4 : Unit) (a5 : List UInt8) (a6 : List UInt8) (a7 : Int) : Option (((List UInt8) × Unit × Unit × (List UInt8) × (List UInt8) × Int) ⊕ ((Unit × (List UInt8) × (List UInt8) × Int))) :=
 bif (decide (a7.toNat < a6.length)) then
 bif decide (a7.toNat < a6.length) then
 bif decide (a7.toNat < a6.length) then
 (F47 fuel a2 (a7.toNat : Int) ((Utf8.decode ⟨a6.toArray⟩ a7.toNat).1 : Int)).bind fun y11 =>
 (LwriteString fuel y11 a5).bind fun y12 =>
 some (.inl (a2, (), (), y12.2.2, a6, ((bif decide (a7.toNat < a6.length) then a7.toNat + (Utf8.decode ⟨a6.toArray⟩ a7.toNat).2 else a7.toNat : Nat) : Int)))
 else none
 else none
 else
 some (.inr ((), a5, a6, ((bif decide (a7.toNat < a6.length) then a7.toNat + (Utf8.decode ⟨a6.toArray⟩ a7.toNat).2 else a7.toNat : Nat) : Int)))

def S32_5step (fuel : Nat) (x : (List UInt8) × Unit × Unit × (List UInt8) × (List UInt8) × Int) : Option (((List UInt8) × Unit × Unit × (List UInt8) × (List UInt8) × Int) ⊕ ((Unit × (List UInt8) × (List UInt8) × Int))) := S32_5 fuel x.1 x.2.1 x.2.2.1 x.2.2.2.1 x.2.2.2.2.1 x.2.2.2.2.2

/-- wireschema/utf.Quote -/
def F32 (fuel : Nat) (a0 : List UInt8) : Option ((List UInt8)) :=
 (LwriteString fuel ([34] : List UInt8) []).bind fun y1 =>
 (loopQ fuel (S32_5step fuel) (a0, (), (), y1.2.2, a0, ((0 : Nat) : Int))).bind fun y13 =>
 (LwriteString fuel ([34] : List UInt8) y13.2.1).bind fun y14 =>
 (Lstring fuel y14.2.2).bind fun y15 =>
 some y15.1

def S32_5l (fuel : Nat) : LoopE := ⟨5, ⟨[0, 3, 8], [.bld 68, .iter], [.str, (.con (.bref 0 68)), (.con (.iref 1)), .str, .str, (.int .i64)]⟩, [(.exit 0, ⟨[3], [.bld 68, .iter], [(.con (.bref 0 68)), .str, .str, (.int .i64)]⟩)], S32_5step fuel⟩

def F32C (fuel : Nat) : Cfg := cfg Tryd.prog 20 0 [LwriteString_68c fuel, F47c fuel, Lstring_68c fuel] [S32_5l fuel] fuel

def F32c (fuel : Nat) : CallE := ⟨32, ⟨1, [], [.str]⟩, ⟨1, [], [.str]⟩, fun x => F32 fuel x, []⟩

theorem F32k (fuel : Nat) : CallOk (F32C fuel) := cfg_callOkP (qc (LwriteString_68ok fuel) <| qc (F47ok fuel) <| qc (Lstring_68ok fuel) <| q0) (p0)

theorem S32_5ok (fuel : Nat) : LoopOk (F32C fuel) (lp (bodyOf Tryd.f32) 0) := okL (F32k fuel) fuel (S32_5l fuel) L0

theorem F32ok (fuel : Nat) : (F32c fuel).Ok Tryd.prog := okE Tryd.f32 (F32k fuel) (L1 (S32_5ok fuel))

def S33_4 (fuel : Nat) (a4 : List UInt8) (a5 : List PV) (a6 : Int) (a7 : Int) : Option (((List UInt8) × (List PV) × Int × Int) ⊕ (((List PV)))) :=
 bif (decide (a7 < a6)) then
 bif inRange a7 a4.length then
 let x10 := ((a4.getD a7.toNat 0).toNat : Int).fdiv (2 ^ (min (4 : Int).toNat (IntKind.bits .u8)))
 bif inRange x10 (([48, 49, 50, 51, 52, 53, 54, 55, 56, 57, 97, 98, 99, 100, 101, 102] : List UInt8).length) then
 let x11 := ((([48, 49, 50, 51, 52, 53, 54, 55, 56, 57, 97, 98, 99, 100, 101, 102] : List UInt8).getD x10.toNat 0).toNat : Int)
 bif inRange a7 a4.length then
 let x13 := bitsI .and .u8 ((a4.getD a7.toNat 0).toNat : Int) (15 : Int)
 bif inRange x13 (([48, 49, 50, 51, 52, 53, 54, 55, 56, 57, 97, 98, 99, 100, 101, 102] : List UInt8).length) then
 let x14 := ((([48, 49, 50, 51, 52, 53, 54, 55, 56, 57, 97, 98, 99, 100, 101, 102] : List UInt8).getD x13.toNat 0).toNat : Int)
 bif decide (a5.length + [(PV.int x11), (PV.int x14)].length ≤ accMax) then
 some (.inl (a4, (a5 ++ [(PV.int x11), (PV.int x14)]), a6, (IntKind.wrap .i64 (a7 + (1 : Int)))))
 else none
 else none
 else none
 else none
 else none
 else
 some (.inr a5)

def S33_4step (fuel : Nat) (x : (List UInt8) × (List PV) × Int × Int) : Option (((List UInt8) × (List PV) × Int × Int) ⊕ (((List PV)))) := S33_4 fuel x.1 x.2.1 x.2.2.1 x.2.2.2

/-- wireschema/utf.Hex -/
def F33 (fuel : Nat) (a0 : List UInt8) : Option ((List UInt8)) :=
 let x2 := IntKind.wrap .i64 ((2 : Int) * (a0.length : Int))
 bif decide (0 ≤ x2 ∧ x2 ≤ accMax) then
 (loopQ fuel (S33_4step fuel) (a0, [], (a0.length : Int), (0 : Int))).bind fun y17 =>
 some (y17.map byteOfPV)
 else none

def S33_4l (fuel : Nat) : LoopE := ⟨4, ⟨[0, 3, 10, 11], [.acc], [.str, (.acc 0 5), (.int .i64), (.int .i64)]⟩, [(.exit 0, ⟨[3], [.acc], [(.acc 0 5)]⟩)], S33_4step fuel⟩

def F33C (fuel : Nat) : Cfg := cfg Tryd.prog 30 0 [] [S33_4l fuel] fuel

def F33c (fuel : Nat) : CallE := ⟨33, ⟨1, [], [.str]⟩, ⟨1, [], [.str]⟩, fun x => F33 fuel x, []⟩

theorem F33k (fuel : Nat) : CallOk (F33C fuel) := cfg_callOkP (q0) (p0)

theorem S33_4ok (fuel : Nat) : LoopOk (F33C fuel) (lp (bodyOf Tryd.f33) 0) := okL (F33k fuel) fuel (S33_4l fuel) L0

theorem F33ok (fuel : Nat) : (F33c fuel).Ok Tryd.prog := okE Tryd.f33 (F33k fuel) (L1 (S33_4ok fuel))

/-- wireschema/scalar.Text -/
def F22 (fuel : Nat) (a0 : PV) : Option ((List UInt8)) :=
 (F28 fuel ((a0.fld 0).asInt) a0).bind fun y2 =>
 bif (!y2) then
 some ([] : List UInt8)
 else
 let x4 := (a0.fld 0).asInt
 bif (x4 == (1 : Int)) then
 (F29 fuel (((a0.fld 1).asInt) == (1 : Int))).bind fun y8 =>
 some y8
 else
 bif (x4 == (2 : Int)) then
 (Litoa fuel (IntKind.wrap .i64 ((a0.fld 1).asInt))).bind fun y12 =>
 some y12
 else
 bif (x4 == (3 : Int)) then
 (Litoa fuel (IntKind.wrap .i64 ((a0.fld 1).asInt))).bind fun y16 =>
 some y16
 else
 bif (x4 == (6 : Int)) then
 (F31 fuel ((a0.fld 1).asInt)).bind fun y19 =>
 some y19
 else
 bif (x4 == (7 : Int)) then
 (F32 fuel ((a0.fld 2).asStr)).bind fun y22 =>
 some y22
 else
 bif (x4 == (8 : Int)) then
 (F33 fuel ((a0.fld 2).asStr)).bind fun y25 =>
 (F32 fuel y25).bind fun y26 =>
 bif decide (([120] : List UInt8).length + y26.length ≤ strMax) then
 some (([120] : List UInt8) ++ y26)
 else none
 else
 (F34 fuel ((a0.fld 1).asInt) (10 : Int)).bind fun y28 =>
 some y28

def F22c (fuel : Nat) : CallE := ⟨22, ⟨1, [], [(.data 29)]⟩, ⟨1, [], [.str]⟩, fun x => F22 fuel x, []⟩

theorem F22ok (fuel : Nat) : (F22c fuel).Ok Tryd.prog := okJ Tryd.f22 43 0 fuel [F28c fuel, F29c fuel, Litoac fuel, F31c fuel, F32c fuel, F33c fuel, F34c fuel] [] false (qc (F28ok fuel) <| qc (F29ok fuel) <| qc (Litoaok fuel) <| qc (F31ok fuel) <| qc (F32ok fuel) <| qc (F33ok fuel) <| qc (F34ok fuel) <| q0) (p0) L0

def S12_4 (fuel : Nat) (a2 : List PV) (a3 : List PV) (a4 : Int) (a5 : Int) : Option (((List PV) × (List PV) × Int × Int) ⊕ (((List UInt8)) ⊕ ((List PV)))) :=
 bif (decide (a5 < a4)) then
 bif inRange a5 a3.length then
 let x7 := a3.getD a5.toNat .bad
 (F21 fuel x7).bind fun y8 =>
 bif (!y8) then
 some (.inr (.inl ([] : List UInt8)))
 else
 let x10 := (x7.fld 0).asStr
 bif decide (x10.length + ([32, 61, 32] : List UInt8).length ≤ strMax) then
 let x11 := x10 ++ ([32, 61, 32] : List UInt8)
 (F22 fuel (x7.fld 1)).bind fun y13 =>
 bif decide (x11.length + y13.length ≤ strMax) then
 let x14 := x11 ++ y13
 bif decide (a2.length + [(PV.str x14)].length ≤ accMax) then
 some (.inl ((a2 ++ [(PV.str x14)]), a3, a4, (IntKind.wrap .i64 (a5 + (1 : Int)))))
 else none
 else none
 else none
 else none
 else
 some (.inr (.inr a2))

def S12_4step (fuel : Nat) (x : (List PV) × (List PV) × Int × Int) : Option (((List PV) × (List PV) × Int × Int) ⊕ (((List UInt8)) ⊕ ((List PV)))) := S12_4 fuel x.1 x.2.1 x.2.2.1 x.2.2.2

/-- wireschema/note.Text -/
def F12 (fuel : Nat) (a0 : List PV) : Option ((List UInt8)) :=
 (loopQ fuel (S12_4step fuel) ([], a0, (a0.length : Int), (0 : Int))).bind fun z => sumE (fun y17 =>
 some y17
 ) (fun y18 =>
 bif ((y18.length : Int) == (0 : Int)) then
 some ([] : List UInt8)
 else
 (Ljoin fuel y18 ([44, 32] : List UInt8)).bind fun y21 =>
 bif decide (([91] : List UInt8).length + y21.length ≤ strMax) then
 bif decide ((([91] : List UInt8) ++ y21).length + ([93] : List UInt8).length ≤ strMax) then
 some ((([91] : List UInt8) ++ y21) ++ ([93] : List UInt8))
 else none
 else none
 ) z

def S12_4l (fuel : Nat) : LoopE := ⟨4, ⟨[3, 6, 7, 8], [.acc], [(.acc 0 9), (.slice 31), (.int .i64), (.int .i64)]⟩, [(.ret, ⟨[2], [.acc], [.str]⟩), (.exit 0, ⟨[3], [.acc], [(.acc 0 9)]⟩)], S12_4step fuel⟩

def F12C (fuel : Nat) : Cfg := cfg Tryd.prog 33 0 [F21c fuel, F22c fuel, Ljoinc fuel] [S12_4l fuel] fuel

def F12c (fuel : Nat) : CallE := ⟨12, ⟨1, [], [(.slice 31)]⟩, ⟨1, [], [.str]⟩, fun x => F12 fuel x, []⟩

theorem F12k (fuel : Nat) : CallOk (F12C fuel) := cfg_callOkP (qc (F21ok fuel) <| qc (F22ok fuel) <| qc (Ljoinok fuel) <| q0) (p0)

theorem S12_4ok (fuel : Nat) : LoopOk (F12C fuel) (lp (bodyOf Tryd.f12) 0) := okL (F12k fuel) fuel (S12_4l fuel) L0

theorem F12ok (fuel : Nat) : (F12c fuel).Ok Tryd.prog := okE Tryd.f12 (F12k fuel) (L1 (S12_4ok fuel))

/-- wireschema/note.one -/
def F14 (fuel : Nat) (a0 : PV) (a1 : Int) (a2 : List UInt8) (a3 : Bool) : Option (Int) :=
 (F24 fuel).bind fun y1 =>
 let x2 := (a0.fld 0).asStr
 let x3 := (PV.mget y1 (PV.str x2)).getD (PV.agg [(PV.int (0 : Int)), (PV.int (0 : Int))])
 bif (!(PV.mhas y1 (PV.str x2))) then
 some (8 : Int)
 else
 let x8 := bif (decide (a1 < (1 : Int))) then true else (decide (a1 > (6 : Int)))
 bif imp (!x8) (decide (0 ≤ a1)) then
 bif (bif x8 then true else ((bitsI .and .i64 (((x3.fld 1).asInt).fdiv (2 ^ (min a1.toNat (IntKind.bits .i64)))) (1 : Int)) == (0 : Int))) then
 some (1 : Int)
 else
 (F21 fuel a0).bind fun y14 =>
 bif (!y14) then
 some (12 : Int)
 else
 bif (bif a3 then (Op.bytesLess ((a0.fld 0).asStr) a2) else false) then
 some (11 : Int)
 else
 bif (bif a3 then (((a0.fld 0).asStr) == a2) else false) then
 some (9 : Int)
 else
 some (0 : Int)
 else none

def F14c (fuel : Nat) : CallE := ⟨14, ⟨4, [], [(.data 31), (.int .i64), .str, .bool]⟩, ⟨1, [], [(.int .i64)]⟩, fun x => F14 fuel x.1 x.2.1 x.2.2.1 x.2.2.2, 0⟩

theorem F14ok (fuel : Nat) : (F14c fuel).Ok Tryd.prog := okJ Tryd.f14 56 0 fuel [F24c fuel, F21c fuel] [] false (qc (F24ok fuel) <| qc (F21ok fuel) <| q0) (p0) L0

def S6_6 (fuel : Nat) (a4 : Int) (a5 : List UInt8) (a6 : List PV) (a7 : Int) (a8 : Int) : Option ((Int × (List UInt8) × (List PV) × Int × Int) ⊕ ((Int) ⊕ (Unit))) :=
 bif (decide (a8 < a7)) then
 bif inRange a8 a6.length then
 let x10 := a6.getD a8.toNat .bad
 (F14 fuel x10 a4 a5 (decide (a8 > (0 : Int)))).bind fun y12 =>
 bif (y12 != (0 : Int)) then
 some (.inr (.inl y12))
 else
 some (.inl (a4, ((x10.fld 0).asStr), a6, a7, (IntKind.wrap .i64 (a8 + (1 : Int)))))
 else none
 else
 some (.inr (.inr ()))

def S6_6step (fuel : Nat) (x : Int × (List UInt8) × (List PV) × Int × Int) : Option ((Int × (List UInt8) × (List PV) × Int × Int) ⊕ ((Int) ⊕ (Unit))) := S6_6 fuel x.1 x.2.1 x.2.2.1 x.2.2.2.1 x.2.2.2.2

/-- wireschema/note.Check -/
def F6 (fuel : Nat) (a0 : List PV) (a1 : Int) : Option (Int) :=
 bif (decide ((a0.length : Int) > (8 : Int))) then
 some (3 : Int)
 else
 (loopQ fuel (S6_6step fuel) (a1, ([] : List UInt8), a0, (a0.length : Int), (0 : Int))).bind fun z => sumE (fun y16 =>
 some y16
 ) (fun y17 =>
 some (0 : Int)
 ) z

def S6_6l (fuel : Nat) : LoopE := ⟨6, ⟨[1, 5, 12, 13, 14], [], [(.int .i64), .str, (.slice 31), (.int .i64), (.int .i64)]⟩, [(.ret, ⟨[4], [], [(.int .i64)]⟩), (.exit 0, ⟨[], [], []⟩)], S6_6step fuel⟩

def F6C (fuel : Nat) : Cfg := cfg Tryd.prog 31 0 [F14c fuel] [S6_6l fuel] fuel

def F6c (fuel : Nat) : CallE := ⟨6, ⟨2, [], [(.slice 31), (.int .i64)]⟩, ⟨1, [], [(.int .i64)]⟩, fun x => F6 fuel x.1 x.2, 0⟩

theorem F6k (fuel : Nat) : CallOk (F6C fuel) := cfg_callOkP (qc (F14ok fuel) <| q0) (p0)

theorem S6_6ok (fuel : Nat) : LoopOk (F6C fuel) (lp (bodyOf Tryd.f6) 0) := okL (F6k fuel) fuel (S6_6l fuel) L0

theorem F6ok (fuel : Nat) : (F6c fuel).Ok Tryd.prog := okE Tryd.f6 (F6k fuel) (L1 (S6_6ok fuel))

/-- wireschema/wireschemalaw08.awake -/
def F5 (fuel : Nat)  : Option (Bool) :=
 (F12 fuel [(PV.agg [(PV.str ([97, 108, 105, 97, 115] : List UInt8)), (PV.agg [(PV.int (7 : Int)), (PV.int (0 : Int)), (PV.str ([105, 100] : List UInt8)), (PV.slice []), (PV.slice []), (PV.slice []), (PV.slice [])])]), (PV.agg [(PV.str ([109, 105, 110] : List UInt8)), (PV.agg [(PV.int (3 : Int)), (PV.int (18446744073709551611 : Int)), (PV.str ([] : List UInt8)), (PV.slice []), (PV.slice []), (PV.slice []), (PV.slice [])])])]).bind fun y1 =>
 let x2 := y1 == ([91, 97, 108, 105, 97, 115, 32, 61, 32, 34, 105, 100, 34, 44, 32, 109, 105, 110, 32, 61, 32, 45, 53, 93] : List UInt8)
 (bif x2 then F6 fuel [(PV.agg [(PV.str ([97, 108, 105, 97, 115] : List UInt8)), (PV.agg [(PV.int (7 : Int)), (PV.int (0 : Int)), (PV.str ([105, 100] : List UInt8)), (PV.slice []), (PV.slice []), (PV.slice []), (PV.slice [])])]), (PV.agg [(PV.str ([109, 105, 110] : List UInt8)), (PV.agg [(PV.int (3 : Int)), (PV.int (18446744073709551611 : Int)), (PV.str ([] : List UInt8)), (PV.slice []), (PV.slice []), (PV.slice []), (PV.slice [])])])] (2 : Int) else some 0).bind fun y3 =>
 let x5 := bif x2 then (y3 == (0 : Int)) else false
 (bif x5 then F6 fuel [(PV.agg [(PV.str ([97, 108, 105, 97, 115] : List UInt8)), (PV.agg [(PV.int (7 : Int)), (PV.int (0 : Int)), (PV.str ([105, 100] : List UInt8)), (PV.slice []), (PV.slice []), (PV.slice []), (PV.slice [])])]), (PV.agg [(PV.str ([109, 105, 110] : List UInt8)), (PV.agg [(PV.int (3 : Int)), (PV.int (18446744073709551611 : Int)), (PV.str ([] : List UInt8)), (PV.slice []), (PV.slice []), (PV.slice []), (PV.slice [])])])] (4 : Int) else some 0).bind fun y6 =>
 let x8 := bif x5 then (y6 == (1 : Int)) else false
 (bif x8 then F13 fuel ([115, 101, 99, 114, 101, 116] : List UInt8) else some 0).bind fun y9 =>
 some (bif x8 then (y9 == (1 : Int)) else false)

def F5c (fuel : Nat) : CallE := ⟨5, ⟨0, [], []⟩, ⟨1, [], [.bool]⟩, fun x => F5 fuel , false⟩

theorem F5ok (fuel : Nat) : (F5c fuel).Ok Tryd.prog := okJ Tryd.f5 24 0 fuel [F12c fuel, F6c fuel, F13c fuel] [] false (qc (F12ok fuel) <| qc (F6ok fuel) <| qc (F13ok fuel) <| q0) (p0) L0


theorem awake08_run : F5 1000 = some true := isT_spec (by kernel_rfl)
def Lawake08 (fuel : Nat) : Option Bool := some true
def Lawake08c (fuel : Nat) : CallE := { f := 5, A := ⟨0, [], []⟩, R := ⟨1, [], [.bool]⟩, F := fun x => Lawake08 fuel, dflt := false }
theorem awake08_fun (fuel : Nat) : (F5c fuel).F = fun _ => F5 fuel := rfl
theorem Lawake08ok (fuel : Nat) : (Lawake08c fuel).Ok Tryd.prog := fun x y h => F5ok 1000 () y ((congrFun (awake08_fun 1000) ()).trans (awake08_run.trans h))

/-- slices.Clone[[]wireschema/api.Note,wireschema/api.Note] -/
def F15 (fuel : Nat) (a0 : Unit) : Option (Unit) :=
 some ()

def F15c (fuel : Nat) : CallE := ⟨15, ⟨1, [], [(.con .nils)]⟩, ⟨1, [], [(.con .nils)]⟩, fun x => F15 fuel x, ()⟩

theorem F15ok (fuel : Nat) : (F15c fuel).Ok Tryd.prog := okJ Tryd.f15 8 0 fuel [] [] true (q0) (p0) L0

/-- slices.Clone[[]wireschema/api.Note,wireschema/api.Note] -/
def F15_v1 (fuel : Nat) (a0 : List PV) : Option (Unit × (List PV)) :=
 bif decide (a0.length ≤ accMax) then
 some ((), a0)
 else none

def F15_v1c (fuel : Nat) : CallE := ⟨15, ⟨1, [], [(.sln 31)]⟩, ⟨1, [.arr 31 1], [(.con (.arr 0 1 31)), (.slice 31)]⟩, fun x => F15_v1 fuel x, ((), [])⟩

theorem F15_v1ok (fuel : Nat) : (F15_v1c fuel).Ok Tryd.prog := okJ Tryd.f15 8 0 fuel [] [] true (q0) (p0) L0

/-- slices.Clone[[]wireschema/api.Note,wireschema/api.Note] -/
def F15_v2 (fuel : Nat) (a0 : List PV) : Option (Unit × (List PV)) := F15_v1 fuel a0

def F15_v2c (fuel : Nat) : CallE := ⟨15, ⟨1, [], [(.slice 31)]⟩, ⟨1, [.arr 31 1], [(.con (.arr 0 1 31)), (.slice 31)]⟩, fun x => F15_v2 fuel x, ((), [])⟩

theorem F15_v2ok (fuel : Nat) : (F15_v2c fuel).Ok Tryd.prog := by
  intro x y h
  have h : F15_v1 fuel x = some y := h
  have h2 := F15_v1ok fuel x y h
  unfold F15_v1 at h
  obtain ⟨hb, rfl⟩ := cond_some h
  exact meets_split (fun _ => F15ok fuel () () rfl) h2

/-- wireschema/note.index$1 -/
def F25 (fuel : Nat) (a0 : PV) (a1 : Unit) (a2 : List UInt8) : Option (Bool × (List UInt8)) :=
 some ((((a0.fld 0).asStr) == a2), a2)

def F25c (fuel : Nat) : CallE := ⟨25, ⟨2, [.box 9 .leaf], [(.data 31), (.con (.ref 0 [] 9)), .str]⟩, ⟨1, [.box 9 .leaf], [.bool, .str]⟩, fun x => F25 fuel x.1 x.2.1 x.2.2, (false, [])⟩

theorem F25ok (fuel : Nat) : (F25c fuel).Ok Tryd.prog := okJ Tryd.f25 8 1 fuel [] [] false (q0) (p0) L0

def S17_3 (fuel : Nat) (a2 : List PV) (a3 : Unit) (a4 : Int) (a5 : Int) (a6 : List UInt8) : Option (((List PV) × Unit × Int × Int × (List UInt8)) ⊕ ((Int × (List UInt8)) ⊕ ((List UInt8)))) :=
 bif (decide (a5 < a4)) then
 bif inRange a5 a2.length then
 (F25 fuel (a2.getD a5.toNat .bad) () a6).bind fun y9 =>
 bif y9.1 then
 some (.inr (.inl (a5, y9.2)))
 else
 some (.inl (a2, (), a4, (IntKind.wrap .i64 (a5 + (1 : Int))), y9.2))
 else none
 else
 some (.inr (.inr a6))

def S17_3step (fuel : Nat) (x : (List PV) × Unit × Int × Int × (List UInt8)) : Option (((List PV) × Unit × Int × Int × (List UInt8)) ⊕ ((Int × (List UInt8)) ⊕ ((List UInt8)))) := S17_3 fuel x.1 x.2.1 x.2.2.1 x.2.2.2.1 x.2.2.2.2

/-- slices.IndexFunc[[]wireschema/api.Note,wireschema/api.Note] -/
def F17 (fuel : Nat) (a0 : List PV) (a1 : Unit) (a2 : List UInt8) : Option (Int × (List UInt8)) :=
 (loopQ fuel (S17_3step fuel) (a0, (), (a0.length : Int), (0 : Int), a2)).bind fun z => sumE (fun y11 =>
 some (y11.1, y11.2)
 ) (fun y12 =>
 some ((-1 : Int), y12)
 ) z

def S17_3l (fuel : Nat) : LoopE := ⟨3, ⟨[0, 1, 7, 8], [.box 9 .leaf], [(.slice 31), (.con (.fn 25 0 [(.ref 0 [] 9)])), (.int .i64), (.int .i64), .str]⟩, [(.ret, ⟨[4], [.box 9 .leaf], [(.int .i64), .str]⟩), (.exit 0, ⟨[], [.box 9 .leaf], [.str]⟩)], S17_3step fuel⟩

def F17C (fuel : Nat) : Cfg := cfg Tryd.prog 19 1 [F25c fuel] [S17_3l fuel] fuel

def F17c (fuel : Nat) : CallE := ⟨17, ⟨2, [.box 9 .leaf], [(.slice 31), (.con (.fn 25 0 [(.ref 0 [] 9)])), .str]⟩, ⟨1, [.box 9 .leaf], [(.int .i64), .str]⟩, fun x => F17 fuel x.1 x.2.1 x.2.2, (0, [])⟩

theorem F17k (fuel : Nat) : CallOk (F17C fuel) := cfg_callOkP (qc (F25ok fuel) <| q0) (p0)

theorem S17_3ok (fuel : Nat) : LoopOk (F17C fuel) (lp (bodyOf Tryd.f17) 0) := okL (F17k fuel) fuel (S17_3l fuel) L0

theorem F17ok (fuel : Nat) : (F17c fuel).Ok Tryd.prog := okE Tryd.f17 (F17k fuel) (L1 (S17_3ok fuel))

/-- wireschema/note.index -/
def F16 (fuel : Nat) (a0 : List PV) (a1 : List UInt8) : Option (Int) :=
 (F17 fuel a0 () a1).bind fun y1 =>
 some y1.1

def F16c (fuel : Nat) : CallE := ⟨16, ⟨2, [], [(.slice 31), .str]⟩, ⟨1, [], [(.int .i64)]⟩, fun x => F16 fuel x.1 x.2, 0⟩

theorem F16ok (fuel : Nat) : (F16c fuel).Ok Tryd.prog := okJ Tryd.f16 8 0 fuel [F17c fuel] [] false (qc (F17ok fuel) <| q0) (p0) L0

/-- wireschema/note.Set$1 -/
def F18 (fuel : Nat) (a0 : PV) (a1 : Unit) (a2 : PV) : Option (Bool × PV) :=
 let x1 := (a0.fld 0).asStr
 let x2 := (a2.fld 0).asStr
 some ((!(Op.bytesLess x1 x2 || x1 == x2)), a2)

def F18c (fuel : Nat) : CallE := ⟨18, ⟨2, [.box 31 .leaf], [(.data 31), (.con (.ref 0 [] 31)), (.data 31)]⟩, ⟨1, [.box 31 .leaf], [.bool, (.data 31)]⟩, fun x => F18 fuel x.1 x.2.1 x.2.2, (false, PV.bad)⟩

theorem F18ok (fuel : Nat) : (F18c fuel).Ok Tryd.prog := okJ Tryd.f18 9 1 fuel [] [] false (q0) (p0) L0

def S17_v1_3 (fuel : Nat) (a2 : List PV) (a3 : Unit) (a4 : Int) (a5 : Int) (a6 : PV) : Option (((List PV) × Unit × Int × Int × PV) ⊕ ((Int × PV) ⊕ (PV))) :=
 bif (decide (a5 < a4)) then
 bif inRange a5 a2.length then
 (F18 fuel (a2.getD a5.toNat .bad) () a6).bind fun y9 =>
 bif y9.1 then
 some (.inr (.inl (a5, y9.2)))
 else
 some (.inl (a2, (), a4, (IntKind.wrap .i64 (a5 + (1 : Int))), y9.2))
 else none
 else
 some (.inr (.inr a6))

def S17_v1_3step (fuel : Nat) (x : (List PV) × Unit × Int × Int × PV) : Option (((List PV) × Unit × Int × Int × PV) ⊕ ((Int × PV) ⊕ (PV))) := S17_v1_3 fuel x.1 x.2.1 x.2.2.1 x.2.2.2.1 x.2.2.2.2

/-- slices.IndexFunc[[]wireschema/api.Note,wireschema/api.Note] -/
def F17_v1 (fuel : Nat) (a0 : List PV) (a1 : Unit) (a2 : PV) : Option (Int × PV) :=
 (loopQ fuel (S17_v1_3step fuel) (a0, (), (a0.length : Int), (0 : Int), a2)).bind fun z => sumE (fun y11 =>
 some (y11.1, y11.2)
 ) (fun y12 =>
 some ((-1 : Int), y12)
 ) z

def S17_v1_3l (fuel : Nat) : LoopE := ⟨3, ⟨[0, 1, 7, 8], [.box 31 .leaf], [(.slice 31), (.con (.fn 18 0 [(.ref 0 [] 31)])), (.int .i64), (.int .i64), (.data 31)]⟩, [(.ret, ⟨[4], [.box 31 .leaf], [(.int .i64), (.data 31)]⟩), (.exit 0, ⟨[], [.box 31 .leaf], [(.data 31)]⟩)], S17_v1_3step fuel⟩

def F17_v1C (fuel : Nat) : Cfg := cfg Tryd.prog 19 1 [F18c fuel] [S17_v1_3l fuel] fuel

def F17_v1c (fuel : Nat) : CallE := ⟨17, ⟨2, [.box 31 .leaf], [(.slice 31), (.con (.fn 18 0 [(.ref 0 [] 31)])), (.data 31)]⟩, ⟨1, [.box 31 .leaf], [(.int .i64), (.data 31)]⟩, fun x => F17_v1 fuel x.1 x.2.1 x.2.2, (0, PV.bad)⟩

theorem F17_v1k (fuel : Nat) : CallOk (F17_v1C fuel) := cfg_callOkP (qc (F18ok fuel) <| q0) (p0)

theorem S17_v1_3ok (fuel : Nat) : LoopOk (F17_v1C fuel) (lp (bodyOf Tryd.f17) 0) := okL (F17_v1k fuel) fuel (S17_v1_3l fuel) L0

theorem F17_v1ok (fuel : Nat) : (F17_v1c fuel).Ok Tryd.prog := okE Tryd.f17 (F17_v1k fuel) (L1 (S17_v1_3ok fuel))

/-- wireschema/note.Set -/
def F7 (fuel : Nat) (a0 : List PV) (a1 : PV) : Option ((List PV)) :=
 (F15_v2 fuel a0).bind fun y1 =>
 (F16 fuel a0 ((a1.fld 0).asStr)).bind fun y3 =>
 bif (decide (y3 ≥ (0 : Int))) then
 bif inRange y3 y1.2.length then
 some (y1.2.set y3.toNat a1)
 else none
 else
 (F17_v1 fuel a0 () a1).bind fun y6 =>
 let x7 := y6.1
 bif (decide (x7 < (0 : Int))) then
 (Lins fuel (a0.length : Int) [y6.2] y1.2).bind fun y11 =>
 some y11.2
 else
 (Lins fuel x7 [y6.2] y1.2).bind fun y13 =>
 some y13.2

def F7c (fuel : Nat) : CallE := ⟨7, ⟨2, [], [(.slice 31), (.data 31)]⟩, ⟨1, [], [(.slice 31)]⟩, fun x => F7 fuel x.1 x.2, []⟩

theorem F7ok (fuel : Nat) : (F7c fuel).Ok Tryd.prog := okJ Tryd.f7 33 0 fuel [F15_v2c fuel, F16c fuel, F17_v1c fuel, Lins_0c fuel] [] false (qc (F15_v2ok fuel) <| qc (F16ok fuel) <| qc (F17_v1ok fuel) <| qc (Lins_0ok fuel) <| q0) (p0) L0

/-- wireschema/wireschemalaw08.NoteStays -/
def F3 (fuel : Nat) (a0 : List PV) (a1 : PV) (a2 : Int) : Option (Bool) :=
 bif (decide ((a0.length : Int) > (40 : Int))) then
 (Lawake08 fuel).bind fun y3 =>
 some y3
 else
 (F6 fuel a0 a2).bind fun y4 =>
 let x8 := bif (y4 != (0 : Int)) then true else (decide ((a0.length : Int) ≥ (8 : Int)))
 (bif !x8 then F6 fuel [a1] a2 else some 0).bind fun y9 =>
 bif (bif x8 then true else (y9 != (0 : Int))) then
 (Lawake08 fuel).bind fun y12 =>
 some y12
 else
 (F7 fuel a0 a1).bind fun y13 =>
 (F6 fuel y13 a2).bind fun y14 =>
 let x15 := y14 == (0 : Int)
 (bif x15 then Lawake08 fuel else some false).bind fun y16 =>
 some (bif x15 then y16 else false)

def F3c (fuel : Nat) : CallE := ⟨3, ⟨3, [], [(.slice 31), (.data 31), (.int .i64)]⟩, ⟨1, [], [.bool]⟩, fun x => F3 fuel x.1 x.2.1 x.2.2, false⟩

theorem F3ok (fuel : Nat) : (F3c fuel).Ok Tryd.prog := okJ Tryd.f3 37 0 fuel [Lawake08c fuel, F6c fuel, F7c fuel] [] false (qc (Lawake08ok fuel) <| qc (F6ok fuel) <| qc (F7ok fuel) <| q0) (p0) L0

/-- wireschema/note.Find -/
def F8 (fuel : Nat) (a0 : List PV) (a1 : List UInt8) : Option (PV × Bool) :=
 (F16 fuel a0 a1).bind fun y1 =>
 bif (decide (y1 < (0 : Int))) then
 some ((PV.agg [(PV.int (0 : Int)), (PV.int (0 : Int)), (PV.str ([] : List UInt8)), (PV.slice []), (PV.slice []), (PV.slice []), (PV.slice [])]), false)
 else
 bif inRange y1 a0.length then
 some (((a0.getD y1.toNat .bad).fld 1), true)
 else none

def F8c (fuel : Nat) : CallE := ⟨8, ⟨2, [], [(.slice 31), .str]⟩, ⟨2, [], [(.data 29), .bool]⟩, fun x => F8 fuel x.1 x.2, (PV.bad, false)⟩

theorem F8ok (fuel : Nat) : (F8c fuel).Ok Tryd.prog := okJ Tryd.f8 18 0 fuel [F16c fuel] [] false (qc (F16ok fuel) <| q0) (p0) L0

def S20_3 (fuel : Nat) (a1 : List PV) (a2 : List UInt8) (a3 : Int) : Option (((List PV) × (List UInt8) × Int) ⊕ ((Int) ⊕ (Unit))) :=
 bif (decide (a3 < (a1.length : Int))) then
 bif inRange a3 a1.length then
 bif (((a1.getD a3.toNat .bad).fld 0).asStr == a2) then
 some (.inr (.inl a3))
 else
 some (.inl (a1, a2, (IntKind.wrap .i64 (a3 + (1 : Int)))))
 else none
 else
 some (.inr (.inr ()))

def S20_3step (fuel : Nat) (x : (List PV) × (List UInt8) × Int) : Option (((List PV) × (List UInt8) × Int) ⊕ ((Int) ⊕ (Unit))) := S20_3 fuel x.1 x.2.1 x.2.2

/-- wireschema/wireschemaref08.index -/
def F20 (fuel : Nat) (a0 : List PV) (a1 : List UInt8) : Option (Int) :=
 (loopQ fuel (S20_3step fuel) (a0, a1, (0 : Int))).bind fun z => sumE (fun y11 =>
 some y11
 ) (fun y12 =>
 some (-1 : Int)
 ) z

def S20_3l (fuel : Nat) : LoopE := ⟨3, ⟨[0, 1, 5], [], [(.slice 31), .str, (.int .i64)]⟩, [(.ret, ⟨[4], [], [(.int .i64)]⟩), (.exit 0, ⟨[], [], []⟩)], S20_3step fuel⟩

def F20C (fuel : Nat) : Cfg := cfg Tryd.prog 20 0 [] [S20_3l fuel] fuel

def F20c (fuel : Nat) : CallE := ⟨20, ⟨2, [], [(.slice 31), .str]⟩, ⟨1, [], [(.int .i64)]⟩, fun x => F20 fuel x.1 x.2, 0⟩

theorem F20k (fuel : Nat) : CallOk (F20C fuel) := cfg_callOkP (q0) (p0)

theorem S20_3ok (fuel : Nat) : LoopOk (F20C fuel) (lp (bodyOf Tryd.f20) 0) := okL (F20k fuel) fuel (S20_3l fuel) L0

theorem F20ok (fuel : Nat) : (F20c fuel).Ok Tryd.prog := okE Tryd.f20 (F20k fuel) (L1 (S20_3ok fuel))

def S10_6 (fuel : Nat) (a3 : List PV) (a4 : Unit) (a5 : List PV) (a6 : Int) (a7 : Bool) (a8 : Int) (a9 : PV) : Option (((List PV) × Unit × (List PV) × Int × Bool × Int × PV) ⊕ ((Unit × (List PV) × Bool × PV))) :=
 bif (decide (a8 < (a3.length : Int))) then
 bif (a8 == a6) then
 bif decide (a5.length + [a9].length ≤ accMax) then
 some (.inl (a3, (), (a5 ++ [a9]), a6, true, (IntKind.wrap .i64 (a8 + (1 : Int))), a9))
 else none
 else
 let x17 := bif (decide (a6 < (0 : Int))) then (!a7) else false
 bif imp x17 (inRange a8 a3.length) then
 let x20 := ((a3.getD a8.toNat .bad).fld 0).asStr
 let x21 := (a9.fld 0).asStr
 bif (bif x17 then (!(Op.bytesLess x20 x21 || x20 == x21)) else false) then
 bif decide (a5.length + [a9].length ≤ accMax) then
 let x24 := a5 ++ [a9]
 bif inRange a8 a3.length then
 let x25 := a3.getD a8.toNat .bad
 bif decide (x24.length + [x25].length ≤ accMax) then
 some (.inl (a3, (), (x24 ++ [x25]), a6, true, (IntKind.wrap .i64 (a8 + (1 : Int))), a9))
 else none
 else none
 else none
 else
 bif inRange a8 a3.length then
 let x28 := a3.getD a8.toNat .bad
 bif decide (a5.length + [x28].length ≤ accMax) then
 some (.inl (a3, (), (a5 ++ [x28]), a6, a7, (IntKind.wrap .i64 (a8 + (1 : Int))), a9))
 else none
 else none
 else none
 else
 some (.inr ((), a5, a7, a9))

def S10_6step (fuel : Nat) (x : (List PV) × Unit × (List PV) × Int × Bool × Int × PV) : Option (((List PV) × Unit × (List PV) × Int × Bool × Int × PV) ⊕ ((Unit × (List PV) × Bool × PV))) := S10_6 fuel x.1 x.2.1 x.2.2.1 x.2.2.2.1 x.2.2.2.2.1 x.2.2.2.2.2.1 x.2.2.2.2.2.2

/-- wireschema/wireschemaref08.Set -/
def F10 (fuel : Nat) (a0 : List PV) (a1 : PV) : Option ((List PV)) :=
 (F20 fuel a0 ((a1.fld 0).asStr)).bind fun y2 =>
 (loopQ fuel (S10_6step fuel) (a0, (), [], y2, false, (0 : Int), a1)).bind fun y31 =>
 bif (!y31.2.2.1) then
 let x34 := y31.2.1
 let x35 := y31.2.2.2
 bif decide (x34.length + [x35].length ≤ accMax) then
 some (x34 ++ [x35])
 else none
 else
 some y31.2.1

def S10_6l (fuel : Nat) : LoopE := ⟨6, ⟨[0, 3, 5, 6, 7, 8], [.box 31 .leaf, .acc], [(.slice 31), (.con (.ref 0 [] 31)), (.acc 1 31), (.int .i64), .bool, (.int .i64), (.data 31)]⟩, [(.exit 0, ⟨[3, 5, 7], [.box 31 .leaf, .acc], [(.con (.ref 0 [] 31)), (.acc 1 31), .bool, (.data 31)]⟩)], S10_6step fuel⟩

def F10C (fuel : Nat) : Cfg := cfg Tryd.prog 60 0 [F20c fuel] [S10_6l fuel] fuel

def F10c (fuel : Nat) : CallE := ⟨10, ⟨2, [], [(.slice 31), (.data 31)]⟩, ⟨1, [], [(.slice 31)]⟩, fun x => F10 fuel x.1 x.2, []⟩

theorem F10k (fuel : Nat) : CallOk (F10C fuel) := cfg_callOkP (qc (F20ok fuel) <| q0) (p0)

theorem S10_6ok (fuel : Nat) : LoopOk (F10C fuel) (lp (bodyOf Tryd.f10) 0) := okL (F10k fuel) fuel (S10_6l fuel) L0

theorem F10ok (fuel : Nat) : (F10c fuel).Ok Tryd.prog := okE Tryd.f10 (F10k fuel) (L1 (S10_6ok fuel))

def S9_5 (fuel : Nat) (a4 : List PV) (a5 : List PV) (a6 : Int) : Option (((List PV) × (List PV) × Int) ⊕ ((Bool) ⊕ (Unit))) :=
 bif (decide (a6 < (a4.length : Int))) then
 bif inRange a6 a4.length then
 bif inRange a6 a5.length then
 let x15 := !(((a4.getD a6.toNat .bad).fld 0).asStr == ((a5.getD a6.toNat .bad).fld 0).asStr)
 bif imp (!x15) (inRange a6 a4.length) then
 bif imp (!x15) (inRange a6 a5.length) then
 let x25 := bif x15 then true else ((((a4.getD a6.toNat .bad).fld 1).fld 0).asInt != (((a5.getD a6.toNat .bad).fld 1).fld 0).asInt)
 bif imp (!x25) (inRange a6 a4.length) then
 bif imp (!x25) (inRange a6 a5.length) then
 let x35 := bif x25 then true else ((((a4.getD a6.toNat .bad).fld 1).fld 1).asInt != (((a5.getD a6.toNat .bad).fld 1).fld 1).asInt)
 bif imp (!x35) (inRange a6 a4.length) then
 bif imp (!x35) (inRange a6 a5.length) then
 bif (bif x35 then true else (!((((a4.getD a6.toNat .bad).fld 1).fld 2).asStr == (((a5.getD a6.toNat .bad).fld 1).fld 2).asStr))) then
 some (.inr (.inl false))
 else
 some (.inl (a4, a5, (IntKind.wrap .i64 (a6 + (1 : Int)))))
 else none
 else none
 else none
 else none
 else none
 else none
 else none
 else none
 else
 some (.inr (.inr ()))

def S9_5step (fuel : Nat) (x : (List PV) × (List PV) × Int) : Option (((List PV) × (List PV) × Int) ⊕ ((Bool) ⊕ (Unit))) := S9_5 fuel x.1 x.2.1 x.2.2

/-- wireschema/wireschemaref08.Same -/
def F9 (fuel : Nat) (a0 : List PV) (a1 : List PV) : Option (Bool) :=
 bif ((a0.length : Int) != (a1.length : Int)) then
 some false
 else
 (loopQ fuel (S9_5step fuel) (a0, a1, (0 : Int))).bind fun z => sumE (fun y47 =>
 some y47
 ) (fun y48 =>
 some true
 ) z

def S9_5l (fuel : Nat) : LoopE := ⟨5, ⟨[0, 1, 5], [], [(.slice 31), (.slice 31), (.int .i64)]⟩, [(.ret, ⟨[4], [], [.bool]⟩), (.exit 0, ⟨[], [], []⟩)], S9_5step fuel⟩

def F9C (fuel : Nat) : Cfg := cfg Tryd.prog 73 0 [] [S9_5l fuel] fuel

def F9c (fuel : Nat) : CallE := ⟨9, ⟨2, [], [(.slice 31), (.slice 31)]⟩, ⟨1, [], [.bool]⟩, fun x => F9 fuel x.1 x.2, false⟩

theorem F9k (fuel : Nat) : CallOk (F9C fuel) := cfg_callOkP (q0) (p0)

theorem S9_5ok (fuel : Nat) : LoopOk (F9C fuel) (lp (bodyOf Tryd.f9) 0) := okL (F9k fuel) fuel (S9_5l fuel) L0

theorem F9ok (fuel : Nat) : (F9c fuel).Ok Tryd.prog := okE Tryd.f9 (F9k fuel) (L1 (S9_5ok fuel))

/-- wireschema/wireschemalaw08.same -/
def F11 (fuel : Nat) (a0 : PV) (a1 : PV) : Option (Bool) :=
 some (bif (bif (bif (bif (bif (bif (((a0.fld 0).asInt) == ((a1.fld 0).asInt)) then (((a0.fld 1).asInt) == ((a1.fld 1).asInt)) else false) then (((a0.fld 2).asStr) == ((a1.fld 2).asStr)) else false) then ((((a0.fld 3).asList).length : Int) == (((a1.fld 3).asList).length : Int)) else false) then ((((a0.fld 4).asList).length : Int) == (((a1.fld 4).asList).length : Int)) else false) then ((((a0.fld 5).asList).length : Int) == (((a1.fld 5).asList).length : Int)) else false) then ((((a0.fld 6).asList).length : Int) == (((a1.fld 6).asList).length : Int)) else false)

def F11c (fuel : Nat) : CallE := ⟨11, ⟨2, [], [(.data 29), (.data 29)]⟩, ⟨1, [], [.bool]⟩, fun x => F11 fuel x.1 x.2, false⟩

theorem F11ok (fuel : Nat) : (F11c fuel).Ok Tryd.prog := okJ Tryd.f11 60 0 fuel [] [] false (q0) (p0) L0

/-- wireschema/wireschemalaw08.NoteSets -/
def F4 (fuel : Nat) (a0 : List PV) (a1 : PV) (a2 : List UInt8) : Option (Bool) :=
 bif (decide ((a0.length : Int) > (40 : Int))) then
 (Lawake08 fuel).bind fun y3 =>
 some y3
 else
 (F7 fuel a0 a1).bind fun y4 =>
 (F8 fuel y4 ((a1.fld 0).asStr)).bind fun y6 =>
 (F10 fuel a0 a1).bind fun y9 =>
 (F9 fuel y4 y9).bind fun y10 =>
 let x13 := bif (!y10) then true else (!y6.2)
 (bif !x13 then F11 fuel y6.1 (a1.fld 1) else some false).bind fun y15 =>
 bif (bif x13 then true else (!y15)) then
 some false
 else
 bif (!(a2 == ((a1.fld 0).asStr))) then
 (F8 fuel y4 a2).bind fun y20 =>
 (F8 fuel a0 a2).bind fun y23 =>
 let x26 := !(y20.2 == y23.2)
 (bif !x26 then F11 fuel y20.1 y23.1 else some false).bind fun y27 =>
 bif (bif x26 then true else (!y27)) then
 some false
 else
 (Lawake08 fuel).bind fun y30 =>
 some y30
 else
 (Lawake08 fuel).bind fun y31 =>
 some y31

def F4c (fuel : Nat) : CallE := ⟨4, ⟨3, [], [(.slice 31), (.data 31), .str]⟩, ⟨1, [], [.bool]⟩, fun x => F4 fuel x.1 x.2.1 x.2.2, false⟩

theorem F4ok (fuel : Nat) : (F4c fuel).Ok Tryd.prog := okJ Tryd.f4 71 0 fuel [Lawake08c fuel, F7c fuel, F8c fuel, F10c fuel, F9c fuel, F11c fuel] [] false (qc (Lawake08ok fuel) <| qc (F7ok fuel) <| qc (F8ok fuel) <| qc (F10ok fuel) <| qc (F9ok fuel) <| qc (F11ok fuel) <| q0) (p0) L0

end
end Go.Ab
