/- A part of the proof: lemmas on how the program runs over plain data. -/
import Derived.Test.YtjfdnmkfjikjnaaGreatDoorAbPrsF
import Derived.KernelRfl
set_option linter.unusedVariables false
set_option linter.unusedSimpArgs false
set_option linter.unnecessarySimpa false
namespace Go.Ab
open Go Go.Proofs
set_option maxRecDepth 100000
noncomputable section
theorem okE {P : Program} {E : CallE} {C : Cfg} (fn : Func) (hC : CallOk C) (hL : ∀ b, b ∈ loopsOf (bodyOf fn) → LoopOk C b) (hP : C.P = P := by kernel_rfl) (hf : C.P.funcs[E.f]? = some fn := by kernel_rfl) (hb : fn.body = some (bodyOf fn) := by kernel_rfl)
    (hn : fn.ntmps = C.n := by kernel_rfl) (hname : (fn.name == "runtime.NumGoroutine") = false := by kernel_rfl) (hF : ∀ x, execF C fn (E.A.args x) (E.A.st x) (E.R.get C.P) = E.F x := by intro x; kernel_rfl)
    (hlen : ∀ x, (Nat.ble (E.A.args x).length C.n && Nat.beq (E.A.st x).length C.np && Nat.ble (E.A.st x).length E.R.bs.length) = true := by intro x; kernel_rfl) : E.Ok P := by
  subst hP
  exact fun x y h => meets_of hC hf hb hn hname hL hF hlen x y h
theorem okL {C : Cfg} (hC : CallOk C) {body : Code} (fuel : Nat) (l : LoopE) (hL : ∀ b, b ∈ loopsOf body → LoopOk C b) (hnp : (Nat.ble C.np l.H.bs.length && npX C.np l.X) = true := by kernel_rfl) (hstep : LoopStep C body l := by intro x; kernel_rfl)
    (hlam : ∀ (R : Type) (e : Env) (st : List BX) (K : LEx → Env → List BX → Option R), C.lam R (keyOf body) e st K = (l.H.dec C.P e st).bind fun x => (loopQ fuel l.step x).bind fun y => kX l.X y K := by intro R e st K; kernel_rfl) : LoopOk C body := loopOk_of hC fuel l hL hnp hstep hlam
theorem okI {P : Program} {E : CallE} (fn : Func) (n np fuel : Nat) (calls : List CallE) (h : ∀ c, c ∈ calls → c.Ok P) (hL : ∀ b, b ∈ loopsOf (bodyOf fn) → LoopOk (cfg P n np calls [] fuel) b) (hf : P.funcs[E.f]? = some fn := by kernel_rfl) (hb : fn.body = some (bodyOf fn) := by kernel_rfl)
    (hn : fn.ntmps = n := by kernel_rfl) (hname : (fn.name == "runtime.NumGoroutine") = false := by kernel_rfl) (hF : ∀ x, execF (cfg P n np calls [] fuel) fn (E.A.args x) (E.A.st x) (E.R.get P) = E.F x := by intro x; kernel_rfl)
    (hlen : ∀ x, (Nat.ble (E.A.args x).length n && Nat.beq (E.A.st x).length np && Nat.ble (E.A.st x).length E.R.bs.length) = true := by intro x; kernel_rfl) : E.Ok P := fun x y h2 => meets_of (cfg_callOk h) hf hb hn hname hL hF hlen x y h2
theorem q0 {P : Program} : ∀ c, c ∈ ([] : List CallE) → c.Ok P := callsN
theorem qc {P : Program} {c : CallE} {cs : List CallE} (h : c.Ok P) (hs : ∀ c, c ∈ cs → c.Ok P) : ∀ d, d ∈ c :: cs → d.Ok P := callsC h hs
theorem L0 {C : Cfg} {c : Code} (h : (loopsOf c).length = 0 := by kernel_rfl) : ∀ b, b ∈ loopsOf c → LoopOk C b := loops0 h
theorem L1 {C : Cfg} {c : Code} (a : LoopOk C (lp c 0)) (h : (loopsOf c).length = 1 := by kernel_rfl) : ∀ b, b ∈ loopsOf c → LoopOk C b := loopsN 1 h fun i hi => by
  match i, hi with
  | 0, _ => exact a
theorem L2 {C : Cfg} {c : Code} (a : LoopOk C (lp c 0)) (b : LoopOk C (lp c 1)) (h : (loopsOf c).length = 2 := by kernel_rfl) : ∀ b, b ∈ loopsOf c → LoopOk C b := loopsN 2 h fun i hi => by
  match i, hi with
  | 0, _ => exact a
  | 1, _ => exact b
theorem L3 {C : Cfg} {c : Code} (a : LoopOk C (lp c 0)) (b : LoopOk C (lp c 1)) (d : LoopOk C (lp c 2)) (h : (loopsOf c).length = 3 := by kernel_rfl) : ∀ b, b ∈ loopsOf c → LoopOk C b := loopsN 3 h fun i hi => by
  match i, hi with
  | 0, _ => exact a
  | 1, _ => exact b
  | 2, _ => exact d
theorem L4 {C : Cfg} {c : Code} (a : LoopOk C (lp c 0)) (b : LoopOk C (lp c 1)) (d : LoopOk C (lp c 2)) (e : LoopOk C (lp c 3)) (h : (loopsOf c).length = 4 := by kernel_rfl) : ∀ b, b ∈ loopsOf c → LoopOk C b := loopsN 4 h fun i hi => by
  match i, hi with
  | 0, _ => exact a
  | 1, _ => exact b
  | 2, _ => exact d
  | 3, _ => exact e

/-- internal/strconv.isPowerOfTwo -/
def F310 (fuel : Nat) (a0 : Int) : Option (Bool) :=
 some ((bitsI .and .i64 a0 (IntKind.wrap .i64 (a0 - (1 : Int)))) == (0 : Int))

def F310c (fuel : Nat) : CallE := ⟨310, ⟨1, [], [(.int .i64)]⟩, ⟨1, [], [.bool]⟩, fun x => F310 fuel x, false⟩

theorem F310ok (fuel : Nat) : (F310c fuel).Ok Tryz.prog := okI Tryz.f310 8 0 fuel [] (q0) L0

def S283_12 (fuel : Nat) (a14 : List PV) (a15 : Int) (a16 : Bool) (a17 : Bool) (a18 : List PV) (a19 : List UInt8) (a20 : Unit) (a21 : Int) (a22 : Int) (a23 : Int) (a24 : Int) (a25 : PV) : Option (((List PV) × Int × Bool × Bool × (List PV) × (List UInt8) × Unit × Int × Int × Int × Int × PV) ⊕ (((List PV) × Int × Bool × Bool × (List PV) × (List UInt8) × Unit × Int × PV))) :=
 bif (decide (a15 ≥ a23)) then
 let x27 := IntKind.wrap .i64 (a21 - (1 : Int))
 let x28 := bitsI .and .u64 a15 a24
 bif inRange x28 (([48, 49, 50, 51, 52, 53, 54, 55, 56, 57, 97, 98, 99, 100, 101, 102, 103, 104, 105, 106, 107, 108, 109, 110, 111, 112, 113, 114, 115, 116, 117, 118, 119, 120, 121, 122] : List UInt8).length) then
 let x29 := ((([48, 49, 50, 51, 52, 53, 54, 55, 56, 57, 97, 98, 99, 100, 101, 102, 103, 104, 105, 106, 107, 108, 109, 110, 111, 112, 113, 114, 115, 116, 117, 118, 119, 120, 121, 122] : List UInt8).getD x28.toNat 0).toNat : Int)
 bif inRange x27 65 then
 bif decide (0 ≤ a22) then
 some (.inl (a14, (a15.fdiv (2 ^ (min a22.toNat (IntKind.bits .u64)))), a16, a17, a18, a19, (), x27, a22, a23, a24, (PV.agg (a25.parts.set x27.toNat (PV.int x29)))))
 else none
 else none
 else none
 else
 some (.inr (a14, a15, a16, a17, a18, a19, (), a21, a25))

def S283_12step (fuel : Nat) (x : (List PV) × Int × Bool × Bool × (List PV) × (List UInt8) × Unit × Int × Int × Int × Int × PV) : Option (((List PV) × Int × Bool × Bool × (List PV) × (List UInt8) × Unit × Int × Int × Int × Int × PV) ⊕ (((List PV) × Int × Bool × Bool × (List PV) × (List UInt8) × Unit × Int × PV))) := S283_12 fuel x.1 x.2.1 x.2.2.1 x.2.2.2.1 x.2.2.2.2.1 x.2.2.2.2.2.1 x.2.2.2.2.2.2.1 x.2.2.2.2.2.2.2.1 x.2.2.2.2.2.2.2.2.1 x.2.2.2.2.2.2.2.2.2.1 x.2.2.2.2.2.2.2.2.2.2.1 x.2.2.2.2.2.2.2.2.2.2.2

def S283_19 (fuel : Nat) (a45 : List PV) (a46 : Int) (a47 : Bool) (a48 : Bool) (a49 : List PV) (a50 : List UInt8) (a51 : Unit) (a52 : Int) (a53 : Int) (a54 : PV) : Option (((List PV) × Int × Bool × Bool × (List PV) × (List UInt8) × Unit × Int × Int × PV) ⊕ (((List PV) × Int × Bool × Bool × (List PV) × (List UInt8) × Unit × Int × PV))) :=
 bif (decide (a46 ≥ a53)) then
 let x56 := IntKind.wrap .i64 (a52 - (1 : Int))
 bif !(decide (a53 = 0)) then
 let x57 := IntKind.wrap .u64 (a46.tdiv a53)
 let x59 := IntKind.wrap .u64 (a46 - (IntKind.wrap .u64 (x57 * a53)))
 bif inRange x59 (([48, 49, 50, 51, 52, 53, 54, 55, 56, 57, 97, 98, 99, 100, 101, 102, 103, 104, 105, 106, 107, 108, 109, 110, 111, 112, 113, 114, 115, 116, 117, 118, 119, 120, 121, 122] : List UInt8).length) then
 let x60 := ((([48, 49, 50, 51, 52, 53, 54, 55, 56, 57, 97, 98, 99, 100, 101, 102, 103, 104, 105, 106, 107, 108, 109, 110, 111, 112, 113, 114, 115, 116, 117, 118, 119, 120, 121, 122] : List UInt8).getD x59.toNat 0).toNat : Int)
 bif inRange x56 65 then
 some (.inl (a45, x57, a47, a48, a49, a50, (), x56, a53, (PV.agg (a54.parts.set x56.toNat (PV.int x60)))))
 else none
 else none
 else none
 else
 some (.inr (a45, a46, a47, a48, a49, a50, (), a52, a54))

def S283_19step (fuel : Nat) (x : (List PV) × Int × Bool × Bool × (List PV) × (List UInt8) × Unit × Int × Int × PV) : Option (((List PV) × Int × Bool × Bool × (List PV) × (List UInt8) × Unit × Int × Int × PV) ⊕ (((List PV) × Int × Bool × Bool × (List PV) × (List UInt8) × Unit × Int × PV))) := S283_19 fuel x.1 x.2.1 x.2.2.1 x.2.2.2.1 x.2.2.2.2.1 x.2.2.2.2.2.1 x.2.2.2.2.2.2.1 x.2.2.2.2.2.2.2.1 x.2.2.2.2.2.2.2.2.1 x.2.2.2.2.2.2.2.2.2

/-- internal/strconv.formatBits -/
def F283 (fuel : Nat) (a0 : List PV) (a1 : Int) (a2 : Int) (a3 : Bool) (a4 : Bool) : Option ((List PV) × (List UInt8)) :=
 bif (bif (bif (decide (a2 < (2 : Int))) then true else (a2 == (10 : Int))) then true else (decide (a2 > (36 : Int)))) then
 none
 else
 bif a3 then
 let x6 := IntKind.wrap .u64 (0 - a1)
 (F310 fuel a2).bind fun y7 =>
 bif y7 then
 (Ltz fuel (IntKind.wrap .u64 a2)).bind fun y9 =>
 (loopQ fuel (S283_12step fuel) (a0, x6, a3, a4, [], ([] : List UInt8), (), (65 : Int), (IntKind.wrap .u64 y9), (IntKind.wrap .u64 a2), (IntKind.wrap .u64 ((IntKind.wrap .u64 a2) - (1 : Int))), (PV.agg (List.replicate 65 (PV.int (0 : Int)))))).bind fun y31 =>
 let x33 := IntKind.wrap .i64 (y31.2.2.2.2.2.2.2.1 - (1 : Int))
 let x34 := y31.2.1
 bif inRange x34 (([48, 49, 50, 51, 52, 53, 54, 55, 56, 57, 97, 98, 99, 100, 101, 102, 103, 104, 105, 106, 107, 108, 109, 110, 111, 112, 113, 114, 115, 116, 117, 118, 119, 120, 121, 122] : List UInt8).length) then
 let x35 := ((([48, 49, 50, 51, 52, 53, 54, 55, 56, 57, 97, 98, 99, 100, 101, 102, 103, 104, 105, 106, 107, 108, 109, 110, 111, 112, 113, 114, 115, 116, 117, 118, 119, 120, 121, 122] : List UInt8).getD x34.toNat 0).toNat : Int)
 bif inRange x33 65 then
 bif y31.2.2.1 then
 let x37 := IntKind.wrap .i64 (x33 - (1 : Int))
 bif inRange x37 65 then
 bif y31.2.2.2.1 then
 bif decide (0 ≤ x37 ∧ x37 < 65 ∧ x37 ≤ (65 : Int) ∧ (65 : Int) ≤ 65) then
 none
 else none
 else
 bif decide (0 ≤ x37 ∧ x37 < 65 ∧ x37 ≤ (65 : Int) ∧ (65 : Int) ≤ 65) then
 let x40 := (((PV.agg ((PV.agg (y31.2.2.2.2.2.2.2.2.parts.set x33.toNat (PV.int x35))).parts.set x37.toNat (PV.int (45 : Int)))).parts.drop x37.toNat).take ((65 : Int).toNat - x37.toNat)).map byteOfPV
 some (y31.2.2.2.2.1, x40)
 else none
 else none
 else
 bif y31.2.2.2.1 then
 bif decide (0 ≤ x33 ∧ x33 < 65 ∧ x33 ≤ (65 : Int) ∧ (65 : Int) ≤ 65) then
 none
 else none
 else
 bif decide (0 ≤ x33 ∧ x33 < 65 ∧ x33 ≤ (65 : Int) ∧ (65 : Int) ≤ 65) then
 let x43 := (((PV.agg (y31.2.2.2.2.2.2.2.2.parts.set x33.toNat (PV.int x35))).parts.drop x33.toNat).take ((65 : Int).toNat - x33.toNat)).map byteOfPV
 some (y31.2.2.2.2.1, x43)
 else none
 else none
 else none
 else
 (loopQ fuel (S283_19step fuel) (a0, x6, a3, a4, [], ([] : List UInt8), (), (65 : Int), (IntKind.wrap .u64 a2), (PV.agg (List.replicate 65 (PV.int (0 : Int)))))).bind fun y61 =>
 let x63 := IntKind.wrap .i64 (y61.2.2.2.2.2.2.2.1 - (1 : Int))
 let x64 := y61.2.1
 bif inRange x64 (([48, 49, 50, 51, 52, 53, 54, 55, 56, 57, 97, 98, 99, 100, 101, 102, 103, 104, 105, 106, 107, 108, 109, 110, 111, 112, 113, 114, 115, 116, 117, 118, 119, 120, 121, 122] : List UInt8).length) then
 let x65 := ((([48, 49, 50, 51, 52, 53, 54, 55, 56, 57, 97, 98, 99, 100, 101, 102, 103, 104, 105, 106, 107, 108, 109, 110, 111, 112, 113, 114, 115, 116, 117, 118, 119, 120, 121, 122] : List UInt8).getD x64.toNat 0).toNat : Int)
 bif inRange x63 65 then
 bif y61.2.2.1 then
 let x67 := IntKind.wrap .i64 (x63 - (1 : Int))
 bif inRange x67 65 then
 bif y61.2.2.2.1 then
 bif decide (0 ≤ x67 ∧ x67 < 65 ∧ x67 ≤ (65 : Int) ∧ (65 : Int) ≤ 65) then
 none
 else none
 else
 bif decide (0 ≤ x67 ∧ x67 < 65 ∧ x67 ≤ (65 : Int) ∧ (65 : Int) ≤ 65) then
 let x70 := (((PV.agg ((PV.agg (y61.2.2.2.2.2.2.2.2.parts.set x63.toNat (PV.int x65))).parts.set x67.toNat (PV.int (45 : Int)))).parts.drop x67.toNat).take ((65 : Int).toNat - x67.toNat)).map byteOfPV
 some (y61.2.2.2.2.1, x70)
 else none
 else none
 else
 bif y61.2.2.2.1 then
 bif decide (0 ≤ x63 ∧ x63 < 65 ∧ x63 ≤ (65 : Int) ∧ (65 : Int) ≤ 65) then
 none
 else none
 else
 bif decide (0 ≤ x63 ∧ x63 < 65 ∧ x63 ≤ (65 : Int) ∧ (65 : Int) ≤ 65) then
 let x73 := (((PV.agg (y61.2.2.2.2.2.2.2.2.parts.set x63.toNat (PV.int x65))).parts.drop x63.toNat).take ((65 : Int).toNat - x63.toNat)).map byteOfPV
 some (y61.2.2.2.2.1, x73)
 else none
 else none
 else none
 else
 (F310 fuel a2).bind fun y74 =>
 bif y74 then
 (Ltz fuel (IntKind.wrap .u64 a2)).bind fun y76 =>
 (loopQ fuel (S283_12step fuel) (a0, a1, a3, a4, [], ([] : List UInt8), (), (65 : Int), (IntKind.wrap .u64 y76), (IntKind.wrap .u64 a2), (IntKind.wrap .u64 ((IntKind.wrap .u64 a2) - (1 : Int))), (PV.agg (List.replicate 65 (PV.int (0 : Int)))))).bind fun y81 =>
 let x83 := IntKind.wrap .i64 (y81.2.2.2.2.2.2.2.1 - (1 : Int))
 let x84 := y81.2.1
 bif inRange x84 (([48, 49, 50, 51, 52, 53, 54, 55, 56, 57, 97, 98, 99, 100, 101, 102, 103, 104, 105, 106, 107, 108, 109, 110, 111, 112, 113, 114, 115, 116, 117, 118, 119, 120, 121, 122] : List UInt8).length) then
 let x85 := ((([48, 49, 50, 51, 52, 53, 54, 55, 56, 57, 97, 98, 99, 100, 101, 102, 103, 104, 105, 106, 107, 108, 109, 110, 111, 112, 113, 114, 115, 116, 117, 118, 119, 120, 121, 122] : List UInt8).getD x84.toNat 0).toNat : Int)
 bif inRange x83 65 then
 bif y81.2.2.1 then
 let x87 := IntKind.wrap .i64 (x83 - (1 : Int))
 bif inRange x87 65 then
 bif y81.2.2.2.1 then
 bif decide (0 ≤ x87 ∧ x87 < 65 ∧ x87 ≤ (65 : Int) ∧ (65 : Int) ≤ 65) then
 none
 else none
 else
 bif decide (0 ≤ x87 ∧ x87 < 65 ∧ x87 ≤ (65 : Int) ∧ (65 : Int) ≤ 65) then
 let x90 := (((PV.agg ((PV.agg (y81.2.2.2.2.2.2.2.2.parts.set x83.toNat (PV.int x85))).parts.set x87.toNat (PV.int (45 : Int)))).parts.drop x87.toNat).take ((65 : Int).toNat - x87.toNat)).map byteOfPV
 some (y81.2.2.2.2.1, x90)
 else none
 else none
 else
 bif y81.2.2.2.1 then
 bif decide (0 ≤ x83 ∧ x83 < 65 ∧ x83 ≤ (65 : Int) ∧ (65 : Int) ≤ 65) then
 none
 else none
 else
 bif decide (0 ≤ x83 ∧ x83 < 65 ∧ x83 ≤ (65 : Int) ∧ (65 : Int) ≤ 65) then
 let x93 := (((PV.agg (y81.2.2.2.2.2.2.2.2.parts.set x83.toNat (PV.int x85))).parts.drop x83.toNat).take ((65 : Int).toNat - x83.toNat)).map byteOfPV
 some (y81.2.2.2.2.1, x93)
 else none
 else none
 else none
 else
 (loopQ fuel (S283_19step fuel) (a0, a1, a3, a4, [], ([] : List UInt8), (), (65 : Int), (IntKind.wrap .u64 a2), (PV.agg (List.replicate 65 (PV.int (0 : Int)))))).bind fun y95 =>
 let x97 := IntKind.wrap .i64 (y95.2.2.2.2.2.2.2.1 - (1 : Int))
 let x98 := y95.2.1
 bif inRange x98 (([48, 49, 50, 51, 52, 53, 54, 55, 56, 57, 97, 98, 99, 100, 101, 102, 103, 104, 105, 106, 107, 108, 109, 110, 111, 112, 113, 114, 115, 116, 117, 118, 119, 120, 121, 122] : List UInt8).length) then
 let x99 := ((([48, 49, 50, 51, 52, 53, 54, 55, 56, 57, 97, 98, 99, 100, 101, 102, 103, 104, 105, 106, 107, 108, 109, 110, 111, 112, 113, 114, 115, 116, 117, 118, 119, 120, 121, 122] : List UInt8).getD x98.toNat 0).toNat : Int)
 bif inRange x97 65 then
 bif y95.2.2.1 then
 let x101 := IntKind.wrap .i64 (x97 - (1 : Int))
 bif inRange x101 65 then
 bif y95.2.2.2.1 then
 bif decide (0 ≤ x101 ∧ x101 < 65 ∧ x101 ≤ (65 : Int) ∧ (65 : Int) ≤ 65) then
 none
 else none
 else
 bif decide (0 ≤ x101 ∧ x101 < 65 ∧ x101 ≤ (65 : Int) ∧ (65 : Int) ≤ 65) then
 let x104 := (((PV.agg ((PV.agg (y95.2.2.2.2.2.2.2.2.parts.set x97.toNat (PV.int x99))).parts.set x101.toNat (PV.int (45 : Int)))).parts.drop x101.toNat).take ((65 : Int).toNat - x101.toNat)).map byteOfPV
 some (y95.2.2.2.2.1, x104)
 else none
 else none
 else
 bif y95.2.2.2.1 then
 bif decide (0 ≤ x97 ∧ x97 < 65 ∧ x97 ≤ (65 : Int) ∧ (65 : Int) ≤ 65) then
 none
 else none
 else
 bif decide (0 ≤ x97 ∧ x97 < 65 ∧ x97 ≤ (65 : Int) ∧ (65 : Int) ≤ 65) then
 let x107 := (((PV.agg (y95.2.2.2.2.2.2.2.2.parts.set x97.toNat (PV.int x99))).parts.drop x97.toNat).take ((65 : Int).toNat - x97.toNat)).map byteOfPV
 some (y95.2.2.2.2.1, x107)
 else none
 else none
 else none

def S283_12l (fuel : Nat) : LoopE := ⟨12, ⟨[0, 1, 3, 4, 10, 11, 12, 13, 14, 15, 16], [.box 256 .leaf, .acc], [(.slice 5), (.int .u64), .bool, .bool, (.acc 1 5), .str, (.con (.ref 0 [] 256)), (.int .i64), (.int .u64), (.int .u64), (.int .u64), (.data 256)]⟩, [(.exit 0, ⟨[0, 1, 3, 4, 10, 11, 12, 13], [.box 256 .leaf, .acc], [(.slice 5), (.int .u64), .bool, .bool, (.acc 1 5), .str, (.con (.ref 0 [] 256)), (.int .i64), (.data 256)]⟩)], S283_12step fuel⟩

def S283_19l (fuel : Nat) : LoopE := ⟨19, ⟨[0, 1, 3, 4, 10, 11, 12, 13, 17], [.box 256 .leaf, .acc], [(.slice 5), (.int .u64), .bool, .bool, (.acc 1 5), .str, (.con (.ref 0 [] 256)), (.int .i64), (.int .u64), (.data 256)]⟩, [(.exit 2, ⟨[0, 1, 3, 4, 10, 11, 12, 13], [.box 256 .leaf, .acc], [(.slice 5), (.int .u64), .bool, .bool, (.acc 1 5), .str, (.con (.ref 0 [] 256)), (.int .i64), (.data 256)]⟩)], S283_19step fuel⟩

def F283C (fuel : Nat) : Cfg := cfg Tryz.prog 102 0 [F310c fuel, Ltzc fuel] [S283_12l fuel, S283_19l fuel] fuel

def F283c (fuel : Nat) : CallE := ⟨283, ⟨5, [], [(.slice 5), (.int .u64), (.int .i64), .bool, .bool]⟩, ⟨2, [], [(.slice 5), .str]⟩, fun x => F283 fuel x.1 x.2.1 x.2.2.1 x.2.2.2.1 x.2.2.2.2, ([], [])⟩

theorem F283k (fuel : Nat) : CallOk (F283C fuel) := cfg_callOk (qc (F310ok fuel) <| qc (Ltzok fuel) <| q0)

theorem S283_12ok (fuel : Nat) : LoopOk (F283C fuel) (lp (bodyOf Tryz.f283) 0) := okL (F283k fuel) fuel (S283_12l fuel) L0

theorem S283_19ok (fuel : Nat) : LoopOk (F283C fuel) (lp (bodyOf Tryz.f283) 1) := okL (F283k fuel) fuel (S283_19l fuel) L0

theorem F283ok (fuel : Nat) : (F283c fuel).Ok Tryz.prog := okE Tryz.f283 (F283k fuel) (L2 (S283_12ok fuel) (S283_19ok fuel))

/-- internal/strconv.FormatUint -/
def F228 (fuel : Nat) (a0 : Int) (a1 : Int) : Option ((List UInt8)) :=
 bif (a1 == (10 : Int)) then
 bif (decide (a0 < (100 : Int))) then
 none
 else
 none
 else
 (F283 fuel [] a0 a1 false false).bind fun y4 =>
 some y4.2

def F228c (fuel : Nat) : CallE := ⟨228, ⟨2, [], [(.int .u64), (.int .i64)]⟩, ⟨1, [], [.str]⟩, fun x => F228 fuel x.1 x.2, []⟩

theorem F228ok (fuel : Nat) : (F228c fuel).Ok Tryz.prog := okI Tryz.f228 32 0 fuel [F283c fuel] (qc (F283ok fuel) <| q0) L0


/-- internal/strconv.FormatUint at base 10 (by hand), and at other bases as printed. -/
def Lfmt (fuel : Nat) (u base : Int) : Option (List UInt8) := bif decide (base = 10) then Lfmtu fuel u base else F228 fuel u base
def Lfmtc (fuel : Nat) : CallE := { f := 228, A := ⟨2, [], [.int .u64, .int .i64]⟩, R := ⟨1, [], [.str]⟩, F := fun x => Lfmt fuel x.1 x.2, dflt := [] }
theorem Lfmtok (fuel : Nat) : (Lfmtc fuel).Ok Tryz.prog := by
  intro x y h
  have h : Lfmt fuel x.1 x.2 = some y := h
  unfold Lfmt at h
  cases hb : decide (x.2 = 10) with
  | true => rw [hb] at h; exact Lfmtuok fuel x y h
  | false => rw [hb] at h; exact F228ok fuel x y h

/-- wireschema/ident.class -/
def F262 (fuel : Nat) (a0 : Int) : Option (Int) :=
 bif (bif (decide (a0 ≥ (97 : Int))) then (decide (a0 ≤ (122 : Int))) else false) then
 some (1 : Int)
 else
 bif (bif (decide (a0 ≥ (65 : Int))) then (decide (a0 ≤ (90 : Int))) else false) then
 some (2 : Int)
 else
 bif (bif (decide (a0 ≥ (48 : Int))) then (decide (a0 ≤ (57 : Int))) else false) then
 some (3 : Int)
 else
 bif (a0 == (95 : Int)) then
 some (4 : Int)
 else
 some (0 : Int)

def F262c (fuel : Nat) : CallE := ⟨262, ⟨1, [], [(.int .i32)]⟩, ⟨1, [], [(.int .i64)]⟩, fun x => F262 fuel x, 0⟩

theorem F262ok (fuel : Nat) : (F262c fuel).Ok Tryz.prog := okI Tryz.f262 27 0 fuel [] (q0) L0

def S187_3 (fuel : Nat) (a1 : List UInt8) (a2 : Unit) (a3 : List UInt8) (a4 : Int) : Option (((List UInt8) × Unit × (List UInt8) × Int) ⊕ ((Bool × (List UInt8) × Int) ⊕ ((List UInt8) × (List UInt8) × Int))) :=
 bif (decide (a4.toNat < a3.length)) then
 bif decide (a4.toNat < a3.length) then
 bif decide (a4.toNat < a3.length) then
 (F262 fuel ((Utf8.decode ⟨a3.toArray⟩ a4.toNat).1 : Int)).bind fun y8 =>
 bif (bif (y8 == (0 : Int)) then true else (bif (bif ((a4.toNat : Int) == (0 : Int)) then (y8 != (1 : Int)) else false) then (y8 != (2 : Int)) else false)) then
 some (.inr (.inl (false, a3, ((bif decide (a4.toNat < a3.length) then a4.toNat + (Utf8.decode ⟨a3.toArray⟩ a4.toNat).2 else a4.toNat : Nat) : Int))))
 else
 some (.inl (a1, (), a3, ((bif decide (a4.toNat < a3.length) then a4.toNat + (Utf8.decode ⟨a3.toArray⟩ a4.toNat).2 else a4.toNat : Nat) : Int)))
 else none
 else none
 else
 some (.inr (.inr (a1, a3, ((bif decide (a4.toNat < a3.length) then a4.toNat + (Utf8.decode ⟨a3.toArray⟩ a4.toNat).2 else a4.toNat : Nat) : Int))))

def S187_3step (fuel : Nat) (x : (List UInt8) × Unit × (List UInt8) × Int) : Option (((List UInt8) × Unit × (List UInt8) × Int) ⊕ ((Bool × (List UInt8) × Int) ⊕ ((List UInt8) × (List UInt8) × Int))) := S187_3 fuel x.1 x.2.1 x.2.2.1 x.2.2.2

/-- wireschema/ident.IsPart -/
def F187 (fuel : Nat) (a0 : List UInt8) : Option (Bool) :=
 (loopQ fuel (S187_3step fuel) (a0, (), a0, ((0 : Nat) : Int))).bind fun z => sumE (fun y16 =>
 some y16.1
 ) (fun y17 =>
 some (bif (decide ((y17.1.length : Int) ≥ (1 : Int))) then (decide ((y17.1.length : Int) ≤ (40 : Int))) else false)
 ) z

def S187_3l (fuel : Nat) : LoopE := ⟨3, ⟨[0, 7], [.iter], [.str, (.con (.iref 0)), .str, (.int .i64)]⟩, [(.ret, ⟨[2], [.iter], [.bool, .str, (.int .i64)]⟩), (.exit 0, ⟨[0], [.iter], [.str, .str, (.int .i64)]⟩)], S187_3step fuel⟩

def F187C (fuel : Nat) : Cfg := cfg Tryz.prog 36 0 [F262c fuel] [S187_3l fuel] fuel

def F187c (fuel : Nat) : CallE := ⟨187, ⟨1, [], [.str]⟩, ⟨1, [], [.bool]⟩, fun x => F187 fuel x, false⟩

theorem F187k (fuel : Nat) : CallOk (F187C fuel) := cfg_callOk (qc (F262ok fuel) <| q0)

theorem S187_3ok (fuel : Nat) : LoopOk (F187C fuel) (lp (bodyOf Tryz.f187) 0) := okL (F187k fuel) fuel (S187_3l fuel) L0

theorem F187ok (fuel : Nat) : (F187c fuel).Ok Tryz.prog := okE Tryz.f187 (F187k fuel) (L1 (S187_3ok fuel))

def S127_3 (fuel : Nat) (a3 : List UInt8) (a4 : List PV) (a5 : Int) (a6 : Int) : Option (((List UInt8) × (List PV) × Int × Int) ⊕ ((Bool) ⊕ ((List UInt8)))) :=
 bif (decide (a6 < a5)) then
 bif inRange a6 a4.length then
 (F187 fuel (a4.getD a6.toNat .bad).asStr).bind fun y10 =>
 bif (!y10) then
 some (.inr (.inl false))
 else
 some (.inl (a3, a4, a5, (IntKind.wrap .i64 (a6 + (1 : Int)))))
 else none
 else
 some (.inr (.inr a3))

def S127_3step (fuel : Nat) (x : (List UInt8) × (List PV) × Int × Int) : Option (((List UInt8) × (List PV) × Int × Int) ⊕ ((Bool) ⊕ ((List UInt8)))) := S127_3 fuel x.1 x.2.1 x.2.2.1 x.2.2.2

/-- wireschema/ident.IsFull -/
def F127 (fuel : Nat) (a0 : List UInt8) : Option (Bool) :=
 (Lsplit fuel a0 ([46] : List UInt8)).bind fun y1 =>
 (loopQ fuel (S127_3step fuel) (a0, y1, (y1.length : Int), (0 : Int))).bind fun z => sumE (fun y13 =>
 some y13
 ) (fun y14 =>
 some (decide ((y14.length : Int) ≤ (120 : Int)))
 ) z

def S127_3l (fuel : Nat) : LoopE := ⟨3, ⟨[0, 6, 7, 8], [], [.str, (.slice 9), (.int .i64), (.int .i64)]⟩, [(.ret, ⟨[2], [], [.bool]⟩), (.exit 0, ⟨[0], [], [.str]⟩)], S127_3step fuel⟩

def F127C (fuel : Nat) : Cfg := cfg Tryz.prog 19 0 [Lsplitc fuel, F187c fuel] [S127_3l fuel] fuel

def F127c (fuel : Nat) : CallE := ⟨127, ⟨1, [], [.str]⟩, ⟨1, [], [.bool]⟩, fun x => F127 fuel x, false⟩

theorem F127k (fuel : Nat) : CallOk (F127C fuel) := cfg_callOk (qc (Lsplitok fuel) <| qc (F187ok fuel) <| q0)

theorem S127_3ok (fuel : Nat) : LoopOk (F127C fuel) (lp (bodyOf Tryz.f127) 0) := okL (F127k fuel) fuel (S127_3l fuel) L0

theorem F127ok (fuel : Nat) : (F127c fuel).Ok Tryz.prog := okE Tryz.f127 (F127k fuel) (L1 (S127_3ok fuel))

/-- wireschema/ident.IsWord -/
def F182 (fuel : Nat) (a0 : List UInt8) : Option (Bool) :=
 bif (a0 == ([109, 101, 115, 115, 97, 103, 101] : List UInt8)) then
 some true
 else
 bif (a0 == ([101, 110, 117, 109] : List UInt8)) then
 some true
 else
 bif (a0 == ([115, 101, 114, 118, 105, 99, 101] : List UInt8)) then
 some true
 else
 bif (a0 == ([117, 110, 105, 111, 110] : List UInt8)) then
 some true
 else
 bif (a0 == ([109, 97, 112] : List UInt8)) then
 some true
 else
 bif (a0 == ([108, 105, 115, 116] : List UInt8)) then
 some true
 else
 let x7 := a0 == ([114, 101, 113, 117, 105, 114, 101, 100] : List UInt8)
 bif x7 then
 some true
 else
 let x8 := a0 == ([111, 112, 116, 105, 111, 110, 97, 108] : List UInt8)
 bif x8 then
 some true
 else
 bif (a0 == ([112, 108, 97, 105, 110] : List UInt8)) then
 some true
 else
 bif (a0 == ([100, 101, 102, 97, 117, 108, 116] : List UInt8)) then
 some true
 else
 let x11 := a0 == ([114, 101, 115, 101, 114, 118, 101, 100] : List UInt8)
 bif x11 then
 some true
 else
 bif (a0 == ([105, 109, 112, 111, 114, 116] : List UInt8)) then
 some true
 else
 bif (a0 == ([115, 112, 97, 99, 101] : List UInt8)) then
 some true
 else
 bif (a0 == ([114, 112, 99] : List UInt8)) then
 some true
 else
 bif (a0 == ([115, 116, 114, 101, 97, 109] : List UInt8)) then
 some true
 else
 bif (a0 == ([114, 101, 116, 117, 114, 110, 115] : List UInt8)) then
 some true
 else
 bif (a0 == ([111, 112, 101, 110] : List UInt8)) then
 some true
 else
 bif (a0 == ([116, 114, 117, 101] : List UInt8)) then
 some true
 else
 bif (a0 == ([102, 97, 108, 115, 101] : List UInt8)) then
 some true
 else
 bif (a0 == ([110, 97, 110] : List UInt8)) then
 some true
 else
 bif (a0 == ([105, 110, 102] : List UInt8)) then
 some true
 else
 some false

def F182c (fuel : Nat) : CallE := ⟨182, ⟨1, [], [.str]⟩, ⟨1, [], [.bool]⟩, fun x => F182 fuel x, false⟩

theorem F182ok (fuel : Nat) : (F182c fuel).Ok Tryz.prog := okI Tryz.f182 27 0 fuel [] (q0) L0

def S258_3 (fuel : Nat) (a2 : List PV) (a3 : Unit) (a4 : Int) (a5 : Int) : Option (((List PV) × Unit × Int × Int) ⊕ ((Int) ⊕ (Unit))) :=
 bif (decide (a5 < a4)) then
 bif inRange a5 a2.length then
 (F182 fuel (a2.getD a5.toNat .bad).asStr).bind fun y9 =>
 bif y9 then
 some (.inr (.inl a5))
 else
 some (.inl (a2, (), a4, (IntKind.wrap .i64 (a5 + (1 : Int)))))
 else none
 else
 some (.inr (.inr ()))

def S258_3step (fuel : Nat) (x : (List PV) × Unit × Int × Int) : Option (((List PV) × Unit × Int × Int) ⊕ ((Int) ⊕ (Unit))) := S258_3 fuel x.1 x.2.1 x.2.2.1 x.2.2.2

/-- slices.IndexFunc[[]string,string] -/
def F258 (fuel : Nat) (a0 : List PV) (a1 : Unit) : Option (Int) :=
 (loopQ fuel (S258_3step fuel) (a0, (), (a0.length : Int), (0 : Int))).bind fun z => sumE (fun y11 =>
 some y11
 ) (fun y12 =>
 some (-1 : Int)
 ) z

def S258_3l (fuel : Nat) : LoopE := ⟨3, ⟨[0, 1, 7, 8], [], [(.slice 9), (.con (.fn 182 0 [])), (.int .i64), (.int .i64)]⟩, [(.ret, ⟨[4], [], [(.int .i64)]⟩), (.exit 0, ⟨[], [], []⟩)], S258_3step fuel⟩

def F258C (fuel : Nat) : Cfg := cfg Tryz.prog 19 0 [F182c fuel] [S258_3l fuel] fuel

def F258c (fuel : Nat) : CallE := ⟨258, ⟨2, [], [(.slice 9), (.con (.fn 182 0 []))]⟩, ⟨1, [], [(.int .i64)]⟩, fun x => F258 fuel x.1 x.2, 0⟩

theorem F258k (fuel : Nat) : CallOk (F258C fuel) := cfg_callOk (qc (F182ok fuel) <| q0)

theorem S258_3ok (fuel : Nat) : LoopOk (F258C fuel) (lp (bodyOf Tryz.f258) 0) := okL (F258k fuel) fuel (S258_3l fuel) L0

theorem F258ok (fuel : Nat) : (F258c fuel).Ok Tryz.prog := okE Tryz.f258 (F258k fuel) (L1 (S258_3ok fuel))

/-- slices.ContainsFunc[[]string,string] -/
def F180 (fuel : Nat) (a0 : List PV) (a1 : Unit) : Option (Bool) :=
 (F258 fuel a0 ()).bind fun y1 =>
 some (decide (y1 ≥ (0 : Int)))

def F180c (fuel : Nat) : CallE := ⟨180, ⟨2, [], [(.slice 9), (.con (.fn 182 0 []))]⟩, ⟨1, [], [.bool]⟩, fun x => F180 fuel x.1 x.2, false⟩

theorem F180ok (fuel : Nat) : (F180c fuel).Ok Tryz.prog := okI Tryz.f180 9 0 fuel [F258c fuel] (qc (F258ok fuel) <| q0) L0

/-- wireschema/format.isDef -/
def F72 (fuel : Nat) (a0 : List UInt8) : Option (Bool) :=
 (F127 fuel a0).bind fun y1 =>
 (bif y1 then Lsplit fuel a0 ([46] : List UInt8) else some []).bind fun y2 =>
 (bif y1 then F180 fuel y2 () else some false).bind fun y3 =>
 some (bif y1 then (!y3) else false)

def F72c (fuel : Nat) : CallE := ⟨72, ⟨1, [], [.str]⟩, ⟨1, [], [.bool]⟩, fun x => F72 fuel x, false⟩

theorem F72ok (fuel : Nat) : (F72c fuel).Ok Tryz.prog := okI Tryz.f72 11 0 fuel [F127c fuel, Lsplitc fuel, F180c fuel] (qc (F127ok fuel) <| qc (Lsplitok fuel) <| qc (F180ok fuel) <| q0) L0

/-- wireschema/format.isPart -/
def F77 (fuel : Nat) (a0 : List UInt8) : Option (Bool) :=
 (F187 fuel a0).bind fun y1 =>
 (bif y1 then F182 fuel a0 else some false).bind fun y2 =>
 some (bif y1 then (!y2) else false)

def F77c (fuel : Nat) : CallE := ⟨77, ⟨1, [], [.str]⟩, ⟨1, [], [.bool]⟩, fun x => F77 fuel x, false⟩

theorem F77ok (fuel : Nat) : (F77c fuel).Ok Tryz.prog := okI Tryz.f77 10 0 fuel [F187c fuel, F182c fuel] (qc (F187ok fuel) <| qc (F182ok fuel) <| q0) L0

/-- wireschema/format.plain -/
def F45 (fuel : Nat) (a0 : Int) : Option (Bool) :=
 some (bif (decide (a0 ≥ (1 : Int))) then (decide (a0 ≤ (8 : Int))) else false)

def F45c (fuel : Nat) : CallE := ⟨45, ⟨1, [], [(.int .i64)]⟩, ⟨1, [], [.bool]⟩, fun x => F45 fuel x, false⟩

theorem F45ok (fuel : Nat) : (F45c fuel).Ok Tryz.prog := okI Tryz.f45 9 0 fuel [] (q0) L0

/-- internal/stringslite.HasPrefix -/
def F277 (fuel : Nat) (a0 : List UInt8) (a1 : List UInt8) : Option (Bool) :=
 let x3 := decide ((a0.length : Int) ≥ (a1.length : Int))
 let x4 := (a1.length : Int)
 bif imp x3 (decide (0 ≤ (0 : Int) ∧ (0 : Int) ≤ x4 ∧ x4 ≤ (a0.length : Int))) then
 some (bif x3 then (((a0.take x4.toNat).drop (0 : Int).toNat) == a1) else false)
 else none

def F277c (fuel : Nat) : CallE := ⟨277, ⟨2, [], [.str, .str]⟩, ⟨1, [], [.bool]⟩, fun x => F277 fuel x.1 x.2, false⟩

theorem F277ok (fuel : Nat) : (F277c fuel).Ok Tryz.prog := okI Tryz.f277 18 0 fuel [] (q0) L0

/-- internal/stringslite.TrimPrefix -/
def F220 (fuel : Nat) (a0 : List UInt8) (a1 : List UInt8) : Option ((List UInt8)) :=
 (F277 fuel a0 a1).bind fun y1 =>
 bif y1 then
 let x2 := (a1.length : Int)
 bif decide (0 ≤ x2 ∧ x2 ≤ (a0.length : Int) ∧ (a0.length : Int) ≤ (a0.length : Int)) then
 some ((a0.take (a0.length : Int).toNat).drop x2.toNat)
 else none
 else
 some a0

def F220c (fuel : Nat) : CallE := ⟨220, ⟨2, [], [.str, .str]⟩, ⟨1, [], [.str]⟩, fun x => F220 fuel x.1 x.2, []⟩

theorem F220ok (fuel : Nat) : (F220c fuel).Ok Tryz.prog := okI Tryz.f220 13 0 fuel [F277c fuel] (qc (F277ok fuel) <| q0) L0

/-- strings.TrimPrefix -/
def F128 (fuel : Nat) (a0 : List UInt8) (a1 : List UInt8) : Option ((List UInt8)) :=
 (F220 fuel a0 a1).bind fun y1 =>
 some y1

def F128c (fuel : Nat) : CallE := ⟨128, ⟨2, [], [.str, .str]⟩, ⟨1, [], [.str]⟩, fun x => F128 fuel x.1 x.2, []⟩

theorem F128ok (fuel : Nat) : (F128c fuel).Ok Tryz.prog := okI Tryz.f128 8 0 fuel [F220c fuel] (qc (F220ok fuel) <| q0) L0

/-- wireschema/format.isType -/
def F47 (fuel : Nat) (a0 : List UInt8) : Option (Bool) :=
 (F128 fuel a0 ([46] : List UInt8)).bind fun y1 =>
 (F127 fuel y1).bind fun y2 =>
 some y2

def F47c (fuel : Nat) : CallE := ⟨47, ⟨1, [], [.str]⟩, ⟨1, [], [.bool]⟩, fun x => F47 fuel x, false⟩

theorem F47ok (fuel : Nat) : (F47c fuel).Ok Tryz.prog := okI Tryz.f47 6 0 fuel [F128c fuel, F127c fuel] (qc (F128ok fuel) <| qc (F127ok fuel) <| q0) L0

/-- wireschema/parse.words -/
def F126 (fuel : Nat)  : Option (PV) :=
 let x1 := (PV.agg [(PV.str ([98, 111, 111, 108] : List UInt8)), (PV.str ([105, 51, 50] : List UInt8)), (PV.str ([105, 54, 52] : List UInt8)), (PV.str ([117, 51, 50] : List UInt8)), (PV.str ([117, 54, 52] : List UInt8)), (PV.str ([100, 111, 117, 98, 108, 101] : List UInt8)), (PV.str ([116, 101, 120, 116] : List UInt8)), (PV.str ([98, 121, 116, 101, 115] : List UInt8))])
 some x1

def F126c (fuel : Nat) : CallE := ⟨126, ⟨0, [], []⟩, ⟨1, [], [(.data 144)]⟩, fun x => F126 fuel , PV.bad⟩

theorem F126ok (fuel : Nat) : (F126c fuel).Ok Tryz.prog := okI Tryz.f126 2 0 fuel [] (q0) L0

def S188_3 (fuel : Nat) (a2 : List UInt8) (a3 : PV) (a4 : Int) : Option (((List UInt8) × PV × Int) ⊕ ((Int) ⊕ (Unit))) :=
 bif (decide (a4 < (8 : Int))) then
 bif inRange a4 8 then
 bif (((a3.fld a4.toNat).asStr) == a2) then
 some (.inr (.inl (IntKind.wrap .i64 (a4 + (1 : Int)))))
 else
 some (.inl (a2, a3, (IntKind.wrap .i64 (a4 + (1 : Int)))))
 else none
 else
 some (.inr (.inr ()))

def S188_3step (fuel : Nat) (x : (List UInt8) × PV × Int) : Option (((List UInt8) × PV × Int) ⊕ ((Int) ⊕ (Unit))) := S188_3 fuel x.1 x.2.1 x.2.2

/-- wireschema/parse.Kind -/
def F188 (fuel : Nat) (a0 : List UInt8) : Option (Int) :=
 (F126 fuel).bind fun y1 =>
 (loopQ fuel (S188_3step fuel) (a0, y1, (0 : Int))).bind fun z => sumE (fun y10 =>
 some y10
 ) (fun y11 =>
 some (0 : Int)
 ) z

def S188_3l (fuel : Nat) : LoopE := ⟨3, ⟨[0, 5, 6], [], [.str, (.data 144), (.int .i64)]⟩, [(.ret, ⟨[2], [], [(.int .i64)]⟩), (.exit 0, ⟨[], [], []⟩)], S188_3step fuel⟩

def F188C (fuel : Nat) : Cfg := cfg Tryz.prog 16 0 [F126c fuel] [S188_3l fuel] fuel

def F188c (fuel : Nat) : CallE := ⟨188, ⟨1, [], [.str]⟩, ⟨1, [], [(.int .i64)]⟩, fun x => F188 fuel x, 0⟩

theorem F188k (fuel : Nat) : CallOk (F188C fuel) := cfg_callOk (qc (F126ok fuel) <| q0)

theorem S188_3ok (fuel : Nat) : LoopOk (F188C fuel) (lp (bodyOf Tryz.f188) 0) := okL (F188k fuel) fuel (S188_3l fuel) L0

theorem F188ok (fuel : Nat) : (F188c fuel).Ok Tryz.prog := okE Tryz.f188 (F188k fuel) (L1 (S188_3ok fuel))

/-- wireschema/format.typeName -/
def F78 (fuel : Nat) (a0 : PV) : Option (Bool) :=
 (F45 fuel ((a0.fld 0).asInt)).bind fun y2 =>
 bif y2 then
 some (((a0.fld 1).asStr) == ([] : List UInt8))
 else
 (F47 fuel ((a0.fld 1).asStr)).bind fun y6 =>
 (bif y6 then F188 fuel ((a0.fld 1).asStr) else some 0).bind fun y8 =>
 some (bif y6 then (y8 == (0 : Int)) else false)

def F78c (fuel : Nat) : CallE := ⟨78, ⟨1, [], [(.data 35)]⟩, ⟨1, [], [.bool]⟩, fun x => F78 fuel x, false⟩

theorem F78ok (fuel : Nat) : (F78c fuel).Ok Tryz.prog := okI Tryz.f78 18 0 fuel [F45c fuel, F47c fuel, F188c fuel] (qc (F45ok fuel) <| qc (F47ok fuel) <| qc (F188ok fuel) <| q0) L0

/-- wireschema/format.names$1$1 -/
def F76 (fuel : Nat) (a0 : PV) : Option (Bool) :=
 (F77 fuel ((a0.fld 1).asStr)).bind fun y2 =>
 let x4 := ((a0.fld 5).asStr) == ([] : List UInt8)
 (bif bif !x4 then y2 else false then F77 fuel ((a0.fld 5).asStr) else some false).bind fun y6 =>
 let x8 := bif y2 then (bif x4 then true else y6) else false
 (bif x8 then F78 fuel (a0.fld 4) else some false).bind fun y10 =>
 some (bif x8 then y10 else false)

def F76c (fuel : Nat) : CallE := ⟨76, ⟨1, [], [(.data 45)]⟩, ⟨1, [], [.bool]⟩, fun x => F76 fuel x, false⟩

theorem F76ok (fuel : Nat) : (F76c fuel).Ok Tryz.prog := okI Tryz.f76 21 0 fuel [F77c fuel, F78c fuel] (qc (F77ok fuel) <| qc (F78ok fuel) <| q0) L0

/-- wireschema/format.every[wireschema/api.Field]$1 -/
def F186 (fuel : Nat) (a0 : PV) (a1 : Unit) (a2 : Unit) : Option (Bool × Unit) :=
 (F76 fuel a0).bind fun y1 =>
 some ((!y1), ())

def F186c (fuel : Nat) : CallE := ⟨186, ⟨2, [.box 101 .leaf], [(.data 45), (.con (.ref 0 [] 101)), (.con (.fn 76 0 []))]⟩, ⟨1, [.box 101 .leaf], [.bool, (.con (.fn 76 0 []))]⟩, fun x => F186 fuel x.1 x.2.1 x.2.2, (false, ())⟩

theorem F186ok (fuel : Nat) : (F186c fuel).Ok Tryz.prog := okI Tryz.f186 8 1 fuel [F76c fuel] (qc (F76ok fuel) <| q0) L0

def S261_3 (fuel : Nat) (a2 : List PV) (a3 : Unit) (a4 : Int) (a5 : Int) (a6 : Unit) : Option (((List PV) × Unit × Int × Int × Unit) ⊕ ((Int × Unit) ⊕ (Unit))) :=
 bif (decide (a5 < a4)) then
 bif inRange a5 a2.length then
 (F186 fuel (a2.getD a5.toNat .bad) () ()).bind fun y9 =>
 bif y9.1 then
 some (.inr (.inl (a5, ())))
 else
 some (.inl (a2, (), a4, (IntKind.wrap .i64 (a5 + (1 : Int))), ()))
 else none
 else
 some (.inr (.inr ()))

def S261_3step (fuel : Nat) (x : (List PV) × Unit × Int × Int × Unit) : Option (((List PV) × Unit × Int × Int × Unit) ⊕ ((Int × Unit) ⊕ (Unit))) := S261_3 fuel x.1 x.2.1 x.2.2.1 x.2.2.2.1 x.2.2.2.2

/-- slices.IndexFunc[[]wireschema/api.Field,wireschema/api.Field] -/
def F261 (fuel : Nat) (a0 : List PV) (a1 : Unit) (a2 : Unit) : Option (Int × Unit) :=
 (loopQ fuel (S261_3step fuel) (a0, (), (a0.length : Int), (0 : Int), ())).bind fun z => sumE (fun y11 =>
 some (y11.1, ())
 ) (fun y12 =>
 some ((-1 : Int), ())
 ) z

def S261_3l (fuel : Nat) : LoopE := ⟨3, ⟨[0, 1, 7, 8], [.box 101 .leaf], [(.slice 45), (.con (.fn 186 0 [(.ref 0 [] 101)])), (.int .i64), (.int .i64), (.con (.fn 76 0 []))]⟩, [(.ret, ⟨[4], [.box 101 .leaf], [(.int .i64), (.con (.fn 76 0 []))]⟩), (.exit 0, ⟨[], [.box 101 .leaf], [(.con (.fn 76 0 []))]⟩)], S261_3step fuel⟩

def F261C (fuel : Nat) : Cfg := cfg Tryz.prog 19 1 [F186c fuel] [S261_3l fuel] fuel

def F261c (fuel : Nat) : CallE := ⟨261, ⟨2, [.box 101 .leaf], [(.slice 45), (.con (.fn 186 0 [(.ref 0 [] 101)])), (.con (.fn 76 0 []))]⟩, ⟨1, [.box 101 .leaf], [(.int .i64), (.con (.fn 76 0 []))]⟩, fun x => F261 fuel x.1 x.2.1 x.2.2, (0, ())⟩

theorem F261k (fuel : Nat) : CallOk (F261C fuel) := cfg_callOk (qc (F186ok fuel) <| q0)

theorem S261_3ok (fuel : Nat) : LoopOk (F261C fuel) (lp (bodyOf Tryz.f261) 0) := okL (F261k fuel) fuel (S261_3l fuel) L0

theorem F261ok (fuel : Nat) : (F261c fuel).Ok Tryz.prog := okE Tryz.f261 (F261k fuel) (L1 (S261_3ok fuel))

/-- slices.ContainsFunc[[]wireschema/api.Field,wireschema/api.Field] -/
def F185 (fuel : Nat) (a0 : List PV) (a1 : Unit) (a2 : Unit) : Option (Bool × Unit) :=
 (F261 fuel a0 () ()).bind fun y1 =>
 some ((decide (y1.1 ≥ (0 : Int))), ())

def F185c (fuel : Nat) : CallE := ⟨185, ⟨2, [.box 101 .leaf], [(.slice 45), (.con (.fn 186 0 [(.ref 0 [] 101)])), (.con (.fn 76 0 []))]⟩, ⟨1, [.box 101 .leaf], [.bool, (.con (.fn 76 0 []))]⟩, fun x => F185 fuel x.1 x.2.1 x.2.2, (false, ())⟩

theorem F185ok (fuel : Nat) : (F185c fuel).Ok Tryz.prog := okI Tryz.f185 9 1 fuel [F261c fuel] (qc (F261ok fuel) <| q0) L0

/-- wireschema/format.every[wireschema/api.Field] -/
def F75 (fuel : Nat) (a0 : List PV) (a1 : Unit) : Option (Bool) :=
 (F185 fuel a0 () ()).bind fun y1 =>
 some (!y1.1)

def F75c (fuel : Nat) : CallE := ⟨75, ⟨2, [], [(.slice 45), (.con (.fn 76 0 []))]⟩, ⟨1, [], [.bool]⟩, fun x => F75 fuel x.1 x.2, false⟩

theorem F75ok (fuel : Nat) : (F75c fuel).Ok Tryz.prog := okI Tryz.f75 9 0 fuel [F185c fuel] (qc (F185ok fuel) <| q0) L0

/-- wireschema/format.names$1 -/
def F74 (fuel : Nat) (a0 : PV) : Option (Bool) :=
 (F72 fuel ((a0.fld 0).asStr)).bind fun y2 =>
 (bif y2 then F75 fuel ((a0.fld 1).asList) () else some false).bind fun y4 =>
 some (bif y2 then y4 else false)

def F74c (fuel : Nat) : CallE := ⟨74, ⟨1, [], [(.data 61)]⟩, ⟨1, [], [.bool]⟩, fun x => F74 fuel x, false⟩

theorem F74ok (fuel : Nat) : (F74c fuel).Ok Tryz.prog := okI Tryz.f74 11 0 fuel [F72c fuel, F75c fuel] (qc (F72ok fuel) <| qc (F75ok fuel) <| q0) L0

/-- wireschema/format.every[wireschema/api.Message]$1 -/
def F184 (fuel : Nat) (a0 : PV) (a1 : Unit) (a2 : Unit) : Option (Bool × Unit) :=
 (F74 fuel a0).bind fun y1 =>
 some ((!y1), ())

def F184c (fuel : Nat) : CallE := ⟨184, ⟨2, [.box 102 .leaf], [(.data 61), (.con (.ref 0 [] 102)), (.con (.fn 74 0 []))]⟩, ⟨1, [.box 102 .leaf], [.bool, (.con (.fn 74 0 []))]⟩, fun x => F184 fuel x.1 x.2.1 x.2.2, (false, ())⟩

theorem F184ok (fuel : Nat) : (F184c fuel).Ok Tryz.prog := okI Tryz.f184 8 1 fuel [F74c fuel] (qc (F74ok fuel) <| q0) L0

def S260_3 (fuel : Nat) (a2 : List PV) (a3 : Unit) (a4 : Int) (a5 : Int) (a6 : Unit) : Option (((List PV) × Unit × Int × Int × Unit) ⊕ ((Int × Unit) ⊕ (Unit))) :=
 bif (decide (a5 < a4)) then
 bif inRange a5 a2.length then
 (F184 fuel (a2.getD a5.toNat .bad) () ()).bind fun y9 =>
 bif y9.1 then
 some (.inr (.inl (a5, ())))
 else
 some (.inl (a2, (), a4, (IntKind.wrap .i64 (a5 + (1 : Int))), ()))
 else none
 else
 some (.inr (.inr ()))

def S260_3step (fuel : Nat) (x : (List PV) × Unit × Int × Int × Unit) : Option (((List PV) × Unit × Int × Int × Unit) ⊕ ((Int × Unit) ⊕ (Unit))) := S260_3 fuel x.1 x.2.1 x.2.2.1 x.2.2.2.1 x.2.2.2.2

/-- slices.IndexFunc[[]wireschema/api.Message,wireschema/api.Message] -/
def F260 (fuel : Nat) (a0 : List PV) (a1 : Unit) (a2 : Unit) : Option (Int × Unit) :=
 (loopQ fuel (S260_3step fuel) (a0, (), (a0.length : Int), (0 : Int), ())).bind fun z => sumE (fun y11 =>
 some (y11.1, ())
 ) (fun y12 =>
 some ((-1 : Int), ())
 ) z

def S260_3l (fuel : Nat) : LoopE := ⟨3, ⟨[0, 1, 7, 8], [.box 102 .leaf], [(.slice 61), (.con (.fn 184 0 [(.ref 0 [] 102)])), (.int .i64), (.int .i64), (.con (.fn 74 0 []))]⟩, [(.ret, ⟨[4], [.box 102 .leaf], [(.int .i64), (.con (.fn 74 0 []))]⟩), (.exit 0, ⟨[], [.box 102 .leaf], [(.con (.fn 74 0 []))]⟩)], S260_3step fuel⟩

def F260C (fuel : Nat) : Cfg := cfg Tryz.prog 19 1 [F184c fuel] [S260_3l fuel] fuel

def F260c (fuel : Nat) : CallE := ⟨260, ⟨2, [.box 102 .leaf], [(.slice 61), (.con (.fn 184 0 [(.ref 0 [] 102)])), (.con (.fn 74 0 []))]⟩, ⟨1, [.box 102 .leaf], [(.int .i64), (.con (.fn 74 0 []))]⟩, fun x => F260 fuel x.1 x.2.1 x.2.2, (0, ())⟩

theorem F260k (fuel : Nat) : CallOk (F260C fuel) := cfg_callOk (qc (F184ok fuel) <| q0)

theorem S260_3ok (fuel : Nat) : LoopOk (F260C fuel) (lp (bodyOf Tryz.f260) 0) := okL (F260k fuel) fuel (S260_3l fuel) L0

theorem F260ok (fuel : Nat) : (F260c fuel).Ok Tryz.prog := okE Tryz.f260 (F260k fuel) (L1 (S260_3ok fuel))

/-- slices.ContainsFunc[[]wireschema/api.Message,wireschema/api.Message] -/
def F183 (fuel : Nat) (a0 : List PV) (a1 : Unit) (a2 : Unit) : Option (Bool × Unit) :=
 (F260 fuel a0 () ()).bind fun y1 =>
 some ((decide (y1.1 ≥ (0 : Int))), ())

def F183c (fuel : Nat) : CallE := ⟨183, ⟨2, [.box 102 .leaf], [(.slice 61), (.con (.fn 184 0 [(.ref 0 [] 102)])), (.con (.fn 74 0 []))]⟩, ⟨1, [.box 102 .leaf], [.bool, (.con (.fn 74 0 []))]⟩, fun x => F183 fuel x.1 x.2.1 x.2.2, (false, ())⟩

theorem F183ok (fuel : Nat) : (F183c fuel).Ok Tryz.prog := okI Tryz.f183 9 1 fuel [F260c fuel] (qc (F260ok fuel) <| q0) L0

/-- wireschema/format.every[wireschema/api.Message] -/
def F73 (fuel : Nat) (a0 : List PV) (a1 : Unit) : Option (Bool) :=
 (F183 fuel a0 () ()).bind fun y1 =>
 some (!y1.1)

def F73c (fuel : Nat) : CallE := ⟨73, ⟨2, [], [(.slice 61), (.con (.fn 74 0 []))]⟩, ⟨1, [], [.bool]⟩, fun x => F73 fuel x.1 x.2, false⟩

theorem F73ok (fuel : Nat) : (F73c fuel).Ok Tryz.prog := okI Tryz.f73 9 0 fuel [F183c fuel] (qc (F183ok fuel) <| q0) L0

/-- wireschema/format.names$2$1 -/
def F82 (fuel : Nat) (a0 : PV) : Option (Bool) :=
 (F77 fuel ((a0.fld 0).asStr)).bind fun y2 =>
 some y2

def F82c (fuel : Nat) : CallE := ⟨82, ⟨1, [], [(.data 106)]⟩, ⟨1, [], [.bool]⟩, fun x => F82 fuel x, false⟩

theorem F82ok (fuel : Nat) : (F82c fuel).Ok Tryz.prog := okI Tryz.f82 6 0 fuel [F77c fuel] (qc (F77ok fuel) <| q0) L0

/-- wireschema/format.every[wireschema/api.Item]$1 -/
def F192 (fuel : Nat) (a0 : PV) (a1 : Unit) (a2 : Unit) : Option (Bool × Unit) :=
 (F82 fuel a0).bind fun y1 =>
 some ((!y1), ())

def F192c (fuel : Nat) : CallE := ⟨192, ⟨2, [.box 107 .leaf], [(.data 106), (.con (.ref 0 [] 107)), (.con (.fn 82 0 []))]⟩, ⟨1, [.box 107 .leaf], [.bool, (.con (.fn 82 0 []))]⟩, fun x => F192 fuel x.1 x.2.1 x.2.2, (false, ())⟩

theorem F192ok (fuel : Nat) : (F192c fuel).Ok Tryz.prog := okI Tryz.f192 8 1 fuel [F82c fuel] (qc (F82ok fuel) <| q0) L0

def S264_3 (fuel : Nat) (a2 : List PV) (a3 : Unit) (a4 : Int) (a5 : Int) (a6 : Unit) : Option (((List PV) × Unit × Int × Int × Unit) ⊕ ((Int × Unit) ⊕ (Unit))) :=
 bif (decide (a5 < a4)) then
 bif inRange a5 a2.length then
 (F192 fuel (a2.getD a5.toNat .bad) () ()).bind fun y9 =>
 bif y9.1 then
 some (.inr (.inl (a5, ())))
 else
 some (.inl (a2, (), a4, (IntKind.wrap .i64 (a5 + (1 : Int))), ()))
 else none
 else
 some (.inr (.inr ()))

def S264_3step (fuel : Nat) (x : (List PV) × Unit × Int × Int × Unit) : Option (((List PV) × Unit × Int × Int × Unit) ⊕ ((Int × Unit) ⊕ (Unit))) := S264_3 fuel x.1 x.2.1 x.2.2.1 x.2.2.2.1 x.2.2.2.2

/-- slices.IndexFunc[[]wireschema/api.Item,wireschema/api.Item] -/
def F264 (fuel : Nat) (a0 : List PV) (a1 : Unit) (a2 : Unit) : Option (Int × Unit) :=
 (loopQ fuel (S264_3step fuel) (a0, (), (a0.length : Int), (0 : Int), ())).bind fun z => sumE (fun y11 =>
 some (y11.1, ())
 ) (fun y12 =>
 some ((-1 : Int), ())
 ) z

def S264_3l (fuel : Nat) : LoopE := ⟨3, ⟨[0, 1, 7, 8], [.box 107 .leaf], [(.slice 106), (.con (.fn 192 0 [(.ref 0 [] 107)])), (.int .i64), (.int .i64), (.con (.fn 82 0 []))]⟩, [(.ret, ⟨[4], [.box 107 .leaf], [(.int .i64), (.con (.fn 82 0 []))]⟩), (.exit 0, ⟨[], [.box 107 .leaf], [(.con (.fn 82 0 []))]⟩)], S264_3step fuel⟩

def F264C (fuel : Nat) : Cfg := cfg Tryz.prog 19 1 [F192c fuel] [S264_3l fuel] fuel

def F264c (fuel : Nat) : CallE := ⟨264, ⟨2, [.box 107 .leaf], [(.slice 106), (.con (.fn 192 0 [(.ref 0 [] 107)])), (.con (.fn 82 0 []))]⟩, ⟨1, [.box 107 .leaf], [(.int .i64), (.con (.fn 82 0 []))]⟩, fun x => F264 fuel x.1 x.2.1 x.2.2, (0, ())⟩

theorem F264k (fuel : Nat) : CallOk (F264C fuel) := cfg_callOk (qc (F192ok fuel) <| q0)

theorem S264_3ok (fuel : Nat) : LoopOk (F264C fuel) (lp (bodyOf Tryz.f264) 0) := okL (F264k fuel) fuel (S264_3l fuel) L0

theorem F264ok (fuel : Nat) : (F264c fuel).Ok Tryz.prog := okE Tryz.f264 (F264k fuel) (L1 (S264_3ok fuel))

/-- slices.ContainsFunc[[]wireschema/api.Item,wireschema/api.Item] -/
def F191 (fuel : Nat) (a0 : List PV) (a1 : Unit) (a2 : Unit) : Option (Bool × Unit) :=
 (F264 fuel a0 () ()).bind fun y1 =>
 some ((decide (y1.1 ≥ (0 : Int))), ())

def F191c (fuel : Nat) : CallE := ⟨191, ⟨2, [.box 107 .leaf], [(.slice 106), (.con (.fn 192 0 [(.ref 0 [] 107)])), (.con (.fn 82 0 []))]⟩, ⟨1, [.box 107 .leaf], [.bool, (.con (.fn 82 0 []))]⟩, fun x => F191 fuel x.1 x.2.1 x.2.2, (false, ())⟩

theorem F191ok (fuel : Nat) : (F191c fuel).Ok Tryz.prog := okI Tryz.f191 9 1 fuel [F264c fuel] (qc (F264ok fuel) <| q0) L0

/-- wireschema/format.every[wireschema/api.Item] -/
def F81 (fuel : Nat) (a0 : List PV) (a1 : Unit) : Option (Bool) :=
 (F191 fuel a0 () ()).bind fun y1 =>
 some (!y1.1)

def F81c (fuel : Nat) : CallE := ⟨81, ⟨2, [], [(.slice 106), (.con (.fn 82 0 []))]⟩, ⟨1, [], [.bool]⟩, fun x => F81 fuel x.1 x.2, false⟩

theorem F81ok (fuel : Nat) : (F81c fuel).Ok Tryz.prog := okI Tryz.f81 9 0 fuel [F191c fuel] (qc (F191ok fuel) <| q0) L0

/-- wireschema/format.names$2 -/
def F80 (fuel : Nat) (a0 : PV) : Option (Bool) :=
 (F72 fuel ((a0.fld 0).asStr)).bind fun y2 =>
 (bif y2 then F81 fuel ((a0.fld 2).asList) () else some false).bind fun y4 =>
 some (bif y2 then y4 else false)

def F80c (fuel : Nat) : CallE := ⟨80, ⟨1, [], [(.data 64)]⟩, ⟨1, [], [.bool]⟩, fun x => F80 fuel x, false⟩

theorem F80ok (fuel : Nat) : (F80c fuel).Ok Tryz.prog := okI Tryz.f80 11 0 fuel [F72c fuel, F81c fuel] (qc (F72ok fuel) <| qc (F81ok fuel) <| q0) L0

/-- wireschema/format.every[wireschema/api.Enum]$1 -/
def F190 (fuel : Nat) (a0 : PV) (a1 : Unit) (a2 : Unit) : Option (Bool × Unit) :=
 (F80 fuel a0).bind fun y1 =>
 some ((!y1), ())

def F190c (fuel : Nat) : CallE := ⟨190, ⟨2, [.box 108 .leaf], [(.data 64), (.con (.ref 0 [] 108)), (.con (.fn 80 0 []))]⟩, ⟨1, [.box 108 .leaf], [.bool, (.con (.fn 80 0 []))]⟩, fun x => F190 fuel x.1 x.2.1 x.2.2, (false, ())⟩

theorem F190ok (fuel : Nat) : (F190c fuel).Ok Tryz.prog := okI Tryz.f190 8 1 fuel [F80c fuel] (qc (F80ok fuel) <| q0) L0

def S263_3 (fuel : Nat) (a2 : List PV) (a3 : Unit) (a4 : Int) (a5 : Int) (a6 : Unit) : Option (((List PV) × Unit × Int × Int × Unit) ⊕ ((Int × Unit) ⊕ (Unit))) :=
 bif (decide (a5 < a4)) then
 bif inRange a5 a2.length then
 (F190 fuel (a2.getD a5.toNat .bad) () ()).bind fun y9 =>
 bif y9.1 then
 some (.inr (.inl (a5, ())))
 else
 some (.inl (a2, (), a4, (IntKind.wrap .i64 (a5 + (1 : Int))), ()))
 else none
 else
 some (.inr (.inr ()))

def S263_3step (fuel : Nat) (x : (List PV) × Unit × Int × Int × Unit) : Option (((List PV) × Unit × Int × Int × Unit) ⊕ ((Int × Unit) ⊕ (Unit))) := S263_3 fuel x.1 x.2.1 x.2.2.1 x.2.2.2.1 x.2.2.2.2

/-- slices.IndexFunc[[]wireschema/api.Enum,wireschema/api.Enum] -/
def F263 (fuel : Nat) (a0 : List PV) (a1 : Unit) (a2 : Unit) : Option (Int × Unit) :=
 (loopQ fuel (S263_3step fuel) (a0, (), (a0.length : Int), (0 : Int), ())).bind fun z => sumE (fun y11 =>
 some (y11.1, ())
 ) (fun y12 =>
 some ((-1 : Int), ())
 ) z

def S263_3l (fuel : Nat) : LoopE := ⟨3, ⟨[0, 1, 7, 8], [.box 108 .leaf], [(.slice 64), (.con (.fn 190 0 [(.ref 0 [] 108)])), (.int .i64), (.int .i64), (.con (.fn 80 0 []))]⟩, [(.ret, ⟨[4], [.box 108 .leaf], [(.int .i64), (.con (.fn 80 0 []))]⟩), (.exit 0, ⟨[], [.box 108 .leaf], [(.con (.fn 80 0 []))]⟩)], S263_3step fuel⟩

def F263C (fuel : Nat) : Cfg := cfg Tryz.prog 19 1 [F190c fuel] [S263_3l fuel] fuel

def F263c (fuel : Nat) : CallE := ⟨263, ⟨2, [.box 108 .leaf], [(.slice 64), (.con (.fn 190 0 [(.ref 0 [] 108)])), (.con (.fn 80 0 []))]⟩, ⟨1, [.box 108 .leaf], [(.int .i64), (.con (.fn 80 0 []))]⟩, fun x => F263 fuel x.1 x.2.1 x.2.2, (0, ())⟩

theorem F263k (fuel : Nat) : CallOk (F263C fuel) := cfg_callOk (qc (F190ok fuel) <| q0)

theorem S263_3ok (fuel : Nat) : LoopOk (F263C fuel) (lp (bodyOf Tryz.f263) 0) := okL (F263k fuel) fuel (S263_3l fuel) L0

theorem F263ok (fuel : Nat) : (F263c fuel).Ok Tryz.prog := okE Tryz.f263 (F263k fuel) (L1 (S263_3ok fuel))

/-- slices.ContainsFunc[[]wireschema/api.Enum,wireschema/api.Enum] -/
def F189 (fuel : Nat) (a0 : List PV) (a1 : Unit) (a2 : Unit) : Option (Bool × Unit) :=
 (F263 fuel a0 () ()).bind fun y1 =>
 some ((decide (y1.1 ≥ (0 : Int))), ())

def F189c (fuel : Nat) : CallE := ⟨189, ⟨2, [.box 108 .leaf], [(.slice 64), (.con (.fn 190 0 [(.ref 0 [] 108)])), (.con (.fn 80 0 []))]⟩, ⟨1, [.box 108 .leaf], [.bool, (.con (.fn 80 0 []))]⟩, fun x => F189 fuel x.1 x.2.1 x.2.2, (false, ())⟩

theorem F189ok (fuel : Nat) : (F189c fuel).Ok Tryz.prog := okI Tryz.f189 9 1 fuel [F263c fuel] (qc (F263ok fuel) <| q0) L0

/-- wireschema/format.every[wireschema/api.Enum] -/
def F79 (fuel : Nat) (a0 : List PV) (a1 : Unit) : Option (Bool) :=
 (F189 fuel a0 () ()).bind fun y1 =>
 some (!y1.1)

def F79c (fuel : Nat) : CallE := ⟨79, ⟨2, [], [(.slice 64), (.con (.fn 80 0 []))]⟩, ⟨1, [], [.bool]⟩, fun x => F79 fuel x.1 x.2, false⟩

theorem F79ok (fuel : Nat) : (F79c fuel).Ok Tryz.prog := okI Tryz.f79 9 0 fuel [F189c fuel] (qc (F189ok fuel) <| q0) L0

/-- wireschema/format.names$3$1 -/
def F86 (fuel : Nat) (a0 : PV) : Option (Bool) :=
 (F77 fuel ((a0.fld 0).asStr)).bind fun y2 =>
 (bif y2 then F47 fuel ((a0.fld 1).asStr) else some false).bind fun y4 =>
 let x5 := bif y2 then y4 else false
 (bif x5 then F47 fuel ((a0.fld 2).asStr) else some false).bind fun y7 =>
 some (bif (bif (bif x5 then y7 else false) then (!(((a0.fld 1).asStr) == ([115, 116, 114, 101, 97, 109] : List UInt8))) else false) then (!(((a0.fld 2).asStr) == ([115, 116, 114, 101, 97, 109] : List UInt8))) else false)

def F86c (fuel : Nat) : CallE := ⟨86, ⟨1, [], [(.data 112)]⟩, ⟨1, [], [.bool]⟩, fun x => F86 fuel x, false⟩

theorem F86ok (fuel : Nat) : (F86c fuel).Ok Tryz.prog := okI Tryz.f86 26 0 fuel [F77c fuel, F47c fuel] (qc (F77ok fuel) <| qc (F47ok fuel) <| q0) L0

/-- wireschema/format.every[wireschema/api.Method]$1 -/
def F196 (fuel : Nat) (a0 : PV) (a1 : Unit) (a2 : Unit) : Option (Bool × Unit) :=
 (F86 fuel a0).bind fun y1 =>
 some ((!y1), ())

def F196c (fuel : Nat) : CallE := ⟨196, ⟨2, [.box 113 .leaf], [(.data 112), (.con (.ref 0 [] 113)), (.con (.fn 86 0 []))]⟩, ⟨1, [.box 113 .leaf], [.bool, (.con (.fn 86 0 []))]⟩, fun x => F196 fuel x.1 x.2.1 x.2.2, (false, ())⟩

theorem F196ok (fuel : Nat) : (F196c fuel).Ok Tryz.prog := okI Tryz.f196 8 1 fuel [F86c fuel] (qc (F86ok fuel) <| q0) L0

def S266_3 (fuel : Nat) (a2 : List PV) (a3 : Unit) (a4 : Int) (a5 : Int) (a6 : Unit) : Option (((List PV) × Unit × Int × Int × Unit) ⊕ ((Int × Unit) ⊕ (Unit))) :=
 bif (decide (a5 < a4)) then
 bif inRange a5 a2.length then
 (F196 fuel (a2.getD a5.toNat .bad) () ()).bind fun y9 =>
 bif y9.1 then
 some (.inr (.inl (a5, ())))
 else
 some (.inl (a2, (), a4, (IntKind.wrap .i64 (a5 + (1 : Int))), ()))
 else none
 else
 some (.inr (.inr ()))

def S266_3step (fuel : Nat) (x : (List PV) × Unit × Int × Int × Unit) : Option (((List PV) × Unit × Int × Int × Unit) ⊕ ((Int × Unit) ⊕ (Unit))) := S266_3 fuel x.1 x.2.1 x.2.2.1 x.2.2.2.1 x.2.2.2.2

/-- slices.IndexFunc[[]wireschema/api.Method,wireschema/api.Method] -/
def F266 (fuel : Nat) (a0 : List PV) (a1 : Unit) (a2 : Unit) : Option (Int × Unit) :=
 (loopQ fuel (S266_3step fuel) (a0, (), (a0.length : Int), (0 : Int), ())).bind fun z => sumE (fun y11 =>
 some (y11.1, ())
 ) (fun y12 =>
 some ((-1 : Int), ())
 ) z

def S266_3l (fuel : Nat) : LoopE := ⟨3, ⟨[0, 1, 7, 8], [.box 113 .leaf], [(.slice 112), (.con (.fn 196 0 [(.ref 0 [] 113)])), (.int .i64), (.int .i64), (.con (.fn 86 0 []))]⟩, [(.ret, ⟨[4], [.box 113 .leaf], [(.int .i64), (.con (.fn 86 0 []))]⟩), (.exit 0, ⟨[], [.box 113 .leaf], [(.con (.fn 86 0 []))]⟩)], S266_3step fuel⟩

def F266C (fuel : Nat) : Cfg := cfg Tryz.prog 19 1 [F196c fuel] [S266_3l fuel] fuel

def F266c (fuel : Nat) : CallE := ⟨266, ⟨2, [.box 113 .leaf], [(.slice 112), (.con (.fn 196 0 [(.ref 0 [] 113)])), (.con (.fn 86 0 []))]⟩, ⟨1, [.box 113 .leaf], [(.int .i64), (.con (.fn 86 0 []))]⟩, fun x => F266 fuel x.1 x.2.1 x.2.2, (0, ())⟩

theorem F266k (fuel : Nat) : CallOk (F266C fuel) := cfg_callOk (qc (F196ok fuel) <| q0)

theorem S266_3ok (fuel : Nat) : LoopOk (F266C fuel) (lp (bodyOf Tryz.f266) 0) := okL (F266k fuel) fuel (S266_3l fuel) L0

theorem F266ok (fuel : Nat) : (F266c fuel).Ok Tryz.prog := okE Tryz.f266 (F266k fuel) (L1 (S266_3ok fuel))

/-- slices.ContainsFunc[[]wireschema/api.Method,wireschema/api.Method] -/
def F195 (fuel : Nat) (a0 : List PV) (a1 : Unit) (a2 : Unit) : Option (Bool × Unit) :=
 (F266 fuel a0 () ()).bind fun y1 =>
 some ((decide (y1.1 ≥ (0 : Int))), ())

def F195c (fuel : Nat) : CallE := ⟨195, ⟨2, [.box 113 .leaf], [(.slice 112), (.con (.fn 196 0 [(.ref 0 [] 113)])), (.con (.fn 86 0 []))]⟩, ⟨1, [.box 113 .leaf], [.bool, (.con (.fn 86 0 []))]⟩, fun x => F195 fuel x.1 x.2.1 x.2.2, (false, ())⟩

theorem F195ok (fuel : Nat) : (F195c fuel).Ok Tryz.prog := okI Tryz.f195 9 1 fuel [F266c fuel] (qc (F266ok fuel) <| q0) L0

/-- wireschema/format.every[wireschema/api.Method] -/
def F85 (fuel : Nat) (a0 : List PV) (a1 : Unit) : Option (Bool) :=
 (F195 fuel a0 () ()).bind fun y1 =>
 some (!y1.1)

def F85c (fuel : Nat) : CallE := ⟨85, ⟨2, [], [(.slice 112), (.con (.fn 86 0 []))]⟩, ⟨1, [], [.bool]⟩, fun x => F85 fuel x.1 x.2, false⟩

theorem F85ok (fuel : Nat) : (F85c fuel).Ok Tryz.prog := okI Tryz.f85 9 0 fuel [F195c fuel] (qc (F195ok fuel) <| q0) L0

/-- wireschema/format.names$3 -/
def F84 (fuel : Nat) (a0 : PV) : Option (Bool) :=
 (F72 fuel ((a0.fld 0).asStr)).bind fun y2 =>
 (bif y2 then F85 fuel ((a0.fld 1).asList) () else some false).bind fun y4 =>
 some (bif y2 then y4 else false)

def F84c (fuel : Nat) : CallE := ⟨84, ⟨1, [], [(.data 67)]⟩, ⟨1, [], [.bool]⟩, fun x => F84 fuel x, false⟩

theorem F84ok (fuel : Nat) : (F84c fuel).Ok Tryz.prog := okI Tryz.f84 11 0 fuel [F72c fuel, F85c fuel] (qc (F72ok fuel) <| qc (F85ok fuel) <| q0) L0

/-- wireschema/format.every[wireschema/api.Service]$1 -/
def F194 (fuel : Nat) (a0 : PV) (a1 : Unit) (a2 : Unit) : Option (Bool × Unit) :=
 (F84 fuel a0).bind fun y1 =>
 some ((!y1), ())

def F194c (fuel : Nat) : CallE := ⟨194, ⟨2, [.box 114 .leaf], [(.data 67), (.con (.ref 0 [] 114)), (.con (.fn 84 0 []))]⟩, ⟨1, [.box 114 .leaf], [.bool, (.con (.fn 84 0 []))]⟩, fun x => F194 fuel x.1 x.2.1 x.2.2, (false, ())⟩

theorem F194ok (fuel : Nat) : (F194c fuel).Ok Tryz.prog := okI Tryz.f194 8 1 fuel [F84c fuel] (qc (F84ok fuel) <| q0) L0

def S265_3 (fuel : Nat) (a2 : List PV) (a3 : Unit) (a4 : Int) (a5 : Int) (a6 : Unit) : Option (((List PV) × Unit × Int × Int × Unit) ⊕ ((Int × Unit) ⊕ (Unit))) :=
 bif (decide (a5 < a4)) then
 bif inRange a5 a2.length then
 (F194 fuel (a2.getD a5.toNat .bad) () ()).bind fun y9 =>
 bif y9.1 then
 some (.inr (.inl (a5, ())))
 else
 some (.inl (a2, (), a4, (IntKind.wrap .i64 (a5 + (1 : Int))), ()))
 else none
 else
 some (.inr (.inr ()))

def S265_3step (fuel : Nat) (x : (List PV) × Unit × Int × Int × Unit) : Option (((List PV) × Unit × Int × Int × Unit) ⊕ ((Int × Unit) ⊕ (Unit))) := S265_3 fuel x.1 x.2.1 x.2.2.1 x.2.2.2.1 x.2.2.2.2

/-- slices.IndexFunc[[]wireschema/api.Service,wireschema/api.Service] -/
def F265 (fuel : Nat) (a0 : List PV) (a1 : Unit) (a2 : Unit) : Option (Int × Unit) :=
 (loopQ fuel (S265_3step fuel) (a0, (), (a0.length : Int), (0 : Int), ())).bind fun z => sumE (fun y11 =>
 some (y11.1, ())
 ) (fun y12 =>
 some ((-1 : Int), ())
 ) z

def S265_3l (fuel : Nat) : LoopE := ⟨3, ⟨[0, 1, 7, 8], [.box 114 .leaf], [(.slice 67), (.con (.fn 194 0 [(.ref 0 [] 114)])), (.int .i64), (.int .i64), (.con (.fn 84 0 []))]⟩, [(.ret, ⟨[4], [.box 114 .leaf], [(.int .i64), (.con (.fn 84 0 []))]⟩), (.exit 0, ⟨[], [.box 114 .leaf], [(.con (.fn 84 0 []))]⟩)], S265_3step fuel⟩

def F265C (fuel : Nat) : Cfg := cfg Tryz.prog 19 1 [F194c fuel] [S265_3l fuel] fuel

def F265c (fuel : Nat) : CallE := ⟨265, ⟨2, [.box 114 .leaf], [(.slice 67), (.con (.fn 194 0 [(.ref 0 [] 114)])), (.con (.fn 84 0 []))]⟩, ⟨1, [.box 114 .leaf], [(.int .i64), (.con (.fn 84 0 []))]⟩, fun x => F265 fuel x.1 x.2.1 x.2.2, (0, ())⟩

theorem F265k (fuel : Nat) : CallOk (F265C fuel) := cfg_callOk (qc (F194ok fuel) <| q0)

theorem S265_3ok (fuel : Nat) : LoopOk (F265C fuel) (lp (bodyOf Tryz.f265) 0) := okL (F265k fuel) fuel (S265_3l fuel) L0

theorem F265ok (fuel : Nat) : (F265c fuel).Ok Tryz.prog := okE Tryz.f265 (F265k fuel) (L1 (S265_3ok fuel))

/-- slices.ContainsFunc[[]wireschema/api.Service,wireschema/api.Service] -/
def F193 (fuel : Nat) (a0 : List PV) (a1 : Unit) (a2 : Unit) : Option (Bool × Unit) :=
 (F265 fuel a0 () ()).bind fun y1 =>
 some ((decide (y1.1 ≥ (0 : Int))), ())

def F193c (fuel : Nat) : CallE := ⟨193, ⟨2, [.box 114 .leaf], [(.slice 67), (.con (.fn 194 0 [(.ref 0 [] 114)])), (.con (.fn 84 0 []))]⟩, ⟨1, [.box 114 .leaf], [.bool, (.con (.fn 84 0 []))]⟩, fun x => F193 fuel x.1 x.2.1 x.2.2, (false, ())⟩

theorem F193ok (fuel : Nat) : (F193c fuel).Ok Tryz.prog := okI Tryz.f193 9 1 fuel [F265c fuel] (qc (F265ok fuel) <| q0) L0

/-- wireschema/format.every[wireschema/api.Service] -/
def F83 (fuel : Nat) (a0 : List PV) (a1 : Unit) : Option (Bool) :=
 (F193 fuel a0 () ()).bind fun y1 =>
 some (!y1.1)

def F83c (fuel : Nat) : CallE := ⟨83, ⟨2, [], [(.slice 67), (.con (.fn 84 0 []))]⟩, ⟨1, [], [.bool]⟩, fun x => F83 fuel x.1 x.2, false⟩

theorem F83ok (fuel : Nat) : (F83c fuel).Ok Tryz.prog := okI Tryz.f83 9 0 fuel [F193c fuel] (qc (F193ok fuel) <| q0) L0

/-- wireschema/format.names -/
def F28 (fuel : Nat) (a0 : PV) : Option (Bool) :=
 let x2 := !(((a0.fld 1).asStr) == ([] : List UInt8))
 (bif x2 then F72 fuel ((a0.fld 1).asStr) else some false).bind fun y4 =>
 bif (bif x2 then (!y4) else false) then
 some false
 else
 (F73 fuel ((a0.fld 3).asList) ()).bind fun y8 =>
 (bif y8 then F79 fuel ((a0.fld 4).asList) () else some false).bind fun y10 =>
 let x11 := bif y8 then y10 else false
 (bif x11 then F83 fuel ((a0.fld 5).asList) () else some false).bind fun y13 =>
 some (bif x11 then y13 else false)

def F28c (fuel : Nat) : CallE := ⟨28, ⟨1, [], [(.data 27)]⟩, ⟨1, [], [.bool]⟩, fun x => F28 fuel x, false⟩

theorem F28ok (fuel : Nat) : (F28c fuel).Ok Tryz.prog := okI Tryz.f28 25 0 fuel [F72c fuel, F73c fuel, F79c fuel, F83c fuel] (qc (F72ok fuel) <| qc (F73ok fuel) <| qc (F79ok fuel) <| qc (F83ok fuel) <| q0) L0

/-- wireschema/format.key -/
def F197 (fuel : Nat) (a0 : Int) (a1 : Int) : Option (Bool) :=
 bif (a0 != (5 : Int)) then
 some (a1 == (0 : Int))
 else
 some (bif (bif (decide (a1 ≥ (1 : Int))) then (decide (a1 ≤ (7 : Int))) else false) then (a1 != (6 : Int)) else false)

def F197c (fuel : Nat) : CallE := ⟨197, ⟨2, [], [(.int .i64), (.int .i64)]⟩, ⟨1, [], [.bool]⟩, fun x => F197 fuel x.1 x.2, false⟩

theorem F197ok (fuel : Nat) : (F197c fuel).Ok Tryz.prog := okI Tryz.f197 19 0 fuel [] (q0) L0

/-- wireschema/format.isZero -/
def F267 (fuel : Nat) (a0 : PV) : Option (Bool) :=
 some (bif (bif (bif (((a0.fld 0).asInt) == (0 : Int)) then (((a0.fld 1).asInt) == (0 : Int)) else false) then (((a0.fld 2).asStr) == ([] : List UInt8)) else false) then ((IntKind.wrap .i64 ((IntKind.wrap .i64 ((IntKind.wrap .i64 ((((a0.fld 3).asList).length : Int) + (((a0.fld 4).asList).length : Int))) + (((a0.fld 5).asList).length : Int))) + (((a0.fld 6).asList).length : Int))) == (0 : Int)) else false)

def F267c (fuel : Nat) : CallE := ⟨267, ⟨1, [], [(.data 42)]⟩, ⟨1, [], [.bool]⟩, fun x => F267 fuel x, false⟩

theorem F267ok (fuel : Nat) : (F267c fuel).Ok Tryz.prog := okI Tryz.f267 34 0 fuel [] (q0) L0

/-- wireschema/format.named -/
def F50 (fuel : Nat) (a0 : PV) : Option (Bool) :=
 let x2 := ((a0.fld 0).asInt) == (9 : Int)
 (bif x2 then F77 fuel ((a0.fld 2).asStr) else some false).bind fun y4 =>
 some (bif (bif (bif x2 then y4 else false) then (((a0.fld 1).asInt) == (0 : Int)) else false) then ((IntKind.wrap .i64 ((IntKind.wrap .i64 ((IntKind.wrap .i64 ((((a0.fld 3).asList).length : Int) + (((a0.fld 4).asList).length : Int))) + (((a0.fld 5).asList).length : Int))) + (((a0.fld 6).asList).length : Int))) == (0 : Int)) else false)

def F50c (fuel : Nat) : CallE := ⟨50, ⟨1, [], [(.data 42)]⟩, ⟨1, [], [.bool]⟩, fun x => F50 fuel x, false⟩

theorem F50ok (fuel : Nat) : (F50c fuel).Ok Tryz.prog := okI Tryz.f50 34 0 fuel [F77c fuel] (qc (F77ok fuel) <| q0) L0

/-- wireschema/scalar.Class -/
def F227 (fuel : Nat) (a0 : Int) : Option (Int) :=
 let x1 := bitsI .and .u64 a0 (9218868437227405312 : Int)
 let x2 := bitsI .and .u64 a0 (4503599627370495 : Int)
 bif (bif (x1 == (9218868437227405312 : Int)) then (x2 != (0 : Int)) else false) then
 some (0 : Int)
 else
 bif (x1 == (9218868437227405312 : Int)) then
 some (1 : Int)
 else
 bif (bif (x1 == (0 : Int)) then (x2 == (0 : Int)) else false) then
 some (2 : Int)
 else
 bif (x1 == (0 : Int)) then
 some (3 : Int)
 else
 some (4 : Int)

def F227c (fuel : Nat) : CallE := ⟨227, ⟨1, [], [(.int .u64)]⟩, ⟨1, [], [(.int .i64)]⟩, fun x => F227 fuel x, 0⟩

theorem F227ok (fuel : Nat) : (F227c fuel).Ok Tryz.prog := okI Tryz.f227 29 0 fuel [] (q0) L0

/-- wireschema/scalar.Norm -/
def F268 (fuel : Nat) (a0 : PV) : Option (PV) :=
 let x2 := ((a0.fld 0).asInt) == (6 : Int)
 (bif x2 then F227 fuel ((a0.fld 1).asInt) else some 0).bind fun y4 =>
 bif (bif x2 then (y4 == (0 : Int)) else false) then
 some (PV.agg [(PV.int ((a0.fld 0).asInt)), (PV.int (9221120237041090560 : Int)), (PV.str ((a0.fld 2).asStr)), (PV.slice ((a0.fld 3).asList)), (PV.slice ((a0.fld 4).asList)), (PV.slice ((a0.fld 5).asList)), (PV.slice ((a0.fld 6).asList))])
 else
 some a0

def F268c (fuel : Nat) : CallE := ⟨268, ⟨1, [], [(.data 42)]⟩, ⟨1, [], [(.data 42)]⟩, fun x => F268 fuel x, PV.bad⟩

theorem F268ok (fuel : Nat) : (F268c fuel).Ok Tryz.prog := okI Tryz.f268 14 0 fuel [F227c fuel] (qc (F227ok fuel) <| q0) L0

/-- wireschema/scalar.Is -/
def F130 (fuel : Nat) (a0 : Int) : Option (Bool) :=
 some (bif (decide (a0 ≥ (1 : Int))) then (decide (a0 ≤ (9 : Int))) else false)

def F130c (fuel : Nat) : CallE := ⟨130, ⟨1, [], [(.int .i64)]⟩, ⟨1, [], [.bool]⟩, fun x => F130 fuel x, false⟩

theorem F130ok (fuel : Nat) : (F130c fuel).Ok Tryz.prog := okI Tryz.f130 9 0 fuel [] (q0) L0

/-- wireschema/scalar.texty -/
def F221 (fuel : Nat) (a0 : Int) : Option (Bool) :=
 some (bif (a0 == (7 : Int)) then true else (a0 == (8 : Int)))

def F221c (fuel : Nat) : CallE := ⟨221, ⟨1, [], [(.int .i64)]⟩, ⟨1, [], [.bool]⟩, fun x => F221 fuel x, false⟩

theorem F221ok (fuel : Nat) : (F221c fuel).Ok Tryz.prog := okI Tryz.f221 9 0 fuel [] (q0) L0

/-- wireschema/scalar.lean -/
def F131 (fuel : Nat) (a0 : PV) : Option (Bool) :=
 bif (decide ((IntKind.wrap .i64 ((IntKind.wrap .i64 ((IntKind.wrap .i64 ((((a0.fld 3).asList).length : Int) + (((a0.fld 4).asList).length : Int))) + (((a0.fld 5).asList).length : Int))) + (((a0.fld 6).asList).length : Int))) > (0 : Int))) then
 some false
 else
 (F221 fuel ((a0.fld 0).asInt)).bind fun y14 =>
 bif y14 then
 some (((a0.fld 1).asInt) == (0 : Int))
 else
 some (((a0.fld 2).asStr) == ([] : List UInt8))

def F131c (fuel : Nat) : CallE := ⟨131, ⟨1, [], [(.data 42)]⟩, ⟨1, [], [.bool]⟩, fun x => F131 fuel x, false⟩

theorem F131ok (fuel : Nat) : (F131c fuel).Ok Tryz.prog := okI Tryz.f131 28 0 fuel [F221c fuel] (qc (F221ok fuel) <| q0) L0

/-- wireschema/scalar.within -/
def F132 (fuel : Nat) (a0 : Int) (a1 : Int) : Option (Bool) :=
 bif (a0 == (1 : Int)) then
 some (decide (a1 ≤ (1 : Int)))
 else
 bif (a0 == (2 : Int)) then
 some (bif (decide ((IntKind.wrap .i64 a1) ≥ (-2147483648 : Int))) then (decide ((IntKind.wrap .i64 a1) ≤ (2147483647 : Int))) else false)
 else
 bif (a0 == (9 : Int)) then
 some (decide (a1 ≤ (2147483647 : Int)))
 else
 bif (a0 == (4 : Int)) then
 some (decide (a1 ≤ (4294967295 : Int)))
 else
 some true

def F132c (fuel : Nat) : CallE := ⟨132, ⟨2, [], [(.int .i64), (.int .u64)]⟩, ⟨1, [], [.bool]⟩, fun x => F132 fuel x.1 x.2, false⟩

theorem F132ok (fuel : Nat) : (F132c fuel).Ok Tryz.prog := okI Tryz.f132 28 0 fuel [] (q0) L0

/-- strings.HasPrefix -/
def F236 (fuel : Nat) (a0 : List UInt8) (a1 : List UInt8) : Option (Bool) :=
 (F277 fuel a0 a1).bind fun y1 =>
 some y1

def F236c (fuel : Nat) : CallE := ⟨236, ⟨2, [], [.str, .str]⟩, ⟨1, [], [.bool]⟩, fun x => F236 fuel x.1 x.2, false⟩

theorem F236ok (fuel : Nat) : (F236c fuel).Ok Tryz.prog := okI Tryz.f236 8 0 fuel [F277c fuel] (qc (F277ok fuel) <| q0) L0

/-- wireschema/utf.wrong -/
def F223 (fuel : Nat) (a0 : List UInt8) (a1 : Int) (a2 : Int) : Option (Bool) :=
 let x1 := a2 == (65533 : Int)
 bif imp x1 (decide (0 ≤ a1 ∧ a1 ≤ (a0.length : Int) ∧ (a0.length : Int) ≤ (a0.length : Int))) then
 (bif x1 then F236 fuel ((a0.take (a0.length : Int).toNat).drop a1.toNat) ([239, 191, 189] : List UInt8) else some false).bind fun y3 =>
 some (bif x1 then (!y3) else false)
 else none

def F223c (fuel : Nat) : CallE := ⟨223, ⟨3, [], [.str, (.int .i64), (.int .i32)]⟩, ⟨1, [], [.bool]⟩, fun x => F223 fuel x.1 x.2.1 x.2.2, false⟩

theorem F223ok (fuel : Nat) : (F223c fuel).Ok Tryz.prog := okI Tryz.f223 16 0 fuel [F236c fuel] (qc (F236ok fuel) <| q0) L0

def S202_3 (fuel : Nat) (a1 : List UInt8) (a2 : Unit) (a3 : List UInt8) (a4 : Int) : Option (((List UInt8) × Unit × (List UInt8) × Int) ⊕ ((Int × (List UInt8) × Int) ⊕ ((List UInt8) × Int))) :=
 bif (decide (a4.toNat < a3.length)) then
 bif decide (a4.toNat < a3.length) then
 let x6 := (a4.toNat : Int)
 bif decide (a4.toNat < a3.length) then
 (F223 fuel a1 x6 ((Utf8.decode ⟨a3.toArray⟩ a4.toNat).1 : Int)).bind fun y8 =>
 bif y8 then
 some (.inr (.inl (x6, a3, ((bif decide (a4.toNat < a3.length) then a4.toNat + (Utf8.decode ⟨a3.toArray⟩ a4.toNat).2 else a4.toNat : Nat) : Int))))
 else
 some (.inl (a1, (), a3, ((bif decide (a4.toNat < a3.length) then a4.toNat + (Utf8.decode ⟨a3.toArray⟩ a4.toNat).2 else a4.toNat : Nat) : Int)))
 else none
 else none
 else
 some (.inr (.inr (a3, ((bif decide (a4.toNat < a3.length) then a4.toNat + (Utf8.decode ⟨a3.toArray⟩ a4.toNat).2 else a4.toNat : Nat) : Int))))

def S202_3step (fuel : Nat) (x : (List UInt8) × Unit × (List UInt8) × Int) : Option (((List UInt8) × Unit × (List UInt8) × Int) ⊕ ((Int × (List UInt8) × Int) ⊕ ((List UInt8) × Int))) := S202_3 fuel x.1 x.2.1 x.2.2.1 x.2.2.2

/-- wireschema/utf.Bad -/
def F202 (fuel : Nat) (a0 : List UInt8) : Option (Int) :=
 (loopQ fuel (S202_3step fuel) (a0, (), a0, ((0 : Nat) : Int))).bind fun z => sumE (fun y9 =>
 some y9.1
 ) (fun y10 =>
 some (-1 : Int)
 ) z

def S202_3l (fuel : Nat) : LoopE := ⟨3, ⟨[0, 6], [.iter], [.str, (.con (.iref 0)), .str, (.int .i64)]⟩, [(.ret, ⟨[2], [.iter], [(.int .i64), .str, (.int .i64)]⟩), (.exit 0, ⟨[], [.iter], [.str, (.int .i64)]⟩)], S202_3step fuel⟩

def F202C (fuel : Nat) : Cfg := cfg Tryz.prog 16 0 [F223c fuel] [S202_3l fuel] fuel

def F202c (fuel : Nat) : CallE := ⟨202, ⟨1, [], [.str]⟩, ⟨1, [], [(.int .i64)]⟩, fun x => F202 fuel x, 0⟩

theorem F202k (fuel : Nat) : CallOk (F202C fuel) := cfg_callOk (qc (F223ok fuel) <| q0)

theorem S202_3ok (fuel : Nat) : LoopOk (F202C fuel) (lp (bodyOf Tryz.f202) 0) := okL (F202k fuel) fuel (S202_3l fuel) L0

theorem F202ok (fuel : Nat) : (F202c fuel).Ok Tryz.prog := okE Tryz.f202 (F202k fuel) (L1 (S202_3ok fuel))

/-- wireschema/utf.Valid -/
def F96 (fuel : Nat) (a0 : List UInt8) : Option (Bool) :=
 (F202 fuel a0).bind fun y1 =>
 some (decide (y1 < (0 : Int)))

def F96c (fuel : Nat) : CallE := ⟨96, ⟨1, [], [.str]⟩, ⟨1, [], [.bool]⟩, fun x => F96 fuel x, false⟩

theorem F96ok (fuel : Nat) : (F96c fuel).Ok Tryz.prog := okI Tryz.f96 6 0 fuel [F202c fuel] (qc (F202ok fuel) <| q0) L0

/-- wireschema/scalar.Fits -/
def F51 (fuel : Nat) (a0 : Int) (a1 : PV) : Option (Bool) :=
 (F130 fuel a0).bind fun y1 =>
 let x5 := bif (!y1) then true else (((a1.fld 0).asInt) != a0)
 (bif !x5 then F131 fuel a1 else some false).bind fun y6 =>
 let x8 := bif x5 then true else (!y6)
 (bif !x8 then F132 fuel a0 ((a1.fld 1).asInt) else some false).bind fun y10 =>
 bif (bif (bif x8 then true else (!y10)) then true else (decide ((((a1.fld 2).asStr).length : Int) > (4096 : Int)))) then
 some false
 else
 let x17 := a0 != (7 : Int)
 (bif !x17 then F96 fuel ((a1.fld 2).asStr) else some false).bind fun y19 =>
 some (bif x17 then true else y19)

def F51c (fuel : Nat) : CallE := ⟨51, ⟨2, [], [(.int .i64), (.data 42)]⟩, ⟨1, [], [.bool]⟩, fun x => F51 fuel x.1 x.2, false⟩

theorem F51ok (fuel : Nat) : (F51c fuel).Ok Tryz.prog := okI Tryz.f51 39 0 fuel [F130c fuel, F131c fuel, F132c fuel, F96c fuel] (qc (F130ok fuel) <| qc (F131ok fuel) <| qc (F132ok fuel) <| qc (F96ok fuel) <| q0) L0

/-- wireschema/format.right -/
def F198 (fuel : Nat) (a0 : PV) : Option (Bool) :=
 bif (!((a0.fld 6).asBool)) then
 (F267 fuel (a0.fld 7)).bind fun y4 =>
 some y4
 else
 bif (((a0.fld 2).asInt) == (5 : Int)) then
 some false
 else
 bif ((((a0.fld 4).fld 0).asInt) == (0 : Int)) then
 (F50 fuel (a0.fld 7)).bind fun y10 =>
 some y10
 else
 (F268 fuel (a0.fld 7)).bind fun y12 =>
 (F51 fuel (((a0.fld 4).fld 0).asInt) (a0.fld 7)).bind fun y15 =>
 some (bif y15 then (((y12.fld 1).asInt) == (((a0.fld 7).fld 1).asInt)) else false)

def F198c (fuel : Nat) : CallE := ⟨198, ⟨1, [], [(.data 45)]⟩, ⟨1, [], [.bool]⟩, fun x => F198 fuel x, false⟩

theorem F198ok (fuel : Nat) : (F198c fuel).Ok Tryz.prog := okI Tryz.f198 40 0 fuel [F267c fuel, F50c fuel, F268c fuel, F51c fuel] (qc (F267ok fuel) <| qc (F50ok fuel) <| qc (F268ok fuel) <| qc (F51ok fuel) <| q0) L0

/-- wireschema/format.field -/
def F88 (fuel : Nat) (a0 : PV) : Option (Bool) :=
 let x11 := bif (bif (bif (decide (((a0.fld 0).asInt) ≥ (0 : Int))) then (decide (((a0.fld 0).asInt) ≤ (65535 : Int))) else false) then (decide (((a0.fld 2).asInt) ≥ (1 : Int))) else false) then (decide (((a0.fld 2).asInt) ≤ (5 : Int))) else false
 (bif x11 then F197 fuel ((a0.fld 2).asInt) ((a0.fld 3).asInt) else some false).bind fun y14 =>
 let x15 := bif x11 then y14 else false
 let x17 := (((a0.fld 4).fld 0).asInt) == (0 : Int)
 (bif bif !x17 then x15 else false then F45 fuel (((a0.fld 4).fld 0).asInt) else some false).bind fun y19 =>
 let x30 := bif (bif x15 then (bif x17 then true else y19) else false) then (bif (((a0.fld 5).asStr) == ([] : List UInt8)) then true else (bif (((a0.fld 2).asInt) == (2 : Int)) then (!((a0.fld 6).asBool)) else false)) else false
 (bif x30 then F198 fuel a0 else some false).bind fun y31 =>
 some (bif x30 then y31 else false)

def F88c (fuel : Nat) : CallE := ⟨88, ⟨1, [], [(.data 45)]⟩, ⟨1, [], [.bool]⟩, fun x => F88 fuel x, false⟩

theorem F88ok (fuel : Nat) : (F88c fuel).Ok Tryz.prog := okI Tryz.f88 59 0 fuel [F197c fuel, F45c fuel, F198c fuel] (qc (F197ok fuel) <| qc (F45ok fuel) <| qc (F198ok fuel) <| q0) L0

/-- wireschema/format.every[wireschema/api.Field]$1 -/
def F186_v1 (fuel : Nat) (a0 : PV) (a1 : Unit) (a2 : Unit) : Option (Bool × Unit) :=
 (F88 fuel a0).bind fun y1 =>
 some ((!y1), ())

def F186_v1c (fuel : Nat) : CallE := ⟨186, ⟨2, [.box 101 .leaf], [(.data 45), (.con (.ref 0 [] 101)), (.con (.fn 88 0 []))]⟩, ⟨1, [.box 101 .leaf], [.bool, (.con (.fn 88 0 []))]⟩, fun x => F186_v1 fuel x.1 x.2.1 x.2.2, (false, ())⟩

theorem F186_v1ok (fuel : Nat) : (F186_v1c fuel).Ok Tryz.prog := okI Tryz.f186 8 1 fuel [F88c fuel] (qc (F88ok fuel) <| q0) L0

def S261_v1_3 (fuel : Nat) (a2 : List PV) (a3 : Unit) (a4 : Int) (a5 : Int) (a6 : Unit) : Option (((List PV) × Unit × Int × Int × Unit) ⊕ ((Int × Unit) ⊕ (Unit))) :=
 bif (decide (a5 < a4)) then
 bif inRange a5 a2.length then
 (F186_v1 fuel (a2.getD a5.toNat .bad) () ()).bind fun y9 =>
 bif y9.1 then
 some (.inr (.inl (a5, ())))
 else
 some (.inl (a2, (), a4, (IntKind.wrap .i64 (a5 + (1 : Int))), ()))
 else none
 else
 some (.inr (.inr ()))

def S261_v1_3step (fuel : Nat) (x : (List PV) × Unit × Int × Int × Unit) : Option (((List PV) × Unit × Int × Int × Unit) ⊕ ((Int × Unit) ⊕ (Unit))) := S261_v1_3 fuel x.1 x.2.1 x.2.2.1 x.2.2.2.1 x.2.2.2.2

/-- slices.IndexFunc[[]wireschema/api.Field,wireschema/api.Field] -/
def F261_v1 (fuel : Nat) (a0 : List PV) (a1 : Unit) (a2 : Unit) : Option (Int × Unit) :=
 (loopQ fuel (S261_v1_3step fuel) (a0, (), (a0.length : Int), (0 : Int), ())).bind fun z => sumE (fun y11 =>
 some (y11.1, ())
 ) (fun y12 =>
 some ((-1 : Int), ())
 ) z

def S261_v1_3l (fuel : Nat) : LoopE := ⟨3, ⟨[0, 1, 7, 8], [.box 101 .leaf], [(.slice 45), (.con (.fn 186 0 [(.ref 0 [] 101)])), (.int .i64), (.int .i64), (.con (.fn 88 0 []))]⟩, [(.ret, ⟨[4], [.box 101 .leaf], [(.int .i64), (.con (.fn 88 0 []))]⟩), (.exit 0, ⟨[], [.box 101 .leaf], [(.con (.fn 88 0 []))]⟩)], S261_v1_3step fuel⟩

def F261_v1C (fuel : Nat) : Cfg := cfg Tryz.prog 19 1 [F186_v1c fuel] [S261_v1_3l fuel] fuel

def F261_v1c (fuel : Nat) : CallE := ⟨261, ⟨2, [.box 101 .leaf], [(.slice 45), (.con (.fn 186 0 [(.ref 0 [] 101)])), (.con (.fn 88 0 []))]⟩, ⟨1, [.box 101 .leaf], [(.int .i64), (.con (.fn 88 0 []))]⟩, fun x => F261_v1 fuel x.1 x.2.1 x.2.2, (0, ())⟩

theorem F261_v1k (fuel : Nat) : CallOk (F261_v1C fuel) := cfg_callOk (qc (F186_v1ok fuel) <| q0)

theorem S261_v1_3ok (fuel : Nat) : LoopOk (F261_v1C fuel) (lp (bodyOf Tryz.f261) 0) := okL (F261_v1k fuel) fuel (S261_v1_3l fuel) L0

theorem F261_v1ok (fuel : Nat) : (F261_v1c fuel).Ok Tryz.prog := okE Tryz.f261 (F261_v1k fuel) (L1 (S261_v1_3ok fuel))

/-- slices.ContainsFunc[[]wireschema/api.Field,wireschema/api.Field] -/
def F185_v1 (fuel : Nat) (a0 : List PV) (a1 : Unit) (a2 : Unit) : Option (Bool × Unit) :=
 (F261_v1 fuel a0 () ()).bind fun y1 =>
 some ((decide (y1.1 ≥ (0 : Int))), ())

def F185_v1c (fuel : Nat) : CallE := ⟨185, ⟨2, [.box 101 .leaf], [(.slice 45), (.con (.fn 186 0 [(.ref 0 [] 101)])), (.con (.fn 88 0 []))]⟩, ⟨1, [.box 101 .leaf], [.bool, (.con (.fn 88 0 []))]⟩, fun x => F185_v1 fuel x.1 x.2.1 x.2.2, (false, ())⟩

theorem F185_v1ok (fuel : Nat) : (F185_v1c fuel).Ok Tryz.prog := okI Tryz.f185 9 1 fuel [F261_v1c fuel] (qc (F261_v1ok fuel) <| q0) L0

/-- wireschema/format.every[wireschema/api.Field] -/
def F75_v1 (fuel : Nat) (a0 : List PV) (a1 : Unit) : Option (Bool) :=
 (F185_v1 fuel a0 () ()).bind fun y1 =>
 some (!y1.1)

def F75_v1c (fuel : Nat) : CallE := ⟨75, ⟨2, [], [(.slice 45), (.con (.fn 88 0 []))]⟩, ⟨1, [], [.bool]⟩, fun x => F75_v1 fuel x.1 x.2, false⟩

theorem F75_v1ok (fuel : Nat) : (F75_v1c fuel).Ok Tryz.prog := okI Tryz.f75 9 0 fuel [F185_v1c fuel] (qc (F185_v1ok fuel) <| q0) L0

def S89_6 (fuel : Nat) (a6 : List PV) (a7 : Int) (a8 : Int) (a9 : Int) (a10 : Int) (a11 : Int) : Option (((List PV) × Int × Int × Int × Int × Int) ⊕ ((Bool) ⊕ ((List PV) × Int × Int))) :=
 bif (decide (a11 < a10)) then
 bif inRange a11 a6.length then
 bif inRange a7 a6.length then
 let x19 := ((a6.getD a11.toNat .bad).fld 5).asStr == ((a6.getD a7.toNat .bad).fld 5).asStr
 bif imp x19 (inRange a7 a6.length) then
 let x24 := bif x19 then (!(((a6.getD a7.toNat .bad).fld 5).asStr == ([] : List UInt8))) else false
 let x25 := IntKind.wrap .i64 (a7 - (1 : Int))
 bif imp x24 (inRange x25 a6.length) then
 bif imp x24 (inRange a7 a6.length) then
 bif (bif x24 then (!(((a6.getD x25.toNat .bad).fld 5).asStr == ((a6.getD a7.toNat .bad).fld 5).asStr)) else false) then
 some (.inr (.inl false))
 else
 some (.inl (a6, a7, a8, a9, a10, (IntKind.wrap .i64 (a11 + (1 : Int)))))
 else none
 else none
 else none
 else none
 else none
 else
 some (.inr (.inr (a6, a8, a9)))

def S89_6step (fuel : Nat) (x : (List PV) × Int × Int × Int × Int × Int) : Option (((List PV) × Int × Int × Int × Int × Int) ⊕ ((Bool) ⊕ ((List PV) × Int × Int))) := S89_6 fuel x.1 x.2.1 x.2.2.1 x.2.2.2.1 x.2.2.2.2.1 x.2.2.2.2.2

def S89_3 (fuel : Nat) (a2 : List PV) (a3 : Int) (a4 : Int) : Option (((List PV) × Int × Int) ⊕ ((Bool) ⊕ (Unit))) :=
 bif (decide (a4 < a3)) then
 (loopQ fuel (S89_6step fuel) (a2, a4, a3, a4, a4, (0 : Int))).bind fun z => sumE (fun y35 =>
 some (.inr (.inl y35))
 ) (fun y36 =>
 some (.inl (y36.1, y36.2.1, (IntKind.wrap .i64 (y36.2.2 + (1 : Int)))))
 ) z
 else
 some (.inr (.inr ()))

def S89_3step (fuel : Nat) (x : (List PV) × Int × Int) : Option (((List PV) × Int × Int) ⊕ ((Bool) ⊕ (Unit))) := S89_3 fuel x.1 x.2.1 x.2.2

/-- wireschema/format.adjacent -/
def F89 (fuel : Nat) (a0 : List PV) : Option (Bool) :=
 (loopQ fuel (S89_3step fuel) (a0, (a0.length : Int), (0 : Int))).bind fun z => sumE (fun y38 =>
 some y38
 ) (fun y39 =>
 some true
 ) z

def S89_6l (fuel : Nat) : LoopE := ⟨6, ⟨[0, 3, 6, 7, 10, 11], [], [(.slice 45), (.int .i64), (.int .i64), (.int .i64), (.int .i64), (.int .i64)]⟩, [(.ret, ⟨[2], [], [.bool]⟩), (.exit 2, ⟨[0, 6, 7], [], [(.slice 45), (.int .i64), (.int .i64)]⟩)], S89_6step fuel⟩

def S89_3l (fuel : Nat) : LoopE := ⟨3, ⟨[0, 6, 7], [], [(.slice 45), (.int .i64), (.int .i64)]⟩, [(.ret, ⟨[2], [], [.bool]⟩), (.exit 0, ⟨[], [], []⟩)], S89_3step fuel⟩

def F89C (fuel : Nat) : Cfg := cfg Tryz.prog 49 0 [] [S89_6l fuel, S89_3l fuel] fuel

def F89c (fuel : Nat) : CallE := ⟨89, ⟨1, [], [(.slice 45)]⟩, ⟨1, [], [.bool]⟩, fun x => F89 fuel x, false⟩

theorem F89k (fuel : Nat) : CallOk (F89C fuel) := cfg_callOk (q0)

theorem S89_6ok (fuel : Nat) : LoopOk (F89C fuel) (lp (lp (bodyOf Tryz.f89) 0) 0) := okL (F89k fuel) fuel (S89_6l fuel) L0

theorem S89_3ok (fuel : Nat) : LoopOk (F89C fuel) (lp (bodyOf Tryz.f89) 0) := okL (F89k fuel) fuel (S89_3l fuel) (L1 (S89_6ok fuel))

theorem F89ok (fuel : Nat) : (F89c fuel).Ok Tryz.prog := okE Tryz.f89 (F89k fuel) (L1 (S89_3ok fuel))

/-- wireschema/format.spans$1 -/
def F200 (fuel : Nat) (a0 : PV) (a1 : Unit) (a2 : Int) : Option (Bool × Int) :=
 let x1 := (a0.fld 0).asInt
 let x2 := (a0.fld 1).asInt
 let x5 := (a0.fld 0).asInt
 let x6 := (a0.fld 1).asInt
 some ((bif (decide ((if x2 < x1 then x2 else x1) ≥ (0 : Int))) then (decide ((if x6 > x5 then x6 else x5) ≤ a2)) else false), a2)

def F200c (fuel : Nat) : CallE := ⟨200, ⟨2, [.box 3 .leaf], [(.data 163), (.con (.ref 0 [] 3)), (.int .i64)]⟩, ⟨1, [.box 3 .leaf], [.bool, (.int .i64)]⟩, fun x => F200 fuel x.1 x.2.1 x.2.2, (false, 0)⟩

theorem F200ok (fuel : Nat) : (F200c fuel).Ok Tryz.prog := okI Tryz.f200 19 1 fuel [] (q0) L0

/-- wireschema/format.every[wireschema/api.Span]$1 -/
def F270 (fuel : Nat) (a0 : PV) (a1 : Unit) (a2 : Unit) (a3 : Int) : Option (Bool × Unit × Int) :=
 (F200 fuel a0 () a3).bind fun y1 =>
 some ((!y1.1), (), y1.2)

def F270c (fuel : Nat) : CallE := ⟨270, ⟨2, [.box 179 .leaf, .box 3 .leaf], [(.data 163), (.con (.ref 0 [] 179)), (.con (.fn 200 0 [(.ref 1 [] 3)])), (.int .i64)]⟩, ⟨1, [.box 179 .leaf, .box 3 .leaf], [.bool, (.con (.fn 200 0 [(.ref 1 [] 3)])), (.int .i64)]⟩, fun x => F270 fuel x.1 x.2.1 x.2.2.1 x.2.2.2, (false, (), 0)⟩

theorem F270ok (fuel : Nat) : (F270c fuel).Ok Tryz.prog := okI Tryz.f270 8 2 fuel [F200c fuel] (qc (F200ok fuel) <| q0) L0

def S303_3 (fuel : Nat) (a2 : List PV) (a3 : Unit) (a4 : Int) (a5 : Int) (a6 : Unit) (a7 : Int) : Option (((List PV) × Unit × Int × Int × Unit × Int) ⊕ ((Int × Unit × Int) ⊕ (Unit × Int))) :=
 bif (decide (a5 < a4)) then
 bif inRange a5 a2.length then
 (F270 fuel (a2.getD a5.toNat .bad) () () a7).bind fun y10 =>
 bif y10.1 then
 some (.inr (.inl (a5, (), y10.2.2)))
 else
 some (.inl (a2, (), a4, (IntKind.wrap .i64 (a5 + (1 : Int))), (), y10.2.2))
 else none
 else
 some (.inr (.inr ((), a7)))

def S303_3step (fuel : Nat) (x : (List PV) × Unit × Int × Int × Unit × Int) : Option (((List PV) × Unit × Int × Int × Unit × Int) ⊕ ((Int × Unit × Int) ⊕ (Unit × Int))) := S303_3 fuel x.1 x.2.1 x.2.2.1 x.2.2.2.1 x.2.2.2.2.1 x.2.2.2.2.2

/-- slices.IndexFunc[[]wireschema/api.Span,wireschema/api.Span] -/
def F303 (fuel : Nat) (a0 : List PV) (a1 : Unit) (a2 : Unit) (a3 : Int) : Option (Int × Unit × Int) :=
 (loopQ fuel (S303_3step fuel) (a0, (), (a0.length : Int), (0 : Int), (), a3)).bind fun z => sumE (fun y12 =>
 some (y12.1, (), y12.2.2)
 ) (fun y13 =>
 some ((-1 : Int), (), y13.2)
 ) z

def S303_3l (fuel : Nat) : LoopE := ⟨3, ⟨[0, 1, 7, 8], [.box 179 .leaf, .box 3 .leaf], [(.slice 163), (.con (.fn 270 0 [(.ref 0 [] 179)])), (.int .i64), (.int .i64), (.con (.fn 200 0 [(.ref 1 [] 3)])), (.int .i64)]⟩, [(.ret, ⟨[4], [.box 179 .leaf, .box 3 .leaf], [(.int .i64), (.con (.fn 200 0 [(.ref 1 [] 3)])), (.int .i64)]⟩), (.exit 0, ⟨[], [.box 179 .leaf, .box 3 .leaf], [(.con (.fn 200 0 [(.ref 1 [] 3)])), (.int .i64)]⟩)], S303_3step fuel⟩

def F303C (fuel : Nat) : Cfg := cfg Tryz.prog 19 2 [F270c fuel] [S303_3l fuel] fuel

def F303c (fuel : Nat) : CallE := ⟨303, ⟨2, [.box 179 .leaf, .box 3 .leaf], [(.slice 163), (.con (.fn 270 0 [(.ref 0 [] 179)])), (.con (.fn 200 0 [(.ref 1 [] 3)])), (.int .i64)]⟩, ⟨1, [.box 179 .leaf, .box 3 .leaf], [(.int .i64), (.con (.fn 200 0 [(.ref 1 [] 3)])), (.int .i64)]⟩, fun x => F303 fuel x.1 x.2.1 x.2.2.1 x.2.2.2, (0, (), 0)⟩

theorem F303k (fuel : Nat) : CallOk (F303C fuel) := cfg_callOk (qc (F270ok fuel) <| q0)

theorem S303_3ok (fuel : Nat) : LoopOk (F303C fuel) (lp (bodyOf Tryz.f303) 0) := okL (F303k fuel) fuel (S303_3l fuel) L0

theorem F303ok (fuel : Nat) : (F303c fuel).Ok Tryz.prog := okE Tryz.f303 (F303k fuel) (L1 (S303_3ok fuel))

/-- slices.ContainsFunc[[]wireschema/api.Span,wireschema/api.Span] -/
def F269 (fuel : Nat) (a0 : List PV) (a1 : Unit) (a2 : Unit) (a3 : Int) : Option (Bool × Unit × Int) :=
 (F303 fuel a0 () () a3).bind fun y1 =>
 some ((decide (y1.1 ≥ (0 : Int))), (), y1.2.2)

def F269c (fuel : Nat) : CallE := ⟨269, ⟨2, [.box 179 .leaf, .box 3 .leaf], [(.slice 163), (.con (.fn 270 0 [(.ref 0 [] 179)])), (.con (.fn 200 0 [(.ref 1 [] 3)])), (.int .i64)]⟩, ⟨1, [.box 179 .leaf, .box 3 .leaf], [.bool, (.con (.fn 200 0 [(.ref 1 [] 3)])), (.int .i64)]⟩, fun x => F269 fuel x.1 x.2.1 x.2.2.1 x.2.2.2, (false, (), 0)⟩

theorem F269ok (fuel : Nat) : (F269c fuel).Ok Tryz.prog := okI Tryz.f269 9 2 fuel [F303c fuel] (qc (F303ok fuel) <| q0) L0

/-- wireschema/format.every[wireschema/api.Span] -/
def F199 (fuel : Nat) (a0 : List PV) (a1 : Unit) (a2 : Int) : Option (Bool × Int) :=
 (F269 fuel a0 () () a2).bind fun y1 =>
 some ((!y1.1), y1.2.2)

def F199c (fuel : Nat) : CallE := ⟨199, ⟨2, [.box 3 .leaf], [(.slice 163), (.con (.fn 200 0 [(.ref 0 [] 3)])), (.int .i64)]⟩, ⟨1, [.box 3 .leaf], [.bool, (.int .i64)]⟩, fun x => F199 fuel x.1 x.2.1 x.2.2, (false, 0)⟩

theorem F199ok (fuel : Nat) : (F199c fuel).Ok Tryz.prog := okI Tryz.f199 9 1 fuel [F269c fuel] (qc (F269ok fuel) <| q0) L0

/-- wireschema/format.spans -/
def F90 (fuel : Nat) (a0 : List PV) (a1 : Int) : Option (Bool) :=
 (F199 fuel a0 () a1).bind fun y1 =>
 some y1.1

def F90c (fuel : Nat) : CallE := ⟨90, ⟨2, [], [(.slice 163), (.int .i64)]⟩, ⟨1, [], [.bool]⟩, fun x => F90 fuel x.1 x.2, false⟩

theorem F90ok (fuel : Nat) : (F90c fuel).Ok Tryz.prog := okI Tryz.f90 8 0 fuel [F199c fuel] (qc (F199ok fuel) <| q0) L0

/-- wireschema/format.numbers$1 -/
def F87 (fuel : Nat) (a0 : PV) : Option (Bool) :=
 (F75_v1 fuel ((a0.fld 1).asList) ()).bind fun y2 =>
 (bif y2 then F89 fuel ((a0.fld 1).asList) else some false).bind fun y4 =>
 let x5 := bif y2 then y4 else false
 (bif x5 then F90 fuel ((a0.fld 2).asList) (65535 : Int) else some false).bind fun y7 =>
 some (bif x5 then y7 else false)

def F87c (fuel : Nat) : CallE := ⟨87, ⟨1, [], [(.data 61)]⟩, ⟨1, [], [.bool]⟩, fun x => F87 fuel x, false⟩

theorem F87ok (fuel : Nat) : (F87c fuel).Ok Tryz.prog := okI Tryz.f87 16 0 fuel [F75_v1c fuel, F89c fuel, F90c fuel] (qc (F75_v1ok fuel) <| qc (F89ok fuel) <| qc (F90ok fuel) <| q0) L0

/-- wireschema/format.every[wireschema/api.Message]$1 -/
def F184_v1 (fuel : Nat) (a0 : PV) (a1 : Unit) (a2 : Unit) : Option (Bool × Unit) :=
 (F87 fuel a0).bind fun y1 =>
 some ((!y1), ())

def F184_v1c (fuel : Nat) : CallE := ⟨184, ⟨2, [.box 102 .leaf], [(.data 61), (.con (.ref 0 [] 102)), (.con (.fn 87 0 []))]⟩, ⟨1, [.box 102 .leaf], [.bool, (.con (.fn 87 0 []))]⟩, fun x => F184_v1 fuel x.1 x.2.1 x.2.2, (false, ())⟩

theorem F184_v1ok (fuel : Nat) : (F184_v1c fuel).Ok Tryz.prog := okI Tryz.f184 8 1 fuel [F87c fuel] (qc (F87ok fuel) <| q0) L0

def S260_v1_3 (fuel : Nat) (a2 : List PV) (a3 : Unit) (a4 : Int) (a5 : Int) (a6 : Unit) : Option (((List PV) × Unit × Int × Int × Unit) ⊕ ((Int × Unit) ⊕ (Unit))) :=
 bif (decide (a5 < a4)) then
 bif inRange a5 a2.length then
 (F184_v1 fuel (a2.getD a5.toNat .bad) () ()).bind fun y9 =>
 bif y9.1 then
 some (.inr (.inl (a5, ())))
 else
 some (.inl (a2, (), a4, (IntKind.wrap .i64 (a5 + (1 : Int))), ()))
 else none
 else
 some (.inr (.inr ()))

def S260_v1_3step (fuel : Nat) (x : (List PV) × Unit × Int × Int × Unit) : Option (((List PV) × Unit × Int × Int × Unit) ⊕ ((Int × Unit) ⊕ (Unit))) := S260_v1_3 fuel x.1 x.2.1 x.2.2.1 x.2.2.2.1 x.2.2.2.2

/-- slices.IndexFunc[[]wireschema/api.Message,wireschema/api.Message] -/
def F260_v1 (fuel : Nat) (a0 : List PV) (a1 : Unit) (a2 : Unit) : Option (Int × Unit) :=
 (loopQ fuel (S260_v1_3step fuel) (a0, (), (a0.length : Int), (0 : Int), ())).bind fun z => sumE (fun y11 =>
 some (y11.1, ())
 ) (fun y12 =>
 some ((-1 : Int), ())
 ) z

def S260_v1_3l (fuel : Nat) : LoopE := ⟨3, ⟨[0, 1, 7, 8], [.box 102 .leaf], [(.slice 61), (.con (.fn 184 0 [(.ref 0 [] 102)])), (.int .i64), (.int .i64), (.con (.fn 87 0 []))]⟩, [(.ret, ⟨[4], [.box 102 .leaf], [(.int .i64), (.con (.fn 87 0 []))]⟩), (.exit 0, ⟨[], [.box 102 .leaf], [(.con (.fn 87 0 []))]⟩)], S260_v1_3step fuel⟩

def F260_v1C (fuel : Nat) : Cfg := cfg Tryz.prog 19 1 [F184_v1c fuel] [S260_v1_3l fuel] fuel

def F260_v1c (fuel : Nat) : CallE := ⟨260, ⟨2, [.box 102 .leaf], [(.slice 61), (.con (.fn 184 0 [(.ref 0 [] 102)])), (.con (.fn 87 0 []))]⟩, ⟨1, [.box 102 .leaf], [(.int .i64), (.con (.fn 87 0 []))]⟩, fun x => F260_v1 fuel x.1 x.2.1 x.2.2, (0, ())⟩

theorem F260_v1k (fuel : Nat) : CallOk (F260_v1C fuel) := cfg_callOk (qc (F184_v1ok fuel) <| q0)

theorem S260_v1_3ok (fuel : Nat) : LoopOk (F260_v1C fuel) (lp (bodyOf Tryz.f260) 0) := okL (F260_v1k fuel) fuel (S260_v1_3l fuel) L0

theorem F260_v1ok (fuel : Nat) : (F260_v1c fuel).Ok Tryz.prog := okE Tryz.f260 (F260_v1k fuel) (L1 (S260_v1_3ok fuel))

/-- slices.ContainsFunc[[]wireschema/api.Message,wireschema/api.Message] -/
def F183_v1 (fuel : Nat) (a0 : List PV) (a1 : Unit) (a2 : Unit) : Option (Bool × Unit) :=
 (F260_v1 fuel a0 () ()).bind fun y1 =>
 some ((decide (y1.1 ≥ (0 : Int))), ())

def F183_v1c (fuel : Nat) : CallE := ⟨183, ⟨2, [.box 102 .leaf], [(.slice 61), (.con (.fn 184 0 [(.ref 0 [] 102)])), (.con (.fn 87 0 []))]⟩, ⟨1, [.box 102 .leaf], [.bool, (.con (.fn 87 0 []))]⟩, fun x => F183_v1 fuel x.1 x.2.1 x.2.2, (false, ())⟩

theorem F183_v1ok (fuel : Nat) : (F183_v1c fuel).Ok Tryz.prog := okI Tryz.f183 9 1 fuel [F260_v1c fuel] (qc (F260_v1ok fuel) <| q0) L0

/-- wireschema/format.every[wireschema/api.Message] -/
def F73_v1 (fuel : Nat) (a0 : List PV) (a1 : Unit) : Option (Bool) :=
 (F183_v1 fuel a0 () ()).bind fun y1 =>
 some (!y1.1)

def F73_v1c (fuel : Nat) : CallE := ⟨73, ⟨2, [], [(.slice 61), (.con (.fn 87 0 []))]⟩, ⟨1, [], [.bool]⟩, fun x => F73_v1 fuel x.1 x.2, false⟩

theorem F73_v1ok (fuel : Nat) : (F73_v1c fuel).Ok Tryz.prog := okI Tryz.f73 9 0 fuel [F183_v1c fuel] (qc (F183_v1ok fuel) <| q0) L0

/-- wireschema/format.numbers$2$1 -/
def F92 (fuel : Nat) (a0 : PV) : Option (Bool) :=
 some (bif (decide (((a0.fld 1).asInt) ≥ (0 : Int))) then (decide (((a0.fld 1).asInt) ≤ (2147483647 : Int))) else false)

def F92c (fuel : Nat) : CallE := ⟨92, ⟨1, [], [(.data 106)]⟩, ⟨1, [], [.bool]⟩, fun x => F92 fuel x, false⟩

theorem F92ok (fuel : Nat) : (F92c fuel).Ok Tryz.prog := okI Tryz.f92 11 0 fuel [] (q0) L0

/-- wireschema/format.every[wireschema/api.Item]$1 -/
def F192_v1 (fuel : Nat) (a0 : PV) (a1 : Unit) (a2 : Unit) : Option (Bool × Unit) :=
 (F92 fuel a0).bind fun y1 =>
 some ((!y1), ())

def F192_v1c (fuel : Nat) : CallE := ⟨192, ⟨2, [.box 107 .leaf], [(.data 106), (.con (.ref 0 [] 107)), (.con (.fn 92 0 []))]⟩, ⟨1, [.box 107 .leaf], [.bool, (.con (.fn 92 0 []))]⟩, fun x => F192_v1 fuel x.1 x.2.1 x.2.2, (false, ())⟩

theorem F192_v1ok (fuel : Nat) : (F192_v1c fuel).Ok Tryz.prog := okI Tryz.f192 8 1 fuel [F92c fuel] (qc (F92ok fuel) <| q0) L0

def S264_v1_3 (fuel : Nat) (a2 : List PV) (a3 : Unit) (a4 : Int) (a5 : Int) (a6 : Unit) : Option (((List PV) × Unit × Int × Int × Unit) ⊕ ((Int × Unit) ⊕ (Unit))) :=
 bif (decide (a5 < a4)) then
 bif inRange a5 a2.length then
 (F192_v1 fuel (a2.getD a5.toNat .bad) () ()).bind fun y9 =>
 bif y9.1 then
 some (.inr (.inl (a5, ())))
 else
 some (.inl (a2, (), a4, (IntKind.wrap .i64 (a5 + (1 : Int))), ()))
 else none
 else
 some (.inr (.inr ()))

def S264_v1_3step (fuel : Nat) (x : (List PV) × Unit × Int × Int × Unit) : Option (((List PV) × Unit × Int × Int × Unit) ⊕ ((Int × Unit) ⊕ (Unit))) := S264_v1_3 fuel x.1 x.2.1 x.2.2.1 x.2.2.2.1 x.2.2.2.2

/-- slices.IndexFunc[[]wireschema/api.Item,wireschema/api.Item] -/
def F264_v1 (fuel : Nat) (a0 : List PV) (a1 : Unit) (a2 : Unit) : Option (Int × Unit) :=
 (loopQ fuel (S264_v1_3step fuel) (a0, (), (a0.length : Int), (0 : Int), ())).bind fun z => sumE (fun y11 =>
 some (y11.1, ())
 ) (fun y12 =>
 some ((-1 : Int), ())
 ) z

def S264_v1_3l (fuel : Nat) : LoopE := ⟨3, ⟨[0, 1, 7, 8], [.box 107 .leaf], [(.slice 106), (.con (.fn 192 0 [(.ref 0 [] 107)])), (.int .i64), (.int .i64), (.con (.fn 92 0 []))]⟩, [(.ret, ⟨[4], [.box 107 .leaf], [(.int .i64), (.con (.fn 92 0 []))]⟩), (.exit 0, ⟨[], [.box 107 .leaf], [(.con (.fn 92 0 []))]⟩)], S264_v1_3step fuel⟩

def F264_v1C (fuel : Nat) : Cfg := cfg Tryz.prog 19 1 [F192_v1c fuel] [S264_v1_3l fuel] fuel

def F264_v1c (fuel : Nat) : CallE := ⟨264, ⟨2, [.box 107 .leaf], [(.slice 106), (.con (.fn 192 0 [(.ref 0 [] 107)])), (.con (.fn 92 0 []))]⟩, ⟨1, [.box 107 .leaf], [(.int .i64), (.con (.fn 92 0 []))]⟩, fun x => F264_v1 fuel x.1 x.2.1 x.2.2, (0, ())⟩

theorem F264_v1k (fuel : Nat) : CallOk (F264_v1C fuel) := cfg_callOk (qc (F192_v1ok fuel) <| q0)

theorem S264_v1_3ok (fuel : Nat) : LoopOk (F264_v1C fuel) (lp (bodyOf Tryz.f264) 0) := okL (F264_v1k fuel) fuel (S264_v1_3l fuel) L0

theorem F264_v1ok (fuel : Nat) : (F264_v1c fuel).Ok Tryz.prog := okE Tryz.f264 (F264_v1k fuel) (L1 (S264_v1_3ok fuel))

/-- slices.ContainsFunc[[]wireschema/api.Item,wireschema/api.Item] -/
def F191_v1 (fuel : Nat) (a0 : List PV) (a1 : Unit) (a2 : Unit) : Option (Bool × Unit) :=
 (F264_v1 fuel a0 () ()).bind fun y1 =>
 some ((decide (y1.1 ≥ (0 : Int))), ())

def F191_v1c (fuel : Nat) : CallE := ⟨191, ⟨2, [.box 107 .leaf], [(.slice 106), (.con (.fn 192 0 [(.ref 0 [] 107)])), (.con (.fn 92 0 []))]⟩, ⟨1, [.box 107 .leaf], [.bool, (.con (.fn 92 0 []))]⟩, fun x => F191_v1 fuel x.1 x.2.1 x.2.2, (false, ())⟩

theorem F191_v1ok (fuel : Nat) : (F191_v1c fuel).Ok Tryz.prog := okI Tryz.f191 9 1 fuel [F264_v1c fuel] (qc (F264_v1ok fuel) <| q0) L0

/-- wireschema/format.every[wireschema/api.Item] -/
def F81_v1 (fuel : Nat) (a0 : List PV) (a1 : Unit) : Option (Bool) :=
 (F191_v1 fuel a0 () ()).bind fun y1 =>
 some (!y1.1)

def F81_v1c (fuel : Nat) : CallE := ⟨81, ⟨2, [], [(.slice 106), (.con (.fn 92 0 []))]⟩, ⟨1, [], [.bool]⟩, fun x => F81_v1 fuel x.1 x.2, false⟩

theorem F81_v1ok (fuel : Nat) : (F81_v1c fuel).Ok Tryz.prog := okI Tryz.f81 9 0 fuel [F191_v1c fuel] (qc (F191_v1ok fuel) <| q0) L0

/-- wireschema/format.numbers$2 -/
def F91 (fuel : Nat) (a0 : PV) : Option (Bool) :=
 (F90 fuel ((a0.fld 3).asList) (2147483647 : Int)).bind fun y2 =>
 (bif y2 then F81_v1 fuel ((a0.fld 2).asList) () else some false).bind fun y4 =>
 some (bif y2 then y4 else false)

def F91c (fuel : Nat) : CallE := ⟨91, ⟨1, [], [(.data 64)]⟩, ⟨1, [], [.bool]⟩, fun x => F91 fuel x, false⟩

theorem F91ok (fuel : Nat) : (F91c fuel).Ok Tryz.prog := okI Tryz.f91 11 0 fuel [F90c fuel, F81_v1c fuel] (qc (F90ok fuel) <| qc (F81_v1ok fuel) <| q0) L0

/-- wireschema/format.every[wireschema/api.Enum]$1 -/
def F190_v1 (fuel : Nat) (a0 : PV) (a1 : Unit) (a2 : Unit) : Option (Bool × Unit) :=
 (F91 fuel a0).bind fun y1 =>
 some ((!y1), ())

def F190_v1c (fuel : Nat) : CallE := ⟨190, ⟨2, [.box 108 .leaf], [(.data 64), (.con (.ref 0 [] 108)), (.con (.fn 91 0 []))]⟩, ⟨1, [.box 108 .leaf], [.bool, (.con (.fn 91 0 []))]⟩, fun x => F190_v1 fuel x.1 x.2.1 x.2.2, (false, ())⟩

theorem F190_v1ok (fuel : Nat) : (F190_v1c fuel).Ok Tryz.prog := okI Tryz.f190 8 1 fuel [F91c fuel] (qc (F91ok fuel) <| q0) L0

def S263_v1_3 (fuel : Nat) (a2 : List PV) (a3 : Unit) (a4 : Int) (a5 : Int) (a6 : Unit) : Option (((List PV) × Unit × Int × Int × Unit) ⊕ ((Int × Unit) ⊕ (Unit))) :=
 bif (decide (a5 < a4)) then
 bif inRange a5 a2.length then
 (F190_v1 fuel (a2.getD a5.toNat .bad) () ()).bind fun y9 =>
 bif y9.1 then
 some (.inr (.inl (a5, ())))
 else
 some (.inl (a2, (), a4, (IntKind.wrap .i64 (a5 + (1 : Int))), ()))
 else none
 else
 some (.inr (.inr ()))

def S263_v1_3step (fuel : Nat) (x : (List PV) × Unit × Int × Int × Unit) : Option (((List PV) × Unit × Int × Int × Unit) ⊕ ((Int × Unit) ⊕ (Unit))) := S263_v1_3 fuel x.1 x.2.1 x.2.2.1 x.2.2.2.1 x.2.2.2.2

/-- slices.IndexFunc[[]wireschema/api.Enum,wireschema/api.Enum] -/
def F263_v1 (fuel : Nat) (a0 : List PV) (a1 : Unit) (a2 : Unit) : Option (Int × Unit) :=
 (loopQ fuel (S263_v1_3step fuel) (a0, (), (a0.length : Int), (0 : Int), ())).bind fun z => sumE (fun y11 =>
 some (y11.1, ())
 ) (fun y12 =>
 some ((-1 : Int), ())
 ) z

def S263_v1_3l (fuel : Nat) : LoopE := ⟨3, ⟨[0, 1, 7, 8], [.box 108 .leaf], [(.slice 64), (.con (.fn 190 0 [(.ref 0 [] 108)])), (.int .i64), (.int .i64), (.con (.fn 91 0 []))]⟩, [(.ret, ⟨[4], [.box 108 .leaf], [(.int .i64), (.con (.fn 91 0 []))]⟩), (.exit 0, ⟨[], [.box 108 .leaf], [(.con (.fn 91 0 []))]⟩)], S263_v1_3step fuel⟩

def F263_v1C (fuel : Nat) : Cfg := cfg Tryz.prog 19 1 [F190_v1c fuel] [S263_v1_3l fuel] fuel

def F263_v1c (fuel : Nat) : CallE := ⟨263, ⟨2, [.box 108 .leaf], [(.slice 64), (.con (.fn 190 0 [(.ref 0 [] 108)])), (.con (.fn 91 0 []))]⟩, ⟨1, [.box 108 .leaf], [(.int .i64), (.con (.fn 91 0 []))]⟩, fun x => F263_v1 fuel x.1 x.2.1 x.2.2, (0, ())⟩

theorem F263_v1k (fuel : Nat) : CallOk (F263_v1C fuel) := cfg_callOk (qc (F190_v1ok fuel) <| q0)

theorem S263_v1_3ok (fuel : Nat) : LoopOk (F263_v1C fuel) (lp (bodyOf Tryz.f263) 0) := okL (F263_v1k fuel) fuel (S263_v1_3l fuel) L0

theorem F263_v1ok (fuel : Nat) : (F263_v1c fuel).Ok Tryz.prog := okE Tryz.f263 (F263_v1k fuel) (L1 (S263_v1_3ok fuel))

/-- slices.ContainsFunc[[]wireschema/api.Enum,wireschema/api.Enum] -/
def F189_v1 (fuel : Nat) (a0 : List PV) (a1 : Unit) (a2 : Unit) : Option (Bool × Unit) :=
 (F263_v1 fuel a0 () ()).bind fun y1 =>
 some ((decide (y1.1 ≥ (0 : Int))), ())

def F189_v1c (fuel : Nat) : CallE := ⟨189, ⟨2, [.box 108 .leaf], [(.slice 64), (.con (.fn 190 0 [(.ref 0 [] 108)])), (.con (.fn 91 0 []))]⟩, ⟨1, [.box 108 .leaf], [.bool, (.con (.fn 91 0 []))]⟩, fun x => F189_v1 fuel x.1 x.2.1 x.2.2, (false, ())⟩

theorem F189_v1ok (fuel : Nat) : (F189_v1c fuel).Ok Tryz.prog := okI Tryz.f189 9 1 fuel [F263_v1c fuel] (qc (F263_v1ok fuel) <| q0) L0

/-- wireschema/format.every[wireschema/api.Enum] -/
def F79_v1 (fuel : Nat) (a0 : List PV) (a1 : Unit) : Option (Bool) :=
 (F189_v1 fuel a0 () ()).bind fun y1 =>
 some (!y1.1)

def F79_v1c (fuel : Nat) : CallE := ⟨79, ⟨2, [], [(.slice 64), (.con (.fn 91 0 []))]⟩, ⟨1, [], [.bool]⟩, fun x => F79_v1 fuel x.1 x.2, false⟩

theorem F79_v1ok (fuel : Nat) : (F79_v1c fuel).Ok Tryz.prog := okI Tryz.f79 9 0 fuel [F189_v1c fuel] (qc (F189_v1ok fuel) <| q0) L0

/-- wireschema/format.numbers$3$1 -/
def F94 (fuel : Nat) (a0 : PV) : Option (Bool) :=
 some (bif (decide (((a0.fld 3).asInt) ≥ (1 : Int))) then (decide (((a0.fld 3).asInt) ≤ (4 : Int))) else false)

def F94c (fuel : Nat) : CallE := ⟨94, ⟨1, [], [(.data 112)]⟩, ⟨1, [], [.bool]⟩, fun x => F94 fuel x, false⟩

theorem F94ok (fuel : Nat) : (F94c fuel).Ok Tryz.prog := okI Tryz.f94 11 0 fuel [] (q0) L0

/-- wireschema/format.every[wireschema/api.Method]$1 -/
def F196_v1 (fuel : Nat) (a0 : PV) (a1 : Unit) (a2 : Unit) : Option (Bool × Unit) :=
 (F94 fuel a0).bind fun y1 =>
 some ((!y1), ())

def F196_v1c (fuel : Nat) : CallE := ⟨196, ⟨2, [.box 113 .leaf], [(.data 112), (.con (.ref 0 [] 113)), (.con (.fn 94 0 []))]⟩, ⟨1, [.box 113 .leaf], [.bool, (.con (.fn 94 0 []))]⟩, fun x => F196_v1 fuel x.1 x.2.1 x.2.2, (false, ())⟩

theorem F196_v1ok (fuel : Nat) : (F196_v1c fuel).Ok Tryz.prog := okI Tryz.f196 8 1 fuel [F94c fuel] (qc (F94ok fuel) <| q0) L0

def S266_v1_3 (fuel : Nat) (a2 : List PV) (a3 : Unit) (a4 : Int) (a5 : Int) (a6 : Unit) : Option (((List PV) × Unit × Int × Int × Unit) ⊕ ((Int × Unit) ⊕ (Unit))) :=
 bif (decide (a5 < a4)) then
 bif inRange a5 a2.length then
 (F196_v1 fuel (a2.getD a5.toNat .bad) () ()).bind fun y9 =>
 bif y9.1 then
 some (.inr (.inl (a5, ())))
 else
 some (.inl (a2, (), a4, (IntKind.wrap .i64 (a5 + (1 : Int))), ()))
 else none
 else
 some (.inr (.inr ()))

def S266_v1_3step (fuel : Nat) (x : (List PV) × Unit × Int × Int × Unit) : Option (((List PV) × Unit × Int × Int × Unit) ⊕ ((Int × Unit) ⊕ (Unit))) := S266_v1_3 fuel x.1 x.2.1 x.2.2.1 x.2.2.2.1 x.2.2.2.2

/-- slices.IndexFunc[[]wireschema/api.Method,wireschema/api.Method] -/
def F266_v1 (fuel : Nat) (a0 : List PV) (a1 : Unit) (a2 : Unit) : Option (Int × Unit) :=
 (loopQ fuel (S266_v1_3step fuel) (a0, (), (a0.length : Int), (0 : Int), ())).bind fun z => sumE (fun y11 =>
 some (y11.1, ())
 ) (fun y12 =>
 some ((-1 : Int), ())
 ) z

def S266_v1_3l (fuel : Nat) : LoopE := ⟨3, ⟨[0, 1, 7, 8], [.box 113 .leaf], [(.slice 112), (.con (.fn 196 0 [(.ref 0 [] 113)])), (.int .i64), (.int .i64), (.con (.fn 94 0 []))]⟩, [(.ret, ⟨[4], [.box 113 .leaf], [(.int .i64), (.con (.fn 94 0 []))]⟩), (.exit 0, ⟨[], [.box 113 .leaf], [(.con (.fn 94 0 []))]⟩)], S266_v1_3step fuel⟩

def F266_v1C (fuel : Nat) : Cfg := cfg Tryz.prog 19 1 [F196_v1c fuel] [S266_v1_3l fuel] fuel

def F266_v1c (fuel : Nat) : CallE := ⟨266, ⟨2, [.box 113 .leaf], [(.slice 112), (.con (.fn 196 0 [(.ref 0 [] 113)])), (.con (.fn 94 0 []))]⟩, ⟨1, [.box 113 .leaf], [(.int .i64), (.con (.fn 94 0 []))]⟩, fun x => F266_v1 fuel x.1 x.2.1 x.2.2, (0, ())⟩

theorem F266_v1k (fuel : Nat) : CallOk (F266_v1C fuel) := cfg_callOk (qc (F196_v1ok fuel) <| q0)

theorem S266_v1_3ok (fuel : Nat) : LoopOk (F266_v1C fuel) (lp (bodyOf Tryz.f266) 0) := okL (F266_v1k fuel) fuel (S266_v1_3l fuel) L0

theorem F266_v1ok (fuel : Nat) : (F266_v1c fuel).Ok Tryz.prog := okE Tryz.f266 (F266_v1k fuel) (L1 (S266_v1_3ok fuel))

/-- slices.ContainsFunc[[]wireschema/api.Method,wireschema/api.Method] -/
def F195_v1 (fuel : Nat) (a0 : List PV) (a1 : Unit) (a2 : Unit) : Option (Bool × Unit) :=
 (F266_v1 fuel a0 () ()).bind fun y1 =>
 some ((decide (y1.1 ≥ (0 : Int))), ())

def F195_v1c (fuel : Nat) : CallE := ⟨195, ⟨2, [.box 113 .leaf], [(.slice 112), (.con (.fn 196 0 [(.ref 0 [] 113)])), (.con (.fn 94 0 []))]⟩, ⟨1, [.box 113 .leaf], [.bool, (.con (.fn 94 0 []))]⟩, fun x => F195_v1 fuel x.1 x.2.1 x.2.2, (false, ())⟩

theorem F195_v1ok (fuel : Nat) : (F195_v1c fuel).Ok Tryz.prog := okI Tryz.f195 9 1 fuel [F266_v1c fuel] (qc (F266_v1ok fuel) <| q0) L0

/-- wireschema/format.every[wireschema/api.Method] -/
def F85_v1 (fuel : Nat) (a0 : List PV) (a1 : Unit) : Option (Bool) :=
 (F195_v1 fuel a0 () ()).bind fun y1 =>
 some (!y1.1)

def F85_v1c (fuel : Nat) : CallE := ⟨85, ⟨2, [], [(.slice 112), (.con (.fn 94 0 []))]⟩, ⟨1, [], [.bool]⟩, fun x => F85_v1 fuel x.1 x.2, false⟩

theorem F85_v1ok (fuel : Nat) : (F85_v1c fuel).Ok Tryz.prog := okI Tryz.f85 9 0 fuel [F195_v1c fuel] (qc (F195_v1ok fuel) <| q0) L0

/-- wireschema/format.numbers$3 -/
def F93 (fuel : Nat) (a0 : PV) : Option (Bool) :=
 (F85_v1 fuel ((a0.fld 1).asList) ()).bind fun y2 =>
 some y2

def F93c (fuel : Nat) : CallE := ⟨93, ⟨1, [], [(.data 67)]⟩, ⟨1, [], [.bool]⟩, fun x => F93 fuel x, false⟩

theorem F93ok (fuel : Nat) : (F93c fuel).Ok Tryz.prog := okI Tryz.f93 6 0 fuel [F85_v1c fuel] (qc (F85_v1ok fuel) <| q0) L0

/-- wireschema/format.every[wireschema/api.Service]$1 -/
def F194_v1 (fuel : Nat) (a0 : PV) (a1 : Unit) (a2 : Unit) : Option (Bool × Unit) :=
 (F93 fuel a0).bind fun y1 =>
 some ((!y1), ())

def F194_v1c (fuel : Nat) : CallE := ⟨194, ⟨2, [.box 114 .leaf], [(.data 67), (.con (.ref 0 [] 114)), (.con (.fn 93 0 []))]⟩, ⟨1, [.box 114 .leaf], [.bool, (.con (.fn 93 0 []))]⟩, fun x => F194_v1 fuel x.1 x.2.1 x.2.2, (false, ())⟩

theorem F194_v1ok (fuel : Nat) : (F194_v1c fuel).Ok Tryz.prog := okI Tryz.f194 8 1 fuel [F93c fuel] (qc (F93ok fuel) <| q0) L0

def S265_v1_3 (fuel : Nat) (a2 : List PV) (a3 : Unit) (a4 : Int) (a5 : Int) (a6 : Unit) : Option (((List PV) × Unit × Int × Int × Unit) ⊕ ((Int × Unit) ⊕ (Unit))) :=
 bif (decide (a5 < a4)) then
 bif inRange a5 a2.length then
 (F194_v1 fuel (a2.getD a5.toNat .bad) () ()).bind fun y9 =>
 bif y9.1 then
 some (.inr (.inl (a5, ())))
 else
 some (.inl (a2, (), a4, (IntKind.wrap .i64 (a5 + (1 : Int))), ()))
 else none
 else
 some (.inr (.inr ()))

def S265_v1_3step (fuel : Nat) (x : (List PV) × Unit × Int × Int × Unit) : Option (((List PV) × Unit × Int × Int × Unit) ⊕ ((Int × Unit) ⊕ (Unit))) := S265_v1_3 fuel x.1 x.2.1 x.2.2.1 x.2.2.2.1 x.2.2.2.2

/-- slices.IndexFunc[[]wireschema/api.Service,wireschema/api.Service] -/
def F265_v1 (fuel : Nat) (a0 : List PV) (a1 : Unit) (a2 : Unit) : Option (Int × Unit) :=
 (loopQ fuel (S265_v1_3step fuel) (a0, (), (a0.length : Int), (0 : Int), ())).bind fun z => sumE (fun y11 =>
 some (y11.1, ())
 ) (fun y12 =>
 some ((-1 : Int), ())
 ) z

def S265_v1_3l (fuel : Nat) : LoopE := ⟨3, ⟨[0, 1, 7, 8], [.box 114 .leaf], [(.slice 67), (.con (.fn 194 0 [(.ref 0 [] 114)])), (.int .i64), (.int .i64), (.con (.fn 93 0 []))]⟩, [(.ret, ⟨[4], [.box 114 .leaf], [(.int .i64), (.con (.fn 93 0 []))]⟩), (.exit 0, ⟨[], [.box 114 .leaf], [(.con (.fn 93 0 []))]⟩)], S265_v1_3step fuel⟩

def F265_v1C (fuel : Nat) : Cfg := cfg Tryz.prog 19 1 [F194_v1c fuel] [S265_v1_3l fuel] fuel

def F265_v1c (fuel : Nat) : CallE := ⟨265, ⟨2, [.box 114 .leaf], [(.slice 67), (.con (.fn 194 0 [(.ref 0 [] 114)])), (.con (.fn 93 0 []))]⟩, ⟨1, [.box 114 .leaf], [(.int .i64), (.con (.fn 93 0 []))]⟩, fun x => F265_v1 fuel x.1 x.2.1 x.2.2, (0, ())⟩

theorem F265_v1k (fuel : Nat) : CallOk (F265_v1C fuel) := cfg_callOk (qc (F194_v1ok fuel) <| q0)

theorem S265_v1_3ok (fuel : Nat) : LoopOk (F265_v1C fuel) (lp (bodyOf Tryz.f265) 0) := okL (F265_v1k fuel) fuel (S265_v1_3l fuel) L0

theorem F265_v1ok (fuel : Nat) : (F265_v1c fuel).Ok Tryz.prog := okE Tryz.f265 (F265_v1k fuel) (L1 (S265_v1_3ok fuel))

/-- slices.ContainsFunc[[]wireschema/api.Service,wireschema/api.Service] -/
def F193_v1 (fuel : Nat) (a0 : List PV) (a1 : Unit) (a2 : Unit) : Option (Bool × Unit) :=
 (F265_v1 fuel a0 () ()).bind fun y1 =>
 some ((decide (y1.1 ≥ (0 : Int))), ())

def F193_v1c (fuel : Nat) : CallE := ⟨193, ⟨2, [.box 114 .leaf], [(.slice 67), (.con (.fn 194 0 [(.ref 0 [] 114)])), (.con (.fn 93 0 []))]⟩, ⟨1, [.box 114 .leaf], [.bool, (.con (.fn 93 0 []))]⟩, fun x => F193_v1 fuel x.1 x.2.1 x.2.2, (false, ())⟩

theorem F193_v1ok (fuel : Nat) : (F193_v1c fuel).Ok Tryz.prog := okI Tryz.f193 9 1 fuel [F265_v1c fuel] (qc (F265_v1ok fuel) <| q0) L0

/-- wireschema/format.every[wireschema/api.Service] -/
def F83_v1 (fuel : Nat) (a0 : List PV) (a1 : Unit) : Option (Bool) :=
 (F193_v1 fuel a0 () ()).bind fun y1 =>
 some (!y1.1)

def F83_v1c (fuel : Nat) : CallE := ⟨83, ⟨2, [], [(.slice 67), (.con (.fn 93 0 []))]⟩, ⟨1, [], [.bool]⟩, fun x => F83_v1 fuel x.1 x.2, false⟩

theorem F83_v1ok (fuel : Nat) : (F83_v1c fuel).Ok Tryz.prog := okI Tryz.f83 9 0 fuel [F193_v1c fuel] (qc (F193_v1ok fuel) <| q0) L0

/-- wireschema/format.numbers -/
def F29 (fuel : Nat) (a0 : PV) : Option (Bool) :=
 (F73_v1 fuel ((a0.fld 3).asList) ()).bind fun y2 =>
 (bif y2 then F79_v1 fuel ((a0.fld 4).asList) () else some false).bind fun y4 =>
 let x5 := bif y2 then y4 else false
 (bif x5 then F83_v1 fuel ((a0.fld 5).asList) () else some false).bind fun y7 =>
 some (bif x5 then y7 else false)

def F29c (fuel : Nat) : CallE := ⟨29, ⟨1, [], [(.data 27)]⟩, ⟨1, [], [.bool]⟩, fun x => F29 fuel x, false⟩

theorem F29ok (fuel : Nat) : (F29c fuel).Ok Tryz.prog := okI Tryz.f29 16 0 fuel [F73_v1c fuel, F79_v1c fuel, F83_v1c fuel] (qc (F73_v1ok fuel) <| qc (F79_v1ok fuel) <| qc (F83_v1ok fuel) <| q0) L0

/-- wireschema/format.every[string]$1 -/
def F201 (fuel : Nat) (a0 : List UInt8) (a1 : Unit) (a2 : Unit) : Option (Bool × Unit) :=
 (F96 fuel a0).bind fun y1 =>
 some ((!y1), ())

def F201c (fuel : Nat) : CallE := ⟨201, ⟨2, [.box 56 .leaf], [.str, (.con (.ref 0 [] 56)), (.con (.fn 96 0 []))]⟩, ⟨1, [.box 56 .leaf], [.bool, (.con (.fn 96 0 []))]⟩, fun x => F201 fuel x.1 x.2.1 x.2.2, (false, ())⟩

theorem F201ok (fuel : Nat) : (F201c fuel).Ok Tryz.prog := okI Tryz.f201 8 1 fuel [F96c fuel] (qc (F96ok fuel) <| q0) L0

def S258_v1_3 (fuel : Nat) (a2 : List PV) (a3 : Unit) (a4 : Int) (a5 : Int) (a6 : Unit) : Option (((List PV) × Unit × Int × Int × Unit) ⊕ ((Int × Unit) ⊕ (Unit))) :=
 bif (decide (a5 < a4)) then
 bif inRange a5 a2.length then
 (F201 fuel (a2.getD a5.toNat .bad).asStr () ()).bind fun y10 =>
 bif y10.1 then
 some (.inr (.inl (a5, ())))
 else
 some (.inl (a2, (), a4, (IntKind.wrap .i64 (a5 + (1 : Int))), ()))
 else none
 else
 some (.inr (.inr ()))

def S258_v1_3step (fuel : Nat) (x : (List PV) × Unit × Int × Int × Unit) : Option (((List PV) × Unit × Int × Int × Unit) ⊕ ((Int × Unit) ⊕ (Unit))) := S258_v1_3 fuel x.1 x.2.1 x.2.2.1 x.2.2.2.1 x.2.2.2.2

/-- slices.IndexFunc[[]string,string] -/
def F258_v1 (fuel : Nat) (a0 : List PV) (a1 : Unit) (a2 : Unit) : Option (Int × Unit) :=
 (loopQ fuel (S258_v1_3step fuel) (a0, (), (a0.length : Int), (0 : Int), ())).bind fun z => sumE (fun y12 =>
 some (y12.1, ())
 ) (fun y13 =>
 some ((-1 : Int), ())
 ) z

def S258_v1_3l (fuel : Nat) : LoopE := ⟨3, ⟨[0, 1, 7, 8], [.box 56 .leaf], [(.slice 9), (.con (.fn 201 0 [(.ref 0 [] 56)])), (.int .i64), (.int .i64), (.con (.fn 96 0 []))]⟩, [(.ret, ⟨[4], [.box 56 .leaf], [(.int .i64), (.con (.fn 96 0 []))]⟩), (.exit 0, ⟨[], [.box 56 .leaf], [(.con (.fn 96 0 []))]⟩)], S258_v1_3step fuel⟩

def F258_v1C (fuel : Nat) : Cfg := cfg Tryz.prog 19 1 [F201c fuel] [S258_v1_3l fuel] fuel

def F258_v1c (fuel : Nat) : CallE := ⟨258, ⟨2, [.box 56 .leaf], [(.slice 9), (.con (.fn 201 0 [(.ref 0 [] 56)])), (.con (.fn 96 0 []))]⟩, ⟨1, [.box 56 .leaf], [(.int .i64), (.con (.fn 96 0 []))]⟩, fun x => F258_v1 fuel x.1 x.2.1 x.2.2, (0, ())⟩

theorem F258_v1k (fuel : Nat) : CallOk (F258_v1C fuel) := cfg_callOk (qc (F201ok fuel) <| q0)

theorem S258_v1_3ok (fuel : Nat) : LoopOk (F258_v1C fuel) (lp (bodyOf Tryz.f258) 0) := okL (F258_v1k fuel) fuel (S258_v1_3l fuel) L0

theorem F258_v1ok (fuel : Nat) : (F258_v1c fuel).Ok Tryz.prog := okE Tryz.f258 (F258_v1k fuel) (L1 (S258_v1_3ok fuel))

/-- slices.ContainsFunc[[]string,string] -/
def F180_v1 (fuel : Nat) (a0 : List PV) (a1 : Unit) (a2 : Unit) : Option (Bool × Unit) :=
 (F258_v1 fuel a0 () ()).bind fun y1 =>
 some ((decide (y1.1 ≥ (0 : Int))), ())

def F180_v1c (fuel : Nat) : CallE := ⟨180, ⟨2, [.box 56 .leaf], [(.slice 9), (.con (.fn 201 0 [(.ref 0 [] 56)])), (.con (.fn 96 0 []))]⟩, ⟨1, [.box 56 .leaf], [.bool, (.con (.fn 96 0 []))]⟩, fun x => F180_v1 fuel x.1 x.2.1 x.2.2, (false, ())⟩

theorem F180_v1ok (fuel : Nat) : (F180_v1c fuel).Ok Tryz.prog := okI Tryz.f180 9 1 fuel [F258_v1c fuel] (qc (F258_v1ok fuel) <| q0) L0

/-- wireschema/format.every[string] -/
def F95 (fuel : Nat) (a0 : List PV) (a1 : Unit) : Option (Bool) :=
 (F180_v1 fuel a0 () ()).bind fun y1 =>
 some (!y1.1)

def F95c (fuel : Nat) : CallE := ⟨95, ⟨2, [], [(.slice 9), (.con (.fn 96 0 []))]⟩, ⟨1, [], [.bool]⟩, fun x => F95 fuel x.1 x.2, false⟩

theorem F95ok (fuel : Nat) : (F95c fuel).Ok Tryz.prog := okI Tryz.f95 9 0 fuel [F180_v1c fuel] (qc (F180_v1ok fuel) <| q0) L0

/-- wireschema/format.texts$1 -/
def F97 (fuel : Nat) (a0 : PV) : Option (Bool) :=
 (F95 fuel ((a0.fld 3).asList) ()).bind fun y2 =>
 some y2

def F97c (fuel : Nat) : CallE := ⟨97, ⟨1, [], [(.data 61)]⟩, ⟨1, [], [.bool]⟩, fun x => F97 fuel x, false⟩

theorem F97ok (fuel : Nat) : (F97c fuel).Ok Tryz.prog := okI Tryz.f97 6 0 fuel [F95c fuel] (qc (F95ok fuel) <| q0) L0

/-- wireschema/format.every[wireschema/api.Message]$1 -/
def F184_v2 (fuel : Nat) (a0 : PV) (a1 : Unit) (a2 : Unit) : Option (Bool × Unit) :=
 (F97 fuel a0).bind fun y1 =>
 some ((!y1), ())

def F184_v2c (fuel : Nat) : CallE := ⟨184, ⟨2, [.box 102 .leaf], [(.data 61), (.con (.ref 0 [] 102)), (.con (.fn 97 0 []))]⟩, ⟨1, [.box 102 .leaf], [.bool, (.con (.fn 97 0 []))]⟩, fun x => F184_v2 fuel x.1 x.2.1 x.2.2, (false, ())⟩

theorem F184_v2ok (fuel : Nat) : (F184_v2c fuel).Ok Tryz.prog := okI Tryz.f184 8 1 fuel [F97c fuel] (qc (F97ok fuel) <| q0) L0

def S260_v2_3 (fuel : Nat) (a2 : List PV) (a3 : Unit) (a4 : Int) (a5 : Int) (a6 : Unit) : Option (((List PV) × Unit × Int × Int × Unit) ⊕ ((Int × Unit) ⊕ (Unit))) :=
 bif (decide (a5 < a4)) then
 bif inRange a5 a2.length then
 (F184_v2 fuel (a2.getD a5.toNat .bad) () ()).bind fun y9 =>
 bif y9.1 then
 some (.inr (.inl (a5, ())))
 else
 some (.inl (a2, (), a4, (IntKind.wrap .i64 (a5 + (1 : Int))), ()))
 else none
 else
 some (.inr (.inr ()))

def S260_v2_3step (fuel : Nat) (x : (List PV) × Unit × Int × Int × Unit) : Option (((List PV) × Unit × Int × Int × Unit) ⊕ ((Int × Unit) ⊕ (Unit))) := S260_v2_3 fuel x.1 x.2.1 x.2.2.1 x.2.2.2.1 x.2.2.2.2

/-- slices.IndexFunc[[]wireschema/api.Message,wireschema/api.Message] -/
def F260_v2 (fuel : Nat) (a0 : List PV) (a1 : Unit) (a2 : Unit) : Option (Int × Unit) :=
 (loopQ fuel (S260_v2_3step fuel) (a0, (), (a0.length : Int), (0 : Int), ())).bind fun z => sumE (fun y11 =>
 some (y11.1, ())
 ) (fun y12 =>
 some ((-1 : Int), ())
 ) z

def S260_v2_3l (fuel : Nat) : LoopE := ⟨3, ⟨[0, 1, 7, 8], [.box 102 .leaf], [(.slice 61), (.con (.fn 184 0 [(.ref 0 [] 102)])), (.int .i64), (.int .i64), (.con (.fn 97 0 []))]⟩, [(.ret, ⟨[4], [.box 102 .leaf], [(.int .i64), (.con (.fn 97 0 []))]⟩), (.exit 0, ⟨[], [.box 102 .leaf], [(.con (.fn 97 0 []))]⟩)], S260_v2_3step fuel⟩

def F260_v2C (fuel : Nat) : Cfg := cfg Tryz.prog 19 1 [F184_v2c fuel] [S260_v2_3l fuel] fuel

def F260_v2c (fuel : Nat) : CallE := ⟨260, ⟨2, [.box 102 .leaf], [(.slice 61), (.con (.fn 184 0 [(.ref 0 [] 102)])), (.con (.fn 97 0 []))]⟩, ⟨1, [.box 102 .leaf], [(.int .i64), (.con (.fn 97 0 []))]⟩, fun x => F260_v2 fuel x.1 x.2.1 x.2.2, (0, ())⟩

theorem F260_v2k (fuel : Nat) : CallOk (F260_v2C fuel) := cfg_callOk (qc (F184_v2ok fuel) <| q0)

theorem S260_v2_3ok (fuel : Nat) : LoopOk (F260_v2C fuel) (lp (bodyOf Tryz.f260) 0) := okL (F260_v2k fuel) fuel (S260_v2_3l fuel) L0

theorem F260_v2ok (fuel : Nat) : (F260_v2c fuel).Ok Tryz.prog := okE Tryz.f260 (F260_v2k fuel) (L1 (S260_v2_3ok fuel))

/-- slices.ContainsFunc[[]wireschema/api.Message,wireschema/api.Message] -/
def F183_v2 (fuel : Nat) (a0 : List PV) (a1 : Unit) (a2 : Unit) : Option (Bool × Unit) :=
 (F260_v2 fuel a0 () ()).bind fun y1 =>
 some ((decide (y1.1 ≥ (0 : Int))), ())

def F183_v2c (fuel : Nat) : CallE := ⟨183, ⟨2, [.box 102 .leaf], [(.slice 61), (.con (.fn 184 0 [(.ref 0 [] 102)])), (.con (.fn 97 0 []))]⟩, ⟨1, [.box 102 .leaf], [.bool, (.con (.fn 97 0 []))]⟩, fun x => F183_v2 fuel x.1 x.2.1 x.2.2, (false, ())⟩

theorem F183_v2ok (fuel : Nat) : (F183_v2c fuel).Ok Tryz.prog := okI Tryz.f183 9 1 fuel [F260_v2c fuel] (qc (F260_v2ok fuel) <| q0) L0

/-- wireschema/format.every[wireschema/api.Message] -/
def F73_v2 (fuel : Nat) (a0 : List PV) (a1 : Unit) : Option (Bool) :=
 (F183_v2 fuel a0 () ()).bind fun y1 =>
 some (!y1.1)

def F73_v2c (fuel : Nat) : CallE := ⟨73, ⟨2, [], [(.slice 61), (.con (.fn 97 0 []))]⟩, ⟨1, [], [.bool]⟩, fun x => F73_v2 fuel x.1 x.2, false⟩

theorem F73_v2ok (fuel : Nat) : (F73_v2c fuel).Ok Tryz.prog := okI Tryz.f73 9 0 fuel [F183_v2c fuel] (qc (F183_v2ok fuel) <| q0) L0

/-- wireschema/format.texts -/
def F30 (fuel : Nat) (a0 : PV) : Option (Bool) :=
 (F95 fuel ((a0.fld 2).asList) ()).bind fun y2 =>
 (bif y2 then F73_v2 fuel ((a0.fld 3).asList) () else some false).bind fun y4 =>
 some (bif y2 then y4 else false)

def F30c (fuel : Nat) : CallE := ⟨30, ⟨1, [], [(.data 27)]⟩, ⟨1, [], [.bool]⟩, fun x => F30 fuel x, false⟩

theorem F30ok (fuel : Nat) : (F30c fuel).Ok Tryz.prog := okI Tryz.f30 11 0 fuel [F95c fuel, F73_v2c fuel] (qc (F95ok fuel) <| qc (F73_v2ok fuel) <| q0) L0

def S31_8 (fuel : Nat) (a15 : Unit) (a16 : List PV) (a17 : List PV) (a18 : Int) (a19 : Int) (a20 : List PV) (a21 : Int) (a22 : Int) (a23 : PV) (a24 : PV) : Option ((Unit × (List PV) × (List PV) × Int × Int × (List PV) × Int × Int × PV × PV) ⊕ ((Unit × (List PV) × (List PV) × Int × Int × PV × PV))) :=
 bif (decide (a22 < a21)) then
 bif inRange a22 a20.length then
 let x27 := ((a20.getD a22.toNat .bad).fld 8).asList
 bif decide (a16.length + [(PV.agg [(PV.slice x27), (PV.int (2 : Int))])].length ≤ accMax) then
 some (.inl ((), (a16 ++ [(PV.agg [(PV.slice x27), (PV.int (2 : Int))])]), a17, a18, a19, a20, a21, (IntKind.wrap .i64 (a22 + (1 : Int))), a23, a24))
 else none
 else none
 else
 some (.inr ((), a16, a17, a18, a19, a23, a24))

def S31_8step (fuel : Nat) (x : Unit × (List PV) × (List PV) × Int × Int × (List PV) × Int × Int × PV × PV) : Option ((Unit × (List PV) × (List PV) × Int × Int × (List PV) × Int × Int × PV × PV) ⊕ ((Unit × (List PV) × (List PV) × Int × Int × PV × PV))) := S31_8 fuel x.1 x.2.1 x.2.2.1 x.2.2.2.1 x.2.2.2.2.1 x.2.2.2.2.2.1 x.2.2.2.2.2.2.1 x.2.2.2.2.2.2.2.1 x.2.2.2.2.2.2.2.2.1 x.2.2.2.2.2.2.2.2.2

def S31_4 (fuel : Nat) (a3 : Unit) (a4 : List PV) (a5 : List PV) (a6 : Int) (a7 : Int) (a8 : PV) : Option ((Unit × (List PV) × (List PV) × Int × Int × PV) ⊕ ((Unit × (List PV) × PV))) :=
 bif (decide (a7 < a6)) then
 bif inRange a7 a5.length then
 let x10 := a5.getD a7.toNat .bad
 let x11 := (x10.fld 4).asList
 bif decide (a4.length + [(PV.agg [(PV.slice x11), (PV.int (1 : Int))])].length ≤ accMax) then
 let x13 := (x10.fld 1).asList
 (loopQ fuel (S31_8step fuel) ((), (a4 ++ [(PV.agg [(PV.slice x11), (PV.int (1 : Int))])]), a5, a6, a7, x13, (x13.length : Int), (0 : Int), a8, x10)).bind fun y30 =>
 some (.inl ((), y30.2.1, y30.2.2.1, y30.2.2.2.1, (IntKind.wrap .i64 (y30.2.2.2.2.1 + (1 : Int))), y30.2.2.2.2.2.1))
 else none
 else none
 else
 some (.inr ((), a4, a8))

def S31_4step (fuel : Nat) (x : Unit × (List PV) × (List PV) × Int × Int × PV) : Option ((Unit × (List PV) × (List PV) × Int × Int × PV) ⊕ ((Unit × (List PV) × PV))) := S31_4 fuel x.1 x.2.1 x.2.2.1 x.2.2.2.1 x.2.2.2.2.1 x.2.2.2.2.2

def S31_18 (fuel : Nat) (a47 : Unit) (a48 : List PV) (a49 : List PV) (a50 : Int) (a51 : Int) (a52 : List PV) (a53 : Int) (a54 : Int) (a55 : PV) (a56 : PV) : Option ((Unit × (List PV) × (List PV) × Int × Int × (List PV) × Int × Int × PV × PV) ⊕ ((Unit × (List PV) × (List PV) × Int × Int × PV × PV))) :=
 bif (decide (a54 < a53)) then
 bif inRange a54 a52.length then
 let x59 := ((a52.getD a54.toNat .bad).fld 2).asList
 bif decide (a48.length + [(PV.agg [(PV.slice x59), (PV.int (4 : Int))])].length ≤ accMax) then
 some (.inl ((), (a48 ++ [(PV.agg [(PV.slice x59), (PV.int (4 : Int))])]), a49, a50, a51, a52, a53, (IntKind.wrap .i64 (a54 + (1 : Int))), a55, a56))
 else none
 else none
 else
 some (.inr ((), a48, a49, a50, a51, a55, a56))

def S31_18step (fuel : Nat) (x : Unit × (List PV) × (List PV) × Int × Int × (List PV) × Int × Int × PV × PV) : Option ((Unit × (List PV) × (List PV) × Int × Int × (List PV) × Int × Int × PV × PV) ⊕ ((Unit × (List PV) × (List PV) × Int × Int × PV × PV))) := S31_18 fuel x.1 x.2.1 x.2.2.1 x.2.2.2.1 x.2.2.2.2.1 x.2.2.2.2.2.1 x.2.2.2.2.2.2.1 x.2.2.2.2.2.2.2.1 x.2.2.2.2.2.2.2.2.1 x.2.2.2.2.2.2.2.2.2

def S31_14 (fuel : Nat) (a35 : Unit) (a36 : List PV) (a37 : List PV) (a38 : Int) (a39 : Int) (a40 : PV) : Option ((Unit × (List PV) × (List PV) × Int × Int × PV) ⊕ ((Unit × (List PV) × PV))) :=
 bif (decide (a39 < a38)) then
 bif inRange a39 a37.length then
 let x42 := a37.getD a39.toNat .bad
 let x43 := (x42.fld 4).asList
 bif decide (a36.length + [(PV.agg [(PV.slice x43), (PV.int (3 : Int))])].length ≤ accMax) then
 let x45 := (x42.fld 2).asList
 (loopQ fuel (S31_18step fuel) ((), (a36 ++ [(PV.agg [(PV.slice x43), (PV.int (3 : Int))])]), a37, a38, a39, x45, (x45.length : Int), (0 : Int), a40, x42)).bind fun y62 =>
 some (.inl ((), y62.2.1, y62.2.2.1, y62.2.2.2.1, (IntKind.wrap .i64 (y62.2.2.2.2.1 + (1 : Int))), y62.2.2.2.2.2.1))
 else none
 else none
 else
 some (.inr ((), a36, a40))

def S31_14step (fuel : Nat) (x : Unit × (List PV) × (List PV) × Int × Int × PV) : Option ((Unit × (List PV) × (List PV) × Int × Int × PV) ⊕ ((Unit × (List PV) × PV))) := S31_14 fuel x.1 x.2.1 x.2.2.1 x.2.2.2.1 x.2.2.2.2.1 x.2.2.2.2.2

def S31_28 (fuel : Nat) (a78 : List PV) (a79 : List PV) (a80 : Int) (a81 : Int) (a82 : List PV) (a83 : Int) (a84 : Int) (a85 : PV) (a86 : PV) : Option (((List PV) × (List PV) × Int × Int × (List PV) × Int × Int × PV × PV) ⊕ (((List PV) × (List PV) × Int × Int × PV × PV))) :=
 bif (decide (a84 < a83)) then
 bif inRange a84 a82.length then
 let x89 := ((a82.getD a84.toNat .bad).fld 4).asList
 bif decide (a78.length + [(PV.agg [(PV.slice x89), (PV.int (6 : Int))])].length ≤ accMax) then
 some (.inl ((a78 ++ [(PV.agg [(PV.slice x89), (PV.int (6 : Int))])]), a79, a80, a81, a82, a83, (IntKind.wrap .i64 (a84 + (1 : Int))), a85, a86))
 else none
 else none
 else
 some (.inr (a78, a79, a80, a81, a85, a86))

def S31_28step (fuel : Nat) (x : (List PV) × (List PV) × Int × Int × (List PV) × Int × Int × PV × PV) : Option (((List PV) × (List PV) × Int × Int × (List PV) × Int × Int × PV × PV) ⊕ (((List PV) × (List PV) × Int × Int × PV × PV))) := S31_28 fuel x.1 x.2.1 x.2.2.1 x.2.2.2.1 x.2.2.2.2.1 x.2.2.2.2.2.1 x.2.2.2.2.2.2.1 x.2.2.2.2.2.2.2.1 x.2.2.2.2.2.2.2.2

def S31_24 (fuel : Nat) (a67 : List PV) (a68 : List PV) (a69 : Int) (a70 : Int) (a71 : PV) : Option (((List PV) × (List PV) × Int × Int × PV) ⊕ (((List PV) × PV))) :=
 bif (decide (a70 < a69)) then
 bif inRange a70 a68.length then
 let x73 := a68.getD a70.toNat .bad
 let x74 := (x73.fld 2).asList
 bif decide (a67.length + [(PV.agg [(PV.slice x74), (PV.int (5 : Int))])].length ≤ accMax) then
 let x76 := (x73.fld 1).asList
 (loopQ fuel (S31_28step fuel) ((a67 ++ [(PV.agg [(PV.slice x74), (PV.int (5 : Int))])]), a68, a69, a70, x76, (x76.length : Int), (0 : Int), a71, x73)).bind fun y92 =>
 some (.inl (y92.1, y92.2.1, y92.2.2.1, (IntKind.wrap .i64 (y92.2.2.2.1 + (1 : Int))), y92.2.2.2.2.1))
 else none
 else none
 else
 some (.inr (a67, a71))

def S31_24step (fuel : Nat) (x : (List PV) × (List PV) × Int × Int × PV) : Option (((List PV) × (List PV) × Int × Int × PV) ⊕ (((List PV) × PV))) := S31_24 fuel x.1 x.2.1 x.2.2.1 x.2.2.2.1 x.2.2.2.2

/-- wireschema/format.notes -/
def F31 (fuel : Nat) (a0 : PV) : Option ((List PV)) :=
 let x1 := (a0.fld 3).asList
 (loopQ fuel (S31_4step fuel) ((), [], x1, (x1.length : Int), (0 : Int), a0)).bind fun y32 =>
 let x33 := (y32.2.2.fld 4).asList
 (loopQ fuel (S31_14step fuel) ((), y32.2.1, x33, (x33.length : Int), (0 : Int), y32.2.2)).bind fun y64 =>
 let x65 := (y64.2.2.fld 5).asList
 (loopQ fuel (S31_24step fuel) (y64.2.1, x65, (x65.length : Int), (0 : Int), y64.2.2)).bind fun y94 =>
 some y94.1

def S31_8l (fuel : Nat) : LoopE := ⟨8, ⟨[1, 3, 17, 18, 19, 30, 31, 32], [.box 27 .leaf, .acc, .box 61 .leaf], [(.con (.ref 0 [] 27)), (.acc 1 71), (.slice 61), (.int .i64), (.int .i64), (.slice 45), (.int .i64), (.int .i64), (.data 27), (.data 61)]⟩, [(.exit 2, ⟨[1, 3, 17, 18, 19], [.box 27 .leaf, .acc, .box 61 .leaf], [(.con (.ref 0 [] 27)), (.acc 1 71), (.slice 61), (.int .i64), (.int .i64), (.data 27), (.data 61)]⟩)], S31_8step fuel⟩

def S31_4l (fuel : Nat) : LoopE := ⟨4, ⟨[1, 3, 17, 18, 19], [.box 27 .leaf, .acc], [(.con (.ref 0 [] 27)), (.acc 1 71), (.slice 61), (.int .i64), (.int .i64), (.data 27)]⟩, [(.exit 0, ⟨[1, 3], [.box 27 .leaf, .acc], [(.con (.ref 0 [] 27)), (.acc 1 71), (.data 27)]⟩)], S31_4step fuel⟩

def S31_18l (fuel : Nat) : LoopE := ⟨18, ⟨[1, 3, 45, 46, 47, 58, 59, 60], [.box 27 .leaf, .acc, .box 64 .leaf], [(.con (.ref 0 [] 27)), (.acc 1 71), (.slice 64), (.int .i64), (.int .i64), (.slice 106), (.int .i64), (.int .i64), (.data 27), (.data 64)]⟩, [(.exit 6, ⟨[1, 3, 45, 46, 47], [.box 27 .leaf, .acc, .box 64 .leaf], [(.con (.ref 0 [] 27)), (.acc 1 71), (.slice 64), (.int .i64), (.int .i64), (.data 27), (.data 64)]⟩)], S31_18step fuel⟩

def S31_14l (fuel : Nat) : LoopE := ⟨14, ⟨[1, 3, 45, 46, 47], [.box 27 .leaf, .acc], [(.con (.ref 0 [] 27)), (.acc 1 71), (.slice 64), (.int .i64), (.int .i64), (.data 27)]⟩, [(.exit 4, ⟨[1, 3], [.box 27 .leaf, .acc], [(.con (.ref 0 [] 27)), (.acc 1 71), (.data 27)]⟩)], S31_14step fuel⟩

def S31_28l (fuel : Nat) : LoopE := ⟨28, ⟨[3, 73, 74, 75, 86, 87, 88], [.box 27 .leaf, .acc, .box 67 .leaf], [(.acc 1 71), (.slice 67), (.int .i64), (.int .i64), (.slice 112), (.int .i64), (.int .i64), (.data 27), (.data 67)]⟩, [(.exit 10, ⟨[3, 73, 74, 75], [.box 27 .leaf, .acc, .box 67 .leaf], [(.acc 1 71), (.slice 67), (.int .i64), (.int .i64), (.data 27), (.data 67)]⟩)], S31_28step fuel⟩

def S31_24l (fuel : Nat) : LoopE := ⟨24, ⟨[3, 73, 74, 75], [.box 27 .leaf, .acc], [(.acc 1 71), (.slice 67), (.int .i64), (.int .i64), (.data 27)]⟩, [(.exit 8, ⟨[3], [.box 27 .leaf, .acc], [(.acc 1 71), (.data 27)]⟩)], S31_24step fuel⟩

def F31C (fuel : Nat) : Cfg := cfg Tryz.prog 101 0 [] [S31_8l fuel, S31_4l fuel, S31_18l fuel, S31_14l fuel, S31_28l fuel, S31_24l fuel] fuel

def F31c (fuel : Nat) : CallE := ⟨31, ⟨1, [], [(.data 27)]⟩, ⟨1, [], [(.slice 71)]⟩, fun x => F31 fuel x, []⟩

theorem F31k (fuel : Nat) : CallOk (F31C fuel) := cfg_callOk (q0)

theorem S31_8ok (fuel : Nat) : LoopOk (F31C fuel) (lp (lp (bodyOf Tryz.f31) 0) 0) := okL (F31k fuel) fuel (S31_8l fuel) L0

theorem S31_4ok (fuel : Nat) : LoopOk (F31C fuel) (lp (bodyOf Tryz.f31) 0) := okL (F31k fuel) fuel (S31_4l fuel) (L1 (S31_8ok fuel))

theorem S31_18ok (fuel : Nat) : LoopOk (F31C fuel) (lp (lp (bodyOf Tryz.f31) 1) 0) := okL (F31k fuel) fuel (S31_18l fuel) L0

theorem S31_14ok (fuel : Nat) : LoopOk (F31C fuel) (lp (bodyOf Tryz.f31) 1) := okL (F31k fuel) fuel (S31_14l fuel) (L1 (S31_18ok fuel))

theorem S31_28ok (fuel : Nat) : LoopOk (F31C fuel) (lp (lp (bodyOf Tryz.f31) 2) 0) := okL (F31k fuel) fuel (S31_28l fuel) L0

theorem S31_24ok (fuel : Nat) : LoopOk (F31C fuel) (lp (bodyOf Tryz.f31) 2) := okL (F31k fuel) fuel (S31_24l fuel) (L1 (S31_28ok fuel))

theorem F31ok (fuel : Nat) : (F31c fuel).Ok Tryz.prog := okE Tryz.f31 (F31k fuel) (L3 (S31_4ok fuel) (S31_14ok fuel) (S31_24ok fuel))

/-- wireschema/note.known -/
def F203 (fuel : Nat)  : Option ((List (PV × PV))) :=
 some (PV.mput (PV.mput (PV.mput (PV.mput (PV.mput (PV.mput (PV.mput (PV.mput (PV.mput (PV.mput (PV.mput (PV.mput (PV.mput [] (PV.str ([100, 101, 112, 114, 101, 99, 97, 116, 101, 100] : List UInt8)) (PV.agg [(PV.int (1 : Int)), (PV.int (126 : Int))])) (PV.str ([100, 111, 99] : List UInt8)) (PV.agg [(PV.int (7 : Int)), (PV.int (126 : Int))])) (PV.str ([97, 108, 105, 97, 115] : List UInt8)) (PV.agg [(PV.int (7 : Int)), (PV.int (84 : Int))])) (PV.str ([115, 105, 110, 99, 101] : List UInt8)) (PV.agg [(PV.int (4 : Int)), (PV.int (84 : Int))])) (PV.str ([117, 110, 116, 105, 108] : List UInt8)) (PV.agg [(PV.int (4 : Int)), (PV.int (84 : Int))])) (PV.str ([109, 105, 110] : List UInt8)) (PV.agg [(PV.int (3 : Int)), (PV.int (4 : Int))])) (PV.str ([109, 97, 120] : List UInt8)) (PV.agg [(PV.int (3 : Int)), (PV.int (4 : Int))])) (PV.str ([108, 101, 110, 103, 116, 104] : List UInt8)) (PV.agg [(PV.int (4 : Int)), (PV.int (4 : Int))])) (PV.str ([115, 101, 99, 114, 101, 116] : List UInt8)) (PV.agg [(PV.int (1 : Int)), (PV.int (4 : Int))])) (PV.str ([105, 100, 101, 109, 112, 111, 116, 101, 110, 116] : List UInt8)) (PV.agg [(PV.int (1 : Int)), (PV.int (64 : Int))])) (PV.str ([116, 105, 109, 101, 111, 117, 116] : List UInt8)) (PV.agg [(PV.int (4 : Int)), (PV.int (64 : Int))])) (PV.str ([114, 111, 117, 116, 101] : List UInt8)) (PV.agg [(PV.int (7 : Int)), (PV.int (64 : Int))])) (PV.str ([111, 119, 110, 101, 114] : List UInt8)) (PV.agg [(PV.int (7 : Int)), (PV.int (34 : Int))]))

def F203c (fuel : Nat) : CallE := ⟨203, ⟨0, [], []⟩, ⟨1, [], [(.map 9 181)]⟩, fun x => F203 fuel , []⟩

theorem F203ok (fuel : Nat) : (F203c fuel).Ok Tryz.prog := okI Tryz.f203 16 0 fuel [] (q0) L0

/-- wireschema/note.Kind -/
def F271 (fuel : Nat) (a0 : List UInt8) : Option (Int) :=
 (F203 fuel).bind fun y1 =>
 let x2 := (PV.mget y1 (PV.str a0)).getD (PV.agg [(PV.int (0 : Int)), (PV.int (0 : Int))])
 some ((x2.fld 0).asInt)

def F271c (fuel : Nat) : CallE := ⟨271, ⟨1, [], [.str]⟩, ⟨1, [], [(.int .i64)]⟩, fun x => F271 fuel x, 0⟩

theorem F271ok (fuel : Nat) : (F271c fuel).Ok Tryz.prog := okI Tryz.f271 7 0 fuel [F203c fuel] (qc (F203ok fuel) <| q0) L0

/-- wireschema/note.right -/
def F204 (fuel : Nat) (a0 : PV) : Option (Bool) :=
 (F271 fuel ((a0.fld 0).asStr)).bind fun y2 =>
 let x3 := y2 != (0 : Int)
 (bif x3 then F51 fuel y2 (a0.fld 1) else some false).bind fun y5 =>
 some (bif x3 then y5 else false)

def F204c (fuel : Nat) : CallE := ⟨204, ⟨1, [], [(.data 119)]⟩, ⟨1, [], [.bool]⟩, fun x => F204 fuel x, false⟩

theorem F204ok (fuel : Nat) : (F204c fuel).Ok Tryz.prog := okI Tryz.f204 15 0 fuel [F271c fuel, F51c fuel] (qc (F271ok fuel) <| qc (F51ok fuel) <| q0) L0

/-- wireschema/note.one -/
def F98 (fuel : Nat) (a0 : PV) (a1 : Int) (a2 : List UInt8) (a3 : Bool) : Option (Int) :=
 (F203 fuel).bind fun y1 =>
 let x2 := (a0.fld 0).asStr
 let x3 := (PV.mget y1 (PV.str x2)).getD (PV.agg [(PV.int (0 : Int)), (PV.int (0 : Int))])
 bif (!(PV.mhas y1 (PV.str x2))) then
 some (8 : Int)
 else
 let x8 := bif (decide (a1 < (1 : Int))) then true else (decide (a1 > (6 : Int)))
 bif imp (!x8) (decide (0 ≤ a1)) then
 bif (bif x8 then true else ((bitsI .and .i64 (((x3.fld 1).asInt).fdiv (2 ^ (min a1.toNat (IntKind.bits .i64)))) (1 : Int)) == (0 : Int))) then
 some (1 : Int)
 else
 (F204 fuel a0).bind fun y14 =>
 bif (!y14) then
 some (12 : Int)
 else
 bif (bif a3 then (Op.bytesLess ((a0.fld 0).asStr) a2) else false) then
 some (11 : Int)
 else
 bif (bif a3 then (((a0.fld 0).asStr) == a2) else false) then
 some (9 : Int)
 else
 some (0 : Int)
 else none

def F98c (fuel : Nat) : CallE := ⟨98, ⟨4, [], [(.data 119), (.int .i64), .str, .bool]⟩, ⟨1, [], [(.int .i64)]⟩, fun x => F98 fuel x.1 x.2.1 x.2.2.1 x.2.2.2, 0⟩

theorem F98ok (fuel : Nat) : (F98c fuel).Ok Tryz.prog := okI Tryz.f98 56 0 fuel [F203c fuel, F204c fuel] (qc (F203ok fuel) <| qc (F204ok fuel) <| q0) L0

def S32_6 (fuel : Nat) (a4 : Int) (a5 : List UInt8) (a6 : List PV) (a7 : Int) (a8 : Int) : Option ((Int × (List UInt8) × (List PV) × Int × Int) ⊕ ((Int) ⊕ (Unit))) :=
 bif (decide (a8 < a7)) then
 bif inRange a8 a6.length then
 let x10 := a6.getD a8.toNat .bad
 (F98 fuel x10 a4 a5 (decide (a8 > (0 : Int)))).bind fun y12 =>
 bif (y12 != (0 : Int)) then
 some (.inr (.inl y12))
 else
 some (.inl (a4, ((x10.fld 0).asStr), a6, a7, (IntKind.wrap .i64 (a8 + (1 : Int)))))
 else none
 else
 some (.inr (.inr ()))

def S32_6step (fuel : Nat) (x : Int × (List UInt8) × (List PV) × Int × Int) : Option ((Int × (List UInt8) × (List PV) × Int × Int) ⊕ ((Int) ⊕ (Unit))) := S32_6 fuel x.1 x.2.1 x.2.2.1 x.2.2.2.1 x.2.2.2.2

/-- wireschema/note.Check -/
def F32 (fuel : Nat) (a0 : List PV) (a1 : Int) : Option (Int) :=
 bif (decide ((a0.length : Int) > (8 : Int))) then
 some (3 : Int)
 else
 (loopQ fuel (S32_6step fuel) (a1, ([] : List UInt8), a0, (a0.length : Int), (0 : Int))).bind fun z => sumE (fun y16 =>
 some y16
 ) (fun y17 =>
 some (0 : Int)
 ) z

def S32_6l (fuel : Nat) : LoopE := ⟨6, ⟨[1, 5, 12, 13, 14], [], [(.int .i64), .str, (.slice 119), (.int .i64), (.int .i64)]⟩, [(.ret, ⟨[4], [], [(.int .i64)]⟩), (.exit 0, ⟨[], [], []⟩)], S32_6step fuel⟩

def F32C (fuel : Nat) : Cfg := cfg Tryz.prog 31 0 [F98c fuel] [S32_6l fuel] fuel

def F32c (fuel : Nat) : CallE := ⟨32, ⟨2, [], [(.slice 119), (.int .i64)]⟩, ⟨1, [], [(.int .i64)]⟩, fun x => F32 fuel x.1 x.2, 0⟩

theorem F32k (fuel : Nat) : CallOk (F32C fuel) := cfg_callOk (qc (F98ok fuel) <| q0)

theorem S32_6ok (fuel : Nat) : LoopOk (F32C fuel) (lp (bodyOf Tryz.f32) 0) := okL (F32k fuel) fuel (S32_6l fuel) L0

theorem F32ok (fuel : Nat) : (F32c fuel).Ok Tryz.prog := okE Tryz.f32 (F32k fuel) (L1 (S32_6ok fuel))

/-- wireschema/format.counts$1 -/
def F99 (fuel : Nat) (a0 : PV) : Option (Bool) :=
 let x5 := (((a0.fld 2).asList).length : Int)
 let x7 := (((a0.fld 3).asList).length : Int)
 some (bif (decide ((((a0.fld 1).asList).length : Int) ≤ (64 : Int))) then (decide ((if x7 > x5 then x7 else x5) ≤ (16 : Int))) else false)

def F99c (fuel : Nat) : CallE := ⟨99, ⟨1, [], [(.data 61)]⟩, ⟨1, [], [.bool]⟩, fun x => F99 fuel x, false⟩

theorem F99ok (fuel : Nat) : (F99c fuel).Ok Tryz.prog := okI Tryz.f99 17 0 fuel [] (q0) L0

/-- wireschema/format.every[wireschema/api.Message]$1 -/
def F184_v3 (fuel : Nat) (a0 : PV) (a1 : Unit) (a2 : Unit) : Option (Bool × Unit) :=
 (F99 fuel a0).bind fun y1 =>
 some ((!y1), ())

def F184_v3c (fuel : Nat) : CallE := ⟨184, ⟨2, [.box 102 .leaf], [(.data 61), (.con (.ref 0 [] 102)), (.con (.fn 99 0 []))]⟩, ⟨1, [.box 102 .leaf], [.bool, (.con (.fn 99 0 []))]⟩, fun x => F184_v3 fuel x.1 x.2.1 x.2.2, (false, ())⟩

theorem F184_v3ok (fuel : Nat) : (F184_v3c fuel).Ok Tryz.prog := okI Tryz.f184 8 1 fuel [F99c fuel] (qc (F99ok fuel) <| q0) L0

def S260_v3_3 (fuel : Nat) (a2 : List PV) (a3 : Unit) (a4 : Int) (a5 : Int) (a6 : Unit) : Option (((List PV) × Unit × Int × Int × Unit) ⊕ ((Int × Unit) ⊕ (Unit))) :=
 bif (decide (a5 < a4)) then
 bif inRange a5 a2.length then
 (F184_v3 fuel (a2.getD a5.toNat .bad) () ()).bind fun y9 =>
 bif y9.1 then
 some (.inr (.inl (a5, ())))
 else
 some (.inl (a2, (), a4, (IntKind.wrap .i64 (a5 + (1 : Int))), ()))
 else none
 else
 some (.inr (.inr ()))

def S260_v3_3step (fuel : Nat) (x : (List PV) × Unit × Int × Int × Unit) : Option (((List PV) × Unit × Int × Int × Unit) ⊕ ((Int × Unit) ⊕ (Unit))) := S260_v3_3 fuel x.1 x.2.1 x.2.2.1 x.2.2.2.1 x.2.2.2.2

/-- slices.IndexFunc[[]wireschema/api.Message,wireschema/api.Message] -/
def F260_v3 (fuel : Nat) (a0 : List PV) (a1 : Unit) (a2 : Unit) : Option (Int × Unit) :=
 (loopQ fuel (S260_v3_3step fuel) (a0, (), (a0.length : Int), (0 : Int), ())).bind fun z => sumE (fun y11 =>
 some (y11.1, ())
 ) (fun y12 =>
 some ((-1 : Int), ())
 ) z

def S260_v3_3l (fuel : Nat) : LoopE := ⟨3, ⟨[0, 1, 7, 8], [.box 102 .leaf], [(.slice 61), (.con (.fn 184 0 [(.ref 0 [] 102)])), (.int .i64), (.int .i64), (.con (.fn 99 0 []))]⟩, [(.ret, ⟨[4], [.box 102 .leaf], [(.int .i64), (.con (.fn 99 0 []))]⟩), (.exit 0, ⟨[], [.box 102 .leaf], [(.con (.fn 99 0 []))]⟩)], S260_v3_3step fuel⟩

def F260_v3C (fuel : Nat) : Cfg := cfg Tryz.prog 19 1 [F184_v3c fuel] [S260_v3_3l fuel] fuel

def F260_v3c (fuel : Nat) : CallE := ⟨260, ⟨2, [.box 102 .leaf], [(.slice 61), (.con (.fn 184 0 [(.ref 0 [] 102)])), (.con (.fn 99 0 []))]⟩, ⟨1, [.box 102 .leaf], [(.int .i64), (.con (.fn 99 0 []))]⟩, fun x => F260_v3 fuel x.1 x.2.1 x.2.2, (0, ())⟩

theorem F260_v3k (fuel : Nat) : CallOk (F260_v3C fuel) := cfg_callOk (qc (F184_v3ok fuel) <| q0)

theorem S260_v3_3ok (fuel : Nat) : LoopOk (F260_v3C fuel) (lp (bodyOf Tryz.f260) 0) := okL (F260_v3k fuel) fuel (S260_v3_3l fuel) L0

theorem F260_v3ok (fuel : Nat) : (F260_v3c fuel).Ok Tryz.prog := okE Tryz.f260 (F260_v3k fuel) (L1 (S260_v3_3ok fuel))

/-- slices.ContainsFunc[[]wireschema/api.Message,wireschema/api.Message] -/
def F183_v3 (fuel : Nat) (a0 : List PV) (a1 : Unit) (a2 : Unit) : Option (Bool × Unit) :=
 (F260_v3 fuel a0 () ()).bind fun y1 =>
 some ((decide (y1.1 ≥ (0 : Int))), ())

def F183_v3c (fuel : Nat) : CallE := ⟨183, ⟨2, [.box 102 .leaf], [(.slice 61), (.con (.fn 184 0 [(.ref 0 [] 102)])), (.con (.fn 99 0 []))]⟩, ⟨1, [.box 102 .leaf], [.bool, (.con (.fn 99 0 []))]⟩, fun x => F183_v3 fuel x.1 x.2.1 x.2.2, (false, ())⟩

theorem F183_v3ok (fuel : Nat) : (F183_v3c fuel).Ok Tryz.prog := okI Tryz.f183 9 1 fuel [F260_v3c fuel] (qc (F260_v3ok fuel) <| q0) L0

/-- wireschema/format.every[wireschema/api.Message] -/
def F73_v3 (fuel : Nat) (a0 : List PV) (a1 : Unit) : Option (Bool) :=
 (F183_v3 fuel a0 () ()).bind fun y1 =>
 some (!y1.1)

def F73_v3c (fuel : Nat) : CallE := ⟨73, ⟨2, [], [(.slice 61), (.con (.fn 99 0 []))]⟩, ⟨1, [], [.bool]⟩, fun x => F73_v3 fuel x.1 x.2, false⟩

theorem F73_v3ok (fuel : Nat) : (F73_v3c fuel).Ok Tryz.prog := okI Tryz.f73 9 0 fuel [F183_v3c fuel] (qc (F183_v3ok fuel) <| q0) L0

/-- wireschema/format.counts$2 -/
def F100 (fuel : Nat) (a0 : PV) : Option (Bool) :=
 some (bif (decide ((((a0.fld 2).asList).length : Int) ≤ (64 : Int))) then (decide ((((a0.fld 3).asList).length : Int) ≤ (16 : Int))) else false)

def F100c (fuel : Nat) : CallE := ⟨100, ⟨1, [], [(.data 64)]⟩, ⟨1, [], [.bool]⟩, fun x => F100 fuel x, false⟩

theorem F100ok (fuel : Nat) : (F100c fuel).Ok Tryz.prog := okI Tryz.f100 13 0 fuel [] (q0) L0

/-- wireschema/format.every[wireschema/api.Enum]$1 -/
def F190_v2 (fuel : Nat) (a0 : PV) (a1 : Unit) (a2 : Unit) : Option (Bool × Unit) :=
 (F100 fuel a0).bind fun y1 =>
 some ((!y1), ())

def F190_v2c (fuel : Nat) : CallE := ⟨190, ⟨2, [.box 108 .leaf], [(.data 64), (.con (.ref 0 [] 108)), (.con (.fn 100 0 []))]⟩, ⟨1, [.box 108 .leaf], [.bool, (.con (.fn 100 0 []))]⟩, fun x => F190_v2 fuel x.1 x.2.1 x.2.2, (false, ())⟩

theorem F190_v2ok (fuel : Nat) : (F190_v2c fuel).Ok Tryz.prog := okI Tryz.f190 8 1 fuel [F100c fuel] (qc (F100ok fuel) <| q0) L0

def S263_v2_3 (fuel : Nat) (a2 : List PV) (a3 : Unit) (a4 : Int) (a5 : Int) (a6 : Unit) : Option (((List PV) × Unit × Int × Int × Unit) ⊕ ((Int × Unit) ⊕ (Unit))) :=
 bif (decide (a5 < a4)) then
 bif inRange a5 a2.length then
 (F190_v2 fuel (a2.getD a5.toNat .bad) () ()).bind fun y9 =>
 bif y9.1 then
 some (.inr (.inl (a5, ())))
 else
 some (.inl (a2, (), a4, (IntKind.wrap .i64 (a5 + (1 : Int))), ()))
 else none
 else
 some (.inr (.inr ()))

def S263_v2_3step (fuel : Nat) (x : (List PV) × Unit × Int × Int × Unit) : Option (((List PV) × Unit × Int × Int × Unit) ⊕ ((Int × Unit) ⊕ (Unit))) := S263_v2_3 fuel x.1 x.2.1 x.2.2.1 x.2.2.2.1 x.2.2.2.2

/-- slices.IndexFunc[[]wireschema/api.Enum,wireschema/api.Enum] -/
def F263_v2 (fuel : Nat) (a0 : List PV) (a1 : Unit) (a2 : Unit) : Option (Int × Unit) :=
 (loopQ fuel (S263_v2_3step fuel) (a0, (), (a0.length : Int), (0 : Int), ())).bind fun z => sumE (fun y11 =>
 some (y11.1, ())
 ) (fun y12 =>
 some ((-1 : Int), ())
 ) z

def S263_v2_3l (fuel : Nat) : LoopE := ⟨3, ⟨[0, 1, 7, 8], [.box 108 .leaf], [(.slice 64), (.con (.fn 190 0 [(.ref 0 [] 108)])), (.int .i64), (.int .i64), (.con (.fn 100 0 []))]⟩, [(.ret, ⟨[4], [.box 108 .leaf], [(.int .i64), (.con (.fn 100 0 []))]⟩), (.exit 0, ⟨[], [.box 108 .leaf], [(.con (.fn 100 0 []))]⟩)], S263_v2_3step fuel⟩

def F263_v2C (fuel : Nat) : Cfg := cfg Tryz.prog 19 1 [F190_v2c fuel] [S263_v2_3l fuel] fuel

def F263_v2c (fuel : Nat) : CallE := ⟨263, ⟨2, [.box 108 .leaf], [(.slice 64), (.con (.fn 190 0 [(.ref 0 [] 108)])), (.con (.fn 100 0 []))]⟩, ⟨1, [.box 108 .leaf], [(.int .i64), (.con (.fn 100 0 []))]⟩, fun x => F263_v2 fuel x.1 x.2.1 x.2.2, (0, ())⟩

theorem F263_v2k (fuel : Nat) : CallOk (F263_v2C fuel) := cfg_callOk (qc (F190_v2ok fuel) <| q0)

theorem S263_v2_3ok (fuel : Nat) : LoopOk (F263_v2C fuel) (lp (bodyOf Tryz.f263) 0) := okL (F263_v2k fuel) fuel (S263_v2_3l fuel) L0

theorem F263_v2ok (fuel : Nat) : (F263_v2c fuel).Ok Tryz.prog := okE Tryz.f263 (F263_v2k fuel) (L1 (S263_v2_3ok fuel))

/-- slices.ContainsFunc[[]wireschema/api.Enum,wireschema/api.Enum] -/
def F189_v2 (fuel : Nat) (a0 : List PV) (a1 : Unit) (a2 : Unit) : Option (Bool × Unit) :=
 (F263_v2 fuel a0 () ()).bind fun y1 =>
 some ((decide (y1.1 ≥ (0 : Int))), ())

def F189_v2c (fuel : Nat) : CallE := ⟨189, ⟨2, [.box 108 .leaf], [(.slice 64), (.con (.fn 190 0 [(.ref 0 [] 108)])), (.con (.fn 100 0 []))]⟩, ⟨1, [.box 108 .leaf], [.bool, (.con (.fn 100 0 []))]⟩, fun x => F189_v2 fuel x.1 x.2.1 x.2.2, (false, ())⟩

theorem F189_v2ok (fuel : Nat) : (F189_v2c fuel).Ok Tryz.prog := okI Tryz.f189 9 1 fuel [F263_v2c fuel] (qc (F263_v2ok fuel) <| q0) L0

/-- wireschema/format.every[wireschema/api.Enum] -/
def F79_v2 (fuel : Nat) (a0 : List PV) (a1 : Unit) : Option (Bool) :=
 (F189_v2 fuel a0 () ()).bind fun y1 =>
 some (!y1.1)

def F79_v2c (fuel : Nat) : CallE := ⟨79, ⟨2, [], [(.slice 64), (.con (.fn 100 0 []))]⟩, ⟨1, [], [.bool]⟩, fun x => F79_v2 fuel x.1 x.2, false⟩

theorem F79_v2ok (fuel : Nat) : (F79_v2c fuel).Ok Tryz.prog := okI Tryz.f79 9 0 fuel [F189_v2c fuel] (qc (F189_v2ok fuel) <| q0) L0

/-- wireschema/format.counts$3 -/
def F101 (fuel : Nat) (a0 : PV) : Option (Bool) :=
 some (decide ((((a0.fld 1).asList).length : Int) ≤ (64 : Int)))

def F101c (fuel : Nat) : CallE := ⟨101, ⟨1, [], [(.data 67)]⟩, ⟨1, [], [.bool]⟩, fun x => F101 fuel x, false⟩

theorem F101ok (fuel : Nat) : (F101c fuel).Ok Tryz.prog := okI Tryz.f101 7 0 fuel [] (q0) L0

/-- wireschema/format.every[wireschema/api.Service]$1 -/
def F194_v2 (fuel : Nat) (a0 : PV) (a1 : Unit) (a2 : Unit) : Option (Bool × Unit) :=
 (F101 fuel a0).bind fun y1 =>
 some ((!y1), ())

def F194_v2c (fuel : Nat) : CallE := ⟨194, ⟨2, [.box 114 .leaf], [(.data 67), (.con (.ref 0 [] 114)), (.con (.fn 101 0 []))]⟩, ⟨1, [.box 114 .leaf], [.bool, (.con (.fn 101 0 []))]⟩, fun x => F194_v2 fuel x.1 x.2.1 x.2.2, (false, ())⟩

theorem F194_v2ok (fuel : Nat) : (F194_v2c fuel).Ok Tryz.prog := okI Tryz.f194 8 1 fuel [F101c fuel] (qc (F101ok fuel) <| q0) L0

def S265_v2_3 (fuel : Nat) (a2 : List PV) (a3 : Unit) (a4 : Int) (a5 : Int) (a6 : Unit) : Option (((List PV) × Unit × Int × Int × Unit) ⊕ ((Int × Unit) ⊕ (Unit))) :=
 bif (decide (a5 < a4)) then
 bif inRange a5 a2.length then
 (F194_v2 fuel (a2.getD a5.toNat .bad) () ()).bind fun y9 =>
 bif y9.1 then
 some (.inr (.inl (a5, ())))
 else
 some (.inl (a2, (), a4, (IntKind.wrap .i64 (a5 + (1 : Int))), ()))
 else none
 else
 some (.inr (.inr ()))

def S265_v2_3step (fuel : Nat) (x : (List PV) × Unit × Int × Int × Unit) : Option (((List PV) × Unit × Int × Int × Unit) ⊕ ((Int × Unit) ⊕ (Unit))) := S265_v2_3 fuel x.1 x.2.1 x.2.2.1 x.2.2.2.1 x.2.2.2.2

/-- slices.IndexFunc[[]wireschema/api.Service,wireschema/api.Service] -/
def F265_v2 (fuel : Nat) (a0 : List PV) (a1 : Unit) (a2 : Unit) : Option (Int × Unit) :=
 (loopQ fuel (S265_v2_3step fuel) (a0, (), (a0.length : Int), (0 : Int), ())).bind fun z => sumE (fun y11 =>
 some (y11.1, ())
 ) (fun y12 =>
 some ((-1 : Int), ())
 ) z

def S265_v2_3l (fuel : Nat) : LoopE := ⟨3, ⟨[0, 1, 7, 8], [.box 114 .leaf], [(.slice 67), (.con (.fn 194 0 [(.ref 0 [] 114)])), (.int .i64), (.int .i64), (.con (.fn 101 0 []))]⟩, [(.ret, ⟨[4], [.box 114 .leaf], [(.int .i64), (.con (.fn 101 0 []))]⟩), (.exit 0, ⟨[], [.box 114 .leaf], [(.con (.fn 101 0 []))]⟩)], S265_v2_3step fuel⟩

def F265_v2C (fuel : Nat) : Cfg := cfg Tryz.prog 19 1 [F194_v2c fuel] [S265_v2_3l fuel] fuel

def F265_v2c (fuel : Nat) : CallE := ⟨265, ⟨2, [.box 114 .leaf], [(.slice 67), (.con (.fn 194 0 [(.ref 0 [] 114)])), (.con (.fn 101 0 []))]⟩, ⟨1, [.box 114 .leaf], [(.int .i64), (.con (.fn 101 0 []))]⟩, fun x => F265_v2 fuel x.1 x.2.1 x.2.2, (0, ())⟩

theorem F265_v2k (fuel : Nat) : CallOk (F265_v2C fuel) := cfg_callOk (qc (F194_v2ok fuel) <| q0)

theorem S265_v2_3ok (fuel : Nat) : LoopOk (F265_v2C fuel) (lp (bodyOf Tryz.f265) 0) := okL (F265_v2k fuel) fuel (S265_v2_3l fuel) L0

theorem F265_v2ok (fuel : Nat) : (F265_v2c fuel).Ok Tryz.prog := okE Tryz.f265 (F265_v2k fuel) (L1 (S265_v2_3ok fuel))

/-- slices.ContainsFunc[[]wireschema/api.Service,wireschema/api.Service] -/
def F193_v2 (fuel : Nat) (a0 : List PV) (a1 : Unit) (a2 : Unit) : Option (Bool × Unit) :=
 (F265_v2 fuel a0 () ()).bind fun y1 =>
 some ((decide (y1.1 ≥ (0 : Int))), ())

def F193_v2c (fuel : Nat) : CallE := ⟨193, ⟨2, [.box 114 .leaf], [(.slice 67), (.con (.fn 194 0 [(.ref 0 [] 114)])), (.con (.fn 101 0 []))]⟩, ⟨1, [.box 114 .leaf], [.bool, (.con (.fn 101 0 []))]⟩, fun x => F193_v2 fuel x.1 x.2.1 x.2.2, (false, ())⟩

theorem F193_v2ok (fuel : Nat) : (F193_v2c fuel).Ok Tryz.prog := okI Tryz.f193 9 1 fuel [F265_v2c fuel] (qc (F265_v2ok fuel) <| q0) L0

/-- wireschema/format.every[wireschema/api.Service] -/
def F83_v2 (fuel : Nat) (a0 : List PV) (a1 : Unit) : Option (Bool) :=
 (F193_v2 fuel a0 () ()).bind fun y1 =>
 some (!y1.1)

def F83_v2c (fuel : Nat) : CallE := ⟨83, ⟨2, [], [(.slice 67), (.con (.fn 101 0 []))]⟩, ⟨1, [], [.bool]⟩, fun x => F83_v2 fuel x.1 x.2, false⟩

theorem F83_v2ok (fuel : Nat) : (F83_v2c fuel).Ok Tryz.prog := okI Tryz.f83 9 0 fuel [F193_v2c fuel] (qc (F193_v2ok fuel) <| q0) L0

/-- wireschema/format.counts -/
def F33 (fuel : Nat) (a0 : PV) : Option (Bool) :=
 let x5 := (((a0.fld 3).asList).length : Int)
 let x7 := (((a0.fld 4).asList).length : Int)
 let x9 := (((a0.fld 5).asList).length : Int)
 let x10 := if x9 > (if x7 > x5 then x7 else x5) then x9 else (if x7 > x5 then x7 else x5)
 bif (bif (decide ((((a0.fld 2).asList).length : Int) > (16 : Int))) then true else (decide (x10 > (64 : Int)))) then
 some false
 else
 (F73_v3 fuel ((a0.fld 3).asList) ()).bind fun y14 =>
 (bif y14 then F79_v2 fuel ((a0.fld 4).asList) () else some false).bind fun y16 =>
 let x17 := bif y14 then y16 else false
 (bif x17 then F83_v2 fuel ((a0.fld 5).asList) () else some false).bind fun y19 =>
 some (bif x17 then y19 else false)

def F33c (fuel : Nat) : CallE := ⟨33, ⟨1, [], [(.data 27)]⟩, ⟨1, [], [.bool]⟩, fun x => F33 fuel x, false⟩

theorem F33ok (fuel : Nat) : (F33c fuel).Ok Tryz.prog := okI Tryz.f33 33 0 fuel [F73_v3c fuel, F79_v2c fuel, F83_v2c fuel] (qc (F73_v3ok fuel) <| qc (F79_v2ok fuel) <| qc (F83_v2ok fuel) <| q0) L0

/-- (*wireschema/format.printer).line -/
def F102 (fuel : Nat) (a0 : Unit) (a1 : Int) (a2 : List UInt8) (a3 : List UInt8) : Option ((List UInt8)) :=
 (Lrepeat fuel ([32, 32] : List UInt8) a1).bind fun y1 =>
 bif decide (y1.length + a2.length ≤ strMax) then
 let x2 := y1 ++ a2
 bif decide (x2.length + ([10] : List UInt8).length ≤ strMax) then
 (LwriteString fuel (x2 ++ ([10] : List UInt8)) a3).bind fun y4 =>
 some y4.2.2
 else none
 else none

def F102c (fuel : Nat) : CallE := ⟨102, ⟨3, [.bld 127], [(.con (.bref 0 127)), (.int .i64), .str, .str]⟩, ⟨0, [.bld 127], [.str]⟩, fun x => F102 fuel x.1 x.2.1 x.2.2.1 x.2.2.2, []⟩

theorem F102ok (fuel : Nat) : (F102c fuel).Ok Tryz.prog := okI Tryz.f102 15 1 fuel [Lrepeatc fuel, LwriteString_127c fuel] (qc (Lrepeatok fuel) <| qc (LwriteString_127ok fuel) <| q0) L0

/-- wireschema/utf.escape -/
def F224 (fuel : Nat) (a0 : Int) : Option ((List UInt8)) :=
 let x1 := a0.fdiv (2 ^ (min (4 : Int).toNat (IntKind.bits .u8)))
 let x3 := IntKind.wrap .u8 ((a0.fdiv (2 ^ (min (4 : Int).toNat (IntKind.bits .u8)))) + (1 : Int))
 bif decide (0 ≤ x1 ∧ x1 ≤ x3 ∧ x3 ≤ (([48, 49, 50, 51, 52, 53, 54, 55, 56, 57, 97, 98, 99, 100, 101, 102] : List UInt8).length : Int)) then
 let x4 := (([48, 49, 50, 51, 52, 53, 54, 55, 56, 57, 97, 98, 99, 100, 101, 102] : List UInt8).take x3.toNat).drop x1.toNat
 bif decide (([92, 120] : List UInt8).length + x4.length ≤ strMax) then
 let x5 := bitsI .and .u8 a0 (15 : Int)
 let x7 := IntKind.wrap .u8 ((bitsI .and .u8 a0 (15 : Int)) + (1 : Int))
 bif decide (0 ≤ x5 ∧ x5 ≤ x7 ∧ x7 ≤ (([48, 49, 50, 51, 52, 53, 54, 55, 56, 57, 97, 98, 99, 100, 101, 102] : List UInt8).length : Int)) then
 let x8 := (([48, 49, 50, 51, 52, 53, 54, 55, 56, 57, 97, 98, 99, 100, 101, 102] : List UInt8).take x7.toNat).drop x5.toNat
 bif decide ((([92, 120] : List UInt8) ++ x4).length + x8.length ≤ strMax) then
 some ((([92, 120] : List UInt8) ++ x4) ++ x8)
 else none
 else none
 else none
 else none

def F224c (fuel : Nat) : CallE := ⟨224, ⟨1, [], [(.int .u8)]⟩, ⟨1, [], [.str]⟩, fun x => F224 fuel x, []⟩

theorem F224ok (fuel : Nat) : (F224c fuel).Ok Tryz.prog := okI Tryz.f224 17 0 fuel [] (q0) L0

/-- wireschema/utf.form -/
def F134 (fuel : Nat) (a0 : List UInt8) (a1 : Int) (a2 : Int) : Option ((List UInt8)) :=
 bif (a2 == (34 : Int)) then
 some ([92, 34] : List UInt8)
 else
 bif (a2 == (92 : Int)) then
 some ([92, 92] : List UInt8)
 else
 bif (a2 == (10 : Int)) then
 some ([92, 110] : List UInt8)
 else
 bif (a2 == (9 : Int)) then
 some ([92, 116] : List UInt8)
 else
 bif (a2 == (13 : Int)) then
 some ([92, 114] : List UInt8)
 else
 let x8 := bif (decide (a2 < (32 : Int))) then true else (a2 == (127 : Int))
 (bif !x8 then F223 fuel a0 a1 a2 else some false).bind fun y9 =>
 bif (bif x8 then true else y9) then
 bif inRange a1 a0.length then
 (F224 fuel ((a0.getD a1.toNat 0).toNat : Int)).bind fun y12 =>
 some y12
 else none
 else
 some ((Utf8.encode a2).data.toList)

def F134c (fuel : Nat) : CallE := ⟨134, ⟨3, [], [.str, (.int .i64), (.int .i32)]⟩, ⟨1, [], [.str]⟩, fun x => F134 fuel x.1 x.2.1 x.2.2, []⟩

theorem F134ok (fuel : Nat) : (F134c fuel).Ok Tryz.prog := okI Tryz.f134 41 0 fuel [F223c fuel, F224c fuel] (qc (F223ok fuel) <| qc (F224ok fuel) <| q0) L0

def S52_5 (fuel : Nat) (a2 : List UInt8) (a3 : Unit) (a4 : Unit) (a5 : List UInt8) (a6 : List UInt8) (a7 : Int) : Option (((List UInt8) × Unit × Unit × (List UInt8) × (List UInt8) × Int) ⊕ ((Unit × (List UInt8) × (List UInt8) × Int))) :=
 bif (decide (a7.toNat < a6.length)) then
 bif decide (a7.toNat < a6.length) then
 bif decide (a7.toNat < a6.length) then
 (F134 fuel a2 (a7.toNat : Int) ((Utf8.decode ⟨a6.toArray⟩ a7.toNat).1 : Int)).bind fun y11 =>
 (LwriteString fuel y11 a5).bind fun y12 =>
 some (.inl (a2, (), (), y12.2.2, a6, ((bif decide (a7.toNat < a6.length) then a7.toNat + (Utf8.decode ⟨a6.toArray⟩ a7.toNat).2 else a7.toNat : Nat) : Int)))
 else none
 else none
 else
 some (.inr ((), a5, a6, ((bif decide (a7.toNat < a6.length) then a7.toNat + (Utf8.decode ⟨a6.toArray⟩ a7.toNat).2 else a7.toNat : Nat) : Int)))

def S52_5step (fuel : Nat) (x : (List UInt8) × Unit × Unit × (List UInt8) × (List UInt8) × Int) : Option (((List UInt8) × Unit × Unit × (List UInt8) × (List UInt8) × Int) ⊕ ((Unit × (List UInt8) × (List UInt8) × Int))) := S52_5 fuel x.1 x.2.1 x.2.2.1 x.2.2.2.1 x.2.2.2.2.1 x.2.2.2.2.2

/-- wireschema/utf.Quote -/
def F52 (fuel : Nat) (a0 : List UInt8) : Option ((List UInt8)) :=
 (LwriteString fuel ([34] : List UInt8) []).bind fun y1 =>
 (loopQ fuel (S52_5step fuel) (a0, (), (), y1.2.2, a0, ((0 : Nat) : Int))).bind fun y13 =>
 (LwriteString fuel ([34] : List UInt8) y13.2.1).bind fun y14 =>
 (Lstring fuel y14.2.2).bind fun y15 =>
 some y15.1

def S52_5l (fuel : Nat) : LoopE := ⟨5, ⟨[0, 3, 8], [.bld 125, .iter], [.str, (.con (.bref 0 125)), (.con (.iref 1)), .str, .str, (.int .i64)]⟩, [(.exit 0, ⟨[3], [.bld 125, .iter], [(.con (.bref 0 125)), .str, .str, (.int .i64)]⟩)], S52_5step fuel⟩

def F52C (fuel : Nat) : Cfg := cfg Tryz.prog 20 0 [LwriteString_125c fuel, F134c fuel, Lstring_125c fuel] [S52_5l fuel] fuel

def F52c (fuel : Nat) : CallE := ⟨52, ⟨1, [], [.str]⟩, ⟨1, [], [.str]⟩, fun x => F52 fuel x, []⟩

theorem F52k (fuel : Nat) : CallOk (F52C fuel) := cfg_callOk (qc (LwriteString_125ok fuel) <| qc (F134ok fuel) <| qc (Lstring_125ok fuel) <| q0)

theorem S52_5ok (fuel : Nat) : LoopOk (F52C fuel) (lp (bodyOf Tryz.f52) 0) := okL (F52k fuel) fuel (S52_5l fuel) L0

theorem F52ok (fuel : Nat) : (F52c fuel).Ok Tryz.prog := okE Tryz.f52 (F52k fuel) (L1 (S52_5ok fuel))

/-- internal/strconv.FormatBool -/
def F225 (fuel : Nat) (a0 : Bool) : Option ((List UInt8)) :=
 bif a0 then
 some ([116, 114, 117, 101] : List UInt8)
 else
 some ([102, 97, 108, 115, 101] : List UInt8)

def F225c (fuel : Nat) : CallE := ⟨225, ⟨1, [], [.bool]⟩, ⟨1, [], [.str]⟩, fun x => F225 fuel x, []⟩

theorem F225ok (fuel : Nat) : (F225c fuel).Ok Tryz.prog := okI Tryz.f225 4 0 fuel [] (q0) L0

/-- strconv.FormatBool -/
def F135 (fuel : Nat) (a0 : Bool) : Option ((List UInt8)) :=
 (F225 fuel a0).bind fun y1 =>
 some y1

def F135c (fuel : Nat) : CallE := ⟨135, ⟨1, [], [.bool]⟩, ⟨1, [], [.str]⟩, fun x => F135 fuel x, []⟩

theorem F135ok (fuel : Nat) : (F135c fuel).Ok Tryz.prog := okI Tryz.f135 5 0 fuel [F225c fuel] (qc (F225ok fuel) <| q0) L0

/-- strconv.FormatUint -/
def F139 (fuel : Nat) (a0 : Int) (a1 : Int) : Option ((List UInt8)) :=
 (Lfmt fuel a0 a1).bind fun y1 =>
 some y1

def F139c (fuel : Nat) : CallE := ⟨139, ⟨2, [], [(.int .u64), (.int .i64)]⟩, ⟨1, [], [.str]⟩, fun x => F139 fuel x.1 x.2, []⟩

theorem F139ok (fuel : Nat) : (F139c fuel).Ok Tryz.prog := okI Tryz.f139 8 0 fuel [Lfmtc fuel] (qc (Lfmtok fuel) <| q0) L0

/-- wireschema/scalar.double -/
def F137 (fuel : Nat) (a0 : Int) : Option ((List UInt8)) :=
 (F227 fuel a0).bind fun y1 =>
 bif (y1 == (0 : Int)) then
 some ([110, 97, 110] : List UInt8)
 else
 bif (bif (y1 == (1 : Int)) then ((bitsI .and .u64 a0 (9223372036854775808 : Int)) != (0 : Int)) else false) then
 some ([45, 105, 110, 102] : List UInt8)
 else
 bif (y1 == (1 : Int)) then
 some ([105, 110, 102] : List UInt8)
 else
 (F139 fuel a0 (16 : Int)).bind fun y8 =>
 (Lrepeat fuel ([48] : List UInt8) (IntKind.wrap .i64 ((16 : Int) - (y8.length : Int)))).bind fun y11 =>
 bif decide (([48, 120] : List UInt8).length + y11.length ≤ strMax) then
 bif decide ((([48, 120] : List UInt8) ++ y11).length + y8.length ≤ strMax) then
 some ((([48, 120] : List UInt8) ++ y11) ++ y8)
 else none
 else none

def F137c (fuel : Nat) : CallE := ⟨137, ⟨1, [], [(.int .u64)]⟩, ⟨1, [], [.str]⟩, fun x => F137 fuel x, []⟩

theorem F137ok (fuel : Nat) : (F137c fuel).Ok Tryz.prog := okI Tryz.f137 30 0 fuel [F227c fuel, F139c fuel, Lrepeatc fuel] (qc (F227ok fuel) <| qc (F139ok fuel) <| qc (Lrepeatok fuel) <| q0) L0

def S138_4 (fuel : Nat) (a4 : List UInt8) (a5 : List PV) (a6 : Int) (a7 : Int) : Option (((List UInt8) × (List PV) × Int × Int) ⊕ (((List PV)))) :=
 bif (decide (a7 < a6)) then
 bif inRange a7 a4.length then
 let x10 := ((a4.getD a7.toNat 0).toNat : Int).fdiv (2 ^ (min (4 : Int).toNat (IntKind.bits .u8)))
 bif inRange x10 (([48, 49, 50, 51, 52, 53, 54, 55, 56, 57, 97, 98, 99, 100, 101, 102] : List UInt8).length) then
 let x11 := ((([48, 49, 50, 51, 52, 53, 54, 55, 56, 57, 97, 98, 99, 100, 101, 102] : List UInt8).getD x10.toNat 0).toNat : Int)
 bif inRange a7 a4.length then
 let x13 := bitsI .and .u8 ((a4.getD a7.toNat 0).toNat : Int) (15 : Int)
 bif inRange x13 (([48, 49, 50, 51, 52, 53, 54, 55, 56, 57, 97, 98, 99, 100, 101, 102] : List UInt8).length) then
 let x14 := ((([48, 49, 50, 51, 52, 53, 54, 55, 56, 57, 97, 98, 99, 100, 101, 102] : List UInt8).getD x13.toNat 0).toNat : Int)
 bif decide (a5.length + [(PV.int x11), (PV.int x14)].length ≤ accMax) then
 some (.inl (a4, (a5 ++ [(PV.int x11), (PV.int x14)]), a6, (IntKind.wrap .i64 (a7 + (1 : Int)))))
 else none
 else none
 else none
 else none
 else none
 else
 some (.inr a5)

def S138_4step (fuel : Nat) (x : (List UInt8) × (List PV) × Int × Int) : Option (((List UInt8) × (List PV) × Int × Int) ⊕ (((List PV)))) := S138_4 fuel x.1 x.2.1 x.2.2.1 x.2.2.2

/-- wireschema/utf.Hex -/
def F138 (fuel : Nat) (a0 : List UInt8) : Option ((List UInt8)) :=
 let x2 := IntKind.wrap .i64 ((2 : Int) * (a0.length : Int))
 bif decide (0 ≤ x2 ∧ x2 ≤ accMax) then
 (loopQ fuel (S138_4step fuel) (a0, [], (a0.length : Int), (0 : Int))).bind fun y17 =>
 some (y17.map byteOfPV)
 else none

def S138_4l (fuel : Nat) : LoopE := ⟨4, ⟨[0, 3, 10, 11], [.acc], [.str, (.acc 0 5), (.int .i64), (.int .i64)]⟩, [(.exit 0, ⟨[3], [.acc], [(.acc 0 5)]⟩)], S138_4step fuel⟩

def F138C (fuel : Nat) : Cfg := cfg Tryz.prog 30 0 [] [S138_4l fuel] fuel

def F138c (fuel : Nat) : CallE := ⟨138, ⟨1, [], [.str]⟩, ⟨1, [], [.str]⟩, fun x => F138 fuel x, []⟩

theorem F138k (fuel : Nat) : CallOk (F138C fuel) := cfg_callOk (q0)

theorem S138_4ok (fuel : Nat) : LoopOk (F138C fuel) (lp (bodyOf Tryz.f138) 0) := okL (F138k fuel) fuel (S138_4l fuel) L0

theorem F138ok (fuel : Nat) : (F138c fuel).Ok Tryz.prog := okE Tryz.f138 (F138k fuel) (L1 (S138_4ok fuel))

/-- wireschema/scalar.Text -/
def F53 (fuel : Nat) (a0 : PV) : Option ((List UInt8)) :=
 (F51 fuel ((a0.fld 0).asInt) a0).bind fun y2 =>
 bif (!y2) then
 some ([] : List UInt8)
 else
 let x4 := (a0.fld 0).asInt
 bif (x4 == (1 : Int)) then
 (F135 fuel (((a0.fld 1).asInt) == (1 : Int))).bind fun y8 =>
 some y8
 else
 bif (x4 == (2 : Int)) then
 (Litoa fuel (IntKind.wrap .i64 ((a0.fld 1).asInt))).bind fun y12 =>
 some y12
 else
 bif (x4 == (3 : Int)) then
 (Litoa fuel (IntKind.wrap .i64 ((a0.fld 1).asInt))).bind fun y16 =>
 some y16
 else
 bif (x4 == (6 : Int)) then
 (F137 fuel ((a0.fld 1).asInt)).bind fun y19 =>
 some y19
 else
 bif (x4 == (7 : Int)) then
 (F52 fuel ((a0.fld 2).asStr)).bind fun y22 =>
 some y22
 else
 bif (x4 == (8 : Int)) then
 (F138 fuel ((a0.fld 2).asStr)).bind fun y25 =>
 (F52 fuel y25).bind fun y26 =>
 bif decide (([120] : List UInt8).length + y26.length ≤ strMax) then
 some (([120] : List UInt8) ++ y26)
 else none
 else
 (F139 fuel ((a0.fld 1).asInt) (10 : Int)).bind fun y28 =>
 some y28

def F53c (fuel : Nat) : CallE := ⟨53, ⟨1, [], [(.data 42)]⟩, ⟨1, [], [.str]⟩, fun x => F53 fuel x, []⟩

theorem F53ok (fuel : Nat) : (F53c fuel).Ok Tryz.prog := okI Tryz.f53 43 0 fuel [F51c fuel, F135c fuel, Litoac fuel, F137c fuel, F52c fuel, F138c fuel, F139c fuel] (qc (F51ok fuel) <| qc (F135ok fuel) <| qc (Litoaok fuel) <| qc (F137ok fuel) <| qc (F52ok fuel) <| qc (F138ok fuel) <| qc (F139ok fuel) <| q0) L0

def S231_4 (fuel : Nat) (a2 : List PV) (a3 : List PV) (a4 : Int) (a5 : Int) : Option (((List PV) × (List PV) × Int × Int) ⊕ (((List UInt8)) ⊕ ((List PV)))) :=
 bif (decide (a5 < a4)) then
 bif inRange a5 a3.length then
 let x7 := a3.getD a5.toNat .bad
 (F204 fuel x7).bind fun y8 =>
 bif (!y8) then
 some (.inr (.inl ([] : List UInt8)))
 else
 let x10 := (x7.fld 0).asStr
 bif decide (x10.length + ([32, 61, 32] : List UInt8).length ≤ strMax) then
 let x11 := x10 ++ ([32, 61, 32] : List UInt8)
 (F53 fuel (x7.fld 1)).bind fun y13 =>
 bif decide (x11.length + y13.length ≤ strMax) then
 let x14 := x11 ++ y13
 bif decide (a2.length + [(PV.str x14)].length ≤ accMax) then
 some (.inl ((a2 ++ [(PV.str x14)]), a3, a4, (IntKind.wrap .i64 (a5 + (1 : Int)))))
 else none
 else none
 else none
 else none
 else
 some (.inr (.inr a2))

def S231_4step (fuel : Nat) (x : (List PV) × (List PV) × Int × Int) : Option (((List PV) × (List PV) × Int × Int) ⊕ (((List UInt8)) ⊕ ((List PV)))) := S231_4 fuel x.1 x.2.1 x.2.2.1 x.2.2.2

/-- wireschema/note.Text -/
def F231 (fuel : Nat) (a0 : List PV) : Option ((List UInt8)) :=
 (loopQ fuel (S231_4step fuel) ([], a0, (a0.length : Int), (0 : Int))).bind fun z => sumE (fun y17 =>
 some y17
 ) (fun y18 =>
 bif ((y18.length : Int) == (0 : Int)) then
 some ([] : List UInt8)
 else
 (Ljoin fuel y18 ([44, 32] : List UInt8)).bind fun y21 =>
 bif decide (([91] : List UInt8).length + y21.length ≤ strMax) then
 bif decide ((([91] : List UInt8) ++ y21).length + ([93] : List UInt8).length ≤ strMax) then
 some ((([91] : List UInt8) ++ y21) ++ ([93] : List UInt8))
 else none
 else none
 ) z

def S231_4l (fuel : Nat) : LoopE := ⟨4, ⟨[3, 6, 7, 8], [.acc], [(.acc 0 9), (.slice 119), (.int .i64), (.int .i64)]⟩, [(.ret, ⟨[2], [.acc], [.str]⟩), (.exit 0, ⟨[3], [.acc], [(.acc 0 9)]⟩)], S231_4step fuel⟩

def F231C (fuel : Nat) : Cfg := cfg Tryz.prog 33 0 [F204c fuel, F53c fuel, Ljoinc fuel] [S231_4l fuel] fuel

def F231c (fuel : Nat) : CallE := ⟨231, ⟨1, [], [(.slice 119)]⟩, ⟨1, [], [.str]⟩, fun x => F231 fuel x, []⟩

theorem F231k (fuel : Nat) : CallOk (F231C fuel) := cfg_callOk (qc (F204ok fuel) <| qc (F53ok fuel) <| qc (Ljoinok fuel) <| q0)

theorem S231_4ok (fuel : Nat) : LoopOk (F231C fuel) (lp (bodyOf Tryz.f231) 0) := okL (F231k fuel) fuel (S231_4l fuel) L0

theorem F231ok (fuel : Nat) : (F231c fuel).Ok Tryz.prog := okE Tryz.f231 (F231k fuel) (L1 (S231_4ok fuel))

/-- wireschema/format.behind -/
def F150 (fuel : Nat) (a0 : List PV) : Option ((List UInt8)) :=
 bif ((a0.length : Int) == (0 : Int)) then
 some ([] : List UInt8)
 else
 (F231 fuel a0).bind fun y3 =>
 bif decide (([32] : List UInt8).length + y3.length ≤ strMax) then
 some (([32] : List UInt8) ++ y3)
 else none

def F150c (fuel : Nat) : CallE := ⟨150, ⟨1, [], [(.slice 119)]⟩, ⟨1, [], [.str]⟩, fun x => F150 fuel x, []⟩

theorem F150ok (fuel : Nat) : (F150c fuel).Ok Tryz.prog := okI Tryz.f150 9 0 fuel [F231c fuel] (qc (F231ok fuel) <| q0) L0

/-- wireschema/parse.Word -/
def F46 (fuel : Nat) (a0 : Int) : Option ((List UInt8)) :=
 bif (bif (decide (a0 < (1 : Int))) then true else (decide (a0 > (8 : Int)))) then
 some ([] : List UInt8)
 else
 (F126 fuel).bind fun y4 =>
 let x5 := IntKind.wrap .i64 (a0 - (1 : Int))
 bif inRange x5 8 then
 some ((y4.fld x5.toNat).asStr)
 else none

def F46c (fuel : Nat) : CallE := ⟨46, ⟨1, [], [(.int .i64)]⟩, ⟨1, [], [.str]⟩, fun x => F46 fuel x, []⟩

theorem F46ok (fuel : Nat) : (F46c fuel).Ok Tryz.prog := okI Tryz.f46 13 0 fuel [F126c fuel] (qc (F126ok fuel) <| q0) L0

/-- wireschema/format.Type -/
def F18 (fuel : Nat) (a0 : PV) : Option ((List UInt8)) :=
 (F45 fuel ((a0.fld 0).asInt)).bind fun y2 =>
 bif (bif y2 then (((a0.fld 1).asStr) == ([] : List UInt8)) else false) then
 (F46 fuel ((a0.fld 0).asInt)).bind fun y7 =>
 some y7
 else
 let x15 := bif (bif (((a0.fld 0).asInt) == (0 : Int)) then true else (((a0.fld 0).asInt) == (9 : Int))) then true else (((a0.fld 0).asInt) == (10 : Int))
 (bif x15 then F47 fuel ((a0.fld 1).asStr) else some false).bind fun y17 =>
 bif (bif x15 then y17 else false) then
 some ((a0.fld 1).asStr)
 else
 some ([] : List UInt8)

def F18c (fuel : Nat) : CallE := ⟨18, ⟨1, [], [(.data 35)]⟩, ⟨1, [], [.str]⟩, fun x => F18 fuel x, []⟩

theorem F18ok (fuel : Nat) : (F18c fuel).Ok Tryz.prog := okI Tryz.f18 36 0 fuel [F45c fuel, F46c fuel, F47c fuel] (qc (F45ok fuel) <| qc (F46ok fuel) <| qc (F47ok fuel) <| q0) L0

/-- wireschema/format.Literal -/
def F20 (fuel : Nat) (a0 : PV) : Option ((List UInt8)) :=
 (F50 fuel a0).bind fun y1 =>
 bif y1 then
 some ((a0.fld 2).asStr)
 else
 (F51 fuel ((a0.fld 0).asInt) a0).bind fun y4 =>
 bif (!y4) then
 some ([] : List UInt8)
 else
 bif (bif (((a0.fld 0).asInt) == (6 : Int)) then true else (((a0.fld 0).asInt) == (8 : Int))) then
 (F53 fuel a0).bind fun y11 =>
 (F52 fuel y11).bind fun y12 =>
 some y12
 else
 (F53 fuel a0).bind fun y13 =>
 some y13

def F20c (fuel : Nat) : CallE := ⟨20, ⟨1, [], [(.data 42)]⟩, ⟨1, [], [.str]⟩, fun x => F20 fuel x, []⟩

theorem F20ok (fuel : Nat) : (F20c fuel).Ok Tryz.prog := okI Tryz.f20 28 0 fuel [F50c fuel, F51c fuel, F53c fuel, F52c fuel] (qc (F50ok fuel) <| qc (F51ok fuel) <| qc (F53ok fuel) <| qc (F52ok fuel) <| q0) L0

/-- wireschema/format.row -/
def F58 (fuel : Nat) (a0 : PV) : Option ((List UInt8)) :=
 (F18 fuel (a0.fld 4)).bind fun y2 =>
 bif (((a0.fld 2).asInt) == (5 : Int)) then
 (F46 fuel ((a0.fld 3).asInt)).bind fun y6 =>
 bif decide (([109, 97, 112, 60] : List UInt8).length + y6.length ≤ strMax) then
 bif decide ((([109, 97, 112, 60] : List UInt8) ++ y6).length + ([44, 32] : List UInt8).length ≤ strMax) then
 let x7 := (([109, 97, 112, 60] : List UInt8) ++ y6) ++ ([44, 32] : List UInt8)
 bif decide (x7.length + y2.length ≤ strMax) then
 let x8 := x7 ++ y2
 bif decide (x8.length + ([62] : List UInt8).length ≤ strMax) then
 let x9 := x8 ++ ([62] : List UInt8)
 let x10 := (a0.fld 1).asStr
 bif decide (([32] : List UInt8).length + x10.length ≤ strMax) then
 bif decide ((([32] : List UInt8) ++ x10).length + ([32, 61, 32] : List UInt8).length ≤ strMax) then
 let x11 := (([32] : List UInt8) ++ x10) ++ ([32, 61, 32] : List UInt8)
 (Litoa fuel ((a0.fld 0).asInt)).bind fun y13 =>
 bif decide (x11.length + y13.length ≤ strMax) then
 let x14 := x11 ++ y13
 bif decide (x9.length + x14.length ≤ strMax) then
 let x15 := x9 ++ x14
 bif ((a0.fld 6).asBool) then
 (F20 fuel (a0.fld 7)).bind fun y18 =>
 bif decide (([32, 100, 101, 102, 97, 117, 108, 116, 32] : List UInt8).length + y18.length ≤ strMax) then
 bif decide (x15.length + (([32, 100, 101, 102, 97, 117, 108, 116, 32] : List UInt8) ++ y18).length ≤ strMax) then
 let x19 := x15 ++ (([32, 100, 101, 102, 97, 117, 108, 116, 32] : List UInt8) ++ y18)
 (F150 fuel ((a0.fld 8).asList)).bind fun y21 =>
 bif decide (x19.length + y21.length ≤ strMax) then
 let x22 := x19 ++ y21
 bif decide (x22.length + ([59] : List UInt8).length ≤ strMax) then
 some (x22 ++ ([59] : List UInt8))
 else none
 else none
 else none
 else none
 else
 (F150 fuel ((a0.fld 8).asList)).bind fun y25 =>
 bif decide (x15.length + y25.length ≤ strMax) then
 let x26 := x15 ++ y25
 bif decide (x26.length + ([59] : List UInt8).length ≤ strMax) then
 some (x26 ++ ([59] : List UInt8))
 else none
 else none
 else none
 else none
 else none
 else none
 else none
 else none
 else none
 else none
 else
 bif (((a0.fld 5).asStr) == ([] : List UInt8)) then
 let x30 := (PV.agg [(PV.str ([] : List UInt8)), (PV.str ([114, 101, 113, 117, 105, 114, 101, 100, 32] : List UInt8)), (PV.str ([111, 112, 116, 105, 111, 110, 97, 108, 32] : List UInt8)), (PV.str ([112, 108, 97, 105, 110, 32] : List UInt8)), (PV.str ([108, 105, 115, 116, 32] : List UInt8))])
 let x31 := (a0.fld 2).asInt
 bif inRange x31 5 then
 let x32 := (x30.fld x31.toNat).asStr
 bif decide (x32.length + y2.length ≤ strMax) then
 let x33 := x32 ++ y2
 let x34 := (a0.fld 1).asStr
 bif decide (([32] : List UInt8).length + x34.length ≤ strMax) then
 bif decide ((([32] : List UInt8) ++ x34).length + ([32, 61, 32] : List UInt8).length ≤ strMax) then
 let x35 := (([32] : List UInt8) ++ x34) ++ ([32, 61, 32] : List UInt8)
 (Litoa fuel ((a0.fld 0).asInt)).bind fun y37 =>
 bif decide (x35.length + y37.length ≤ strMax) then
 let x38 := x35 ++ y37
 bif decide (x33.length + x38.length ≤ strMax) then
 let x39 := x33 ++ x38
 bif ((a0.fld 6).asBool) then
 (F20 fuel (a0.fld 7)).bind fun y42 =>
 bif decide (([32, 100, 101, 102, 97, 117, 108, 116, 32] : List UInt8).length + y42.length ≤ strMax) then
 bif decide (x39.length + (([32, 100, 101, 102, 97, 117, 108, 116, 32] : List UInt8) ++ y42).length ≤ strMax) then
 let x43 := x39 ++ (([32, 100, 101, 102, 97, 117, 108, 116, 32] : List UInt8) ++ y42)
 (F150 fuel ((a0.fld 8).asList)).bind fun y45 =>
 bif decide (x43.length + y45.length ≤ strMax) then
 let x46 := x43 ++ y45
 bif decide (x46.length + ([59] : List UInt8).length ≤ strMax) then
 some (x46 ++ ([59] : List UInt8))
 else none
 else none
 else none
 else none
 else
 (F150 fuel ((a0.fld 8).asList)).bind fun y49 =>
 bif decide (x39.length + y49.length ≤ strMax) then
 let x50 := x39 ++ y49
 bif decide (x50.length + ([59] : List UInt8).length ≤ strMax) then
 some (x50 ++ ([59] : List UInt8))
 else none
 else none
 else none
 else none
 else none
 else none
 else none
 else none
 else
 let x52 := (a0.fld 1).asStr
 bif decide (([32] : List UInt8).length + x52.length ≤ strMax) then
 bif decide ((([32] : List UInt8) ++ x52).length + ([32, 61, 32] : List UInt8).length ≤ strMax) then
 let x53 := (([32] : List UInt8) ++ x52) ++ ([32, 61, 32] : List UInt8)
 (Litoa fuel ((a0.fld 0).asInt)).bind fun y55 =>
 bif decide (x53.length + y55.length ≤ strMax) then
 let x56 := x53 ++ y55
 bif decide (y2.length + x56.length ≤ strMax) then
 let x57 := y2 ++ x56
 bif ((a0.fld 6).asBool) then
 (F20 fuel (a0.fld 7)).bind fun y60 =>
 bif decide (([32, 100, 101, 102, 97, 117, 108, 116, 32] : List UInt8).length + y60.length ≤ strMax) then
 bif decide (x57.length + (([32, 100, 101, 102, 97, 117, 108, 116, 32] : List UInt8) ++ y60).length ≤ strMax) then
 let x61 := x57 ++ (([32, 100, 101, 102, 97, 117, 108, 116, 32] : List UInt8) ++ y60)
 (F150 fuel ((a0.fld 8).asList)).bind fun y63 =>
 bif decide (x61.length + y63.length ≤ strMax) then
 let x64 := x61 ++ y63
 bif decide (x64.length + ([59] : List UInt8).length ≤ strMax) then
 some (x64 ++ ([59] : List UInt8))
 else none
 else none
 else none
 else none
 else
 (F150 fuel ((a0.fld 8).asList)).bind fun y67 =>
 bif decide (x57.length + y67.length ≤ strMax) then
 let x68 := x57 ++ y67
 bif decide (x68.length + ([59] : List UInt8).length ≤ strMax) then
 some (x68 ++ ([59] : List UInt8))
 else none
 else none
 else none
 else none
 else none
 else none

def F58c (fuel : Nat) : CallE := ⟨58, ⟨1, [], [(.data 45)]⟩, ⟨1, [], [.str]⟩, fun x => F58 fuel x, []⟩

theorem F58ok (fuel : Nat) : (F58c fuel).Ok Tryz.prog := okI Tryz.f58 53 0 fuel [F18c fuel, F46c fuel, Litoac fuel, F20c fuel, F150c fuel] (qc (F18ok fuel) <| qc (F46ok fuel) <| qc (Litoaok fuel) <| qc (F20ok fuel) <| qc (F150ok fuel) <| q0) L0

def S207_3 (fuel : Nat) (a2 : Unit) (a3 : List PV) (a4 : List PV) (a5 : Int) (a6 : Int) (a7 : List UInt8) : Option ((Unit × (List PV) × (List PV) × Int × Int × (List UInt8)) ⊕ ((Unit × (List PV) × (List UInt8)))) :=
 bif (decide (a6 < a5)) then
 bif inRange a6 a4.length then
 let x9 := a4.getD a6.toNat .bad
 (Litoa fuel ((x9.fld 0).asInt)).bind fun y11 =>
 bif (((x9.fld 0).asInt) != ((x9.fld 1).asInt)) then
 (Litoa fuel ((x9.fld 1).asInt)).bind fun y16 =>
 bif decide (([32, 45, 32] : List UInt8).length + y16.length ≤ strMax) then
 bif decide (y11.length + (([32, 45, 32] : List UInt8) ++ y16).length ≤ strMax) then
 let x17 := y11 ++ (([32, 45, 32] : List UInt8) ++ y16)
 bif decide (a3.length + [(PV.str x17)].length ≤ accMax) then
 some (.inl ((), (a3 ++ [(PV.str x17)]), a4, a5, (IntKind.wrap .i64 (a6 + (1 : Int))), a7))
 else none
 else none
 else none
 else
 bif decide (a3.length + [(PV.str y11)].length ≤ accMax) then
 some (.inl ((), (a3 ++ [(PV.str y11)]), a4, a5, (IntKind.wrap .i64 (a6 + (1 : Int))), a7))
 else none
 else none
 else
 some (.inr ((), a3, a7))

def S207_3step (fuel : Nat) (x : Unit × (List PV) × (List PV) × Int × Int × (List UInt8)) : Option ((Unit × (List PV) × (List PV) × Int × Int × (List UInt8)) ⊕ ((Unit × (List PV) × (List UInt8)))) := S207_3 fuel x.1 x.2.1 x.2.2.1 x.2.2.2.1 x.2.2.2.2.1 x.2.2.2.2.2

/-- (*wireschema/format.printer).ranges -/
def F207 (fuel : Nat) (a0 : Unit) (a1 : List PV) (a2 : List UInt8) : Option ((List UInt8)) :=
 (loopQ fuel (S207_3step fuel) ((), [], a1, (a1.length : Int), (0 : Int), a2)).bind fun y22 =>
 bif (decide ((y22.2.1.length : Int) > (0 : Int))) then
 (Ljoin fuel y22.2.1 ([44, 32] : List UInt8)).bind fun y27 =>
 bif decide (([114, 101, 115, 101, 114, 118, 101, 100, 32] : List UInt8).length + y27.length ≤ strMax) then
 bif decide ((([114, 101, 115, 101, 114, 118, 101, 100, 32] : List UInt8) ++ y27).length + ([59] : List UInt8).length ≤ strMax) then
 let x28 := (([114, 101, 115, 101, 114, 118, 101, 100, 32] : List UInt8) ++ y27) ++ ([59] : List UInt8)
 (F102 fuel () (1 : Int) x28 y22.2.2).bind fun y29 =>
 some y29
 else none
 else none
 else
 some y22.2.2

def S207_3l (fuel : Nat) : LoopE := ⟨3, ⟨[0, 4, 8, 9, 10], [.bld 127, .acc], [(.con (.bref 0 127)), (.acc 1 9), (.slice 163), (.int .i64), (.int .i64), .str]⟩, [(.exit 0, ⟨[0, 4], [.bld 127, .acc], [(.con (.bref 0 127)), (.acc 1 9), .str]⟩)], S207_3step fuel⟩

def F207C (fuel : Nat) : Cfg := cfg Tryz.prog 42 1 [Litoac fuel, Ljoinc fuel, F102c fuel] [S207_3l fuel] fuel

def F207c (fuel : Nat) : CallE := ⟨207, ⟨2, [.bld 127], [(.con (.bref 0 127)), (.slice 163), .str]⟩, ⟨0, [.bld 127], [.str]⟩, fun x => F207 fuel x.1 x.2.1 x.2.2, []⟩

theorem F207k (fuel : Nat) : CallOk (F207C fuel) := cfg_callOk (qc (Litoaok fuel) <| qc (Ljoinok fuel) <| qc (F102ok fuel) <| q0)

theorem S207_3ok (fuel : Nat) : LoopOk (F207C fuel) (lp (bodyOf Tryz.f207) 0) := okL (F207k fuel) fuel (S207_3l fuel) L0

theorem F207ok (fuel : Nat) : (F207c fuel).Ok Tryz.prog := okE Tryz.f207 (F207k fuel) (L1 (S207_3ok fuel))

def S104_5 (fuel : Nat) (a9 : Unit) (a10 : Unit) (a11 : List UInt8) (a12 : List PV) (a13 : Int) (a14 : Int) (a15 : List UInt8) (a16 : PV) : Option ((Unit × Unit × (List UInt8) × (List PV) × Int × Int × (List UInt8) × PV) ⊕ ((Unit × Unit × (List UInt8) × (List UInt8) × PV))) :=
 bif (decide (a14 < a13)) then
 bif inRange a14 a12.length then
 let x18 := a12.getD a14.toNat .bad
 bif (bif (!(a11 == ([] : List UInt8))) then (!(((x18.fld 5).asStr) == a11)) else false) then
 (F102 fuel () (1 : Int) ([125] : List UInt8) a15).bind fun y23 =>
 bif (bif (!(((x18.fld 5).asStr) == ([] : List UInt8))) then (!(((x18.fld 5).asStr) == a11)) else false) then
 let x29 := (x18.fld 5).asStr
 bif decide (([117, 110, 105, 111, 110, 32] : List UInt8).length + x29.length ≤ strMax) then
 bif decide ((([117, 110, 105, 111, 110, 32] : List UInt8) ++ x29).length + ([32, 123] : List UInt8).length ≤ strMax) then
 let x30 := (([117, 110, 105, 111, 110, 32] : List UInt8) ++ x29) ++ ([32, 123] : List UInt8)
 (F102 fuel () (1 : Int) x30 y23).bind fun y31 =>
 let x32 := (x18.fld 5).asStr
 bif (x32 == ([] : List UInt8)) then
 (F58 fuel x18).bind fun y34 =>
 (F102 fuel () (1 : Int) y34 y31).bind fun y35 =>
 some (.inl ((), (), x32, a12, a13, (IntKind.wrap .i64 (a14 + (1 : Int))), y35, a16))
 else
 (F58 fuel x18).bind fun y37 =>
 (F102 fuel () (2 : Int) y37 y31).bind fun y38 =>
 some (.inl ((), (), x32, a12, a13, (IntKind.wrap .i64 (a14 + (1 : Int))), y38, a16))
 else none
 else none
 else
 let x40 := (x18.fld 5).asStr
 bif (x40 == ([] : List UInt8)) then
 (F58 fuel x18).bind fun y42 =>
 (F102 fuel () (1 : Int) y42 y23).bind fun y43 =>
 some (.inl ((), (), x40, a12, a13, (IntKind.wrap .i64 (a14 + (1 : Int))), y43, a16))
 else
 (F58 fuel x18).bind fun y45 =>
 (F102 fuel () (2 : Int) y45 y23).bind fun y46 =>
 some (.inl ((), (), x40, a12, a13, (IntKind.wrap .i64 (a14 + (1 : Int))), y46, a16))
 else
 bif (bif (!(((x18.fld 5).asStr) == ([] : List UInt8))) then (!(((x18.fld 5).asStr) == a11)) else false) then
 let x53 := (x18.fld 5).asStr
 bif decide (([117, 110, 105, 111, 110, 32] : List UInt8).length + x53.length ≤ strMax) then
 bif decide ((([117, 110, 105, 111, 110, 32] : List UInt8) ++ x53).length + ([32, 123] : List UInt8).length ≤ strMax) then
 let x54 := (([117, 110, 105, 111, 110, 32] : List UInt8) ++ x53) ++ ([32, 123] : List UInt8)
 (F102 fuel () (1 : Int) x54 a15).bind fun y55 =>
 let x56 := (x18.fld 5).asStr
 bif (x56 == ([] : List UInt8)) then
 (F58 fuel x18).bind fun y58 =>
 (F102 fuel () (1 : Int) y58 y55).bind fun y59 =>
 some (.inl ((), (), x56, a12, a13, (IntKind.wrap .i64 (a14 + (1 : Int))), y59, a16))
 else
 (F58 fuel x18).bind fun y61 =>
 (F102 fuel () (2 : Int) y61 y55).bind fun y62 =>
 some (.inl ((), (), x56, a12, a13, (IntKind.wrap .i64 (a14 + (1 : Int))), y62, a16))
 else none
 else none
 else
 let x64 := (x18.fld 5).asStr
 bif (x64 == ([] : List UInt8)) then
 (F58 fuel x18).bind fun y66 =>
 (F102 fuel () (1 : Int) y66 a15).bind fun y67 =>
 some (.inl ((), (), x64, a12, a13, (IntKind.wrap .i64 (a14 + (1 : Int))), y67, a16))
 else
 (F58 fuel x18).bind fun y69 =>
 (F102 fuel () (2 : Int) y69 a15).bind fun y70 =>
 some (.inl ((), (), x64, a12, a13, (IntKind.wrap .i64 (a14 + (1 : Int))), y70, a16))
 else none
 else
 some (.inr ((), (), a11, a15, a16))

def S104_5step (fuel : Nat) (x : Unit × Unit × (List UInt8) × (List PV) × Int × Int × (List UInt8) × PV) : Option ((Unit × Unit × (List UInt8) × (List PV) × Int × Int × (List UInt8) × PV) ⊕ ((Unit × Unit × (List UInt8) × (List UInt8) × PV))) := S104_5 fuel x.1 x.2.1 x.2.2.1 x.2.2.2.1 x.2.2.2.2.1 x.2.2.2.2.2.1 x.2.2.2.2.2.2.1 x.2.2.2.2.2.2.2

def S104_21 (fuel : Nat) (a80 : Unit) (a81 : List PV) (a82 : List PV) (a83 : Int) (a84 : Int) (a85 : List UInt8) (a86 : PV) : Option ((Unit × (List PV) × (List PV) × Int × Int × (List UInt8) × PV) ⊕ ((Unit × (List PV) × (List UInt8) × PV))) :=
 bif (decide (a84 < a83)) then
 bif inRange a84 a82.length then
 (F52 fuel (a82.getD a84.toNat .bad).asStr).bind fun y90 =>
 bif decide (a81.length + [(PV.str y90)].length ≤ accMax) then
 some (.inl ((), (a81 ++ [(PV.str y90)]), a82, a83, (IntKind.wrap .i64 (a84 + (1 : Int))), a85, a86))
 else none
 else none
 else
 some (.inr ((), a81, a85, a86))

def S104_21step (fuel : Nat) (x : Unit × (List PV) × (List PV) × Int × Int × (List UInt8) × PV) : Option ((Unit × (List PV) × (List PV) × Int × Int × (List UInt8) × PV) ⊕ ((Unit × (List PV) × (List UInt8) × PV))) := S104_21 fuel x.1 x.2.1 x.2.2.1 x.2.2.2.1 x.2.2.2.2.1 x.2.2.2.2.2.1 x.2.2.2.2.2.2

/-- (*wireschema/format.printer).message -/
def F104 (fuel : Nat) (a0 : Unit) (a1 : PV) (a2 : List UInt8) : Option ((List UInt8)) :=
 let x1 := (a1.fld 0).asStr
 bif decide (([109, 101, 115, 115, 97, 103, 101, 32] : List UInt8).length + x1.length ≤ strMax) then
 (F150 fuel ((a1.fld 4).asList)).bind fun y3 =>
 bif decide ((([109, 101, 115, 115, 97, 103, 101, 32] : List UInt8) ++ x1).length + y3.length ≤ strMax) then
 let x4 := (([109, 101, 115, 115, 97, 103, 101, 32] : List UInt8) ++ x1) ++ y3
 bif decide (x4.length + ([32, 123] : List UInt8).length ≤ strMax) then
 (F102 fuel () (0 : Int) (x4 ++ ([32, 123] : List UInt8)) a2).bind fun y6 =>
 let x7 := (a1.fld 1).asList
 (loopQ fuel (S104_5step fuel) ((), (), ([] : List UInt8), x7, (x7.length : Int), (0 : Int), y6, a1)).bind fun y72 =>
 bif (!(y72.2.2.1 == ([] : List UInt8))) then
 (F102 fuel () (1 : Int) ([125] : List UInt8) y72.2.2.2.1).bind fun y75 =>
 (F207 fuel () ((y72.2.2.2.2.fld 2).asList) y75).bind fun y77 =>
 let x78 := (y72.2.2.2.2.fld 3).asList
 (loopQ fuel (S104_21step fuel) ((), [], x78, (x78.length : Int), (0 : Int), y77, y72.2.2.2.2)).bind fun y93 =>
 bif (decide ((y93.2.1.length : Int) > (0 : Int))) then
 (Ljoin fuel y93.2.1 ([44, 32] : List UInt8)).bind fun y98 =>
 bif decide (([114, 101, 115, 101, 114, 118, 101, 100, 32] : List UInt8).length + y98.length ≤ strMax) then
 bif decide ((([114, 101, 115, 101, 114, 118, 101, 100, 32] : List UInt8) ++ y98).length + ([59] : List UInt8).length ≤ strMax) then
 let x99 := (([114, 101, 115, 101, 114, 118, 101, 100, 32] : List UInt8) ++ y98) ++ ([59] : List UInt8)
 (F102 fuel () (1 : Int) x99 y93.2.2.1).bind fun y100 =>
 (F102 fuel () (0 : Int) ([125] : List UInt8) y100).bind fun y101 =>
 some y101
 else none
 else none
 else
 (F102 fuel () (0 : Int) ([125] : List UInt8) y93.2.2.1).bind fun y102 =>
 some y102
 else
 (F207 fuel () ((y72.2.2.2.2.fld 2).asList) y72.2.2.2.1).bind fun y104 =>
 let x105 := (y72.2.2.2.2.fld 3).asList
 (loopQ fuel (S104_21step fuel) ((), [], x105, (x105.length : Int), (0 : Int), y104, y72.2.2.2.2)).bind fun y107 =>
 bif (decide ((y107.2.1.length : Int) > (0 : Int))) then
 (Ljoin fuel y107.2.1 ([44, 32] : List UInt8)).bind fun y112 =>
 bif decide (([114, 101, 115, 101, 114, 118, 101, 100, 32] : List UInt8).length + y112.length ≤ strMax) then
 bif decide ((([114, 101, 115, 101, 114, 118, 101, 100, 32] : List UInt8) ++ y112).length + ([59] : List UInt8).length ≤ strMax) then
 let x113 := (([114, 101, 115, 101, 114, 118, 101, 100, 32] : List UInt8) ++ y112) ++ ([59] : List UInt8)
 (F102 fuel () (1 : Int) x113 y107.2.2.1).bind fun y114 =>
 (F102 fuel () (0 : Int) ([125] : List UInt8) y114).bind fun y115 =>
 some y115
 else none
 else none
 else
 (F102 fuel () (0 : Int) ([125] : List UInt8) y107.2.2.1).bind fun y116 =>
 some y116
 else none
 else none
 else none

def S104_5l (fuel : Nat) : LoopE := ⟨5, ⟨[0, 3, 4, 21, 22, 23], [.bld 127, .box 61 .leaf], [(.con (.bref 0 127)), (.con (.ref 1 [] 61)), .str, (.slice 45), (.int .i64), (.int .i64), .str, (.data 61)]⟩, [(.exit 0, ⟨[0, 3, 4], [.bld 127, .box 61 .leaf], [(.con (.bref 0 127)), (.con (.ref 1 [] 61)), .str, .str, (.data 61)]⟩)], S104_5step fuel⟩

def S104_21l (fuel : Nat) : LoopE := ⟨21, ⟨[0, 7, 74, 75, 76], [.bld 127, .box 61 .leaf, .acc], [(.con (.bref 0 127)), (.acc 2 9), (.slice 9), (.int .i64), (.int .i64), .str, (.data 61)]⟩, [(.exit 2, ⟨[0, 7], [.bld 127, .box 61 .leaf, .acc], [(.con (.bref 0 127)), (.acc 2 9), .str, (.data 61)]⟩)], S104_21step fuel⟩

def F104C (fuel : Nat) : Cfg := cfg Tryz.prog 97 1 [F150c fuel, F102c fuel, F58c fuel, F207c fuel, F52c fuel, Ljoinc fuel] [S104_5l fuel, S104_21l fuel] fuel

def F104c (fuel : Nat) : CallE := ⟨104, ⟨2, [.bld 127], [(.con (.bref 0 127)), (.data 61), .str]⟩, ⟨0, [.bld 127], [.str]⟩, fun x => F104 fuel x.1 x.2.1 x.2.2, []⟩

theorem F104k (fuel : Nat) : CallOk (F104C fuel) := cfg_callOk (qc (F150ok fuel) <| qc (F102ok fuel) <| qc (F58ok fuel) <| qc (F207ok fuel) <| qc (F52ok fuel) <| qc (Ljoinok fuel) <| q0)

theorem S104_5ok (fuel : Nat) : LoopOk (F104C fuel) (lp (bodyOf Tryz.f104) 0) := okL (F104k fuel) fuel (S104_5l fuel) L0

theorem S104_21ok (fuel : Nat) : LoopOk (F104C fuel) (lp (bodyOf Tryz.f104) 1) := okL (F104k fuel) fuel (S104_21l fuel) L0

theorem F104ok (fuel : Nat) : (F104c fuel).Ok Tryz.prog := okE Tryz.f104 (F104k fuel) (L2 (S104_5ok fuel) (S104_21ok fuel))

def S103_2 (fuel : Nat) (a2 : Unit) (a3 : Unit) (a4 : List PV) (a5 : Int) (a6 : Int) (a7 : List UInt8) : Option ((Unit × Unit × (List PV) × Int × Int × (List UInt8)) ⊕ (((List UInt8)))) :=
 bif (decide (a6 < a5)) then
 bif inRange a6 a4.length then
 let x9 := a4.getD a6.toNat .bad
 (LlenB fuel a7).bind fun y10 =>
 bif (decide (y10.1 > (0 : Int))) then
 (LwriteString fuel ([10] : List UInt8) y10.2).bind fun y12 =>
 (F104 fuel () x9 y12.2.2).bind fun y13 =>
 some (.inl ((), (), a4, a5, (IntKind.wrap .i64 (a6 + (1 : Int))), y13))
 else
 (F104 fuel () x9 y10.2).bind fun y15 =>
 some (.inl ((), (), a4, a5, (IntKind.wrap .i64 (a6 + (1 : Int))), y15))
 else none
 else
 some (.inr a7)

def S103_2step (fuel : Nat) (x : Unit × Unit × (List PV) × Int × Int × (List UInt8)) : Option ((Unit × Unit × (List PV) × Int × Int × (List UInt8)) ⊕ (((List UInt8)))) := S103_2 fuel x.1 x.2.1 x.2.2.1 x.2.2.2.1 x.2.2.2.2.1 x.2.2.2.2.2

/-- wireschema/format.defs[wireschema/api.Message] -/
def F103 (fuel : Nat) (a0 : Unit) (a1 : List PV) (a2 : Unit) (a3 : List UInt8) : Option ((List UInt8)) :=
 (loopQ fuel (S103_2step fuel) ((), (), a1, (a1.length : Int), (0 : Int), a3)).bind fun y17 =>
 some y17

def S103_2l (fuel : Nat) : LoopE := ⟨2, ⟨[0, 2, 8, 9, 10], [.bld 127], [(.con (.bref 0 127)), (.con (.fn 104 1 [(.bref 0 127)])), (.slice 61), (.int .i64), (.int .i64), .str]⟩, [(.exit 0, ⟨[], [.bld 127], [.str]⟩)], S103_2step fuel⟩

def F103C (fuel : Nat) : Cfg := cfg Tryz.prog 27 1 [LlenB_127c fuel, LwriteString_127c fuel, F104c fuel] [S103_2l fuel] fuel

def F103c (fuel : Nat) : CallE := ⟨103, ⟨3, [.bld 127], [(.con (.bref 0 127)), (.slice 61), (.con (.fn 104 1 [(.bref 0 127)])), .str]⟩, ⟨0, [.bld 127], [.str]⟩, fun x => F103 fuel x.1 x.2.1 x.2.2.1 x.2.2.2, []⟩

theorem F103k (fuel : Nat) : CallOk (F103C fuel) := cfg_callOk (qc (LlenB_127ok fuel) <| qc (LwriteString_127ok fuel) <| qc (F104ok fuel) <| q0)

theorem S103_2ok (fuel : Nat) : LoopOk (F103C fuel) (lp (bodyOf Tryz.f103) 0) := okL (F103k fuel) fuel (S103_2l fuel) L0

theorem F103ok (fuel : Nat) : (F103c fuel).Ok Tryz.prog := okE Tryz.f103 (F103k fuel) (L1 (S103_2ok fuel))

def S106_7 (fuel : Nat) (a11 : Unit) (a12 : Unit) (a13 : List PV) (a14 : Int) (a15 : Int) (a16 : List UInt8) (a17 : PV) : Option ((Unit × Unit × (List PV) × Int × Int × (List UInt8) × PV) ⊕ ((Unit × Unit × (List UInt8) × PV))) :=
 bif (decide (a15 < a14)) then
 bif inRange a15 a13.length then
 let x19 := a13.getD a15.toNat .bad
 let x20 := (x19.fld 0).asStr
 bif decide (x20.length + ([32, 61, 32] : List UInt8).length ≤ strMax) then
 let x21 := x20 ++ ([32, 61, 32] : List UInt8)
 (Litoa fuel ((x19.fld 1).asInt)).bind fun y23 =>
 bif decide (x21.length + y23.length ≤ strMax) then
 let x24 := x21 ++ y23
 (F150 fuel ((x19.fld 2).asList)).bind fun y26 =>
 bif decide (x24.length + y26.length ≤ strMax) then
 let x27 := x24 ++ y26
 bif decide (x27.length + ([59] : List UInt8).length ≤ strMax) then
 (F102 fuel () (1 : Int) (x27 ++ ([59] : List UInt8)) a16).bind fun y29 =>
 some (.inl ((), (), a13, a14, (IntKind.wrap .i64 (a15 + (1 : Int))), y29, a17))
 else none
 else none
 else none
 else none
 else none
 else
 some (.inr ((), (), a16, a17))

def S106_7step (fuel : Nat) (x : Unit × Unit × (List PV) × Int × Int × (List UInt8) × PV) : Option ((Unit × Unit × (List PV) × Int × Int × (List UInt8) × PV) ⊕ ((Unit × Unit × (List UInt8) × PV))) := S106_7 fuel x.1 x.2.1 x.2.2.1 x.2.2.2.1 x.2.2.2.2.1 x.2.2.2.2.2.1 x.2.2.2.2.2.2

/-- (*wireschema/format.printer).enum -/
def F106 (fuel : Nat) (a0 : Unit) (a1 : PV) (a2 : List UInt8) : Option ((List UInt8)) :=
 bif ((a1.fld 1).asBool) then
 bif decide (([111, 112, 101, 110, 32] : List UInt8).length + ([101, 110, 117, 109, 32] : List UInt8).length ≤ strMax) then
 let x2 := (a1.fld 0).asStr
 bif decide ((([111, 112, 101, 110, 32] : List UInt8) ++ ([101, 110, 117, 109, 32] : List UInt8)).length + x2.length ≤ strMax) then
 let x3 := (([111, 112, 101, 110, 32] : List UInt8) ++ ([101, 110, 117, 109, 32] : List UInt8)) ++ x2
 (F150 fuel ((a1.fld 4).asList)).bind fun y5 =>
 bif decide (x3.length + y5.length ≤ strMax) then
 let x6 := x3 ++ y5
 bif decide (x6.length + ([32, 123] : List UInt8).length ≤ strMax) then
 (F102 fuel () (0 : Int) (x6 ++ ([32, 123] : List UInt8)) a2).bind fun y8 =>
 let x9 := (a1.fld 2).asList
 (loopQ fuel (S106_7step fuel) ((), (), x9, (x9.length : Int), (0 : Int), y8, a1)).bind fun y31 =>
 (F207 fuel () ((y31.2.2.2.fld 3).asList) y31.2.2.1).bind fun y33 =>
 (F102 fuel () (0 : Int) ([125] : List UInt8) y33).bind fun y34 =>
 some y34
 else none
 else none
 else none
 else none
 else
 bif decide (([] : List UInt8).length + ([101, 110, 117, 109, 32] : List UInt8).length ≤ strMax) then
 let x35 := (a1.fld 0).asStr
 bif decide ((([] : List UInt8) ++ ([101, 110, 117, 109, 32] : List UInt8)).length + x35.length ≤ strMax) then
 let x36 := (([] : List UInt8) ++ ([101, 110, 117, 109, 32] : List UInt8)) ++ x35
 (F150 fuel ((a1.fld 4).asList)).bind fun y38 =>
 bif decide (x36.length + y38.length ≤ strMax) then
 let x39 := x36 ++ y38
 bif decide (x39.length + ([32, 123] : List UInt8).length ≤ strMax) then
 (F102 fuel () (0 : Int) (x39 ++ ([32, 123] : List UInt8)) a2).bind fun y41 =>
 let x42 := (a1.fld 2).asList
 (loopQ fuel (S106_7step fuel) ((), (), x42, (x42.length : Int), (0 : Int), y41, a1)).bind fun y44 =>
 (F207 fuel () ((y44.2.2.2.fld 3).asList) y44.2.2.1).bind fun y46 =>
 (F102 fuel () (0 : Int) ([125] : List UInt8) y46).bind fun y47 =>
 some y47
 else none
 else none
 else none
 else none

def S106_7l (fuel : Nat) : LoopE := ⟨7, ⟨[0, 3, 22, 23, 24], [.bld 127, .box 64 .leaf], [(.con (.bref 0 127)), (.con (.ref 1 [] 64)), (.slice 106), (.int .i64), (.int .i64), .str, (.data 64)]⟩, [(.exit 0, ⟨[0, 3], [.bld 127, .box 64 .leaf], [(.con (.bref 0 127)), (.con (.ref 1 [] 64)), .str, (.data 64)]⟩)], S106_7step fuel⟩

def F106C (fuel : Nat) : Cfg := cfg Tryz.prog 49 1 [F150c fuel, F102c fuel, Litoac fuel, F207c fuel] [S106_7l fuel] fuel

def F106c (fuel : Nat) : CallE := ⟨106, ⟨2, [.bld 127], [(.con (.bref 0 127)), (.data 64), .str]⟩, ⟨0, [.bld 127], [.str]⟩, fun x => F106 fuel x.1 x.2.1 x.2.2, []⟩

theorem F106k (fuel : Nat) : CallOk (F106C fuel) := cfg_callOk (qc (F150ok fuel) <| qc (F102ok fuel) <| qc (Litoaok fuel) <| qc (F207ok fuel) <| q0)

theorem S106_7ok (fuel : Nat) : LoopOk (F106C fuel) (lp (bodyOf Tryz.f106) 0) := okL (F106k fuel) fuel (S106_7l fuel) L0

theorem F106ok (fuel : Nat) : (F106c fuel).Ok Tryz.prog := okE Tryz.f106 (F106k fuel) (L1 (S106_7ok fuel))

def S105_2 (fuel : Nat) (a2 : Unit) (a3 : Unit) (a4 : List PV) (a5 : Int) (a6 : Int) (a7 : List UInt8) : Option ((Unit × Unit × (List PV) × Int × Int × (List UInt8)) ⊕ (((List UInt8)))) :=
 bif (decide (a6 < a5)) then
 bif inRange a6 a4.length then
 let x9 := a4.getD a6.toNat .bad
 (LlenB fuel a7).bind fun y10 =>
 bif (decide (y10.1 > (0 : Int))) then
 (LwriteString fuel ([10] : List UInt8) y10.2).bind fun y12 =>
 (F106 fuel () x9 y12.2.2).bind fun y13 =>
 some (.inl ((), (), a4, a5, (IntKind.wrap .i64 (a6 + (1 : Int))), y13))
 else
 (F106 fuel () x9 y10.2).bind fun y15 =>
 some (.inl ((), (), a4, a5, (IntKind.wrap .i64 (a6 + (1 : Int))), y15))
 else none
 else
 some (.inr a7)

def S105_2step (fuel : Nat) (x : Unit × Unit × (List PV) × Int × Int × (List UInt8)) : Option ((Unit × Unit × (List PV) × Int × Int × (List UInt8)) ⊕ (((List UInt8)))) := S105_2 fuel x.1 x.2.1 x.2.2.1 x.2.2.2.1 x.2.2.2.2.1 x.2.2.2.2.2

/-- wireschema/format.defs[wireschema/api.Enum] -/
def F105 (fuel : Nat) (a0 : Unit) (a1 : List PV) (a2 : Unit) (a3 : List UInt8) : Option ((List UInt8)) :=
 (loopQ fuel (S105_2step fuel) ((), (), a1, (a1.length : Int), (0 : Int), a3)).bind fun y17 =>
 some y17

def S105_2l (fuel : Nat) : LoopE := ⟨2, ⟨[0, 2, 8, 9, 10], [.bld 127], [(.con (.bref 0 127)), (.con (.fn 106 1 [(.bref 0 127)])), (.slice 64), (.int .i64), (.int .i64), .str]⟩, [(.exit 0, ⟨[], [.bld 127], [.str]⟩)], S105_2step fuel⟩

def F105C (fuel : Nat) : Cfg := cfg Tryz.prog 27 1 [LlenB_127c fuel, LwriteString_127c fuel, F106c fuel] [S105_2l fuel] fuel

def F105c (fuel : Nat) : CallE := ⟨105, ⟨3, [.bld 127], [(.con (.bref 0 127)), (.slice 64), (.con (.fn 106 1 [(.bref 0 127)])), .str]⟩, ⟨0, [.bld 127], [.str]⟩, fun x => F105 fuel x.1 x.2.1 x.2.2.1 x.2.2.2, []⟩

theorem F105k (fuel : Nat) : CallOk (F105C fuel) := cfg_callOk (qc (LlenB_127ok fuel) <| qc (LwriteString_127ok fuel) <| qc (F106ok fuel) <| q0)

theorem S105_2ok (fuel : Nat) : LoopOk (F105C fuel) (lp (bodyOf Tryz.f105) 0) := okL (F105k fuel) fuel (S105_2l fuel) L0

theorem F105ok (fuel : Nat) : (F105c fuel).Ok Tryz.prog := okE Tryz.f105 (F105k fuel) (L1 (S105_2ok fuel))

def S108_4 (fuel : Nat) (a9 : Unit) (a10 : List PV) (a11 : Int) (a12 : Int) (a13 : List UInt8) (a14 : PV) : Option ((Unit × (List PV) × Int × Int × (List UInt8) × PV) ⊕ ((Unit × (List UInt8) × PV))) :=
 bif (decide (a12 < a11)) then
 bif inRange a12 a10.length then
 let x16 := a10.getD a12.toNat .bad
 let x17 := (x16.fld 1).asStr
 let x18 := (x16.fld 2).asStr
 bif (bif (((x16.fld 3).asInt) == (3 : Int)) then true else (((x16.fld 3).asInt) == (4 : Int))) then
 bif decide (([115, 116, 114, 101, 97, 109, 32] : List UInt8).length + x17.length ≤ strMax) then
 bif (bif (((x16.fld 3).asInt) == (2 : Int)) then true else (((x16.fld 3).asInt) == (4 : Int))) then
 bif decide (([115, 116, 114, 101, 97, 109, 32] : List UInt8).length + x18.length ≤ strMax) then
 let x29 := (x16.fld 0).asStr
 bif decide (([114, 112, 99, 32] : List UInt8).length + x29.length ≤ strMax) then
 bif decide ((([114, 112, 99, 32] : List UInt8) ++ x29).length + ([40] : List UInt8).length ≤ strMax) then
 let x30 := (([114, 112, 99, 32] : List UInt8) ++ x29) ++ ([40] : List UInt8)
 bif decide (x30.length + (([115, 116, 114, 101, 97, 109, 32] : List UInt8) ++ x17).length ≤ strMax) then
 let x31 := x30 ++ (([115, 116, 114, 101, 97, 109, 32] : List UInt8) ++ x17)
 bif decide (x31.length + ([41, 32, 114, 101, 116, 117, 114, 110, 115, 32, 40] : List UInt8).length ≤ strMax) then
 let x32 := x31 ++ ([41, 32, 114, 101, 116, 117, 114, 110, 115, 32, 40] : List UInt8)
 bif decide (x32.length + (([115, 116, 114, 101, 97, 109, 32] : List UInt8) ++ x18).length ≤ strMax) then
 let x33 := x32 ++ (([115, 116, 114, 101, 97, 109, 32] : List UInt8) ++ x18)
 bif decide (x33.length + ([41] : List UInt8).length ≤ strMax) then
 let x34 := x33 ++ ([41] : List UInt8)
 (F150 fuel ((x16.fld 4).asList)).bind fun y36 =>
 bif decide (x34.length + y36.length ≤ strMax) then
 let x37 := x34 ++ y36
 bif decide (x37.length + ([59] : List UInt8).length ≤ strMax) then
 (F102 fuel () (1 : Int) (x37 ++ ([59] : List UInt8)) a13).bind fun y39 =>
 some (.inl ((), a10, a11, (IntKind.wrap .i64 (a12 + (1 : Int))), y39, a14))
 else none
 else none
 else none
 else none
 else none
 else none
 else none
 else none
 else none
 else
 let x41 := (x16.fld 0).asStr
 bif decide (([114, 112, 99, 32] : List UInt8).length + x41.length ≤ strMax) then
 bif decide ((([114, 112, 99, 32] : List UInt8) ++ x41).length + ([40] : List UInt8).length ≤ strMax) then
 let x42 := (([114, 112, 99, 32] : List UInt8) ++ x41) ++ ([40] : List UInt8)
 bif decide (x42.length + (([115, 116, 114, 101, 97, 109, 32] : List UInt8) ++ x17).length ≤ strMax) then
 let x43 := x42 ++ (([115, 116, 114, 101, 97, 109, 32] : List UInt8) ++ x17)
 bif decide (x43.length + ([41, 32, 114, 101, 116, 117, 114, 110, 115, 32, 40] : List UInt8).length ≤ strMax) then
 let x44 := x43 ++ ([41, 32, 114, 101, 116, 117, 114, 110, 115, 32, 40] : List UInt8)
 bif decide (x44.length + x18.length ≤ strMax) then
 let x45 := x44 ++ x18
 bif decide (x45.length + ([41] : List UInt8).length ≤ strMax) then
 let x46 := x45 ++ ([41] : List UInt8)
 (F150 fuel ((x16.fld 4).asList)).bind fun y48 =>
 bif decide (x46.length + y48.length ≤ strMax) then
 let x49 := x46 ++ y48
 bif decide (x49.length + ([59] : List UInt8).length ≤ strMax) then
 (F102 fuel () (1 : Int) (x49 ++ ([59] : List UInt8)) a13).bind fun y51 =>
 some (.inl ((), a10, a11, (IntKind.wrap .i64 (a12 + (1 : Int))), y51, a14))
 else none
 else none
 else none
 else none
 else none
 else none
 else none
 else none
 else none
 else
 bif (bif (((x16.fld 3).asInt) == (2 : Int)) then true else (((x16.fld 3).asInt) == (4 : Int))) then
 bif decide (([115, 116, 114, 101, 97, 109, 32] : List UInt8).length + x18.length ≤ strMax) then
 let x58 := (x16.fld 0).asStr
 bif decide (([114, 112, 99, 32] : List UInt8).length + x58.length ≤ strMax) then
 bif decide ((([114, 112, 99, 32] : List UInt8) ++ x58).length + ([40] : List UInt8).length ≤ strMax) then
 let x59 := (([114, 112, 99, 32] : List UInt8) ++ x58) ++ ([40] : List UInt8)
 bif decide (x59.length + x17.length ≤ strMax) then
 let x60 := x59 ++ x17
 bif decide (x60.length + ([41, 32, 114, 101, 116, 117, 114, 110, 115, 32, 40] : List UInt8).length ≤ strMax) then
 let x61 := x60 ++ ([41, 32, 114, 101, 116, 117, 114, 110, 115, 32, 40] : List UInt8)
 bif decide (x61.length + (([115, 116, 114, 101, 97, 109, 32] : List UInt8) ++ x18).length ≤ strMax) then
 let x62 := x61 ++ (([115, 116, 114, 101, 97, 109, 32] : List UInt8) ++ x18)
 bif decide (x62.length + ([41] : List UInt8).length ≤ strMax) then
 let x63 := x62 ++ ([41] : List UInt8)
 (F150 fuel ((x16.fld 4).asList)).bind fun y65 =>
 bif decide (x63.length + y65.length ≤ strMax) then
 let x66 := x63 ++ y65
 bif decide (x66.length + ([59] : List UInt8).length ≤ strMax) then
 (F102 fuel () (1 : Int) (x66 ++ ([59] : List UInt8)) a13).bind fun y68 =>
 some (.inl ((), a10, a11, (IntKind.wrap .i64 (a12 + (1 : Int))), y68, a14))
 else none
 else none
 else none
 else none
 else none
 else none
 else none
 else none
 else none
 else
 let x70 := (x16.fld 0).asStr
 bif decide (([114, 112, 99, 32] : List UInt8).length + x70.length ≤ strMax) then
 bif decide ((([114, 112, 99, 32] : List UInt8) ++ x70).length + ([40] : List UInt8).length ≤ strMax) then
 let x71 := (([114, 112, 99, 32] : List UInt8) ++ x70) ++ ([40] : List UInt8)
 bif decide (x71.length + x17.length ≤ strMax) then
 let x72 := x71 ++ x17
 bif decide (x72.length + ([41, 32, 114, 101, 116, 117, 114, 110, 115, 32, 40] : List UInt8).length ≤ strMax) then
 let x73 := x72 ++ ([41, 32, 114, 101, 116, 117, 114, 110, 115, 32, 40] : List UInt8)
 bif decide (x73.length + x18.length ≤ strMax) then
 let x74 := x73 ++ x18
 bif decide (x74.length + ([41] : List UInt8).length ≤ strMax) then
 let x75 := x74 ++ ([41] : List UInt8)
 (F150 fuel ((x16.fld 4).asList)).bind fun y77 =>
 bif decide (x75.length + y77.length ≤ strMax) then
 let x78 := x75 ++ y77
 bif decide (x78.length + ([59] : List UInt8).length ≤ strMax) then
 (F102 fuel () (1 : Int) (x78 ++ ([59] : List UInt8)) a13).bind fun y80 =>
 some (.inl ((), a10, a11, (IntKind.wrap .i64 (a12 + (1 : Int))), y80, a14))
 else none
 else none
 else none
 else none
 else none
 else none
 else none
 else none
 else none
 else
 some (.inr ((), a13, a14))

def S108_4step (fuel : Nat) (x : Unit × (List PV) × Int × Int × (List UInt8) × PV) : Option ((Unit × (List PV) × Int × Int × (List UInt8) × PV) ⊕ ((Unit × (List UInt8) × PV))) := S108_4 fuel x.1 x.2.1 x.2.2.1 x.2.2.2.1 x.2.2.2.2.1 x.2.2.2.2.2

/-- (*wireschema/format.printer).service -/
def F108 (fuel : Nat) (a0 : Unit) (a1 : PV) (a2 : List UInt8) : Option ((List UInt8)) :=
 let x1 := (a1.fld 0).asStr
 bif decide (([115, 101, 114, 118, 105, 99, 101, 32] : List UInt8).length + x1.length ≤ strMax) then
 (F150 fuel ((a1.fld 2).asList)).bind fun y3 =>
 bif decide ((([115, 101, 114, 118, 105, 99, 101, 32] : List UInt8) ++ x1).length + y3.length ≤ strMax) then
 let x4 := (([115, 101, 114, 118, 105, 99, 101, 32] : List UInt8) ++ x1) ++ y3
 bif decide (x4.length + ([32, 123] : List UInt8).length ≤ strMax) then
 (F102 fuel () (0 : Int) (x4 ++ ([32, 123] : List UInt8)) a2).bind fun y6 =>
 let x7 := (a1.fld 1).asList
 (loopQ fuel (S108_4step fuel) ((), x7, (x7.length : Int), (0 : Int), y6, a1)).bind fun y82 =>
 (F102 fuel () (0 : Int) ([125] : List UInt8) y82.2.1).bind fun y83 =>
 some y83
 else none
 else none
 else none

def S108_4l (fuel : Nat) : LoopE := ⟨4, ⟨[0, 19, 20, 21], [.bld 127, .box 67 .leaf], [(.con (.bref 0 127)), (.slice 112), (.int .i64), (.int .i64), .str, (.data 67)]⟩, [(.exit 0, ⟨[0], [.bld 127, .box 67 .leaf], [(.con (.bref 0 127)), .str, (.data 67)]⟩)], S108_4step fuel⟩

def F108C (fuel : Nat) : Cfg := cfg Tryz.prog 69 1 [F150c fuel, F102c fuel] [S108_4l fuel] fuel

def F108c (fuel : Nat) : CallE := ⟨108, ⟨2, [.bld 127], [(.con (.bref 0 127)), (.data 67), .str]⟩, ⟨0, [.bld 127], [.str]⟩, fun x => F108 fuel x.1 x.2.1 x.2.2, []⟩

theorem F108k (fuel : Nat) : CallOk (F108C fuel) := cfg_callOk (qc (F150ok fuel) <| qc (F102ok fuel) <| q0)

theorem S108_4ok (fuel : Nat) : LoopOk (F108C fuel) (lp (bodyOf Tryz.f108) 0) := okL (F108k fuel) fuel (S108_4l fuel) L0

theorem F108ok (fuel : Nat) : (F108c fuel).Ok Tryz.prog := okE Tryz.f108 (F108k fuel) (L1 (S108_4ok fuel))

def S107_2 (fuel : Nat) (a2 : Unit) (a3 : Unit) (a4 : List PV) (a5 : Int) (a6 : Int) (a7 : List UInt8) : Option ((Unit × Unit × (List PV) × Int × Int × (List UInt8)) ⊕ (((List UInt8)))) :=
 bif (decide (a6 < a5)) then
 bif inRange a6 a4.length then
 let x9 := a4.getD a6.toNat .bad
 (LlenB fuel a7).bind fun y10 =>
 bif (decide (y10.1 > (0 : Int))) then
 (LwriteString fuel ([10] : List UInt8) y10.2).bind fun y12 =>
 (F108 fuel () x9 y12.2.2).bind fun y13 =>
 some (.inl ((), (), a4, a5, (IntKind.wrap .i64 (a6 + (1 : Int))), y13))
 else
 (F108 fuel () x9 y10.2).bind fun y15 =>
 some (.inl ((), (), a4, a5, (IntKind.wrap .i64 (a6 + (1 : Int))), y15))
 else none
 else
 some (.inr a7)

def S107_2step (fuel : Nat) (x : Unit × Unit × (List PV) × Int × Int × (List UInt8)) : Option ((Unit × Unit × (List PV) × Int × Int × (List UInt8)) ⊕ (((List UInt8)))) := S107_2 fuel x.1 x.2.1 x.2.2.1 x.2.2.2.1 x.2.2.2.2.1 x.2.2.2.2.2

/-- wireschema/format.defs[wireschema/api.Service] -/
def F107 (fuel : Nat) (a0 : Unit) (a1 : List PV) (a2 : Unit) (a3 : List UInt8) : Option ((List UInt8)) :=
 (loopQ fuel (S107_2step fuel) ((), (), a1, (a1.length : Int), (0 : Int), a3)).bind fun y17 =>
 some y17

def S107_2l (fuel : Nat) : LoopE := ⟨2, ⟨[0, 2, 8, 9, 10], [.bld 127], [(.con (.bref 0 127)), (.con (.fn 108 1 [(.bref 0 127)])), (.slice 67), (.int .i64), (.int .i64), .str]⟩, [(.exit 0, ⟨[], [.bld 127], [.str]⟩)], S107_2step fuel⟩

def F107C (fuel : Nat) : Cfg := cfg Tryz.prog 27 1 [LlenB_127c fuel, LwriteString_127c fuel, F108c fuel] [S107_2l fuel] fuel

def F107c (fuel : Nat) : CallE := ⟨107, ⟨3, [.bld 127], [(.con (.bref 0 127)), (.slice 67), (.con (.fn 108 1 [(.bref 0 127)])), .str]⟩, ⟨0, [.bld 127], [.str]⟩, fun x => F107 fuel x.1 x.2.1 x.2.2.1 x.2.2.2, []⟩

theorem F107k (fuel : Nat) : CallOk (F107C fuel) := cfg_callOk (qc (LlenB_127ok fuel) <| qc (LwriteString_127ok fuel) <| qc (F108ok fuel) <| q0)

theorem S107_2ok (fuel : Nat) : LoopOk (F107C fuel) (lp (bodyOf Tryz.f107) 0) := okL (F107k fuel) fuel (S107_2l fuel) L0

theorem F107ok (fuel : Nat) : (F107c fuel).Ok Tryz.prog := okE Tryz.f107 (F107k fuel) (L1 (S107_2ok fuel))

def S34_6 (fuel : Nat) (a8 : Unit) (a9 : Unit) (a10 : List PV) (a11 : Int) (a12 : Int) (a13 : PV) (a14 : List UInt8) : Option ((Unit × Unit × (List PV) × Int × Int × PV × (List UInt8)) ⊕ ((Unit × Unit × PV × (List UInt8)))) :=
 bif (decide (a12 < a11)) then
 bif inRange a12 a10.length then
 (F52 fuel (a10.getD a12.toNat .bad).asStr).bind fun y18 =>
 bif decide (([105, 109, 112, 111, 114, 116, 32] : List UInt8).length + y18.length ≤ strMax) then
 bif decide ((([105, 109, 112, 111, 114, 116, 32] : List UInt8) ++ y18).length + ([59] : List UInt8).length ≤ strMax) then
 let x19 := (([105, 109, 112, 111, 114, 116, 32] : List UInt8) ++ y18) ++ ([59] : List UInt8)
 (F102 fuel () (0 : Int) x19 a14).bind fun y20 =>
 some (.inl ((), (), a10, a11, (IntKind.wrap .i64 (a12 + (1 : Int))), a13, y20))
 else none
 else none
 else none
 else
 some (.inr ((), (), a13, a14))

def S34_6step (fuel : Nat) (x : Unit × Unit × (List PV) × Int × Int × PV × (List UInt8)) : Option ((Unit × Unit × (List PV) × Int × Int × PV × (List UInt8)) ⊕ ((Unit × Unit × PV × (List UInt8)))) := S34_6 fuel x.1 x.2.1 x.2.2.1 x.2.2.2.1 x.2.2.2.2.1 x.2.2.2.2.2.1 x.2.2.2.2.2.2

/-- wireschema/format.text -/
def F34 (fuel : Nat) (a0 : PV) : Option ((List UInt8)) :=
 bif (!(((a0.fld 1).asStr) == ([] : List UInt8))) then
 let x3 := (a0.fld 1).asStr
 bif decide (([115, 112, 97, 99, 101, 32] : List UInt8).length + x3.length ≤ strMax) then
 bif decide ((([115, 112, 97, 99, 101, 32] : List UInt8) ++ x3).length + ([59] : List UInt8).length ≤ strMax) then
 let x4 := (([115, 112, 97, 99, 101, 32] : List UInt8) ++ x3) ++ ([59] : List UInt8)
 (F102 fuel () (0 : Int) x4 []).bind fun y5 =>
 let x6 := (a0.fld 2).asList
 (loopQ fuel (S34_6step fuel) ((), (), x6, (x6.length : Int), (0 : Int), a0, y5)).bind fun y22 =>
 (F103 fuel () ((y22.2.2.1.fld 3).asList) () y22.2.2.2).bind fun y24 =>
 (F105 fuel () ((y22.2.2.1.fld 4).asList) () y24).bind fun y26 =>
 (F107 fuel () ((y22.2.2.1.fld 5).asList) () y26).bind fun y28 =>
 (Lstring fuel y28).bind fun y29 =>
 some y29.1
 else none
 else none
 else
 let x31 := (a0.fld 2).asList
 (loopQ fuel (S34_6step fuel) ((), (), x31, (x31.length : Int), (0 : Int), a0, [])).bind fun y33 =>
 (F103 fuel () ((y33.2.2.1.fld 3).asList) () y33.2.2.2).bind fun y35 =>
 (F105 fuel () ((y33.2.2.1.fld 4).asList) () y35).bind fun y37 =>
 (F107 fuel () ((y33.2.2.1.fld 5).asList) () y37).bind fun y39 =>
 (Lstring fuel y39).bind fun y40 =>
 some y40.1

def S34_6l (fuel : Nat) : LoopE := ⟨6, ⟨[1, 3, 18, 19, 20], [.box 27 .leaf, .bld 127], [(.con (.ref 0 [] 27)), (.con (.bref 1 127)), (.slice 9), (.int .i64), (.int .i64), (.data 27), .str]⟩, [(.exit 0, ⟨[1, 3], [.box 27 .leaf, .bld 127], [(.con (.ref 0 [] 27)), (.con (.bref 1 127)), (.data 27), .str]⟩)], S34_6step fuel⟩

def F34C (fuel : Nat) : Cfg := cfg Tryz.prog 53 0 [F102c fuel, F52c fuel, F103c fuel, F105c fuel, F107c fuel, Lstring_127c fuel] [S34_6l fuel] fuel

def F34c (fuel : Nat) : CallE := ⟨34, ⟨1, [], [(.data 27)]⟩, ⟨1, [], [.str]⟩, fun x => F34 fuel x, []⟩

theorem F34k (fuel : Nat) : CallOk (F34C fuel) := cfg_callOk (qc (F102ok fuel) <| qc (F52ok fuel) <| qc (F103ok fuel) <| qc (F105ok fuel) <| qc (F107ok fuel) <| qc (Lstring_127ok fuel) <| q0)

theorem S34_6ok (fuel : Nat) : LoopOk (F34C fuel) (lp (bodyOf Tryz.f34) 0) := okL (F34k fuel) fuel (S34_6l fuel) L0

theorem F34ok (fuel : Nat) : (F34c fuel).Ok Tryz.prog := okE Tryz.f34 (F34k fuel) (L1 (S34_6ok fuel))

def S12_9 (fuel : Nat) (a9 : Unit) (a10 : List PV) (a11 : Int) (a12 : Int) (a13 : PV) : Option ((Unit × (List PV) × Int × Int × PV) ⊕ ((Int × PV) ⊕ (Unit × PV))) :=
 bif (decide (a12 < a11)) then
 bif inRange a12 a10.length then
 let x15 := a10.getD a12.toNat .bad
 (F32 fuel ((x15.fld 0).asList) ((x15.fld 1).asInt)).bind fun y18 =>
 bif (y18 != (0 : Int)) then
 some (.inr (.inl (y18, a13)))
 else
 some (.inl ((), a10, a11, (IntKind.wrap .i64 (a12 + (1 : Int))), a13))
 else none
 else
 some (.inr (.inr ((), a13)))

def S12_9step (fuel : Nat) (x : Unit × (List PV) × Int × Int × PV) : Option ((Unit × (List PV) × Int × Int × PV) ⊕ ((Int × PV) ⊕ (Unit × PV))) := S12_9 fuel x.1 x.2.1 x.2.2.1 x.2.2.2.1 x.2.2.2.2

/-- wireschema/format.Check -/
def F12 (fuel : Nat) (a0 : PV) : Option (Int) :=
 (F28 fuel a0).bind fun y1 =>
 bif (!y1) then
 some (8 : Int)
 else
 (F29 fuel a0).bind fun y3 =>
 bif (!y3) then
 some (1 : Int)
 else
 (F30 fuel a0).bind fun y5 =>
 bif (!y5) then
 some (7 : Int)
 else
 (F31 fuel a0).bind fun y7 =>
 (loopQ fuel (S12_9step fuel) ((), y7, (y7.length : Int), (0 : Int), a0)).bind fun z => sumE (fun y21 =>
 some y21.1
 ) (fun y22 =>
 (F33 fuel y22.2).bind fun y24 =>
 let x25 := !y24
 (bif !x25 then F34 fuel y22.2 else some []).bind fun y27 =>
 bif (bif x25 then true else (decide ((y27.length : Int) > (16384 : Int)))) then
 some (3 : Int)
 else
 some (0 : Int)
 ) z

def S12_9l (fuel : Nat) : LoopE := ⟨9, ⟨[1, 19, 20, 21], [.box 27 .leaf], [(.con (.ref 0 [] 27)), (.slice 71), (.int .i64), (.int .i64), (.data 27)]⟩, [(.ret, ⟨[2], [.box 27 .leaf], [(.int .i64), (.data 27)]⟩), (.exit 1, ⟨[1], [.box 27 .leaf], [(.con (.ref 0 [] 27)), (.data 27)]⟩)], S12_9step fuel⟩

def F12C (fuel : Nat) : Cfg := cfg Tryz.prog 43 0 [F28c fuel, F29c fuel, F30c fuel, F31c fuel, F32c fuel, F33c fuel, F34c fuel] [S12_9l fuel] fuel

def F12c (fuel : Nat) : CallE := ⟨12, ⟨1, [], [(.data 27)]⟩, ⟨1, [], [(.int .i64)]⟩, fun x => F12 fuel x, 0⟩

theorem F12k (fuel : Nat) : CallOk (F12C fuel) := cfg_callOk (qc (F28ok fuel) <| qc (F29ok fuel) <| qc (F30ok fuel) <| qc (F31ok fuel) <| qc (F32ok fuel) <| qc (F33ok fuel) <| qc (F34ok fuel) <| q0)

theorem S12_9ok (fuel : Nat) : LoopOk (F12C fuel) (lp (bodyOf Tryz.f12) 0) := okL (F12k fuel) fuel (S12_9l fuel) L0

theorem F12ok (fuel : Nat) : (F12c fuel).Ok Tryz.prog := okE Tryz.f12 (F12k fuel) (L1 (S12_9ok fuel))

/-- wireschema/format.Print -/
def F15 (fuel : Nat) (a0 : PV) : Option ((List UInt8)) :=
 (F12 fuel a0).bind fun y1 =>
 bif (y1 != (0 : Int)) then
 some ([] : List UInt8)
 else
 (F34 fuel a0).bind fun y3 =>
 some y3

def F15c (fuel : Nat) : CallE := ⟨15, ⟨1, [], [(.data 27)]⟩, ⟨1, [], [.str]⟩, fun x => F15 fuel x, []⟩

theorem F15ok (fuel : Nat) : (F15c fuel).Ok Tryz.prog := okI Tryz.f15 8 0 fuel [F12c fuel, F34c fuel] (qc (F12ok fuel) <| qc (F34ok fuel) <| q0) L0

/-- wireschema/wireschemalaw10.awake -/
def F14 (fuel : Nat)  : Option (Bool) :=
 (F15 fuel (PV.agg [(PV.str ([] : List UInt8)), (PV.str ([97] : List UInt8)), (PV.slice []), (PV.slice [(PV.agg [(PV.str ([77] : List UInt8)), (PV.slice [(PV.agg [(PV.int (1 : Int)), (PV.str ([120] : List UInt8)), (PV.int (2 : Int)), (PV.int (0 : Int)), (PV.agg [(PV.int (2 : Int)), (PV.str ([] : List UInt8))]), (PV.str ([] : List UInt8)), (PV.bool true), (PV.agg [(PV.int (2 : Int)), (PV.int (18446744073709551611 : Int)), (PV.str ([] : List UInt8)), (PV.slice []), (PV.slice []), (PV.slice []), (PV.slice [])]), (PV.slice [])])]), (PV.slice []), (PV.slice []), (PV.slice [])])]), (PV.slice []), (PV.slice [])])).bind fun y1 =>
 let x2 := y1 == ([115, 112, 97, 99, 101, 32, 97, 59, 10, 10, 109, 101, 115, 115, 97, 103, 101, 32, 77, 32, 123, 10, 32, 32, 111, 112, 116, 105, 111, 110, 97, 108, 32, 105, 51, 50, 32, 120, 32, 61, 32, 49, 32, 100, 101, 102, 97, 117, 108, 116, 32, 45, 53, 59, 10, 125, 10] : List UInt8)
 (bif x2 then F12 fuel (PV.agg [(PV.str ([] : List UInt8)), (PV.str ([97] : List UInt8)), (PV.slice []), (PV.slice [(PV.agg [(PV.str ([77] : List UInt8)), (PV.slice [(PV.agg [(PV.int (1 : Int)), (PV.str ([120] : List UInt8)), (PV.int (2 : Int)), (PV.int (0 : Int)), (PV.agg [(PV.int (2 : Int)), (PV.str ([] : List UInt8))]), (PV.str ([] : List UInt8)), (PV.bool true), (PV.agg [(PV.int (2 : Int)), (PV.int (18446744073709551611 : Int)), (PV.str ([] : List UInt8)), (PV.slice []), (PV.slice []), (PV.slice []), (PV.slice [])]), (PV.slice [])])]), (PV.slice []), (PV.slice []), (PV.slice [])])]), (PV.slice []), (PV.slice [])]) else some 0).bind fun y3 =>
 some (bif x2 then (y3 == (0 : Int)) else false)

def F14c (fuel : Nat) : CallE := ⟨14, ⟨0, [], []⟩, ⟨1, [], [.bool]⟩, fun x => F14 fuel , false⟩

theorem F14ok (fuel : Nat) : (F14c fuel).Ok Tryz.prog := okI Tryz.f14 19 0 fuel [F15c fuel, F12c fuel] (qc (F15ok fuel) <| qc (F12ok fuel) <| q0) L0


theorem awake_run : F14 1000 = some true := by kernel_rfl
def Lawake (fuel : Nat) : Option Bool := some true
def Lawakec (fuel : Nat) : CallE := { f := 14, A := ⟨0, [], []⟩, R := ⟨1, [], [.bool]⟩, F := fun x => Lawake fuel, dflt := false }
theorem Lawakeok (fuel : Nat) : (Lawakec fuel).Ok Tryz.prog := fun x y h => F14ok 1000 () y (awake_run.trans h)

def S27_4 (fuel : Nat) (a1 : List PV) (a2 : Int) (a3 : Int) : Option (((List PV) × Int × Int) ⊕ ((Int))) :=
 bif (decide (a3 < (a1.length : Int))) then
 bif inRange a3 a1.length then
 let x8 := ((a1.getD a3.toNat .bad).asStr.length : Int)
 let x10 := IntKind.wrap .i64 (a2 + (if (9999 : Int) < x8 then (9999 : Int) else x8))
 some (.inl (a1, (if (9999 : Int) < x10 then (9999 : Int) else x10), (IntKind.wrap .i64 (a3 + (1 : Int)))))
 else none
 else
 some (.inr a2)

def S27_4step (fuel : Nat) (x : (List PV) × Int × Int) : Option (((List PV) × Int × Int) ⊕ ((Int))) := S27_4 fuel x.1 x.2.1 x.2.2

/-- wireschema/wireschemalaw10.size -/
def F27 (fuel : Nat) (a0 : List PV) : Option (Int) :=
 (loopQ fuel (S27_4step fuel) (a0, (0 : Int), (0 : Int))).bind fun y13 =>
 some y13

def S27_4l (fuel : Nat) : LoopE := ⟨4, ⟨[0, 3, 4], [], [(.slice 9), (.int .i64), (.int .i64)]⟩, [(.exit 0, ⟨[3], [], [(.int .i64)]⟩)], S27_4step fuel⟩

def F27C (fuel : Nat) : Cfg := cfg Tryz.prog 21 0 [] [S27_4l fuel] fuel

def F27c (fuel : Nat) : CallE := ⟨27, ⟨1, [], [(.slice 9)]⟩, ⟨1, [], [(.int .i64)]⟩, fun x => F27 fuel x, 0⟩

theorem F27k (fuel : Nat) : CallOk (F27C fuel) := cfg_callOk (q0)

theorem S27_4ok (fuel : Nat) : LoopOk (F27C fuel) (lp (bodyOf Tryz.f27) 0) := okL (F27k fuel) fuel (S27_4l fuel) L0

theorem F27ok (fuel : Nat) : (F27c fuel).Ok Tryz.prog := okE Tryz.f27 (F27k fuel) (L1 (S27_4ok fuel))

def S11_6 (fuel : Nat) (a18 : Unit) (a19 : Int) (a20 : Int) (a21 : PV) : Option ((Unit × Int × Int × PV) ⊕ ((Bool × PV) ⊕ (Unit × Int × PV))) :=
 bif (decide (a20 < (((a21.fld 3).asList).length : Int))) then
 let x25 := (a21.fld 3).asList
 bif inRange a20 x25.length then
 let x26 := x25.getD a20.toNat .bad
 bif (bif (bif (decide ((((x26.fld 1).asList).length : Int) > (70 : Int))) then true else (decide ((((x26.fld 2).asList).length : Int) > (70 : Int)))) then true else (decide ((((x26.fld 3).asList).length : Int) > (70 : Int)))) then
 some (.inr (.inl (false, a21)))
 else
 (F27 fuel ((x26.fld 3).asList)).bind fun y39 =>
 some (.inl ((), (IntKind.wrap .i64 (a19 + y39)), (IntKind.wrap .i64 (a20 + (1 : Int))), a21))
 else none
 else
 some (.inr (.inr ((), a19, a21)))

def S11_6step (fuel : Nat) (x : Unit × Int × Int × PV) : Option ((Unit × Int × Int × PV) ⊕ ((Bool × PV) ⊕ (Unit × Int × PV))) := S11_6 fuel x.1 x.2.1 x.2.2.1 x.2.2.2

def S11_13 (fuel : Nat) (a44 : Unit) (a45 : Int) (a46 : Int) (a47 : PV) : Option ((Unit × Int × Int × PV) ⊕ ((Bool × PV) ⊕ (Unit × Int × PV))) :=
 bif (decide (a46 < (((a47.fld 4).asList).length : Int))) then
 let x51 := (a47.fld 4).asList
 bif inRange a46 x51.length then
 let x56 := decide ((((x51.getD a46.toNat .bad).fld 2).asList.length : Int) > (70 : Int))
 let x57 := (a47.fld 4).asList
 bif imp (!x56) (inRange a46 x57.length) then
 bif (bif x56 then true else (decide ((((x57.getD a46.toNat .bad).fld 3).asList.length : Int) > (70 : Int)))) then
 some (.inr (.inl (false, a47)))
 else
 some (.inl ((), a45, (IntKind.wrap .i64 (a46 + (1 : Int))), a47))
 else none
 else none
 else
 some (.inr (.inr ((), a45, a47)))

def S11_13step (fuel : Nat) (x : Unit × Int × Int × PV) : Option ((Unit × Int × Int × PV) ⊕ ((Bool × PV) ⊕ (Unit × Int × PV))) := S11_13 fuel x.1 x.2.1 x.2.2.1 x.2.2.2

def S11_18 (fuel : Nat) (a67 : Unit) (a68 : Int) (a69 : Int) (a70 : PV) : Option ((Unit × Int × Int × PV) ⊕ ((Bool × PV) ⊕ (Int × PV))) :=
 bif (decide (a69 < (((a70.fld 5).asList).length : Int))) then
 let x74 := (a70.fld 5).asList
 bif inRange a69 x74.length then
 bif (decide ((((x74.getD a69.toNat .bad).fld 1).asList.length : Int) > (70 : Int))) then
 some (.inr (.inl (false, a70)))
 else
 some (.inl ((), a68, (IntKind.wrap .i64 (a69 + (1 : Int))), a70))
 else none
 else
 some (.inr (.inr (a68, a70)))

def S11_18step (fuel : Nat) (x : Unit × Int × Int × PV) : Option ((Unit × Int × Int × PV) ⊕ ((Bool × PV) ⊕ (Int × PV))) := S11_18 fuel x.1 x.2.1 x.2.2.1 x.2.2.2

/-- wireschema/wireschemalaw10.few -/
def F11 (fuel : Nat) (a0 : PV) : Option (Bool) :=
 bif (bif (bif (bif (decide ((((a0.fld 2).asList).length : Int) > (70 : Int))) then true else (decide ((((a0.fld 3).asList).length : Int) > (70 : Int)))) then true else (decide ((((a0.fld 4).asList).length : Int) > (70 : Int)))) then true else (decide ((((a0.fld 5).asList).length : Int) > (70 : Int)))) then
 some false
 else
 (F27 fuel ((a0.fld 2).asList)).bind fun y17 =>
 (loopQ fuel (S11_6step fuel) ((), y17, (0 : Int), a0)).bind fun z => sumE (fun y42 =>
 some y42.1
 ) (fun y43 =>
 (loopQ fuel (S11_13step fuel) ((), y43.2.1, (0 : Int), y43.2.2)).bind fun z => sumE (fun y65 =>
 some y65.1
 ) (fun y66 =>
 (loopQ fuel (S11_18step fuel) ((), y66.2.1, (0 : Int), y66.2.2)).bind fun z => sumE (fun y81 =>
 some y81.1
 ) (fun y82 =>
 some (decide (y82.1 ≤ (2000 : Int)))
 ) z
 ) z
 ) z

def S11_6l (fuel : Nat) : LoopE := ⟨6, ⟨[1, 3, 4], [.box 27 .leaf], [(.con (.ref 0 [] 27)), (.int .i64), (.int .i64), (.data 27)]⟩, [(.ret, ⟨[2], [.box 27 .leaf], [.bool, (.data 27)]⟩), (.exit 0, ⟨[1, 3], [.box 27 .leaf], [(.con (.ref 0 [] 27)), (.int .i64), (.data 27)]⟩)], S11_6step fuel⟩

def S11_13l (fuel : Nat) : LoopE := ⟨13, ⟨[1, 3, 6], [.box 27 .leaf], [(.con (.ref 0 [] 27)), (.int .i64), (.int .i64), (.data 27)]⟩, [(.ret, ⟨[2], [.box 27 .leaf], [.bool, (.data 27)]⟩), (.exit 2, ⟨[1, 3], [.box 27 .leaf], [(.con (.ref 0 [] 27)), (.int .i64), (.data 27)]⟩)], S11_13step fuel⟩

def S11_18l (fuel : Nat) : LoopE := ⟨18, ⟨[1, 3, 7], [.box 27 .leaf], [(.con (.ref 0 [] 27)), (.int .i64), (.int .i64), (.data 27)]⟩, [(.ret, ⟨[2], [.box 27 .leaf], [.bool, (.data 27)]⟩), (.exit 4, ⟨[3], [.box 27 .leaf], [(.int .i64), (.data 27)]⟩)], S11_18step fuel⟩

def F11C (fuel : Nat) : Cfg := cfg Tryz.prog 108 0 [F27c fuel] [S11_6l fuel, S11_13l fuel, S11_18l fuel] fuel

def F11c (fuel : Nat) : CallE := ⟨11, ⟨1, [], [(.data 27)]⟩, ⟨1, [], [.bool]⟩, fun x => F11 fuel x, false⟩

theorem F11k (fuel : Nat) : CallOk (F11C fuel) := cfg_callOk (qc (F27ok fuel) <| q0)

theorem S11_6ok (fuel : Nat) : LoopOk (F11C fuel) (lp (bodyOf Tryz.f11) 0) := okL (F11k fuel) fuel (S11_6l fuel) L0

theorem S11_13ok (fuel : Nat) : LoopOk (F11C fuel) (lp (bodyOf Tryz.f11) 1) := okL (F11k fuel) fuel (S11_13l fuel) L0

theorem S11_18ok (fuel : Nat) : LoopOk (F11C fuel) (lp (bodyOf Tryz.f11) 2) := okL (F11k fuel) fuel (S11_18l fuel) L0

theorem F11ok (fuel : Nat) : (F11c fuel).Ok Tryz.prog := okE Tryz.f11 (F11k fuel) (L3 (S11_6ok fuel) (S11_13ok fuel) (S11_18ok fuel))

/-- wireschema/token.letter -/
def F237 (fuel : Nat) (a0 : Int) : Option (Bool) :=
 some (bif (bif (decide (a0 ≥ (97 : Int))) then (decide (a0 ≤ (122 : Int))) else false) then true else (bif (decide (a0 ≥ (65 : Int))) then (decide (a0 ≤ (90 : Int))) else false))

def F237c (fuel : Nat) : CallE := ⟨237, ⟨1, [], [(.int .u8)]⟩, ⟨1, [], [.bool]⟩, fun x => F237 fuel x, false⟩

theorem F237ok (fuel : Nat) : (F237c fuel).Ok Tryz.prog := okI Tryz.f237 17 0 fuel [] (q0) L0

/-- wireschema/token.digit -/
def F238 (fuel : Nat) (a0 : Int) : Option (Bool) :=
 some (bif (decide (a0 ≥ (48 : Int))) then (decide (a0 ≤ (57 : Int))) else false)

def F238c (fuel : Nat) : CallE := ⟨238, ⟨1, [], [(.int .u8)]⟩, ⟨1, [], [.bool]⟩, fun x => F238 fuel x, false⟩

theorem F238ok (fuel : Nat) : (F238c fuel).Ok Tryz.prog := okI Tryz.f238 9 0 fuel [] (q0) L0

/-- wireschema/token.isSign -/
def F239 (fuel : Nat) (a0 : List UInt8) : Option (Bool) :=
 let x2 := (a0.length : Int) == (1 : Int)
 (bif x2 then Lcontains fuel ([123, 125, 91, 93, 40, 41, 60, 62, 61, 59, 44, 64, 45] : List UInt8) a0 else some false).bind fun y3 =>
 some (bif x2 then y3 else false)

def F239c (fuel : Nat) : CallE := ⟨239, ⟨1, [], [.str]⟩, ⟨1, [], [.bool]⟩, fun x => F239 fuel x, false⟩

theorem F239ok (fuel : Nat) : (F239c fuel).Ok Tryz.prog := okI Tryz.f239 10 0 fuel [Lcontainsc fuel] (qc (Lcontainsok fuel) <| q0) L0

/-- wireschema/token.state -/
def F161 (fuel : Nat) (a0 : List UInt8) : Option (Int) :=
 bif inRange (0 : Int) a0.length then
 let x1 := ((a0.getD (0 : Int).toNat 0).toNat : Int)
 bif (bif (bif (bif (x1 == (32 : Int)) then true else (x1 == (9 : Int))) then true else (x1 == (13 : Int))) then true else (x1 == (10 : Int))) then
 some (1 : Int)
 else
 (F236 fuel a0 ([47, 47] : List UInt8)).bind fun y9 =>
 bif y9 then
 some (2 : Int)
 else
 (F237 fuel x1).bind fun y10 =>
 let x14 := bif (x1 == (46 : Int)) then (decide ((a0.length : Int) > (1 : Int))) else false
 bif imp (bif x14 then !y10 else false) (inRange (1 : Int) a0.length) then
 (bif bif x14 then !y10 else false then F237 fuel ((a0.getD (1 : Int).toNat 0).toNat : Int) else some false).bind fun y16 =>
 bif (bif y10 then true else (bif x14 then y16 else false)) then
 some (3 : Int)
 else
 (F238 fuel x1).bind fun y19 =>
 bif y19 then
 some (4 : Int)
 else
 bif (x1 == (34 : Int)) then
 some (5 : Int)
 else
 bif decide (0 ≤ (0 : Int) ∧ (0 : Int) ≤ (1 : Int) ∧ (1 : Int) ≤ (a0.length : Int)) then
 (F239 fuel ((a0.take (1 : Int).toNat).drop (0 : Int).toNat)).bind fun y22 =>
 bif y22 then
 some (6 : Int)
 else
 some (0 : Int)
 else none
 else none
 else none

def F161c (fuel : Nat) : CallE := ⟨161, ⟨1, [], [.str]⟩, ⟨1, [], [(.int .i64)]⟩, fun x => F161 fuel x, 0⟩

theorem F161ok (fuel : Nat) : (F161c fuel).Ok Tryz.prog := okI Tryz.f161 51 0 fuel [F236c fuel, F237c fuel, F238c fuel, F239c fuel] (qc (F236ok fuel) <| qc (F237ok fuel) <| qc (F238ok fuel) <| qc (F239ok fuel) <| q0) L0

/-- wireschema/token.skip$1 -/
def F163 (fuel : Nat) (a0 : Int) : Option (Bool) :=
 some (a0 != (10 : Int))

def F163c (fuel : Nat) : CallE := ⟨163, ⟨1, [], [(.int .u8)]⟩, ⟨1, [], [.bool]⟩, fun x => F163 fuel x, false⟩

theorem F163ok (fuel : Nat) : (F163c fuel).Ok Tryz.prog := okI Tryz.f163 5 0 fuel [] (q0) L0

def S162_3 (fuel : Nat) (a1 : List UInt8) (a2 : Unit) (a3 : Int) : Option (((List UInt8) × Unit × Int) ⊕ ((Int))) :=
 let x5 := decide (a3 < (a1.length : Int))
 bif imp x5 (inRange a3 a1.length) then
 (bif x5 then F163 fuel ((a1.getD a3.toNat 0).toNat : Int) else some false).bind fun y7 =>
 bif (bif x5 then y7 else false) then
 some (.inl (a1, (), (IntKind.wrap .i64 (a3 + (1 : Int)))))
 else
 some (.inr a3)
 else none

def S162_3step (fuel : Nat) (x : (List UInt8) × Unit × Int) : Option (((List UInt8) × Unit × Int) ⊕ ((Int))) := S162_3 fuel x.1 x.2.1 x.2.2

/-- wireschema/token.run -/
def F162 (fuel : Nat) (a0 : List UInt8) (a1 : Unit) : Option (Int) :=
 (loopQ fuel (S162_3step fuel) (a0, (), (0 : Int))).bind fun y10 =>
 some y10

def S162_3l (fuel : Nat) : LoopE := ⟨3, ⟨[0, 1, 5], [], [.str, (.con (.fn 163 0 [])), (.int .i64)]⟩, [(.exit 0, ⟨[5], [], [(.int .i64)]⟩)], S162_3step fuel⟩

def F162C (fuel : Nat) : Cfg := cfg Tryz.prog 20 0 [F163c fuel] [S162_3l fuel] fuel

def F162c (fuel : Nat) : CallE := ⟨162, ⟨2, [], [.str, (.con (.fn 163 0 []))]⟩, ⟨1, [], [(.int .i64)]⟩, fun x => F162 fuel x.1 x.2, 0⟩

theorem F162k (fuel : Nat) : CallOk (F162C fuel) := cfg_callOk (qc (F163ok fuel) <| q0)

theorem S162_3ok (fuel : Nat) : LoopOk (F162C fuel) (lp (bodyOf Tryz.f162) 0) := okL (F162k fuel) fuel (S162_3l fuel) L0

theorem F162ok (fuel : Nat) : (F162c fuel).Ok Tryz.prog := okE Tryz.f162 (F162k fuel) (L1 (S162_3ok fuel))

def S67_3 (fuel : Nat) (a1 : List UInt8) (a2 : Int) : Option (((List UInt8) × Int) ⊕ ((Int) ⊕ (Int))) :=
 bif (decide (a2 < (a1.length : Int))) then
 bif decide (0 ≤ a2 ∧ a2 ≤ (a1.length : Int) ∧ (a1.length : Int) ≤ (a1.length : Int)) then
 (F161 fuel ((a1.take (a1.length : Int).toNat).drop a2.toNat)).bind fun y6 =>
 bif (y6 == (1 : Int)) then
 some (.inl (a1, (IntKind.wrap .i64 (a2 + (1 : Int)))))
 else
 bif (y6 == (2 : Int)) then
 bif decide (0 ≤ a2 ∧ a2 ≤ (a1.length : Int) ∧ (a1.length : Int) ≤ (a1.length : Int)) then
 (F162 fuel ((a1.take (a1.length : Int).toNat).drop a2.toNat) ()).bind fun y11 =>
 some (.inl (a1, (IntKind.wrap .i64 (a2 + y11))))
 else none
 else
 some (.inr (.inl a2))
 else none
 else
 some (.inr (.inr a2))

def S67_3step (fuel : Nat) (x : (List UInt8) × Int) : Option (((List UInt8) × Int) ⊕ ((Int) ⊕ (Int))) := S67_3 fuel x.1 x.2

/-- wireschema/token.skip -/
def F67 (fuel : Nat) (a0 : List UInt8) : Option (Int) :=
 (loopQ fuel (S67_3step fuel) (a0, (0 : Int))).bind fun z => sumE (fun y13 =>
 some y13
 ) (fun y14 =>
 some y14
 ) z

def S67_3l (fuel : Nat) : LoopE := ⟨3, ⟨[0, 3], [], [.str, (.int .i64)]⟩, [(.ret, ⟨[2], [], [(.int .i64)]⟩), (.exit 0, ⟨[3], [], [(.int .i64)]⟩)], S67_3step fuel⟩

def F67C (fuel : Nat) : Cfg := cfg Tryz.prog 26 0 [F161c fuel, F162c fuel] [S67_3l fuel] fuel

def F67c (fuel : Nat) : CallE := ⟨67, ⟨1, [], [.str]⟩, ⟨1, [], [(.int .i64)]⟩, fun x => F67 fuel x, 0⟩

theorem F67k (fuel : Nat) : CallOk (F67C fuel) := cfg_callOk (qc (F161ok fuel) <| qc (F162ok fuel) <| q0)

theorem S67_3ok (fuel : Nat) : LoopOk (F67C fuel) (lp (bodyOf Tryz.f67) 0) := okL (F67k fuel) fuel (S67_3l fuel) L0

theorem F67ok (fuel : Nat) : (F67c fuel).Ok Tryz.prog := okE Tryz.f67 (F67k fuel) (L1 (S67_3ok fuel))

/-- wireschema/token.goes -/
def F242 (fuel : Nat) (a0 : Int) : Option (Bool) :=
 (F237 fuel a0).bind fun y1 =>
 (bif !y1 then F238 fuel a0 else some false).bind fun y2 =>
 some (bif (bif y1 then true else y2) then true else (a0 == (95 : Int)))

def F242c (fuel : Nat) : CallE := ⟨242, ⟨1, [], [(.int .u8)]⟩, ⟨1, [], [.bool]⟩, fun x => F242 fuel x, false⟩

theorem F242ok (fuel : Nat) : (F242c fuel).Ok Tryz.prog := okI Tryz.f242 13 0 fuel [F237c fuel, F238c fuel] (qc (F237ok fuel) <| qc (F238ok fuel) <| q0) L0

def S162_v1_3 (fuel : Nat) (a1 : List UInt8) (a2 : Unit) (a3 : Int) : Option (((List UInt8) × Unit × Int) ⊕ ((Int))) :=
 let x5 := decide (a3 < (a1.length : Int))
 bif imp x5 (inRange a3 a1.length) then
 (bif x5 then F242 fuel ((a1.getD a3.toNat 0).toNat : Int) else some false).bind fun y7 =>
 bif (bif x5 then y7 else false) then
 some (.inl (a1, (), (IntKind.wrap .i64 (a3 + (1 : Int)))))
 else
 some (.inr a3)
 else none

def S162_v1_3step (fuel : Nat) (x : (List UInt8) × Unit × Int) : Option (((List UInt8) × Unit × Int) ⊕ ((Int))) := S162_v1_3 fuel x.1 x.2.1 x.2.2

/-- wireschema/token.run -/
def F162_v1 (fuel : Nat) (a0 : List UInt8) (a1 : Unit) : Option (Int) :=
 (loopQ fuel (S162_v1_3step fuel) (a0, (), (0 : Int))).bind fun y10 =>
 some y10

def S162_v1_3l (fuel : Nat) : LoopE := ⟨3, ⟨[0, 1, 5], [], [.str, (.con (.fn 242 0 [])), (.int .i64)]⟩, [(.exit 0, ⟨[5], [], [(.int .i64)]⟩)], S162_v1_3step fuel⟩

def F162_v1C (fuel : Nat) : Cfg := cfg Tryz.prog 20 0 [F242c fuel] [S162_v1_3l fuel] fuel

def F162_v1c (fuel : Nat) : CallE := ⟨162, ⟨2, [], [.str, (.con (.fn 242 0 []))]⟩, ⟨1, [], [(.int .i64)]⟩, fun x => F162_v1 fuel x.1 x.2, 0⟩

theorem F162_v1k (fuel : Nat) : CallOk (F162_v1C fuel) := cfg_callOk (qc (F242ok fuel) <| q0)

theorem S162_v1_3ok (fuel : Nat) : LoopOk (F162_v1C fuel) (lp (bodyOf Tryz.f162) 0) := okL (F162_v1k fuel) fuel (S162_v1_3l fuel) L0

theorem F162_v1ok (fuel : Nat) : (F162_v1c fuel).Ok Tryz.prog := okE Tryz.f162 (F162_v1k fuel) (L1 (S162_v1_3ok fuel))

def S241_5 (fuel : Nat) (a3 : List UInt8) (a4 : Int) : Option (((List UInt8) × Int) ⊕ ((Int))) :=
 bif decide (0 ≤ a4 ∧ a4 ≤ (a3.length : Int) ∧ (a3.length : Int) ≤ (a3.length : Int)) then
 (F162_v1 fuel ((a3.take (a3.length : Int).toNat).drop a4.toNat) ()).bind fun y6 =>
 let x7 := IntKind.wrap .i64 (a4 + y6)
 let x10 := decide ((IntKind.wrap .i64 (x7 + (1 : Int))) ≥ (a3.length : Int))
 bif imp (!x10) (inRange x7 a3.length) then
 let x13 := bif x10 then true else (((a3.getD x7.toNat 0).toNat : Int) != (46 : Int))
 let x14 := IntKind.wrap .i64 (x7 + (1 : Int))
 bif imp (!x13) (inRange x14 a3.length) then
 (bif !x13 then F237 fuel ((a3.getD x14.toNat 0).toNat : Int) else some false).bind fun y16 =>
 bif (bif x13 then true else (!y16)) then
 some (.inr x7)
 else
 some (.inl (a3, (IntKind.wrap .i64 (x7 + (1 : Int)))))
 else none
 else none
 else none

def S241_5step (fuel : Nat) (x : (List UInt8) × Int) : Option (((List UInt8) × Int) ⊕ ((Int))) := S241_5 fuel x.1 x.2

/-- wireschema/token.nameLen -/
def F241 (fuel : Nat) (a0 : List UInt8) : Option (Int) :=
 bif inRange (0 : Int) a0.length then
 bif (((a0.getD (0 : Int).toNat 0).toNat : Int) == (46 : Int)) then
 (loopQ fuel (S241_5step fuel) (a0, (1 : Int))).bind fun y20 =>
 some y20
 else
 (loopQ fuel (S241_5step fuel) (a0, (0 : Int))).bind fun y21 =>
 some y21
 else none

def S241_5l (fuel : Nat) : LoopE := ⟨5, ⟨[0, 3], [], [.str, (.int .i64)]⟩, [(.ret, ⟨[2], [], [(.int .i64)]⟩)], S241_5step fuel⟩

def F241C (fuel : Nat) : Cfg := cfg Tryz.prog 35 0 [F162_v1c fuel, F237c fuel] [S241_5l fuel] fuel

def F241c (fuel : Nat) : CallE := ⟨241, ⟨1, [], [.str]⟩, ⟨1, [], [(.int .i64)]⟩, fun x => F241 fuel x, 0⟩

theorem F241k (fuel : Nat) : CallOk (F241C fuel) := cfg_callOk (qc (F162_v1ok fuel) <| qc (F237ok fuel) <| q0)

theorem S241_5ok (fuel : Nat) : LoopOk (F241C fuel) (lp (bodyOf Tryz.f241) 0) := okL (F241k fuel) fuel (S241_5l fuel) L0

theorem F241ok (fuel : Nat) : (F241c fuel).Ok Tryz.prog := okE Tryz.f241 (F241k fuel) (L1 (S241_5ok fuel))

/-- wireschema/token.readName -/
def F167 (fuel : Nat) (a0 : List UInt8) : Option (PV × Int × Int) :=
 (F241 fuel a0).bind fun y1 =>
 bif decide (0 ≤ (0 : Int) ∧ (0 : Int) ≤ y1 ∧ y1 ≤ (a0.length : Int)) then
 (F128 fuel ((a0.take y1.toNat).drop (0 : Int).toNat) ([46] : List UInt8)).bind fun y3 =>
 (F127 fuel y3).bind fun y4 =>
 bif (!y4) then
 some ((PV.agg [(PV.int (0 : Int)), (PV.str ([] : List UInt8)), (PV.int (0 : Int)), (PV.int (0 : Int))]), (0 : Int), (8 : Int))
 else
 bif decide (0 ≤ (0 : Int) ∧ (0 : Int) ≤ y1 ∧ y1 ≤ (a0.length : Int)) then
 some ((PV.agg [(PV.int (1 : Int)), (PV.str ((a0.take y1.toNat).drop (0 : Int).toNat)), (PV.int (0 : Int)), (PV.int (0 : Int))]), y1, (0 : Int))
 else none
 else none

def F167c (fuel : Nat) : CallE := ⟨167, ⟨1, [], [.str]⟩, ⟨3, [], [(.data 89), (.int .i64), (.int .i64)]⟩, fun x => F167 fuel x, (PV.bad, 0, 0)⟩

theorem F167ok (fuel : Nat) : (F167c fuel).Ok Tryz.prog := okI Tryz.f167 20 0 fuel [F241c fuel, F128c fuel, F127c fuel] (qc (F241ok fuel) <| qc (F128ok fuel) <| qc (F127ok fuel) <| q0) L0

def S162_v2_3 (fuel : Nat) (a1 : List UInt8) (a2 : Unit) (a3 : Int) : Option (((List UInt8) × Unit × Int) ⊕ ((Int))) :=
 let x5 := decide (a3 < (a1.length : Int))
 bif imp x5 (inRange a3 a1.length) then
 (bif x5 then F238 fuel ((a1.getD a3.toNat 0).toNat : Int) else some false).bind fun y7 =>
 bif (bif x5 then y7 else false) then
 some (.inl (a1, (), (IntKind.wrap .i64 (a3 + (1 : Int)))))
 else
 some (.inr a3)
 else none

def S162_v2_3step (fuel : Nat) (x : (List UInt8) × Unit × Int) : Option (((List UInt8) × Unit × Int) ⊕ ((Int))) := S162_v2_3 fuel x.1 x.2.1 x.2.2

/-- wireschema/token.run -/
def F162_v2 (fuel : Nat) (a0 : List UInt8) (a1 : Unit) : Option (Int) :=
 (loopQ fuel (S162_v2_3step fuel) (a0, (), (0 : Int))).bind fun y10 =>
 some y10

def S162_v2_3l (fuel : Nat) : LoopE := ⟨3, ⟨[0, 1, 5], [], [.str, (.con (.fn 238 0 [])), (.int .i64)]⟩, [(.exit 0, ⟨[5], [], [(.int .i64)]⟩)], S162_v2_3step fuel⟩

def F162_v2C (fuel : Nat) : Cfg := cfg Tryz.prog 20 0 [F238c fuel] [S162_v2_3l fuel] fuel

def F162_v2c (fuel : Nat) : CallE := ⟨162, ⟨2, [], [.str, (.con (.fn 238 0 []))]⟩, ⟨1, [], [(.int .i64)]⟩, fun x => F162_v2 fuel x.1 x.2, 0⟩

theorem F162_v2k (fuel : Nat) : CallOk (F162_v2C fuel) := cfg_callOk (qc (F238ok fuel) <| q0)

theorem S162_v2_3ok (fuel : Nat) : LoopOk (F162_v2C fuel) (lp (bodyOf Tryz.f162) 0) := okL (F162_v2k fuel) fuel (S162_v2_3l fuel) L0

theorem F162_v2ok (fuel : Nat) : (F162_v2c fuel).Ok Tryz.prog := okE Tryz.f162 (F162_v2k fuel) (L1 (S162_v2_3ok fuel))

/-- wireschema/token.readInt -/
def F168 (fuel : Nat) (a0 : List UInt8) : Option (PV × Int × Int) :=
 (F162_v2 fuel a0 ()).bind fun y1 =>
 let x2 := decide (y1 > (1 : Int))
 bif imp x2 (inRange (0 : Int) a0.length) then
 let x5 := bif x2 then (((a0.getD (0 : Int).toNat 0).toNat : Int) == (48 : Int)) else false
 let x7 := decide (y1 < (a0.length : Int))
 bif imp (bif x7 then !x5 else false) (inRange y1 a0.length) then
 (bif bif x7 then !x5 else false then F242 fuel ((a0.getD y1.toNat 0).toNat : Int) else some false).bind fun y9 =>
 bif (bif x5 then true else (bif x7 then y9 else false)) then
 some ((PV.agg [(PV.int (0 : Int)), (PV.str ([] : List UInt8)), (PV.int (0 : Int)), (PV.int (0 : Int))]), (0 : Int), (2 : Int))
 else
 bif decide (0 ≤ (0 : Int) ∧ (0 : Int) ≤ y1 ∧ y1 ≤ (a0.length : Int)) then
 (LparseUint fuel ((a0.take y1.toNat).drop (0 : Int).toNat) (10 : Int) (64 : Int)).bind fun y13 =>
 bif (!y13.2) then
 some ((PV.agg [(PV.int (0 : Int)), (PV.str ([] : List UInt8)), (PV.int (0 : Int)), (PV.int (0 : Int))]), (0 : Int), (6 : Int))
 else
 some ((PV.agg [(PV.int (2 : Int)), (PV.str ([] : List UInt8)), (PV.int (IntKind.wrap .i64 y13.1)), (PV.int (0 : Int))]), y1, (0 : Int))
 else none
 else none
 else none

def F168c (fuel : Nat) : CallE := ⟨168, ⟨1, [], [.str]⟩, ⟨3, [], [(.data 89), (.int .i64), (.int .i64)]⟩, fun x => F168 fuel x, (PV.bad, 0, 0)⟩

theorem F168ok (fuel : Nat) : (F168c fuel).Ok Tryz.prog := okI Tryz.f168 44 0 fuel [F162_v2c fuel, F242c fuel, LparseUintc fuel] (qc (F162_v2ok fuel) <| qc (F242ok fuel) <| qc (LparseUintok fuel) <| q0) L0

/-- wireschema/utf.plain -/
def F291 (fuel : Nat) (a0 : Int) : Option (Int × Bool) :=
 bif (a0 == (34 : Int)) then
 some (a0, true)
 else
 bif (a0 == (92 : Int)) then
 some (a0, true)
 else
 bif (a0 == (110 : Int)) then
 some ((10 : Int), true)
 else
 bif (a0 == (116 : Int)) then
 some ((9 : Int), true)
 else
 bif (a0 == (114 : Int)) then
 some ((13 : Int), true)
 else
 some ((0 : Int), false)

def F291c (fuel : Nat) : CallE := ⟨291, ⟨1, [], [(.int .u8)]⟩, ⟨2, [], [(.int .u8), .bool]⟩, fun x => F291 fuel x, (0, false)⟩

theorem F291ok (fuel : Nat) : (F291c fuel).Ok Tryz.prog := okI Tryz.f291 15 0 fuel [] (q0) L0

/-- wireschema/utf.value -/
def F292 (fuel : Nat) (a0 : Int) : Option (Int) :=
 (LindexByte fuel ([48, 49, 50, 51, 52, 53, 54, 55, 56, 57, 97, 98, 99, 100, 101, 102] : List UInt8) a0).bind fun y1 =>
 some y1

def F292c (fuel : Nat) : CallE := ⟨292, ⟨1, [], [(.int .u8)]⟩, ⟨1, [], [(.int .i64)]⟩, fun x => F292 fuel x, 0⟩

theorem F292ok (fuel : Nat) : (F292c fuel).Ok Tryz.prog := okI Tryz.f292 5 0 fuel [LindexBytec fuel] (qc (LindexByteok fuel) <| q0) L0

/-- wireschema/utf.unescape -/
def F244 (fuel : Nat) (a0 : List UInt8) (a1 : Int) : Option (Int × Int) :=
 bif (decide ((IntKind.wrap .i64 (a1 + (1 : Int))) ≥ (a0.length : Int))) then
 some ((0 : Int), (0 : Int))
 else
 let x4 := IntKind.wrap .i64 (a1 + (1 : Int))
 bif inRange x4 a0.length then
 (F291 fuel ((a0.getD x4.toNat 0).toNat : Int)).bind fun y6 =>
 bif y6.2 then
 some (y6.1, (2 : Int))
 else
 let x9 := IntKind.wrap .i64 (a1 + (1 : Int))
 bif inRange x9 a0.length then
 let x15 := bif (((a0.getD x9.toNat 0).toNat : Int) != (120 : Int)) then true else (decide ((IntKind.wrap .i64 (a1 + (3 : Int))) ≥ (a0.length : Int)))
 let x16 := IntKind.wrap .i64 (a1 + (2 : Int))
 bif imp (!x15) (inRange x16 a0.length) then
 (bif !x15 then F292 fuel ((a0.getD x16.toNat 0).toNat : Int) else some 0).bind fun y18 =>
 let x20 := bif x15 then true else (decide (y18 < (0 : Int)))
 let x21 := IntKind.wrap .i64 (a1 + (3 : Int))
 bif imp (!x20) (inRange x21 a0.length) then
 (bif !x20 then F292 fuel ((a0.getD x21.toNat 0).toNat : Int) else some 0).bind fun y23 =>
 bif (bif x20 then true else (decide (y23 < (0 : Int)))) then
 some ((0 : Int), (0 : Int))
 else
 let x26 := IntKind.wrap .i64 (a1 + (2 : Int))
 bif inRange x26 a0.length then
 (F292 fuel ((a0.getD x26.toNat 0).toNat : Int)).bind fun y28 =>
 let x29 := IntKind.wrap .i64 (y28 * 2 ^ (min (4 : Int).toNat (IntKind.bits .i64)))
 let x30 := IntKind.wrap .i64 (a1 + (3 : Int))
 bif inRange x30 a0.length then
 (F292 fuel ((a0.getD x30.toNat 0).toNat : Int)).bind fun y32 =>
 some ((IntKind.wrap .u8 (bitsI .or .i64 x29 y32)), (4 : Int))
 else none
 else none
 else none
 else none
 else none
 else none

def F244c (fuel : Nat) : CallE := ⟨244, ⟨2, [], [.str, (.int .i64)]⟩, ⟨2, [], [(.int .u8), (.int .i64)]⟩, fun x => F244 fuel x.1 x.2, (0, 0)⟩

theorem F244ok (fuel : Nat) : (F244c fuel).Ok Tryz.prog := okI Tryz.f244 64 0 fuel [F291c fuel, F292c fuel] (qc (F291ok fuel) <| qc (F292ok fuel) <| q0) L0

def S169_6 (fuel : Nat) (a5 : List UInt8) (a6 : List PV) (a7 : Int) : Option (((List UInt8) × (List PV) × Int) ⊕ (((List UInt8) × Int × Int) ⊕ ((List UInt8) × (List PV) × Int))) :=
 let x9 := decide (a7 < (a5.length : Int))
 bif imp x9 (inRange a7 a5.length) then
 bif (bif x9 then (((a5.getD a7.toNat 0).toNat : Int) != (34 : Int)) else false) then
 bif inRange a7 a5.length then
 let x13 := ((a5.getD a7.toNat 0).toNat : Int)
 bif (x13 == (92 : Int)) then
 (F244 fuel a5 a7).bind fun y15 =>
 let x16 := y15.1
 let x17 := y15.2
 bif (x17 == (0 : Int)) then
 some (.inr (.inl (([] : List UInt8), (0 : Int), (2 : Int))))
 else
 bif decide (a6.length + [(PV.int x16)].length ≤ accMax) then
 some (.inl (a5, (a6 ++ [(PV.int x16)]), (IntKind.wrap .i64 (a7 + x17))))
 else none
 else
 bif ((1 : Int) == (0 : Int)) then
 some (.inr (.inl (([] : List UInt8), (0 : Int), (2 : Int))))
 else
 bif decide (a6.length + [(PV.int x13)].length ≤ accMax) then
 some (.inl (a5, (a6 ++ [(PV.int x13)]), (IntKind.wrap .i64 (a7 + (1 : Int)))))
 else none
 else none
 else
 some (.inr (.inr (a5, a6, a7)))
 else none

def S169_6step (fuel : Nat) (x : (List UInt8) × (List PV) × Int) : Option (((List UInt8) × (List PV) × Int) ⊕ (((List UInt8) × Int × Int) ⊕ ((List UInt8) × (List PV) × Int))) := S169_6 fuel x.1 x.2.1 x.2.2

/-- wireschema/utf.Unquote -/
def F169 (fuel : Nat) (a0 : List UInt8) : Option ((List UInt8) × Int × Int) :=
 let x1 := a0 == ([] : List UInt8)
 bif imp (!x1) (inRange (0 : Int) a0.length) then
 bif (bif x1 then true else (((a0.getD (0 : Int).toNat 0).toNat : Int) != (34 : Int))) then
 some (([] : List UInt8), (0 : Int), (2 : Int))
 else
 (loopQ fuel (S169_6step fuel) (a0, [], (1 : Int))).bind fun z => sumE (fun y24 =>
 some (y24.1, y24.2.1, y24.2.2)
 ) (fun y25 =>
 let x27 := y25.2.1.map byteOfPV
 let x31 := decide (y25.2.2 ≥ (y25.1.length : Int))
 (bif !x31 then F52 fuel x27 else some []).bind fun y32 =>
 let x33 := y25.1
 let x35 := IntKind.wrap .i64 (y25.2.2 + (1 : Int))
 bif imp (!x31) (decide (0 ≤ (0 : Int) ∧ (0 : Int) ≤ x35 ∧ x35 ≤ (x33.length : Int))) then
 bif (bif x31 then true else (!(y32 == ((x33.take x35.toNat).drop (0 : Int).toNat)))) then
 some (([] : List UInt8), (0 : Int), (2 : Int))
 else
 some (x27, (IntKind.wrap .i64 (y25.2.2 + (1 : Int))), (0 : Int))
 else none
 ) z
 else none

def S169_6l (fuel : Nat) : LoopE := ⟨6, ⟨[0, 5, 6], [.acc], [.str, (.acc 0 5), (.int .i64)]⟩, [(.ret, ⟨[2, 3, 4], [.acc], [.str, (.int .i64), (.int .i64)]⟩), (.exit 0, ⟨[0, 5, 6], [.acc], [.str, (.acc 0 5), (.int .i64)]⟩)], S169_6step fuel⟩

def F169C (fuel : Nat) : Cfg := cfg Tryz.prog 65 0 [F244c fuel, F52c fuel] [S169_6l fuel] fuel

def F169c (fuel : Nat) : CallE := ⟨169, ⟨1, [], [.str]⟩, ⟨3, [], [.str, (.int .i64), (.int .i64)]⟩, fun x => F169 fuel x, ([], 0, 0)⟩

theorem F169k (fuel : Nat) : CallOk (F169C fuel) := cfg_callOk (qc (F244ok fuel) <| qc (F52ok fuel) <| q0)

theorem S169_6ok (fuel : Nat) : LoopOk (F169C fuel) (lp (bodyOf Tryz.f169) 0) := okL (F169k fuel) fuel (S169_6l fuel) L0

theorem F169ok (fuel : Nat) : (F169c fuel).Ok Tryz.prog := okE Tryz.f169 (F169k fuel) (L1 (S169_6ok fuel))

/-- wireschema/token.read -/
def F69 (fuel : Nat) (a0 : List UInt8) : Option (PV × Int × Int) :=
 (F161 fuel a0).bind fun y1 =>
 bif (y1 == (3 : Int)) then
 (F167 fuel a0).bind fun y3 =>
 some (y3.1, y3.2.1, y3.2.2)
 else
 bif (y1 == (4 : Int)) then
 (F168 fuel a0).bind fun y8 =>
 some (y8.1, y8.2.1, y8.2.2)
 else
 bif (y1 == (5 : Int)) then
 (F169 fuel a0).bind fun y13 =>
 some ((PV.agg [(PV.int (3 : Int)), (PV.str y13.1), (PV.int (0 : Int)), (PV.int (0 : Int))]), y13.2.1, y13.2.2)
 else
 bif (y1 == (6 : Int)) then
 bif decide (0 ≤ (0 : Int) ∧ (0 : Int) ≤ (1 : Int) ∧ (1 : Int) ≤ (a0.length : Int)) then
 some ((PV.agg [(PV.int (4 : Int)), (PV.str ((a0.take (1 : Int).toNat).drop (0 : Int).toNat)), (PV.int (0 : Int)), (PV.int (0 : Int))]), (1 : Int), (0 : Int))
 else none
 else
 some ((PV.agg [(PV.int (0 : Int)), (PV.str ([] : List UInt8)), (PV.int (0 : Int)), (PV.int (0 : Int))]), (0 : Int), (2 : Int))

def F69c (fuel : Nat) : CallE := ⟨69, ⟨1, [], [.str]⟩, ⟨3, [], [(.data 89), (.int .i64), (.int .i64)]⟩, fun x => F69 fuel x, (PV.bad, 0, 0)⟩

theorem F69ok (fuel : Nat) : (F69c fuel).Ok Tryz.prog := okI Tryz.f69 42 0 fuel [F161c fuel, F167c fuel, F168c fuel, F169c fuel] (qc (F161ok fuel) <| qc (F167ok fuel) <| qc (F168ok fuel) <| qc (F169ok fuel) <| q0) L0

def S25_7 (fuel : Nat) (a3 : List UInt8) (a4 : List PV) (a5 : Int) (a6 : Int) : Option (((List UInt8) × (List PV) × Int × Int) ⊕ (((List PV)) ⊕ ((List PV) × Int × Int))) :=
 bif (decide (a6 < (a3.length : Int))) then
 bif decide (0 ≤ a6 ∧ a6 ≤ (a3.length : Int) ∧ (a3.length : Int) ≤ (a3.length : Int)) then
 (F67 fuel ((a3.take (a3.length : Int).toNat).drop a6.toNat)).bind fun y10 =>
 let x11 := IntKind.wrap .i64 (a6 + y10)
 bif decide (0 ≤ a6 ∧ a6 ≤ x11 ∧ x11 ≤ (a3.length : Int)) then
 (Lcount fuel ((a3.take x11.toNat).drop a6.toNat) ([10] : List UInt8)).bind fun y13 =>
 let x14 := IntKind.wrap .i64 (a5 + y13)
 let x15 := IntKind.wrap .i64 (a6 + y10)
 bif (x15 == (a3.length : Int)) then
 some (.inr (.inl a4))
 else
 bif decide (0 ≤ x15 ∧ x15 ≤ (a3.length : Int) ∧ (a3.length : Int) ≤ (a3.length : Int)) then
 (F69 fuel ((a3.take (a3.length : Int).toNat).drop x15.toNat)).bind fun y19 =>
 let x20 := y19.1
 let x21 := y19.2.1
 let x22 := y19.2.2
 bif (x22 != (0 : Int)) then
 some (.inr (.inr ([], x14, x22)))
 else
 bif decide (a4.length + [(PV.agg [(PV.int ((x20.fld 0).asInt)), (PV.str ((x20.fld 1).asStr)), (PV.int ((x20.fld 2).asInt)), (PV.int x14)])].length ≤ accMax) then
 let x24 := a4 ++ [(PV.agg [(PV.int ((x20.fld 0).asInt)), (PV.str ((x20.fld 1).asStr)), (PV.int ((x20.fld 2).asInt)), (PV.int x14)])]
 let x25 := IntKind.wrap .i64 (x15 + x21)
 bif decide (0 ≤ x15 ∧ x15 ≤ x25 ∧ x25 ≤ (a3.length : Int)) then
 (Lcount fuel ((a3.take x25.toNat).drop x15.toNat) ([10] : List UInt8)).bind fun y27 =>
 some (.inl (a3, x24, (IntKind.wrap .i64 (x14 + y27)), (IntKind.wrap .i64 (x15 + x21))))
 else none
 else none
 else none
 else none
 else none
 else
 some (.inr (.inl a4))

def S25_7step (fuel : Nat) (x : (List UInt8) × (List PV) × Int × Int) : Option (((List UInt8) × (List PV) × Int × Int) ⊕ (((List PV)) ⊕ ((List PV) × Int × Int))) := S25_7 fuel x.1 x.2.1 x.2.2.1 x.2.2.2

/-- wireschema/token.Scan -/
def F25 (fuel : Nat) (a0 : List UInt8) : Option ((List PV) × Int × Int) :=
 bif (decide ((a0.length : Int) > (16384 : Int))) then
 some ([], (0 : Int), (3 : Int))
 else
 (loopQ fuel (S25_7step fuel) (a0, [], (1 : Int), (0 : Int))).bind fun z => sumE (fun y30 =>
 some (y30, (0 : Int), (0 : Int))
 ) (fun y31 =>
 some (y31.1, y31.2.1, y31.2.2)
 ) z

def S25_7l (fuel : Nat) : LoopE := ⟨7, ⟨[0, 5, 6, 7], [.acc], [.str, (.acc 0 89), (.int .i64), (.int .i64)]⟩, [(.exit 0, ⟨[5], [.acc], [(.acc 0 89)]⟩), (.ret, ⟨[2, 3, 4], [.acc], [(.slice 89), (.int .i64), (.int .i64)]⟩)], S25_7step fuel⟩

def F25C (fuel : Nat) : Cfg := cfg Tryz.prog 69 0 [F67c fuel, Lcountc fuel, F69c fuel] [S25_7l fuel] fuel

def F25c (fuel : Nat) : CallE := ⟨25, ⟨1, [], [.str]⟩, ⟨3, [], [(.slice 89), (.int .i64), (.int .i64)]⟩, fun x => F25 fuel x, ([], 0, 0)⟩

theorem F25k (fuel : Nat) : CallOk (F25C fuel) := cfg_callOk (qc (F67ok fuel) <| qc (Lcountok fuel) <| qc (F69ok fuel) <| q0)

theorem S25_7ok (fuel : Nat) : LoopOk (F25C fuel) (lp (bodyOf Tryz.f25) 0) := okL (F25k fuel) fuel (S25_7l fuel) L0

theorem F25ok (fuel : Nat) : (F25c fuel).Ok Tryz.prog := okE Tryz.f25 (F25k fuel) (L1 (S25_7ok fuel))

def S8_11 (fuel : Nat) (a19 : List UInt8) (a20 : Int) (a21 : PV) : Option (((List UInt8) × Int × PV) ⊕ ((Bool × PV) ⊕ (PV))) :=
 bif (decide (a20 < (a19.length : Int))) then
 bif inRange a20 a19.length then
 let x25 := ((a19.getD a20.toNat 0).toNat : Int) == (10 : Int)
 let x26 := IntKind.wrap .i64 (a20 - (1 : Int))
 bif imp x25 (inRange x26 a19.length) then
 let x28 := ((a19.getD x26.toNat 0).toNat : Int) == (32 : Int)
 let x29 := IntKind.wrap .i64 (a20 - (1 : Int))
 bif imp (bif !x28 then x25 else false) (inRange x29 a19.length) then
 let x31 := ((a19.getD x29.toNat 0).toNat : Int) == (10 : Int)
 let x32 := decide (a20 < (2 : Int))
 let x33 := IntKind.wrap .i64 (a20 - (2 : Int))
 bif imp (bif !x32 then bif x31 then bif !x28 then x25 else false else false else false) (inRange x33 a19.length) then
 bif (bif x25 then (bif x28 then true else (bif x31 then (bif (bif x32 then true else (((a19.getD x33.toNat 0).toNat : Int) == (10 : Int))) then true else ((IntKind.wrap .i64 (a20 + (1 : Int))) == (a19.length : Int))) else false)) else false) then
 some (.inr (.inl (false, a21)))
 else
 some (.inl (a19, (IntKind.wrap .i64 (a20 + (1 : Int))), a21))
 else none
 else none
 else none
 else none
 else
 some (.inr (.inr a21))

def S8_11step (fuel : Nat) (x : (List UInt8) × Int × PV) : Option (((List UInt8) × Int × PV) ⊕ ((Bool × PV) ⊕ (PV))) := S8_11 fuel x.1 x.2.1 x.2.2

/-- wireschema/wireschemalaw10.FormatLayout -/
def F8 (fuel : Nat) (a0 : PV) : Option (Bool) :=
 (F11 fuel a0).bind fun y1 =>
 bif (!y1) then
 some true
 else
 (F15 fuel a0).bind fun y3 =>
 bif (y3 == ([] : List UInt8)) then
 (Lawake fuel).bind fun y5 =>
 some y5
 else
 (F25 fuel y3).bind fun y6 =>
 let x10 := y6.2.2 != (0 : Int)
 let x12 := IntKind.wrap .i64 ((y3.length : Int) - (1 : Int))
 bif imp (!x10) (inRange x12 y3.length) then
 let x15 := bif x10 then true else (((y3.getD x12.toNat 0).toNat : Int) != (10 : Int))
 bif imp (!x15) (inRange (0 : Int) y3.length) then
 bif (bif x15 then true else (((y3.getD (0 : Int).toNat 0).toNat : Int) == (10 : Int))) then
 some false
 else
 (loopQ fuel (S8_11step fuel) (y3, (1 : Int), a0)).bind fun z => sumE (fun y45 =>
 some y45.1
 ) (fun y46 =>
 (Lawake fuel).bind fun y47 =>
 some y47
 ) z
 else none
 else none

def S8_11l (fuel : Nat) : LoopE := ⟨11, ⟨[3, 7], [.box 27 .leaf], [.str, (.int .i64), (.data 27)]⟩, [(.ret, ⟨[2], [.box 27 .leaf], [.bool, (.data 27)]⟩), (.exit 0, ⟨[], [.box 27 .leaf], [(.data 27)]⟩)], S8_11step fuel⟩

def F8C (fuel : Nat) : Cfg := cfg Tryz.prog 80 0 [F11c fuel, F15c fuel, Lawakec fuel, F25c fuel] [S8_11l fuel] fuel

def F8c (fuel : Nat) : CallE := ⟨8, ⟨1, [], [(.data 27)]⟩, ⟨1, [], [.bool]⟩, fun x => F8 fuel x, false⟩

theorem F8k (fuel : Nat) : CallOk (F8C fuel) := cfg_callOk (qc (F11ok fuel) <| qc (F15ok fuel) <| qc (Lawakeok fuel) <| qc (F25ok fuel) <| q0)

theorem S8_11ok (fuel : Nat) : LoopOk (F8C fuel) (lp (bodyOf Tryz.f8) 0) := okL (F8k fuel) fuel (S8_11l fuel) L0

theorem F8ok (fuel : Nat) : (F8c fuel).Ok Tryz.prog := okE Tryz.f8 (F8k fuel) (L1 (S8_11ok fuel))

/-- wireschema/wireschemaref06.IsWord -/
def F210 (fuel : Nat) (a0 : List UInt8) : Option (Bool) :=
 bif (a0 == ([109, 101, 115, 115, 97, 103, 101] : List UInt8)) then
 some true
 else
 bif (a0 == ([101, 110, 117, 109] : List UInt8)) then
 some true
 else
 bif (a0 == ([115, 101, 114, 118, 105, 99, 101] : List UInt8)) then
 some true
 else
 bif (a0 == ([117, 110, 105, 111, 110] : List UInt8)) then
 some true
 else
 bif (a0 == ([109, 97, 112] : List UInt8)) then
 some true
 else
 bif (a0 == ([108, 105, 115, 116] : List UInt8)) then
 some true
 else
 let x7 := a0 == ([114, 101, 113, 117, 105, 114, 101, 100] : List UInt8)
 bif x7 then
 some true
 else
 let x8 := a0 == ([111, 112, 116, 105, 111, 110, 97, 108] : List UInt8)
 bif x8 then
 some true
 else
 bif (a0 == ([112, 108, 97, 105, 110] : List UInt8)) then
 some true
 else
 bif (a0 == ([100, 101, 102, 97, 117, 108, 116] : List UInt8)) then
 some true
 else
 let x11 := a0 == ([114, 101, 115, 101, 114, 118, 101, 100] : List UInt8)
 bif x11 then
 some true
 else
 bif (a0 == ([105, 109, 112, 111, 114, 116] : List UInt8)) then
 some true
 else
 bif (a0 == ([115, 112, 97, 99, 101] : List UInt8)) then
 some true
 else
 bif (a0 == ([114, 112, 99] : List UInt8)) then
 some true
 else
 bif (a0 == ([115, 116, 114, 101, 97, 109] : List UInt8)) then
 some true
 else
 bif (a0 == ([114, 101, 116, 117, 114, 110, 115] : List UInt8)) then
 some true
 else
 bif (a0 == ([111, 112, 101, 110] : List UInt8)) then
 some true
 else
 bif (a0 == ([116, 114, 117, 101] : List UInt8)) then
 some true
 else
 bif (a0 == ([102, 97, 108, 115, 101] : List UInt8)) then
 some true
 else
 bif (a0 == ([110, 97, 110] : List UInt8)) then
 some true
 else
 bif (a0 == ([105, 110, 102] : List UInt8)) then
 some true
 else
 some false

def F210c (fuel : Nat) : CallE := ⟨210, ⟨1, [], [.str]⟩, ⟨1, [], [.bool]⟩, fun x => F210 fuel x, false⟩

theorem F210ok (fuel : Nat) : (F210c fuel).Ok Tryz.prog := okI Tryz.f210 26 0 fuel [] (q0) L0

/-- wireschema/wireschemaref08.Kind -/
def F215 (fuel : Nat) (a0 : List UInt8) : Option (Int) :=
 let x1 := a0 == ([100, 101, 112, 114, 101, 99, 97, 116, 101, 100] : List UInt8)
 bif x1 then
 some (1 : Int)
 else
 bif (a0 == ([115, 101, 99, 114, 101, 116] : List UInt8)) then
 some (1 : Int)
 else
 let x3 := a0 == ([105, 100, 101, 109, 112, 111, 116, 101, 110, 116] : List UInt8)
 bif x3 then
 some (1 : Int)
 else
 bif (a0 == ([100, 111, 99] : List UInt8)) then
 some (7 : Int)
 else
 bif (a0 == ([97, 108, 105, 97, 115] : List UInt8)) then
 some (7 : Int)
 else
 bif (a0 == ([114, 111, 117, 116, 101] : List UInt8)) then
 some (7 : Int)
 else
 bif (a0 == ([111, 119, 110, 101, 114] : List UInt8)) then
 some (7 : Int)
 else
 bif (a0 == ([115, 105, 110, 99, 101] : List UInt8)) then
 some (4 : Int)
 else
 bif (a0 == ([117, 110, 116, 105, 108] : List UInt8)) then
 some (4 : Int)
 else
 bif (a0 == ([108, 101, 110, 103, 116, 104] : List UInt8)) then
 some (4 : Int)
 else
 bif (a0 == ([116, 105, 109, 101, 111, 117, 116] : List UInt8)) then
 some (4 : Int)
 else
 bif (a0 == ([109, 105, 110] : List UInt8)) then
 some (3 : Int)
 else
 bif (a0 == ([109, 97, 120] : List UInt8)) then
 some (3 : Int)
 else
 some (0 : Int)

def F215c (fuel : Nat) : CallE := ⟨215, ⟨1, [], [.str]⟩, ⟨1, [], [(.int .i64)]⟩, fun x => F215 fuel x, 0⟩

theorem F215ok (fuel : Nat) : (F215c fuel).Ok Tryz.prog := okI Tryz.f215 21 0 fuel [] (q0) L0

/-- wireschema/wireschemaref08.fits -/
def F216 (fuel : Nat) (a0 : List UInt8) (a1 : Int) : Option (Bool) :=
 let x1 := a0 == ([100, 101, 112, 114, 101, 99, 97, 116, 101, 100] : List UInt8)
 bif x1 then
 some (bif (decide (a1 ≥ (1 : Int))) then (decide (a1 ≤ (6 : Int))) else false)
 else
 bif (a0 == ([100, 111, 99] : List UInt8)) then
 some (bif (decide (a1 ≥ (1 : Int))) then (decide (a1 ≤ (6 : Int))) else false)
 else
 bif (a0 == ([97, 108, 105, 97, 115] : List UInt8)) then
 some (bif (bif (a1 == (2 : Int)) then true else (a1 == (4 : Int))) then true else (a1 == (6 : Int)))
 else
 bif (a0 == ([115, 105, 110, 99, 101] : List UInt8)) then
 some (bif (bif (a1 == (2 : Int)) then true else (a1 == (4 : Int))) then true else (a1 == (6 : Int)))
 else
 bif (a0 == ([117, 110, 116, 105, 108] : List UInt8)) then
 some (bif (bif (a1 == (2 : Int)) then true else (a1 == (4 : Int))) then true else (a1 == (6 : Int)))
 else
 bif (a0 == ([109, 105, 110] : List UInt8)) then
 some (a1 == (2 : Int))
 else
 bif (a0 == ([109, 97, 120] : List UInt8)) then
 some (a1 == (2 : Int))
 else
 bif (a0 == ([108, 101, 110, 103, 116, 104] : List UInt8)) then
 some (a1 == (2 : Int))
 else
 bif (a0 == ([115, 101, 99, 114, 101, 116] : List UInt8)) then
 some (a1 == (2 : Int))
 else
 let x35 := a0 == ([105, 100, 101, 109, 112, 111, 116, 101, 110, 116] : List UInt8)
 bif x35 then
 some (a1 == (6 : Int))
 else
 bif (a0 == ([116, 105, 109, 101, 111, 117, 116] : List UInt8)) then
 some (a1 == (6 : Int))
 else
 bif (a0 == ([114, 111, 117, 116, 101] : List UInt8)) then
 some (a1 == (6 : Int))
 else
 some (bif (a1 == (1 : Int)) then true else (a1 == (5 : Int)))

def F216c (fuel : Nat) : CallE := ⟨216, ⟨2, [], [.str, (.int .i64)]⟩, ⟨1, [], [.bool]⟩, fun x => F216 fuel x.1 x.2, false⟩

theorem F216ok (fuel : Nat) : (F216c fuel).Ok Tryz.prog := okI Tryz.f216 48 0 fuel [] (q0) L0

/-- wireschema/wireschemaref10.word -/
def F48 (fuel : Nat) (a0 : Int) : Option ((List UInt8)) :=
 bif (bif (decide (a0 < (1 : Int))) then true else (decide (a0 > (8 : Int)))) then
 some ([] : List UInt8)
 else
 let x4 := IntKind.wrap .i64 (a0 - (1 : Int))
 bif inRange x4 ([(PV.str ([98, 111, 111, 108] : List UInt8)), (PV.str ([105, 51, 50] : List UInt8)), (PV.str ([105, 54, 52] : List UInt8)), (PV.str ([117, 51, 50] : List UInt8)), (PV.str ([117, 54, 52] : List UInt8)), (PV.str ([100, 111, 117, 98, 108, 101] : List UInt8)), (PV.str ([116, 101, 120, 116] : List UInt8)), (PV.str ([98, 121, 116, 101, 115] : List UInt8))].length) then
 some (([(PV.str ([98, 111, 111, 108] : List UInt8)), (PV.str ([105, 51, 50] : List UInt8)), (PV.str ([105, 54, 52] : List UInt8)), (PV.str ([117, 51, 50] : List UInt8)), (PV.str ([117, 54, 52] : List UInt8)), (PV.str ([100, 111, 117, 98, 108, 101] : List UInt8)), (PV.str ([116, 101, 120, 116] : List UInt8)), (PV.str ([98, 121, 116, 101, 115] : List UInt8))].getD x4.toNat .bad).asStr)
 else none

def F48c (fuel : Nat) : CallE := ⟨48, ⟨1, [], [(.int .i64)]⟩, ⟨1, [], [.str]⟩, fun x => F48 fuel x, []⟩

theorem F48ok (fuel : Nat) : (F48c fuel).Ok Tryz.prog := okI Tryz.f48 16 0 fuel [] (q0) L0

end
end Go.Ab
