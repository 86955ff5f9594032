/- A part of the proof: lemmas on how the program runs over plain data. -/
import Derived.Test.YtjfdnmkfjikjnaaGreatDoorGenFa
import Derived.KernelRfl
set_option linter.unusedVariables false
set_option linter.unusedSimpArgs false
set_option linter.unnecessarySimpa false
namespace Go.Ab
open Go Go.Proofs
set_option maxRecDepth 100000

noncomputable def S106_7 (fuel : Nat) (a11 : Unit) (a12 : Unit) (a13 : List PV) (a14 : Int) (a15 : Int) (a16 : List UInt8) (a17 : PV) : Option ((Unit × Unit × (List PV) × Int × Int × (List UInt8) × PV) ⊕ ((Unit × Unit × (List UInt8) × PV))) :=
  bif (decide (a15 < a14)) then
    bif inRange a15 a13.length then
    let x19 := a13.getD a15.toNat .bad
    let x20 := (x19.fld 0).asStr
    bif decide (x20.length + ([32, 61, 32] : List UInt8).length ≤ strMax) then
    let x21 := x20 ++ ([32, 61, 32] : List UInt8)
    (Litoa fuel ((x19.fld 1).asInt)).bind fun y23 =>
    bif decide (x21.length + y23.length ≤ strMax) then
    let x24 := x21 ++ y23
    (F150 fuel ((x19.fld 2).asList)).bind fun y26 =>
    bif decide (x24.length + y26.length ≤ strMax) then
    let x27 := x24 ++ y26
    bif decide (x27.length + ([59] : List UInt8).length ≤ strMax) then
    (F102 fuel () (1 : Int) (x27 ++ ([59] : List UInt8)) a16).bind fun y29 =>
    some (.inl ((), (), a13, a14, (IntKind.wrap .i64 (a15 + (1 : Int))), y29, a17))
    else none
    else none
    else none
    else none
    else none
  else
    some (.inr ((), (), a16, a17))

noncomputable def S106_7step (fuel : Nat) (x : Unit × Unit × (List PV) × Int × Int × (List UInt8) × PV) : Option ((Unit × Unit × (List PV) × Int × Int × (List UInt8) × PV) ⊕ ((Unit × Unit × (List UInt8) × PV))) := S106_7 fuel x.1 x.2.1 x.2.2.1 x.2.2.2.1 x.2.2.2.2.1 x.2.2.2.2.2.1 x.2.2.2.2.2.2

/-- (*wireschema/format.printer).enum -/
noncomputable def F106 (fuel : Nat) (a0 : Unit) (a1 : PV) (a2 : List UInt8) : Option ((List UInt8)) :=
  bif ((a1.fld 1).asBool) then
    bif decide (([111, 112, 101, 110, 32] : List UInt8).length + ([101, 110, 117, 109, 32] : List UInt8).length ≤ strMax) then
    let x2 := (a1.fld 0).asStr
    bif decide ((([111, 112, 101, 110, 32] : List UInt8) ++ ([101, 110, 117, 109, 32] : List UInt8)).length + x2.length ≤ strMax) then
    let x3 := (([111, 112, 101, 110, 32] : List UInt8) ++ ([101, 110, 117, 109, 32] : List UInt8)) ++ x2
    (F150 fuel ((a1.fld 4).asList)).bind fun y5 =>
    bif decide (x3.length + y5.length ≤ strMax) then
    let x6 := x3 ++ y5
    bif decide (x6.length + ([32, 123] : List UInt8).length ≤ strMax) then
    (F102 fuel () (0 : Int) (x6 ++ ([32, 123] : List UInt8)) a2).bind fun y8 =>
    let x9 := (a1.fld 2).asList
    (loopQ fuel (S106_7step fuel) ((), (), x9, (x9.length : Int), (0 : Int), y8, a1)).bind fun y31 =>
    (F207 fuel () ((y31.2.2.2.fld 3).asList) y31.2.2.1).bind fun y33 =>
    (F102 fuel () (0 : Int) ([125] : List UInt8) y33).bind fun y34 =>
    some y34
    else none
    else none
    else none
    else none
  else
    bif decide (([] : List UInt8).length + ([101, 110, 117, 109, 32] : List UInt8).length ≤ strMax) then
    let x35 := (a1.fld 0).asStr
    bif decide ((([] : List UInt8) ++ ([101, 110, 117, 109, 32] : List UInt8)).length + x35.length ≤ strMax) then
    let x36 := (([] : List UInt8) ++ ([101, 110, 117, 109, 32] : List UInt8)) ++ x35
    (F150 fuel ((a1.fld 4).asList)).bind fun y38 =>
    bif decide (x36.length + y38.length ≤ strMax) then
    let x39 := x36 ++ y38
    bif decide (x39.length + ([32, 123] : List UInt8).length ≤ strMax) then
    (F102 fuel () (0 : Int) (x39 ++ ([32, 123] : List UInt8)) a2).bind fun y41 =>
    let x42 := (a1.fld 2).asList
    (loopQ fuel (S106_7step fuel) ((), (), x42, (x42.length : Int), (0 : Int), y41, a1)).bind fun y44 =>
    (F207 fuel () ((y44.2.2.2.fld 3).asList) y44.2.2.1).bind fun y46 =>
    (F102 fuel () (0 : Int) ([125] : List UInt8) y46).bind fun y47 =>
    some y47
    else none
    else none
    else none
    else none

noncomputable def S106_7l (fuel : Nat) : LoopE := { key := 7, H := ⟨[0, 3, 22, 23, 24], [.bld 127, .box 64 .leaf], [(.con (.bref 0 127)), (.con (.ref 1 [] 64)), (.slice 106), (.int .i64), (.int .i64), .str, (.data 64)]⟩, X := [(.exit 0, ⟨[0, 3], [.bld 127, .box 64 .leaf], [(.con (.bref 0 127)), (.con (.ref 1 [] 64)), .str, (.data 64)]⟩)], step := S106_7step fuel }

noncomputable def F106C (fuel : Nat) : Cfg := cfg Tryz.prog 49 1 [F150c fuel, F102c fuel, Litoac fuel, F207c fuel] [S106_7l fuel] fuel

noncomputable def F106c (fuel : Nat) : CallE := { f := 106, A := ⟨2, [.bld 127], [(.con (.bref 0 127)), (.data 64), .str]⟩, R := ⟨0, [.bld 127], [.str]⟩, F := fun x => F106 fuel x.1 x.2.1 x.2.2, dflt := [] }

theorem F106k (fuel : Nat) : CallOk (F106C fuel) := cfg_callOk (callsC (F150ok fuel) <| callsC (F102ok fuel) <| callsC (Litoaok fuel) <| callsC (F207ok fuel) <| callsN)

theorem S106_7ok (fuel : Nat) : LoopOk (F106C fuel) (lp (bodyOf Tryz.f106) 0) := loopOk_of (F106k fuel) fuel (S106_7l fuel) (loops0 (by kernel_rfl)) (by kernel_rfl) (fun x => by kernel_rfl) (fun R e st K => by kernel_rfl)

theorem F106ok (fuel : Nat) : (F106c fuel).Ok Tryz.prog := fun x y h => meets_of (F106k fuel) (f := 106) (fn := Tryz.f106) (c := bodyOf Tryz.f106) (by kernel_rfl) (by kernel_rfl) (by kernel_rfl) (by kernel_rfl) (loopsN 1 (by kernel_rfl) fun i hi => match i, hi with | 0, _ => S106_7ok fuel | n + 1, h => absurd h (by omega)) (A := (F106c fuel).A) (R := (F106c fuel).R) (F := (F106c fuel).F) (fun x => by kernel_rfl) (fun x => by kernel_rfl) x y h

noncomputable def S105_2 (fuel : Nat) (a2 : Unit) (a3 : Unit) (a4 : List PV) (a5 : Int) (a6 : Int) (a7 : List UInt8) : Option ((Unit × Unit × (List PV) × Int × Int × (List UInt8)) ⊕ (((List UInt8)))) :=
  bif (decide (a6 < a5)) then
    bif inRange a6 a4.length then
    let x9 := a4.getD a6.toNat .bad
    (LlenB fuel a7).bind fun y10 =>
    bif (decide (y10.1 > (0 : Int))) then
      (LwriteString fuel ([10] : List UInt8) y10.2).bind fun y12 =>
      (F106 fuel () x9 y12.2.2).bind fun y13 =>
      some (.inl ((), (), a4, a5, (IntKind.wrap .i64 (a6 + (1 : Int))), y13))
    else
      (F106 fuel () x9 y10.2).bind fun y15 =>
      some (.inl ((), (), a4, a5, (IntKind.wrap .i64 (a6 + (1 : Int))), y15))
    else none
  else
    some (.inr a7)

noncomputable def S105_2step (fuel : Nat) (x : Unit × Unit × (List PV) × Int × Int × (List UInt8)) : Option ((Unit × Unit × (List PV) × Int × Int × (List UInt8)) ⊕ (((List UInt8)))) := S105_2 fuel x.1 x.2.1 x.2.2.1 x.2.2.2.1 x.2.2.2.2.1 x.2.2.2.2.2

/-- wireschema/format.defs[wireschema/api.Enum] -/
noncomputable def F105 (fuel : Nat) (a0 : Unit) (a1 : List PV) (a2 : Unit) (a3 : List UInt8) : Option ((List UInt8)) :=
  (loopQ fuel (S105_2step fuel) ((), (), a1, (a1.length : Int), (0 : Int), a3)).bind fun y17 =>
  some y17

noncomputable def S105_2l (fuel : Nat) : LoopE := { key := 2, H := ⟨[0, 2, 8, 9, 10], [.bld 127], [(.con (.bref 0 127)), (.con (.fn 106 1 [(.bref 0 127)])), (.slice 64), (.int .i64), (.int .i64), .str]⟩, X := [(.exit 0, ⟨[], [.bld 127], [.str]⟩)], step := S105_2step fuel }

noncomputable def F105C (fuel : Nat) : Cfg := cfg Tryz.prog 27 1 [LlenB_127c fuel, LwriteString_127c fuel, F106c fuel] [S105_2l fuel] fuel

noncomputable def F105c (fuel : Nat) : CallE := { f := 105, A := ⟨3, [.bld 127], [(.con (.bref 0 127)), (.slice 64), (.con (.fn 106 1 [(.bref 0 127)])), .str]⟩, R := ⟨0, [.bld 127], [.str]⟩, F := fun x => F105 fuel x.1 x.2.1 x.2.2.1 x.2.2.2, dflt := [] }

theorem F105k (fuel : Nat) : CallOk (F105C fuel) := cfg_callOk (callsC (LlenB_127ok fuel) <| callsC (LwriteString_127ok fuel) <| callsC (F106ok fuel) <| callsN)

theorem S105_2ok (fuel : Nat) : LoopOk (F105C fuel) (lp (bodyOf Tryz.f105) 0) := loopOk_of (F105k fuel) fuel (S105_2l fuel) (loops0 (by kernel_rfl)) (by kernel_rfl) (fun x => by kernel_rfl) (fun R e st K => by kernel_rfl)

theorem F105ok (fuel : Nat) : (F105c fuel).Ok Tryz.prog := fun x y h => meets_of (F105k fuel) (f := 105) (fn := Tryz.f105) (c := bodyOf Tryz.f105) (by kernel_rfl) (by kernel_rfl) (by kernel_rfl) (by kernel_rfl) (loopsN 1 (by kernel_rfl) fun i hi => match i, hi with | 0, _ => S105_2ok fuel | n + 1, h => absurd h (by omega)) (A := (F105c fuel).A) (R := (F105c fuel).R) (F := (F105c fuel).F) (fun x => by kernel_rfl) (fun x => by kernel_rfl) x y h

noncomputable def S108_4 (fuel : Nat) (a9 : Unit) (a10 : List PV) (a11 : Int) (a12 : Int) (a13 : List UInt8) (a14 : PV) : Option ((Unit × (List PV) × Int × Int × (List UInt8) × PV) ⊕ ((Unit × (List UInt8) × PV))) :=
  bif (decide (a12 < a11)) then
    bif inRange a12 a10.length then
    let x16 := a10.getD a12.toNat .bad
    let x17 := (x16.fld 1).asStr
    let x18 := (x16.fld 2).asStr
    bif (bif (((x16.fld 3).asInt) == (3 : Int)) then true else (((x16.fld 3).asInt) == (4 : Int))) then
      bif decide (([115, 116, 114, 101, 97, 109, 32] : List UInt8).length + x17.length ≤ strMax) then
      bif (bif (((x16.fld 3).asInt) == (2 : Int)) then true else (((x16.fld 3).asInt) == (4 : Int))) then
        bif decide (([115, 116, 114, 101, 97, 109, 32] : List UInt8).length + x18.length ≤ strMax) then
        let x29 := (x16.fld 0).asStr
        bif decide (([114, 112, 99, 32] : List UInt8).length + x29.length ≤ strMax) then
        bif decide ((([114, 112, 99, 32] : List UInt8) ++ x29).length + ([40] : List UInt8).length ≤ strMax) then
        let x30 := (([114, 112, 99, 32] : List UInt8) ++ x29) ++ ([40] : List UInt8)
        bif decide (x30.length + (([115, 116, 114, 101, 97, 109, 32] : List UInt8) ++ x17).length ≤ strMax) then
        let x31 := x30 ++ (([115, 116, 114, 101, 97, 109, 32] : List UInt8) ++ x17)
        bif decide (x31.length + ([41, 32, 114, 101, 116, 117, 114, 110, 115, 32, 40] : List UInt8).length ≤ strMax) then
        let x32 := x31 ++ ([41, 32, 114, 101, 116, 117, 114, 110, 115, 32, 40] : List UInt8)
        bif decide (x32.length + (([115, 116, 114, 101, 97, 109, 32] : List UInt8) ++ x18).length ≤ strMax) then
        let x33 := x32 ++ (([115, 116, 114, 101, 97, 109, 32] : List UInt8) ++ x18)
        bif decide (x33.length + ([41] : List UInt8).length ≤ strMax) then
        let x34 := x33 ++ ([41] : List UInt8)
        (F150 fuel ((x16.fld 4).asList)).bind fun y36 =>
        bif decide (x34.length + y36.length ≤ strMax) then
        let x37 := x34 ++ y36
        bif decide (x37.length + ([59] : List UInt8).length ≤ strMax) then
        (F102 fuel () (1 : Int) (x37 ++ ([59] : List UInt8)) a13).bind fun y39 =>
        some (.inl ((), a10, a11, (IntKind.wrap .i64 (a12 + (1 : Int))), y39, a14))
        else none
        else none
        else none
        else none
        else none
        else none
        else none
        else none
        else none
      else
        let x41 := (x16.fld 0).asStr
        bif decide (([114, 112, 99, 32] : List UInt8).length + x41.length ≤ strMax) then
        bif decide ((([114, 112, 99, 32] : List UInt8) ++ x41).length + ([40] : List UInt8).length ≤ strMax) then
        let x42 := (([114, 112, 99, 32] : List UInt8) ++ x41) ++ ([40] : List UInt8)
        bif decide (x42.length + (([115, 116, 114, 101, 97, 109, 32] : List UInt8) ++ x17).length ≤ strMax) then
        let x43 := x42 ++ (([115, 116, 114, 101, 97, 109, 32] : List UInt8) ++ x17)
        bif decide (x43.length + ([41, 32, 114, 101, 116, 117, 114, 110, 115, 32, 40] : List UInt8).length ≤ strMax) then
        let x44 := x43 ++ ([41, 32, 114, 101, 116, 117, 114, 110, 115, 32, 40] : List UInt8)
        bif decide (x44.length + x18.length ≤ strMax) then
        let x45 := x44 ++ x18
        bif decide (x45.length + ([41] : List UInt8).length ≤ strMax) then
        let x46 := x45 ++ ([41] : List UInt8)
        (F150 fuel ((x16.fld 4).asList)).bind fun y48 =>
        bif decide (x46.length + y48.length ≤ strMax) then
        let x49 := x46 ++ y48
        bif decide (x49.length + ([59] : List UInt8).length ≤ strMax) then
        (F102 fuel () (1 : Int) (x49 ++ ([59] : List UInt8)) a13).bind fun y51 =>
        some (.inl ((), a10, a11, (IntKind.wrap .i64 (a12 + (1 : Int))), y51, a14))
        else none
        else none
        else none
        else none
        else none
        else none
        else none
        else none
      else none
    else
      bif (bif (((x16.fld 3).asInt) == (2 : Int)) then true else (((x16.fld 3).asInt) == (4 : Int))) then
        bif decide (([115, 116, 114, 101, 97, 109, 32] : List UInt8).length + x18.length ≤ strMax) then
        let x58 := (x16.fld 0).asStr
        bif decide (([114, 112, 99, 32] : List UInt8).length + x58.length ≤ strMax) then
        bif decide ((([114, 112, 99, 32] : List UInt8) ++ x58).length + ([40] : List UInt8).length ≤ strMax) then
        let x59 := (([114, 112, 99, 32] : List UInt8) ++ x58) ++ ([40] : List UInt8)
        bif decide (x59.length + x17.length ≤ strMax) then
        let x60 := x59 ++ x17
        bif decide (x60.length + ([41, 32, 114, 101, 116, 117, 114, 110, 115, 32, 40] : List UInt8).length ≤ strMax) then
        let x61 := x60 ++ ([41, 32, 114, 101, 116, 117, 114, 110, 115, 32, 40] : List UInt8)
        bif decide (x61.length + (([115, 116, 114, 101, 97, 109, 32] : List UInt8) ++ x18).length ≤ strMax) then
        let x62 := x61 ++ (([115, 116, 114, 101, 97, 109, 32] : List UInt8) ++ x18)
        bif decide (x62.length + ([41] : List UInt8).length ≤ strMax) then
        let x63 := x62 ++ ([41] : List UInt8)
        (F150 fuel ((x16.fld 4).asList)).bind fun y65 =>
        bif decide (x63.length + y65.length ≤ strMax) then
        let x66 := x63 ++ y65
        bif decide (x66.length + ([59] : List UInt8).length ≤ strMax) then
        (F102 fuel () (1 : Int) (x66 ++ ([59] : List UInt8)) a13).bind fun y68 =>
        some (.inl ((), a10, a11, (IntKind.wrap .i64 (a12 + (1 : Int))), y68, a14))
        else none
        else none
        else none
        else none
        else none
        else none
        else none
        else none
        else none
      else
        let x70 := (x16.fld 0).asStr
        bif decide (([114, 112, 99, 32] : List UInt8).length + x70.length ≤ strMax) then
        bif decide ((([114, 112, 99, 32] : List UInt8) ++ x70).length + ([40] : List UInt8).length ≤ strMax) then
        let x71 := (([114, 112, 99, 32] : List UInt8) ++ x70) ++ ([40] : List UInt8)
        bif decide (x71.length + x17.length ≤ strMax) then
        let x72 := x71 ++ x17
        bif decide (x72.length + ([41, 32, 114, 101, 116, 117, 114, 110, 115, 32, 40] : List UInt8).length ≤ strMax) then
        let x73 := x72 ++ ([41, 32, 114, 101, 116, 117, 114, 110, 115, 32, 40] : List UInt8)
        bif decide (x73.length + x18.length ≤ strMax) then
        let x74 := x73 ++ x18
        bif decide (x74.length + ([41] : List UInt8).length ≤ strMax) then
        let x75 := x74 ++ ([41] : List UInt8)
        (F150 fuel ((x16.fld 4).asList)).bind fun y77 =>
        bif decide (x75.length + y77.length ≤ strMax) then
        let x78 := x75 ++ y77
        bif decide (x78.length + ([59] : List UInt8).length ≤ strMax) then
        (F102 fuel () (1 : Int) (x78 ++ ([59] : List UInt8)) a13).bind fun y80 =>
        some (.inl ((), a10, a11, (IntKind.wrap .i64 (a12 + (1 : Int))), y80, a14))
        else none
        else none
        else none
        else none
        else none
        else none
        else none
        else none
    else none
  else
    some (.inr ((), a13, a14))

noncomputable def S108_4step (fuel : Nat) (x : Unit × (List PV) × Int × Int × (List UInt8) × PV) : Option ((Unit × (List PV) × Int × Int × (List UInt8) × PV) ⊕ ((Unit × (List UInt8) × PV))) := S108_4 fuel x.1 x.2.1 x.2.2.1 x.2.2.2.1 x.2.2.2.2.1 x.2.2.2.2.2

/-- (*wireschema/format.printer).service -/
noncomputable def F108 (fuel : Nat) (a0 : Unit) (a1 : PV) (a2 : List UInt8) : Option ((List UInt8)) :=
  let x1 := (a1.fld 0).asStr
  bif decide (([115, 101, 114, 118, 105, 99, 101, 32] : List UInt8).length + x1.length ≤ strMax) then
  (F150 fuel ((a1.fld 2).asList)).bind fun y3 =>
  bif decide ((([115, 101, 114, 118, 105, 99, 101, 32] : List UInt8) ++ x1).length + y3.length ≤ strMax) then
  let x4 := (([115, 101, 114, 118, 105, 99, 101, 32] : List UInt8) ++ x1) ++ y3
  bif decide (x4.length + ([32, 123] : List UInt8).length ≤ strMax) then
  (F102 fuel () (0 : Int) (x4 ++ ([32, 123] : List UInt8)) a2).bind fun y6 =>
  let x7 := (a1.fld 1).asList
  (loopQ fuel (S108_4step fuel) ((), x7, (x7.length : Int), (0 : Int), y6, a1)).bind fun y82 =>
  (F102 fuel () (0 : Int) ([125] : List UInt8) y82.2.1).bind fun y83 =>
  some y83
  else none
  else none
  else none

noncomputable def S108_4l (fuel : Nat) : LoopE := { key := 4, H := ⟨[0, 19, 20, 21], [.bld 127, .box 67 .leaf], [(.con (.bref 0 127)), (.slice 112), (.int .i64), (.int .i64), .str, (.data 67)]⟩, X := [(.exit 0, ⟨[0], [.bld 127, .box 67 .leaf], [(.con (.bref 0 127)), .str, (.data 67)]⟩)], step := S108_4step fuel }

noncomputable def F108C (fuel : Nat) : Cfg := cfg Tryz.prog 69 1 [F150c fuel, F102c fuel] [S108_4l fuel] fuel

noncomputable def F108c (fuel : Nat) : CallE := { f := 108, A := ⟨2, [.bld 127], [(.con (.bref 0 127)), (.data 67), .str]⟩, R := ⟨0, [.bld 127], [.str]⟩, F := fun x => F108 fuel x.1 x.2.1 x.2.2, dflt := [] }

theorem F108k (fuel : Nat) : CallOk (F108C fuel) := cfg_callOk (callsC (F150ok fuel) <| callsC (F102ok fuel) <| callsN)

theorem S108_4ok (fuel : Nat) : LoopOk (F108C fuel) (lp (bodyOf Tryz.f108) 0) := loopOk_of (F108k fuel) fuel (S108_4l fuel) (loops0 (by kernel_rfl)) (by kernel_rfl) (fun x => by kernel_rfl) (fun R e st K => by kernel_rfl)

theorem F108ok (fuel : Nat) : (F108c fuel).Ok Tryz.prog := fun x y h => meets_of (F108k fuel) (f := 108) (fn := Tryz.f108) (c := bodyOf Tryz.f108) (by kernel_rfl) (by kernel_rfl) (by kernel_rfl) (by kernel_rfl) (loopsN 1 (by kernel_rfl) fun i hi => match i, hi with | 0, _ => S108_4ok fuel | n + 1, h => absurd h (by omega)) (A := (F108c fuel).A) (R := (F108c fuel).R) (F := (F108c fuel).F) (fun x => by kernel_rfl) (fun x => by kernel_rfl) x y h

noncomputable def S107_2 (fuel : Nat) (a2 : Unit) (a3 : Unit) (a4 : List PV) (a5 : Int) (a6 : Int) (a7 : List UInt8) : Option ((Unit × Unit × (List PV) × Int × Int × (List UInt8)) ⊕ (((List UInt8)))) :=
  bif (decide (a6 < a5)) then
    bif inRange a6 a4.length then
    let x9 := a4.getD a6.toNat .bad
    (LlenB fuel a7).bind fun y10 =>
    bif (decide (y10.1 > (0 : Int))) then
      (LwriteString fuel ([10] : List UInt8) y10.2).bind fun y12 =>
      (F108 fuel () x9 y12.2.2).bind fun y13 =>
      some (.inl ((), (), a4, a5, (IntKind.wrap .i64 (a6 + (1 : Int))), y13))
    else
      (F108 fuel () x9 y10.2).bind fun y15 =>
      some (.inl ((), (), a4, a5, (IntKind.wrap .i64 (a6 + (1 : Int))), y15))
    else none
  else
    some (.inr a7)

noncomputable def S107_2step (fuel : Nat) (x : Unit × Unit × (List PV) × Int × Int × (List UInt8)) : Option ((Unit × Unit × (List PV) × Int × Int × (List UInt8)) ⊕ (((List UInt8)))) := S107_2 fuel x.1 x.2.1 x.2.2.1 x.2.2.2.1 x.2.2.2.2.1 x.2.2.2.2.2

/-- wireschema/format.defs[wireschema/api.Service] -/
noncomputable def F107 (fuel : Nat) (a0 : Unit) (a1 : List PV) (a2 : Unit) (a3 : List UInt8) : Option ((List UInt8)) :=
  (loopQ fuel (S107_2step fuel) ((), (), a1, (a1.length : Int), (0 : Int), a3)).bind fun y17 =>
  some y17

noncomputable def S107_2l (fuel : Nat) : LoopE := { key := 2, H := ⟨[0, 2, 8, 9, 10], [.bld 127], [(.con (.bref 0 127)), (.con (.fn 108 1 [(.bref 0 127)])), (.slice 67), (.int .i64), (.int .i64), .str]⟩, X := [(.exit 0, ⟨[], [.bld 127], [.str]⟩)], step := S107_2step fuel }

noncomputable def F107C (fuel : Nat) : Cfg := cfg Tryz.prog 27 1 [LlenB_127c fuel, LwriteString_127c fuel, F108c fuel] [S107_2l fuel] fuel

noncomputable def F107c (fuel : Nat) : CallE := { f := 107, A := ⟨3, [.bld 127], [(.con (.bref 0 127)), (.slice 67), (.con (.fn 108 1 [(.bref 0 127)])), .str]⟩, R := ⟨0, [.bld 127], [.str]⟩, F := fun x => F107 fuel x.1 x.2.1 x.2.2.1 x.2.2.2, dflt := [] }

theorem F107k (fuel : Nat) : CallOk (F107C fuel) := cfg_callOk (callsC (LlenB_127ok fuel) <| callsC (LwriteString_127ok fuel) <| callsC (F108ok fuel) <| callsN)

theorem S107_2ok (fuel : Nat) : LoopOk (F107C fuel) (lp (bodyOf Tryz.f107) 0) := loopOk_of (F107k fuel) fuel (S107_2l fuel) (loops0 (by kernel_rfl)) (by kernel_rfl) (fun x => by kernel_rfl) (fun R e st K => by kernel_rfl)

theorem F107ok (fuel : Nat) : (F107c fuel).Ok Tryz.prog := fun x y h => meets_of (F107k fuel) (f := 107) (fn := Tryz.f107) (c := bodyOf Tryz.f107) (by kernel_rfl) (by kernel_rfl) (by kernel_rfl) (by kernel_rfl) (loopsN 1 (by kernel_rfl) fun i hi => match i, hi with | 0, _ => S107_2ok fuel | n + 1, h => absurd h (by omega)) (A := (F107c fuel).A) (R := (F107c fuel).R) (F := (F107c fuel).F) (fun x => by kernel_rfl) (fun x => by kernel_rfl) x y h

noncomputable def S34_6 (fuel : Nat) (a8 : Unit) (a9 : Unit) (a10 : List PV) (a11 : Int) (a12 : Int) (a13 : PV) (a14 : List UInt8) : Option ((Unit × Unit × (List PV) × Int × Int × PV × (List UInt8)) ⊕ ((Unit × Unit × PV × (List UInt8)))) :=
  bif (decide (a12 < a11)) then
    bif inRange a12 a10.length then
    (F52 fuel (a10.getD a12.toNat .bad).asStr).bind fun y18 =>
    bif decide (([105, 109, 112, 111, 114, 116, 32] : List UInt8).length + y18.length ≤ strMax) then
    bif decide ((([105, 109, 112, 111, 114, 116, 32] : List UInt8) ++ y18).length + ([59] : List UInt8).length ≤ strMax) then
    let x19 := (([105, 109, 112, 111, 114, 116, 32] : List UInt8) ++ y18) ++ ([59] : List UInt8)
    (F102 fuel () (0 : Int) x19 a14).bind fun y20 =>
    some (.inl ((), (), a10, a11, (IntKind.wrap .i64 (a12 + (1 : Int))), a13, y20))
    else none
    else none
    else none
  else
    some (.inr ((), (), a13, a14))

noncomputable def S34_6step (fuel : Nat) (x : Unit × Unit × (List PV) × Int × Int × PV × (List UInt8)) : Option ((Unit × Unit × (List PV) × Int × Int × PV × (List UInt8)) ⊕ ((Unit × Unit × PV × (List UInt8)))) := S34_6 fuel x.1 x.2.1 x.2.2.1 x.2.2.2.1 x.2.2.2.2.1 x.2.2.2.2.2.1 x.2.2.2.2.2.2

/-- wireschema/format.text -/
noncomputable def F34 (fuel : Nat) (a0 : PV) : Option ((List UInt8)) :=
  bif (!(((a0.fld 1).asStr) == ([] : List UInt8))) then
    let x3 := (a0.fld 1).asStr
    bif decide (([115, 112, 97, 99, 101, 32] : List UInt8).length + x3.length ≤ strMax) then
    bif decide ((([115, 112, 97, 99, 101, 32] : List UInt8) ++ x3).length + ([59] : List UInt8).length ≤ strMax) then
    let x4 := (([115, 112, 97, 99, 101, 32] : List UInt8) ++ x3) ++ ([59] : List UInt8)
    (F102 fuel () (0 : Int) x4 []).bind fun y5 =>
    let x6 := (a0.fld 2).asList
    (loopQ fuel (S34_6step fuel) ((), (), x6, (x6.length : Int), (0 : Int), a0, y5)).bind fun y22 =>
    (F103 fuel () ((y22.2.2.1.fld 3).asList) () y22.2.2.2).bind fun y24 =>
    (F105 fuel () ((y22.2.2.1.fld 4).asList) () y24).bind fun y26 =>
    (F107 fuel () ((y22.2.2.1.fld 5).asList) () y26).bind fun y28 =>
    (Lstring fuel y28).bind fun y29 =>
    some y29.1
    else none
    else none
  else
    let x31 := (a0.fld 2).asList
    (loopQ fuel (S34_6step fuel) ((), (), x31, (x31.length : Int), (0 : Int), a0, [])).bind fun y33 =>
    (F103 fuel () ((y33.2.2.1.fld 3).asList) () y33.2.2.2).bind fun y35 =>
    (F105 fuel () ((y33.2.2.1.fld 4).asList) () y35).bind fun y37 =>
    (F107 fuel () ((y33.2.2.1.fld 5).asList) () y37).bind fun y39 =>
    (Lstring fuel y39).bind fun y40 =>
    some y40.1

noncomputable def S34_6l (fuel : Nat) : LoopE := { key := 6, H := ⟨[1, 3, 18, 19, 20], [.box 27 .leaf, .bld 127], [(.con (.ref 0 [] 27)), (.con (.bref 1 127)), (.slice 9), (.int .i64), (.int .i64), (.data 27), .str]⟩, X := [(.exit 0, ⟨[1, 3], [.box 27 .leaf, .bld 127], [(.con (.ref 0 [] 27)), (.con (.bref 1 127)), (.data 27), .str]⟩)], step := S34_6step fuel }

noncomputable def F34C (fuel : Nat) : Cfg := cfg Tryz.prog 53 0 [F102c fuel, F52c fuel, F103c fuel, F105c fuel, F107c fuel, Lstring_127c fuel] [S34_6l fuel] fuel

noncomputable def F34c (fuel : Nat) : CallE := { f := 34, A := ⟨1, [], [(.data 27)]⟩, R := ⟨1, [], [.str]⟩, F := fun x => F34 fuel x, dflt := [] }

theorem F34k (fuel : Nat) : CallOk (F34C fuel) := cfg_callOk (callsC (F102ok fuel) <| callsC (F52ok fuel) <| callsC (F103ok fuel) <| callsC (F105ok fuel) <| callsC (F107ok fuel) <| callsC (Lstring_127ok fuel) <| callsN)

theorem S34_6ok (fuel : Nat) : LoopOk (F34C fuel) (lp (bodyOf Tryz.f34) 0) := loopOk_of (F34k fuel) fuel (S34_6l fuel) (loops0 (by kernel_rfl)) (by kernel_rfl) (fun x => by kernel_rfl) (fun R e st K => by kernel_rfl)

theorem F34ok (fuel : Nat) : (F34c fuel).Ok Tryz.prog := fun x y h => meets_of (F34k fuel) (f := 34) (fn := Tryz.f34) (c := bodyOf Tryz.f34) (by kernel_rfl) (by kernel_rfl) (by kernel_rfl) (by kernel_rfl) (loopsN 1 (by kernel_rfl) fun i hi => match i, hi with | 0, _ => S34_6ok fuel | n + 1, h => absurd h (by omega)) (A := (F34c fuel).A) (R := (F34c fuel).R) (F := (F34c fuel).F) (fun x => by kernel_rfl) (fun x => by kernel_rfl) x y h

noncomputable def S12_9 (fuel : Nat) (a9 : Unit) (a10 : List PV) (a11 : Int) (a12 : Int) (a13 : PV) : Option ((Unit × (List PV) × Int × Int × PV) ⊕ ((Int × PV) ⊕ (Unit × PV))) :=
  bif (decide (a12 < a11)) then
    bif inRange a12 a10.length then
    let x15 := a10.getD a12.toNat .bad
    (F32 fuel ((x15.fld 0).asList) ((x15.fld 1).asInt)).bind fun y18 =>
    bif (y18 != (0 : Int)) then
      some (.inr (.inl (y18, a13)))
    else
      some (.inl ((), a10, a11, (IntKind.wrap .i64 (a12 + (1 : Int))), a13))
    else none
  else
    some (.inr (.inr ((), a13)))

noncomputable def S12_9step (fuel : Nat) (x : Unit × (List PV) × Int × Int × PV) : Option ((Unit × (List PV) × Int × Int × PV) ⊕ ((Int × PV) ⊕ (Unit × PV))) := S12_9 fuel x.1 x.2.1 x.2.2.1 x.2.2.2.1 x.2.2.2.2

/-- wireschema/format.Check -/
noncomputable def F12 (fuel : Nat) (a0 : PV) : Option (Int) :=
  (F28 fuel a0).bind fun y1 =>
  bif (!y1) then
    some (8 : Int)
  else
    (F29 fuel a0).bind fun y3 =>
    bif (!y3) then
      some (1 : Int)
    else
      (F30 fuel a0).bind fun y5 =>
      bif (!y5) then
        some (7 : Int)
      else
        (F31 fuel a0).bind fun y7 =>
        (loopQ fuel (S12_9step fuel) ((), y7, (y7.length : Int), (0 : Int), a0)).bind fun z => sumE (fun y21 =>
          some y21.1
        ) (fun y22 =>
          (F33 fuel y22.2).bind fun y24 =>
          let x25 := !y24
          (bif !x25 then F34 fuel y22.2 else some []).bind fun y27 =>
          bif (bif x25 then true else (decide ((y27.length : Int) > (16384 : Int)))) then
            some (3 : Int)
          else
            some (0 : Int)
        ) z

noncomputable def S12_9l (fuel : Nat) : LoopE := { key := 9, H := ⟨[1, 19, 20, 21], [.box 27 .leaf], [(.con (.ref 0 [] 27)), (.slice 71), (.int .i64), (.int .i64), (.data 27)]⟩, X := [(.ret, ⟨[2], [.box 27 .leaf], [(.int .i64), (.data 27)]⟩), (.exit 1, ⟨[1], [.box 27 .leaf], [(.con (.ref 0 [] 27)), (.data 27)]⟩)], step := S12_9step fuel }

noncomputable def F12C (fuel : Nat) : Cfg := cfg Tryz.prog 43 0 [F28c fuel, F29c fuel, F30c fuel, F31c fuel, F32c fuel, F33c fuel, F34c fuel] [S12_9l fuel] fuel

noncomputable def F12c (fuel : Nat) : CallE := { f := 12, A := ⟨1, [], [(.data 27)]⟩, R := ⟨1, [], [(.int .i64)]⟩, F := fun x => F12 fuel x, dflt := 0 }

theorem F12k (fuel : Nat) : CallOk (F12C fuel) := cfg_callOk (callsC (F28ok fuel) <| callsC (F29ok fuel) <| callsC (F30ok fuel) <| callsC (F31ok fuel) <| callsC (F32ok fuel) <| callsC (F33ok fuel) <| callsC (F34ok fuel) <| callsN)

theorem S12_9ok (fuel : Nat) : LoopOk (F12C fuel) (lp (bodyOf Tryz.f12) 0) := loopOk_of (F12k fuel) fuel (S12_9l fuel) (loops0 (by kernel_rfl)) (by kernel_rfl) (fun x => by kernel_rfl) (fun R e st K => by kernel_rfl)

theorem F12ok (fuel : Nat) : (F12c fuel).Ok Tryz.prog := fun x y h => meets_of (F12k fuel) (f := 12) (fn := Tryz.f12) (c := bodyOf Tryz.f12) (by kernel_rfl) (by kernel_rfl) (by kernel_rfl) (by kernel_rfl) (loopsN 1 (by kernel_rfl) fun i hi => match i, hi with | 0, _ => S12_9ok fuel | n + 1, h => absurd h (by omega)) (A := (F12c fuel).A) (R := (F12c fuel).R) (F := (F12c fuel).F) (fun x => by kernel_rfl) (fun x => by kernel_rfl) x y h

/-- wireschema/format.Print -/
noncomputable def F15 (fuel : Nat) (a0 : PV) : Option ((List UInt8)) :=
  (F12 fuel a0).bind fun y1 =>
  bif (y1 != (0 : Int)) then
    some ([] : List UInt8)
  else
    (F34 fuel a0).bind fun y3 =>
    some y3

noncomputable def F15C (fuel : Nat) : Cfg := cfg Tryz.prog 8 0 [F12c fuel, F34c fuel] [] fuel

noncomputable def F15c (fuel : Nat) : CallE := { f := 15, A := ⟨1, [], [(.data 27)]⟩, R := ⟨1, [], [.str]⟩, F := fun x => F15 fuel x, dflt := [] }

theorem F15k (fuel : Nat) : CallOk (F15C fuel) := cfg_callOk (callsC (F12ok fuel) <| callsC (F34ok fuel) <| callsN)

theorem F15ok (fuel : Nat) : (F15c fuel).Ok Tryz.prog := fun x y h => meets_of (F15k fuel) (f := 15) (fn := Tryz.f15) (c := bodyOf Tryz.f15) (by kernel_rfl) (by kernel_rfl) (by kernel_rfl) (by kernel_rfl) (loops0 (by kernel_rfl)) (A := (F15c fuel).A) (R := (F15c fuel).R) (F := (F15c fuel).F) (fun x => by kernel_rfl) (fun x => by kernel_rfl) x y h

/-- wireschema/wireschemalaw10.awake -/
noncomputable def F14 (fuel : Nat)  : Option (Bool) :=
  (F15 fuel (PV.agg [(PV.str ([] : List UInt8)), (PV.str ([97] : List UInt8)), (PV.slice []), (PV.slice [(PV.agg [(PV.str ([77] : List UInt8)), (PV.slice [(PV.agg [(PV.int (1 : Int)), (PV.str ([120] : List UInt8)), (PV.int (2 : Int)), (PV.int (0 : Int)), (PV.agg [(PV.int (2 : Int)), (PV.str ([] : List UInt8))]), (PV.str ([] : List UInt8)), (PV.bool true), (PV.agg [(PV.int (2 : Int)), (PV.int (18446744073709551611 : Int)), (PV.str ([] : List UInt8)), (PV.slice []), (PV.slice []), (PV.slice []), (PV.slice [])]), (PV.slice [])])]), (PV.slice []), (PV.slice []), (PV.slice [])])]), (PV.slice []), (PV.slice [])])).bind fun y1 =>
  let x2 := y1 == ([115, 112, 97, 99, 101, 32, 97, 59, 10, 10, 109, 101, 115, 115, 97, 103, 101, 32, 77, 32, 123, 10, 32, 32, 111, 112, 116, 105, 111, 110, 97, 108, 32, 105, 51, 50, 32, 120, 32, 61, 32, 49, 32, 100, 101, 102, 97, 117, 108, 116, 32, 45, 53, 59, 10, 125, 10] : List UInt8)
  (bif x2 then F12 fuel (PV.agg [(PV.str ([] : List UInt8)), (PV.str ([97] : List UInt8)), (PV.slice []), (PV.slice [(PV.agg [(PV.str ([77] : List UInt8)), (PV.slice [(PV.agg [(PV.int (1 : Int)), (PV.str ([120] : List UInt8)), (PV.int (2 : Int)), (PV.int (0 : Int)), (PV.agg [(PV.int (2 : Int)), (PV.str ([] : List UInt8))]), (PV.str ([] : List UInt8)), (PV.bool true), (PV.agg [(PV.int (2 : Int)), (PV.int (18446744073709551611 : Int)), (PV.str ([] : List UInt8)), (PV.slice []), (PV.slice []), (PV.slice []), (PV.slice [])]), (PV.slice [])])]), (PV.slice []), (PV.slice []), (PV.slice [])])]), (PV.slice []), (PV.slice [])]) else some 0).bind fun y3 =>
  some (bif x2 then (y3 == (0 : Int)) else false)

noncomputable def F14C (fuel : Nat) : Cfg := cfg Tryz.prog 19 0 [F15c fuel, F12c fuel] [] fuel

noncomputable def F14c (fuel : Nat) : CallE := { f := 14, A := ⟨0, [], []⟩, R := ⟨1, [], [.bool]⟩, F := fun x => F14 fuel , dflt := false }

theorem F14k (fuel : Nat) : CallOk (F14C fuel) := cfg_callOk (callsC (F15ok fuel) <| callsC (F12ok fuel) <| callsN)

theorem F14ok (fuel : Nat) : (F14c fuel).Ok Tryz.prog := fun x y h => meets_of (F14k fuel) (f := 14) (fn := Tryz.f14) (c := bodyOf Tryz.f14) (by kernel_rfl) (by kernel_rfl) (by kernel_rfl) (by kernel_rfl) (loops0 (by kernel_rfl)) (A := (F14c fuel).A) (R := (F14c fuel).R) (F := (F14c fuel).F) (fun x => by kernel_rfl) (fun x => by kernel_rfl) x y h


theorem awake_run : F14 1000 = some true := by kernel_rfl
def Lawake (fuel : Nat) : Option Bool := some true
def Lawakec (fuel : Nat) : CallE := { f := 14, A := ⟨0, [], []⟩, R := ⟨1, [], [.bool]⟩, F := fun x => Lawake fuel, dflt := false }
theorem Lawakeok (fuel : Nat) : (Lawakec fuel).Ok Tryz.prog := fun x y h => F14ok 1000 () y (awake_run.trans h)

noncomputable def S27_4 (fuel : Nat) (a1 : List PV) (a2 : Int) (a3 : Int) : Option (((List PV) × Int × Int) ⊕ ((Int))) :=
  bif (decide (a3 < (a1.length : Int))) then
    bif inRange a3 a1.length then
    let x8 := ((a1.getD a3.toNat .bad).asStr.length : Int)
    let x10 := IntKind.wrap .i64 (a2 + (if (9999 : Int) < x8 then (9999 : Int) else x8))
    some (.inl (a1, (if (9999 : Int) < x10 then (9999 : Int) else x10), (IntKind.wrap .i64 (a3 + (1 : Int)))))
    else none
  else
    some (.inr a2)

noncomputable def S27_4step (fuel : Nat) (x : (List PV) × Int × Int) : Option (((List PV) × Int × Int) ⊕ ((Int))) := S27_4 fuel x.1 x.2.1 x.2.2

/-- wireschema/wireschemalaw10.size -/
noncomputable def F27 (fuel : Nat) (a0 : List PV) : Option (Int) :=
  (loopQ fuel (S27_4step fuel) (a0, (0 : Int), (0 : Int))).bind fun y13 =>
  some y13

noncomputable def S27_4l (fuel : Nat) : LoopE := { key := 4, H := ⟨[0, 3, 4], [], [(.slice 9), (.int .i64), (.int .i64)]⟩, X := [(.exit 0, ⟨[3], [], [(.int .i64)]⟩)], step := S27_4step fuel }

noncomputable def F27C (fuel : Nat) : Cfg := cfg Tryz.prog 21 0 [] [S27_4l fuel] fuel

noncomputable def F27c (fuel : Nat) : CallE := { f := 27, A := ⟨1, [], [(.slice 9)]⟩, R := ⟨1, [], [(.int .i64)]⟩, F := fun x => F27 fuel x, dflt := 0 }

theorem F27k (fuel : Nat) : CallOk (F27C fuel) := cfg_callOk (callsN)

theorem S27_4ok (fuel : Nat) : LoopOk (F27C fuel) (lp (bodyOf Tryz.f27) 0) := loopOk_of (F27k fuel) fuel (S27_4l fuel) (loops0 (by kernel_rfl)) (by kernel_rfl) (fun x => by kernel_rfl) (fun R e st K => by kernel_rfl)

theorem F27ok (fuel : Nat) : (F27c fuel).Ok Tryz.prog := fun x y h => meets_of (F27k fuel) (f := 27) (fn := Tryz.f27) (c := bodyOf Tryz.f27) (by kernel_rfl) (by kernel_rfl) (by kernel_rfl) (by kernel_rfl) (loopsN 1 (by kernel_rfl) fun i hi => match i, hi with | 0, _ => S27_4ok fuel | n + 1, h => absurd h (by omega)) (A := (F27c fuel).A) (R := (F27c fuel).R) (F := (F27c fuel).F) (fun x => by kernel_rfl) (fun x => by kernel_rfl) x y h

noncomputable def S11_6 (fuel : Nat) (a18 : Unit) (a19 : Int) (a20 : Int) (a21 : PV) : Option ((Unit × Int × Int × PV) ⊕ ((Bool × PV) ⊕ (Unit × Int × PV))) :=
  bif (decide (a20 < (((a21.fld 3).asList).length : Int))) then
    let x25 := (a21.fld 3).asList
    bif inRange a20 x25.length then
    let x26 := x25.getD a20.toNat .bad
    bif (bif (bif (decide ((((x26.fld 1).asList).length : Int) > (70 : Int))) then true else (decide ((((x26.fld 2).asList).length : Int) > (70 : Int)))) then true else (decide ((((x26.fld 3).asList).length : Int) > (70 : Int)))) then
      some (.inr (.inl (false, a21)))
    else
      (F27 fuel ((x26.fld 3).asList)).bind fun y39 =>
      some (.inl ((), (IntKind.wrap .i64 (a19 + y39)), (IntKind.wrap .i64 (a20 + (1 : Int))), a21))
    else none
  else
    some (.inr (.inr ((), a19, a21)))

noncomputable def S11_6step (fuel : Nat) (x : Unit × Int × Int × PV) : Option ((Unit × Int × Int × PV) ⊕ ((Bool × PV) ⊕ (Unit × Int × PV))) := S11_6 fuel x.1 x.2.1 x.2.2.1 x.2.2.2

noncomputable def S11_13 (fuel : Nat) (a44 : Unit) (a45 : Int) (a46 : Int) (a47 : PV) : Option ((Unit × Int × Int × PV) ⊕ ((Bool × PV) ⊕ (Unit × Int × PV))) :=
  bif (decide (a46 < (((a47.fld 4).asList).length : Int))) then
    let x51 := (a47.fld 4).asList
    bif inRange a46 x51.length then
    let x56 := decide ((((x51.getD a46.toNat .bad).fld 2).asList.length : Int) > (70 : Int))
    let x57 := (a47.fld 4).asList
    bif imp (!x56) (inRange a46 x57.length) then
    bif (bif x56 then true else (decide ((((x57.getD a46.toNat .bad).fld 3).asList.length : Int) > (70 : Int)))) then
      some (.inr (.inl (false, a47)))
    else
      some (.inl ((), a45, (IntKind.wrap .i64 (a46 + (1 : Int))), a47))
    else none
    else none
  else
    some (.inr (.inr ((), a45, a47)))

noncomputable def S11_13step (fuel : Nat) (x : Unit × Int × Int × PV) : Option ((Unit × Int × Int × PV) ⊕ ((Bool × PV) ⊕ (Unit × Int × PV))) := S11_13 fuel x.1 x.2.1 x.2.2.1 x.2.2.2

noncomputable def S11_18 (fuel : Nat) (a67 : Unit) (a68 : Int) (a69 : Int) (a70 : PV) : Option ((Unit × Int × Int × PV) ⊕ ((Bool × PV) ⊕ (Int × PV))) :=
  bif (decide (a69 < (((a70.fld 5).asList).length : Int))) then
    let x74 := (a70.fld 5).asList
    bif inRange a69 x74.length then
    bif (decide ((((x74.getD a69.toNat .bad).fld 1).asList.length : Int) > (70 : Int))) then
      some (.inr (.inl (false, a70)))
    else
      some (.inl ((), a68, (IntKind.wrap .i64 (a69 + (1 : Int))), a70))
    else none
  else
    some (.inr (.inr (a68, a70)))

noncomputable def S11_18step (fuel : Nat) (x : Unit × Int × Int × PV) : Option ((Unit × Int × Int × PV) ⊕ ((Bool × PV) ⊕ (Int × PV))) := S11_18 fuel x.1 x.2.1 x.2.2.1 x.2.2.2

/-- wireschema/wireschemalaw10.few -/
noncomputable def F11 (fuel : Nat) (a0 : PV) : Option (Bool) :=
  bif (bif (bif (bif (decide ((((a0.fld 2).asList).length : Int) > (70 : Int))) then true else (decide ((((a0.fld 3).asList).length : Int) > (70 : Int)))) then true else (decide ((((a0.fld 4).asList).length : Int) > (70 : Int)))) then true else (decide ((((a0.fld 5).asList).length : Int) > (70 : Int)))) then
    some false
  else
    (F27 fuel ((a0.fld 2).asList)).bind fun y17 =>
    (loopQ fuel (S11_6step fuel) ((), y17, (0 : Int), a0)).bind fun z => sumE (fun y42 =>
      some y42.1
    ) (fun y43 =>
      (loopQ fuel (S11_13step fuel) ((), y43.2.1, (0 : Int), y43.2.2)).bind fun z => sumE (fun y65 =>
        some y65.1
      ) (fun y66 =>
        (loopQ fuel (S11_18step fuel) ((), y66.2.1, (0 : Int), y66.2.2)).bind fun z => sumE (fun y81 =>
          some y81.1
        ) (fun y82 =>
          some (decide (y82.1 ≤ (2000 : Int)))
        ) z
      ) z
    ) z

noncomputable def S11_6l (fuel : Nat) : LoopE := { key := 6, H := ⟨[1, 3, 4], [.box 27 .leaf], [(.con (.ref 0 [] 27)), (.int .i64), (.int .i64), (.data 27)]⟩, X := [(.ret, ⟨[2], [.box 27 .leaf], [.bool, (.data 27)]⟩), (.exit 0, ⟨[1, 3], [.box 27 .leaf], [(.con (.ref 0 [] 27)), (.int .i64), (.data 27)]⟩)], step := S11_6step fuel }

noncomputable def S11_13l (fuel : Nat) : LoopE := { key := 13, H := ⟨[1, 3, 6], [.box 27 .leaf], [(.con (.ref 0 [] 27)), (.int .i64), (.int .i64), (.data 27)]⟩, X := [(.ret, ⟨[2], [.box 27 .leaf], [.bool, (.data 27)]⟩), (.exit 2, ⟨[1, 3], [.box 27 .leaf], [(.con (.ref 0 [] 27)), (.int .i64), (.data 27)]⟩)], step := S11_13step fuel }

noncomputable def S11_18l (fuel : Nat) : LoopE := { key := 18, H := ⟨[1, 3, 7], [.box 27 .leaf], [(.con (.ref 0 [] 27)), (.int .i64), (.int .i64), (.data 27)]⟩, X := [(.ret, ⟨[2], [.box 27 .leaf], [.bool, (.data 27)]⟩), (.exit 4, ⟨[3], [.box 27 .leaf], [(.int .i64), (.data 27)]⟩)], step := S11_18step fuel }

noncomputable def F11C (fuel : Nat) : Cfg := cfg Tryz.prog 108 0 [F27c fuel] [S11_6l fuel, S11_13l fuel, S11_18l fuel] fuel

noncomputable def F11c (fuel : Nat) : CallE := { f := 11, A := ⟨1, [], [(.data 27)]⟩, R := ⟨1, [], [.bool]⟩, F := fun x => F11 fuel x, dflt := false }

theorem F11k (fuel : Nat) : CallOk (F11C fuel) := cfg_callOk (callsC (F27ok fuel) <| callsN)

theorem S11_6ok (fuel : Nat) : LoopOk (F11C fuel) (lp (bodyOf Tryz.f11) 0) := loopOk_of (F11k fuel) fuel (S11_6l fuel) (loops0 (by kernel_rfl)) (by kernel_rfl) (fun x => by kernel_rfl) (fun R e st K => by kernel_rfl)

theorem S11_13ok (fuel : Nat) : LoopOk (F11C fuel) (lp (bodyOf Tryz.f11) 1) := loopOk_of (F11k fuel) fuel (S11_13l fuel) (loops0 (by kernel_rfl)) (by kernel_rfl) (fun x => by kernel_rfl) (fun R e st K => by kernel_rfl)

theorem S11_18ok (fuel : Nat) : LoopOk (F11C fuel) (lp (bodyOf Tryz.f11) 2) := loopOk_of (F11k fuel) fuel (S11_18l fuel) (loops0 (by kernel_rfl)) (by kernel_rfl) (fun x => by kernel_rfl) (fun R e st K => by kernel_rfl)

theorem F11ok (fuel : Nat) : (F11c fuel).Ok Tryz.prog := fun x y h => meets_of (F11k fuel) (f := 11) (fn := Tryz.f11) (c := bodyOf Tryz.f11) (by kernel_rfl) (by kernel_rfl) (by kernel_rfl) (by kernel_rfl) (loopsN 3 (by kernel_rfl) fun i hi => match i, hi with | 0, _ => S11_6ok fuel | 1, _ => S11_13ok fuel | 2, _ => S11_18ok fuel | n + 3, h => absurd h (by omega)) (A := (F11c fuel).A) (R := (F11c fuel).R) (F := (F11c fuel).F) (fun x => by kernel_rfl) (fun x => by kernel_rfl) x y h

noncomputable def S60_5 (fuel : Nat) (a5 : List PV) (a6 : List PV) (a7 : Int) (a8 : Int) : Option (((List PV) × (List PV) × Int × Int) ⊕ ((Bool) ⊕ (Unit))) :=
  bif (decide (a8 < a7)) then
    bif inRange a8 a5.length then
    bif inRange a8 a6.length then
    bif (!((a5.getD a8.toNat .bad).asStr == (a6.getD a8.toNat .bad).asStr)) then
      some (.inr (.inl false))
    else
      some (.inl (a5, a6, a7, (IntKind.wrap .i64 (a8 + (1 : Int)))))
    else none
    else none
  else
    some (.inr (.inr ()))

noncomputable def S60_5step (fuel : Nat) (x : (List PV) × (List PV) × Int × Int) : Option (((List PV) × (List PV) × Int × Int) ⊕ ((Bool) ⊕ (Unit))) := S60_5 fuel x.1 x.2.1 x.2.2.1 x.2.2.2

/-- slices.Equal[[]string,string] -/
noncomputable def F60 (fuel : Nat) (a0 : List PV) (a1 : List PV) : Option (Bool) :=
  bif ((a0.length : Int) != (a1.length : Int)) then
    some false
  else
    (loopQ fuel (S60_5step fuel) (a0, a1, (a0.length : Int), (0 : Int))).bind fun z => sumE (fun y16 =>
      some y16
    ) (fun y17 =>
      some true
    ) z

noncomputable def S60_5l (fuel : Nat) : LoopE := { key := 5, H := ⟨[0, 1, 12, 13], [], [(.slice 9), (.slice 9), (.int .i64), (.int .i64)]⟩, X := [(.ret, ⟨[4], [], [.bool]⟩), (.exit 0, ⟨[], [], []⟩)], step := S60_5step fuel }

noncomputable def F60C (fuel : Nat) : Cfg := cfg Tryz.prog 26 0 [] [S60_5l fuel] fuel

noncomputable def F60c (fuel : Nat) : CallE := { f := 60, A := ⟨2, [], [(.slice 9), (.slice 9)]⟩, R := ⟨1, [], [.bool]⟩, F := fun x => F60 fuel x.1 x.2, dflt := false }

theorem F60k (fuel : Nat) : CallOk (F60C fuel) := cfg_callOk (callsN)

theorem S60_5ok (fuel : Nat) : LoopOk (F60C fuel) (lp (bodyOf Tryz.f60) 0) := loopOk_of (F60k fuel) fuel (S60_5l fuel) (loops0 (by kernel_rfl)) (by kernel_rfl) (fun x => by kernel_rfl) (fun R e st K => by kernel_rfl)

theorem F60ok (fuel : Nat) : (F60c fuel).Ok Tryz.prog := fun x y h => meets_of (F60k fuel) (f := 60) (fn := Tryz.f60) (c := bodyOf Tryz.f60) (by kernel_rfl) (by kernel_rfl) (by kernel_rfl) (by kernel_rfl) (loopsN 1 (by kernel_rfl) fun i hi => match i, hi with | 0, _ => S60_5ok fuel | n + 1, h => absurd h (by omega)) (A := (F60c fuel).A) (R := (F60c fuel).R) (F := (F60c fuel).F) (fun x => by kernel_rfl) (fun x => by kernel_rfl) x y h

/-- wireschema/format.sameValue -/
noncomputable def F233 (fuel : Nat) (a0 : PV) (a1 : PV) : Option (Bool) :=
  some (bif (bif (((a0.fld 0).asInt) == ((a1.fld 0).asInt)) then (((a0.fld 1).asInt) == ((a1.fld 1).asInt)) else false) then (((a0.fld 2).asStr) == ((a1.fld 2).asStr)) else false)

noncomputable def F233C (fuel : Nat) : Cfg := cfg Tryz.prog 24 0 [] [] fuel

noncomputable def F233c (fuel : Nat) : CallE := { f := 233, A := ⟨2, [], [(.data 42), (.data 42)]⟩, R := ⟨1, [], [.bool]⟩, F := fun x => F233 fuel x.1 x.2, dflt := false }

theorem F233k (fuel : Nat) : CallOk (F233C fuel) := cfg_callOk (callsN)

theorem F233ok (fuel : Nat) : (F233c fuel).Ok Tryz.prog := fun x y h => meets_of (F233k fuel) (f := 233) (fn := Tryz.f233) (c := bodyOf Tryz.f233) (by kernel_rfl) (by kernel_rfl) (by kernel_rfl) (by kernel_rfl) (loops0 (by kernel_rfl)) (A := (F233c fuel).A) (R := (F233c fuel).R) (F := (F233c fuel).F) (fun x => by kernel_rfl) (fun x => by kernel_rfl) x y h

/-- wireschema/note.Same$1 -/
noncomputable def F235 (fuel : Nat) (a0 : PV) (a1 : PV) : Option (Bool) :=
  some (bif (bif (bif (((a0.fld 0).asStr) == ((a1.fld 0).asStr)) then ((((a0.fld 1).fld 0).asInt) == (((a1.fld 1).fld 0).asInt)) else false) then ((((a0.fld 1).fld 1).asInt) == (((a1.fld 1).fld 1).asInt)) else false) then ((((a0.fld 1).fld 2).asStr) == (((a1.fld 1).fld 2).asStr)) else false)

noncomputable def F235C (fuel : Nat) : Cfg := cfg Tryz.prog 37 0 [] [] fuel

noncomputable def F235c (fuel : Nat) : CallE := { f := 235, A := ⟨2, [], [(.data 119), (.data 119)]⟩, R := ⟨1, [], [.bool]⟩, F := fun x => F235 fuel x.1 x.2, dflt := false }

theorem F235k (fuel : Nat) : CallOk (F235C fuel) := cfg_callOk (callsN)

theorem F235ok (fuel : Nat) : (F235c fuel).Ok Tryz.prog := fun x y h => meets_of (F235k fuel) (f := 235) (fn := Tryz.f235) (c := bodyOf Tryz.f235) (by kernel_rfl) (by kernel_rfl) (by kernel_rfl) (by kernel_rfl) (loops0 (by kernel_rfl)) (A := (F235c fuel).A) (R := (F235c fuel).R) (F := (F235c fuel).F) (fun x => by kernel_rfl) (fun x => by kernel_rfl) x y h

noncomputable def S234_5 (fuel : Nat) (a5 : List PV) (a6 : Unit) (a7 : List PV) (a8 : Int) (a9 : Int) : Option (((List PV) × Unit × (List PV) × Int × Int) ⊕ ((Bool) ⊕ (Unit))) :=
  bif (decide (a9 < a8)) then
    bif inRange a9 a7.length then
    bif inRange a9 a5.length then
    (F235 fuel (a7.getD a9.toNat .bad) (a5.getD a9.toNat .bad)).bind fun y13 =>
    bif (!y13) then
      some (.inr (.inl false))
    else
      some (.inl (a5, (), a7, a8, (IntKind.wrap .i64 (a9 + (1 : Int)))))
    else none
    else none
  else
    some (.inr (.inr ()))

noncomputable def S234_5step (fuel : Nat) (x : (List PV) × Unit × (List PV) × Int × Int) : Option (((List PV) × Unit × (List PV) × Int × Int) ⊕ ((Bool) ⊕ (Unit))) := S234_5 fuel x.1 x.2.1 x.2.2.1 x.2.2.2.1 x.2.2.2.2

/-- slices.EqualFunc[[]wireschema/api.Note,[]wireschema/api.Note,wireschema/api.Note,wireschema/api.Note] -/
noncomputable def F234 (fuel : Nat) (a0 : List PV) (a1 : List PV) (a2 : Unit) : Option (Bool) :=
  bif ((a0.length : Int) != (a1.length : Int)) then
    some false
  else
    (loopQ fuel (S234_5step fuel) (a1, (), a0, (a0.length : Int), (0 : Int))).bind fun z => sumE (fun y16 =>
      some y16
    ) (fun y17 =>
      some true
    ) z

noncomputable def S234_5l (fuel : Nat) : LoopE := { key := 5, H := ⟨[1, 2, 15, 16, 17], [], [(.slice 119), (.con (.fn 235 0 [])), (.slice 119), (.int .i64), (.int .i64)]⟩, X := [(.ret, ⟨[6], [], [.bool]⟩), (.exit 0, ⟨[], [], []⟩)], step := S234_5step fuel }

noncomputable def F234C (fuel : Nat) : Cfg := cfg Tryz.prog 32 0 [F235c fuel] [S234_5l fuel] fuel

noncomputable def F234c (fuel : Nat) : CallE := { f := 234, A := ⟨3, [], [(.slice 119), (.slice 119), (.con (.fn 235 0 []))]⟩, R := ⟨1, [], [.bool]⟩, F := fun x => F234 fuel x.1 x.2.1 x.2.2, dflt := false }

theorem F234k (fuel : Nat) : CallOk (F234C fuel) := cfg_callOk (callsC (F235ok fuel) <| callsN)

theorem S234_5ok (fuel : Nat) : LoopOk (F234C fuel) (lp (bodyOf Tryz.f234) 0) := loopOk_of (F234k fuel) fuel (S234_5l fuel) (loops0 (by kernel_rfl)) (by kernel_rfl) (fun x => by kernel_rfl) (fun R e st K => by kernel_rfl)

theorem F234ok (fuel : Nat) : (F234c fuel).Ok Tryz.prog := fun x y h => meets_of (F234k fuel) (f := 234) (fn := Tryz.f234) (c := bodyOf Tryz.f234) (by kernel_rfl) (by kernel_rfl) (by kernel_rfl) (by kernel_rfl) (loopsN 1 (by kernel_rfl) fun i hi => match i, hi with | 0, _ => S234_5ok fuel | n + 1, h => absurd h (by omega)) (A := (F234c fuel).A) (R := (F234c fuel).R) (F := (F234c fuel).F) (fun x => by kernel_rfl) (fun x => by kernel_rfl) x y h

/-- wireschema/note.Same -/
noncomputable def F156 (fuel : Nat) (a0 : List PV) (a1 : List PV) : Option (Bool) :=
  (F234 fuel a0 a1 ()).bind fun y1 =>
  some y1

noncomputable def F156C (fuel : Nat) : Cfg := cfg Tryz.prog 8 0 [F234c fuel] [] fuel

noncomputable def F156c (fuel : Nat) : CallE := { f := 156, A := ⟨2, [], [(.slice 119), (.slice 119)]⟩, R := ⟨1, [], [.bool]⟩, F := fun x => F156 fuel x.1 x.2, dflt := false }

theorem F156k (fuel : Nat) : CallOk (F156C fuel) := cfg_callOk (callsC (F234ok fuel) <| callsN)

theorem F156ok (fuel : Nat) : (F156c fuel).Ok Tryz.prog := fun x y h => meets_of (F156k fuel) (f := 156) (fn := Tryz.f156) (c := bodyOf Tryz.f156) (by kernel_rfl) (by kernel_rfl) (by kernel_rfl) (by kernel_rfl) (loops0 (by kernel_rfl)) (A := (F156c fuel).A) (R := (F156c fuel).R) (F := (F156c fuel).F) (fun x => by kernel_rfl) (fun x => by kernel_rfl) x y h

/-- wireschema/format.sameField -/
noncomputable def F154 (fuel : Nat) (a0 : PV) (a1 : PV) : Option (Bool) :=
  let x16 := a0.fld 4
  let x17 := a1.fld 4
  let x18 := bif ((x16.fld 0).asInt) == ((x17.fld 0).asInt) then (bif ((x16.fld 1).asStr) == ((x17.fld 1).asStr) then true else false) else false
  let x27 := bif (bif (bif (bif (bif (bif (((a0.fld 0).asInt) == ((a1.fld 0).asInt)) then (((a0.fld 1).asStr) == ((a1.fld 1).asStr)) else false) then (((a0.fld 2).asInt) == ((a1.fld 2).asInt)) else false) then (((a0.fld 3).asInt) == ((a1.fld 3).asInt)) else false) then x18 else false) then (((a0.fld 5).asStr) == ((a1.fld 5).asStr)) else false) then (((a0.fld 6).asBool) == ((a1.fld 6).asBool)) else false
  (bif x27 then F233 fuel (a0.fld 7) (a1.fld 7) else some false).bind fun y30 =>
  let x31 := bif x27 then y30 else false
  (bif x31 then F156 fuel ((a0.fld 8).asList) ((a1.fld 8).asList) else some false).bind fun y34 =>
  some (bif x31 then y34 else false)

noncomputable def F154C (fuel : Nat) : Cfg := cfg Tryz.prog 66 0 [F233c fuel, F156c fuel] [] fuel

noncomputable def F154c (fuel : Nat) : CallE := { f := 154, A := ⟨2, [], [(.data 45), (.data 45)]⟩, R := ⟨1, [], [.bool]⟩, F := fun x => F154 fuel x.1 x.2, dflt := false }

theorem F154k (fuel : Nat) : CallOk (F154C fuel) := cfg_callOk (callsC (F233ok fuel) <| callsC (F156ok fuel) <| callsN)

theorem F154ok (fuel : Nat) : (F154c fuel).Ok Tryz.prog := fun x y h => meets_of (F154k fuel) (f := 154) (fn := Tryz.f154) (c := bodyOf Tryz.f154) (by kernel_rfl) (by kernel_rfl) (by kernel_rfl) (by kernel_rfl) (loops0 (by kernel_rfl)) (A := (F154c fuel).A) (R := (F154c fuel).R) (F := (F154c fuel).F) (fun x => by kernel_rfl) (fun x => by kernel_rfl) x y h

noncomputable def S153_5 (fuel : Nat) (a5 : List PV) (a6 : Unit) (a7 : List PV) (a8 : Int) (a9 : Int) : Option (((List PV) × Unit × (List PV) × Int × Int) ⊕ ((Bool) ⊕ (Unit))) :=
  bif (decide (a9 < a8)) then
    bif inRange a9 a7.length then
    bif inRange a9 a5.length then
    (F154 fuel (a7.getD a9.toNat .bad) (a5.getD a9.toNat .bad)).bind fun y13 =>
    bif (!y13) then
      some (.inr (.inl false))
    else
      some (.inl (a5, (), a7, a8, (IntKind.wrap .i64 (a9 + (1 : Int)))))
    else none
    else none
  else
    some (.inr (.inr ()))

noncomputable def S153_5step (fuel : Nat) (x : (List PV) × Unit × (List PV) × Int × Int) : Option (((List PV) × Unit × (List PV) × Int × Int) ⊕ ((Bool) ⊕ (Unit))) := S153_5 fuel x.1 x.2.1 x.2.2.1 x.2.2.2.1 x.2.2.2.2

/-- slices.EqualFunc[[]wireschema/api.Field,[]wireschema/api.Field,wireschema/api.Field,wireschema/api.Field] -/
noncomputable def F153 (fuel : Nat) (a0 : List PV) (a1 : List PV) (a2 : Unit) : Option (Bool) :=
  bif ((a0.length : Int) != (a1.length : Int)) then
    some false
  else
    (loopQ fuel (S153_5step fuel) (a1, (), a0, (a0.length : Int), (0 : Int))).bind fun z => sumE (fun y16 =>
      some y16
    ) (fun y17 =>
      some true
    ) z

noncomputable def S153_5l (fuel : Nat) : LoopE := { key := 5, H := ⟨[1, 2, 15, 16, 17], [], [(.slice 45), (.con (.fn 154 0 [])), (.slice 45), (.int .i64), (.int .i64)]⟩, X := [(.ret, ⟨[6], [], [.bool]⟩), (.exit 0, ⟨[], [], []⟩)], step := S153_5step fuel }

noncomputable def F153C (fuel : Nat) : Cfg := cfg Tryz.prog 32 0 [F154c fuel] [S153_5l fuel] fuel

noncomputable def F153c (fuel : Nat) : CallE := { f := 153, A := ⟨3, [], [(.slice 45), (.slice 45), (.con (.fn 154 0 []))]⟩, R := ⟨1, [], [.bool]⟩, F := fun x => F153 fuel x.1 x.2.1 x.2.2, dflt := false }

theorem F153k (fuel : Nat) : CallOk (F153C fuel) := cfg_callOk (callsC (F154ok fuel) <| callsN)

theorem S153_5ok (fuel : Nat) : LoopOk (F153C fuel) (lp (bodyOf Tryz.f153) 0) := loopOk_of (F153k fuel) fuel (S153_5l fuel) (loops0 (by kernel_rfl)) (by kernel_rfl) (fun x => by kernel_rfl) (fun R e st K => by kernel_rfl)

theorem F153ok (fuel : Nat) : (F153c fuel).Ok Tryz.prog := fun x y h => meets_of (F153k fuel) (f := 153) (fn := Tryz.f153) (c := bodyOf Tryz.f153) (by kernel_rfl) (by kernel_rfl) (by kernel_rfl) (by kernel_rfl) (loopsN 1 (by kernel_rfl) fun i hi => match i, hi with | 0, _ => S153_5ok fuel | n + 1, h => absurd h (by omega)) (A := (F153c fuel).A) (R := (F153c fuel).R) (F := (F153c fuel).F) (fun x => by kernel_rfl) (fun x => by kernel_rfl) x y h

noncomputable def S155_5 (fuel : Nat) (a5 : List PV) (a6 : List PV) (a7 : Int) (a8 : Int) : Option (((List PV) × (List PV) × Int × Int) ⊕ ((Bool) ⊕ (Unit))) :=
  bif (decide (a8 < a7)) then
    bif inRange a8 a5.length then
    let x10 := a5.getD a8.toNat .bad
    bif inRange a8 a6.length then
    let x11 := a6.getD a8.toNat .bad
    let x12 := !(bif ((x10.fld 0).asInt) == ((x11.fld 0).asInt) then (bif ((x10.fld 1).asInt) == ((x11.fld 1).asInt) then true else false) else false)
    bif x12 then
      some (.inr (.inl false))
    else
      some (.inl (a5, a6, a7, (IntKind.wrap .i64 (a8 + (1 : Int)))))
    else none
    else none
  else
    some (.inr (.inr ()))

noncomputable def S155_5step (fuel : Nat) (x : (List PV) × (List PV) × Int × Int) : Option (((List PV) × (List PV) × Int × Int) ⊕ ((Bool) ⊕ (Unit))) := S155_5 fuel x.1 x.2.1 x.2.2.1 x.2.2.2

/-- slices.Equal[[]wireschema/api.Span,wireschema/api.Span] -/
noncomputable def F155 (fuel : Nat) (a0 : List PV) (a1 : List PV) : Option (Bool) :=
  bif ((a0.length : Int) != (a1.length : Int)) then
    some false
  else
    (loopQ fuel (S155_5step fuel) (a0, a1, (a0.length : Int), (0 : Int))).bind fun z => sumE (fun y14 =>
      some y14
    ) (fun y15 =>
      some true
    ) z

noncomputable def S155_5l (fuel : Nat) : LoopE := { key := 5, H := ⟨[0, 1, 12, 13], [], [(.slice 163), (.slice 163), (.int .i64), (.int .i64)]⟩, X := [(.ret, ⟨[4], [], [.bool]⟩), (.exit 0, ⟨[], [], []⟩)], step := S155_5step fuel }

noncomputable def F155C (fuel : Nat) : Cfg := cfg Tryz.prog 26 0 [] [S155_5l fuel] fuel

noncomputable def F155c (fuel : Nat) : CallE := { f := 155, A := ⟨2, [], [(.slice 163), (.slice 163)]⟩, R := ⟨1, [], [.bool]⟩, F := fun x => F155 fuel x.1 x.2, dflt := false }

theorem F155k (fuel : Nat) : CallOk (F155C fuel) := cfg_callOk (callsN)

theorem S155_5ok (fuel : Nat) : LoopOk (F155C fuel) (lp (bodyOf Tryz.f155) 0) := loopOk_of (F155k fuel) fuel (S155_5l fuel) (loops0 (by kernel_rfl)) (by kernel_rfl) (fun x => by kernel_rfl) (fun R e st K => by kernel_rfl)

theorem F155ok (fuel : Nat) : (F155c fuel).Ok Tryz.prog := fun x y h => meets_of (F155k fuel) (f := 155) (fn := Tryz.f155) (c := bodyOf Tryz.f155) (by kernel_rfl) (by kernel_rfl) (by kernel_rfl) (by kernel_rfl) (loopsN 1 (by kernel_rfl) fun i hi => match i, hi with | 0, _ => S155_5ok fuel | n + 1, h => absurd h (by omega)) (A := (F155c fuel).A) (R := (F155c fuel).R) (F := (F155c fuel).F) (fun x => by kernel_rfl) (fun x => by kernel_rfl) x y h

/-- wireschema/format.sameMessage -/
noncomputable def F62 (fuel : Nat) (a0 : PV) (a1 : PV) : Option (Bool) :=
  let x3 := ((a0.fld 0).asStr) == ((a1.fld 0).asStr)
  (bif x3 then F153 fuel ((a0.fld 1).asList) ((a1.fld 1).asList) () else some false).bind fun y6 =>
  let x7 := bif x3 then y6 else false
  (bif x7 then F155 fuel ((a0.fld 2).asList) ((a1.fld 2).asList) else some false).bind fun y10 =>
  let x11 := bif x7 then y10 else false
  (bif x11 then F60 fuel ((a0.fld 3).asList) ((a1.fld 3).asList) else some false).bind fun y14 =>
  let x15 := bif x11 then y14 else false
  (bif x15 then F156 fuel ((a0.fld 4).asList) ((a1.fld 4).asList) else some false).bind fun y18 =>
  some (bif x15 then y18 else false)

noncomputable def F62C (fuel : Nat) : Cfg := cfg Tryz.prog 38 0 [F153c fuel, F155c fuel, F60c fuel, F156c fuel] [] fuel

noncomputable def F62c (fuel : Nat) : CallE := { f := 62, A := ⟨2, [], [(.data 61), (.data 61)]⟩, R := ⟨1, [], [.bool]⟩, F := fun x => F62 fuel x.1 x.2, dflt := false }

theorem F62k (fuel : Nat) : CallOk (F62C fuel) := cfg_callOk (callsC (F153ok fuel) <| callsC (F155ok fuel) <| callsC (F60ok fuel) <| callsC (F156ok fuel) <| callsN)

theorem F62ok (fuel : Nat) : (F62c fuel).Ok Tryz.prog := fun x y h => meets_of (F62k fuel) (f := 62) (fn := Tryz.f62) (c := bodyOf Tryz.f62) (by kernel_rfl) (by kernel_rfl) (by kernel_rfl) (by kernel_rfl) (loops0 (by kernel_rfl)) (A := (F62c fuel).A) (R := (F62c fuel).R) (F := (F62c fuel).F) (fun x => by kernel_rfl) (fun x => by kernel_rfl) x y h

noncomputable def S61_5 (fuel : Nat) (a5 : List PV) (a6 : Unit) (a7 : List PV) (a8 : Int) (a9 : Int) : Option (((List PV) × Unit × (List PV) × Int × Int) ⊕ ((Bool) ⊕ (Unit))) :=
  bif (decide (a9 < a8)) then
    bif inRange a9 a7.length then
    bif inRange a9 a5.length then
    (F62 fuel (a7.getD a9.toNat .bad) (a5.getD a9.toNat .bad)).bind fun y13 =>
    bif (!y13) then
      some (.inr (.inl false))
    else
      some (.inl (a5, (), a7, a8, (IntKind.wrap .i64 (a9 + (1 : Int)))))
    else none
    else none
  else
    some (.inr (.inr ()))

noncomputable def S61_5step (fuel : Nat) (x : (List PV) × Unit × (List PV) × Int × Int) : Option (((List PV) × Unit × (List PV) × Int × Int) ⊕ ((Bool) ⊕ (Unit))) := S61_5 fuel x.1 x.2.1 x.2.2.1 x.2.2.2.1 x.2.2.2.2

/-- slices.EqualFunc[[]wireschema/api.Message,[]wireschema/api.Message,wireschema/api.Message,wireschema/api.Message] -/
noncomputable def F61 (fuel : Nat) (a0 : List PV) (a1 : List PV) (a2 : Unit) : Option (Bool) :=
  bif ((a0.length : Int) != (a1.length : Int)) then
    some false
  else
    (loopQ fuel (S61_5step fuel) (a1, (), a0, (a0.length : Int), (0 : Int))).bind fun z => sumE (fun y16 =>
      some y16
    ) (fun y17 =>
      some true
    ) z

noncomputable def S61_5l (fuel : Nat) : LoopE := { key := 5, H := ⟨[1, 2, 15, 16, 17], [], [(.slice 61), (.con (.fn 62 0 [])), (.slice 61), (.int .i64), (.int .i64)]⟩, X := [(.ret, ⟨[6], [], [.bool]⟩), (.exit 0, ⟨[], [], []⟩)], step := S61_5step fuel }

noncomputable def F61C (fuel : Nat) : Cfg := cfg Tryz.prog 32 0 [F62c fuel] [S61_5l fuel] fuel

noncomputable def F61c (fuel : Nat) : CallE := { f := 61, A := ⟨3, [], [(.slice 61), (.slice 61), (.con (.fn 62 0 []))]⟩, R := ⟨1, [], [.bool]⟩, F := fun x => F61 fuel x.1 x.2.1 x.2.2, dflt := false }

theorem F61k (fuel : Nat) : CallOk (F61C fuel) := cfg_callOk (callsC (F62ok fuel) <| callsN)

theorem S61_5ok (fuel : Nat) : LoopOk (F61C fuel) (lp (bodyOf Tryz.f61) 0) := loopOk_of (F61k fuel) fuel (S61_5l fuel) (loops0 (by kernel_rfl)) (by kernel_rfl) (fun x => by kernel_rfl) (fun R e st K => by kernel_rfl)

theorem F61ok (fuel : Nat) : (F61c fuel).Ok Tryz.prog := fun x y h => meets_of (F61k fuel) (f := 61) (fn := Tryz.f61) (c := bodyOf Tryz.f61) (by kernel_rfl) (by kernel_rfl) (by kernel_rfl) (by kernel_rfl) (loopsN 1 (by kernel_rfl) fun i hi => match i, hi with | 0, _ => S61_5ok fuel | n + 1, h => absurd h (by omega)) (A := (F61c fuel).A) (R := (F61c fuel).R) (F := (F61c fuel).F) (fun x => by kernel_rfl) (fun x => by kernel_rfl) x y h

/-- wireschema/format.sameEnum$1 -/
noncomputable def F158 (fuel : Nat) (a0 : PV) (a1 : PV) : Option (Bool) :=
  let x7 := bif (((a0.fld 0).asStr) == ((a1.fld 0).asStr)) then (((a0.fld 1).asInt) == ((a1.fld 1).asInt)) else false
  (bif x7 then F156 fuel ((a0.fld 2).asList) ((a1.fld 2).asList) else some false).bind fun y10 =>
  some (bif x7 then y10 else false)

noncomputable def F158C (fuel : Nat) : Cfg := cfg Tryz.prog 24 0 [F156c fuel] [] fuel

noncomputable def F158c (fuel : Nat) : CallE := { f := 158, A := ⟨2, [], [(.data 106), (.data 106)]⟩, R := ⟨1, [], [.bool]⟩, F := fun x => F158 fuel x.1 x.2, dflt := false }

theorem F158k (fuel : Nat) : CallOk (F158C fuel) := cfg_callOk (callsC (F156ok fuel) <| callsN)

theorem F158ok (fuel : Nat) : (F158c fuel).Ok Tryz.prog := fun x y h => meets_of (F158k fuel) (f := 158) (fn := Tryz.f158) (c := bodyOf Tryz.f158) (by kernel_rfl) (by kernel_rfl) (by kernel_rfl) (by kernel_rfl) (loops0 (by kernel_rfl)) (A := (F158c fuel).A) (R := (F158c fuel).R) (F := (F158c fuel).F) (fun x => by kernel_rfl) (fun x => by kernel_rfl) x y h

noncomputable def S157_5 (fuel : Nat) (a5 : List PV) (a6 : Unit) (a7 : List PV) (a8 : Int) (a9 : Int) : Option (((List PV) × Unit × (List PV) × Int × Int) ⊕ ((Bool) ⊕ (Unit))) :=
  bif (decide (a9 < a8)) then
    bif inRange a9 a7.length then
    bif inRange a9 a5.length then
    (F158 fuel (a7.getD a9.toNat .bad) (a5.getD a9.toNat .bad)).bind fun y13 =>
    bif (!y13) then
      some (.inr (.inl false))
    else
      some (.inl (a5, (), a7, a8, (IntKind.wrap .i64 (a9 + (1 : Int)))))
    else none
    else none
  else
    some (.inr (.inr ()))

noncomputable def S157_5step (fuel : Nat) (x : (List PV) × Unit × (List PV) × Int × Int) : Option (((List PV) × Unit × (List PV) × Int × Int) ⊕ ((Bool) ⊕ (Unit))) := S157_5 fuel x.1 x.2.1 x.2.2.1 x.2.2.2.1 x.2.2.2.2

/-- slices.EqualFunc[[]wireschema/api.Item,[]wireschema/api.Item,wireschema/api.Item,wireschema/api.Item] -/
noncomputable def F157 (fuel : Nat) (a0 : List PV) (a1 : List PV) (a2 : Unit) : Option (Bool) :=
  bif ((a0.length : Int) != (a1.length : Int)) then
    some false
  else
    (loopQ fuel (S157_5step fuel) (a1, (), a0, (a0.length : Int), (0 : Int))).bind fun z => sumE (fun y16 =>
      some y16
    ) (fun y17 =>
      some true
    ) z

noncomputable def S157_5l (fuel : Nat) : LoopE := { key := 5, H := ⟨[1, 2, 15, 16, 17], [], [(.slice 106), (.con (.fn 158 0 [])), (.slice 106), (.int .i64), (.int .i64)]⟩, X := [(.ret, ⟨[6], [], [.bool]⟩), (.exit 0, ⟨[], [], []⟩)], step := S157_5step fuel }

noncomputable def F157C (fuel : Nat) : Cfg := cfg Tryz.prog 32 0 [F158c fuel] [S157_5l fuel] fuel

noncomputable def F157c (fuel : Nat) : CallE := { f := 157, A := ⟨3, [], [(.slice 106), (.slice 106), (.con (.fn 158 0 []))]⟩, R := ⟨1, [], [.bool]⟩, F := fun x => F157 fuel x.1 x.2.1 x.2.2, dflt := false }

theorem F157k (fuel : Nat) : CallOk (F157C fuel) := cfg_callOk (callsC (F158ok fuel) <| callsN)

theorem S157_5ok (fuel : Nat) : LoopOk (F157C fuel) (lp (bodyOf Tryz.f157) 0) := loopOk_of (F157k fuel) fuel (S157_5l fuel) (loops0 (by kernel_rfl)) (by kernel_rfl) (fun x => by kernel_rfl) (fun R e st K => by kernel_rfl)

theorem F157ok (fuel : Nat) : (F157c fuel).Ok Tryz.prog := fun x y h => meets_of (F157k fuel) (f := 157) (fn := Tryz.f157) (c := bodyOf Tryz.f157) (by kernel_rfl) (by kernel_rfl) (by kernel_rfl) (by kernel_rfl) (loopsN 1 (by kernel_rfl) fun i hi => match i, hi with | 0, _ => S157_5ok fuel | n + 1, h => absurd h (by omega)) (A := (F157c fuel).A) (R := (F157c fuel).R) (F := (F157c fuel).F) (fun x => by kernel_rfl) (fun x => by kernel_rfl) x y h

/-- wireschema/format.sameEnum -/
noncomputable def F64 (fuel : Nat) (a0 : PV) (a1 : PV) : Option (Bool) :=
  let x7 := bif (((a0.fld 0).asStr) == ((a1.fld 0).asStr)) then (((a0.fld 1).asBool) == ((a1.fld 1).asBool)) else false
  (bif x7 then F155 fuel ((a0.fld 3).asList) ((a1.fld 3).asList) else some false).bind fun y10 =>
  let x11 := bif x7 then y10 else false
  (bif x11 then F156 fuel ((a0.fld 4).asList) ((a1.fld 4).asList) else some false).bind fun y14 =>
  let x15 := bif x11 then y14 else false
  (bif x15 then F157 fuel ((a0.fld 2).asList) ((a1.fld 2).asList) () else some false).bind fun y18 =>
  some (bif x15 then y18 else false)

noncomputable def F64C (fuel : Nat) : Cfg := cfg Tryz.prog 38 0 [F155c fuel, F156c fuel, F157c fuel] [] fuel

noncomputable def F64c (fuel : Nat) : CallE := { f := 64, A := ⟨2, [], [(.data 64), (.data 64)]⟩, R := ⟨1, [], [.bool]⟩, F := fun x => F64 fuel x.1 x.2, dflt := false }

theorem F64k (fuel : Nat) : CallOk (F64C fuel) := cfg_callOk (callsC (F155ok fuel) <| callsC (F156ok fuel) <| callsC (F157ok fuel) <| callsN)

theorem F64ok (fuel : Nat) : (F64c fuel).Ok Tryz.prog := fun x y h => meets_of (F64k fuel) (f := 64) (fn := Tryz.f64) (c := bodyOf Tryz.f64) (by kernel_rfl) (by kernel_rfl) (by kernel_rfl) (by kernel_rfl) (loops0 (by kernel_rfl)) (A := (F64c fuel).A) (R := (F64c fuel).R) (F := (F64c fuel).F) (fun x => by kernel_rfl) (fun x => by kernel_rfl) x y h

noncomputable def S63_5 (fuel : Nat) (a5 : List PV) (a6 : Unit) (a7 : List PV) (a8 : Int) (a9 : Int) : Option (((List PV) × Unit × (List PV) × Int × Int) ⊕ ((Bool) ⊕ (Unit))) :=
  bif (decide (a9 < a8)) then
    bif inRange a9 a7.length then
    bif inRange a9 a5.length then
    (F64 fuel (a7.getD a9.toNat .bad) (a5.getD a9.toNat .bad)).bind fun y13 =>
    bif (!y13) then
      some (.inr (.inl false))
    else
      some (.inl (a5, (), a7, a8, (IntKind.wrap .i64 (a9 + (1 : Int)))))
    else none
    else none
  else
    some (.inr (.inr ()))

noncomputable def S63_5step (fuel : Nat) (x : (List PV) × Unit × (List PV) × Int × Int) : Option (((List PV) × Unit × (List PV) × Int × Int) ⊕ ((Bool) ⊕ (Unit))) := S63_5 fuel x.1 x.2.1 x.2.2.1 x.2.2.2.1 x.2.2.2.2

/-- slices.EqualFunc[[]wireschema/api.Enum,[]wireschema/api.Enum,wireschema/api.Enum,wireschema/api.Enum] -/
noncomputable def F63 (fuel : Nat) (a0 : List PV) (a1 : List PV) (a2 : Unit) : Option (Bool) :=
  bif ((a0.length : Int) != (a1.length : Int)) then
    some false
  else
    (loopQ fuel (S63_5step fuel) (a1, (), a0, (a0.length : Int), (0 : Int))).bind fun z => sumE (fun y16 =>
      some y16
    ) (fun y17 =>
      some true
    ) z

noncomputable def S63_5l (fuel : Nat) : LoopE := { key := 5, H := ⟨[1, 2, 15, 16, 17], [], [(.slice 64), (.con (.fn 64 0 [])), (.slice 64), (.int .i64), (.int .i64)]⟩, X := [(.ret, ⟨[6], [], [.bool]⟩), (.exit 0, ⟨[], [], []⟩)], step := S63_5step fuel }

noncomputable def F63C (fuel : Nat) : Cfg := cfg Tryz.prog 32 0 [F64c fuel] [S63_5l fuel] fuel

noncomputable def F63c (fuel : Nat) : CallE := { f := 63, A := ⟨3, [], [(.slice 64), (.slice 64), (.con (.fn 64 0 []))]⟩, R := ⟨1, [], [.bool]⟩, F := fun x => F63 fuel x.1 x.2.1 x.2.2, dflt := false }

theorem F63k (fuel : Nat) : CallOk (F63C fuel) := cfg_callOk (callsC (F64ok fuel) <| callsN)

theorem S63_5ok (fuel : Nat) : LoopOk (F63C fuel) (lp (bodyOf Tryz.f63) 0) := loopOk_of (F63k fuel) fuel (S63_5l fuel) (loops0 (by kernel_rfl)) (by kernel_rfl) (fun x => by kernel_rfl) (fun R e st K => by kernel_rfl)

theorem F63ok (fuel : Nat) : (F63c fuel).Ok Tryz.prog := fun x y h => meets_of (F63k fuel) (f := 63) (fn := Tryz.f63) (c := bodyOf Tryz.f63) (by kernel_rfl) (by kernel_rfl) (by kernel_rfl) (by kernel_rfl) (loopsN 1 (by kernel_rfl) fun i hi => match i, hi with | 0, _ => S63_5ok fuel | n + 1, h => absurd h (by omega)) (A := (F63c fuel).A) (R := (F63c fuel).R) (F := (F63c fuel).F) (fun x => by kernel_rfl) (fun x => by kernel_rfl) x y h

/-- wireschema/format.sameService$1 -/
noncomputable def F160 (fuel : Nat) (a0 : PV) (a1 : PV) : Option (Bool) :=
  let x15 := bif (bif (bif (((a0.fld 0).asStr) == ((a1.fld 0).asStr)) then (((a0.fld 1).asStr) == ((a1.fld 1).asStr)) else false) then (((a0.fld 2).asStr) == ((a1.fld 2).asStr)) else false) then (((a0.fld 3).asInt) == ((a1.fld 3).asInt)) else false
  (bif x15 then F156 fuel ((a0.fld 4).asList) ((a1.fld 4).asList) else some false).bind fun y18 =>
  some (bif x15 then y18 else false)

noncomputable def F160C (fuel : Nat) : Cfg := cfg Tryz.prog 38 0 [F156c fuel] [] fuel

noncomputable def F160c (fuel : Nat) : CallE := { f := 160, A := ⟨2, [], [(.data 112), (.data 112)]⟩, R := ⟨1, [], [.bool]⟩, F := fun x => F160 fuel x.1 x.2, dflt := false }

theorem F160k (fuel : Nat) : CallOk (F160C fuel) := cfg_callOk (callsC (F156ok fuel) <| callsN)

theorem F160ok (fuel : Nat) : (F160c fuel).Ok Tryz.prog := fun x y h => meets_of (F160k fuel) (f := 160) (fn := Tryz.f160) (c := bodyOf Tryz.f160) (by kernel_rfl) (by kernel_rfl) (by kernel_rfl) (by kernel_rfl) (loops0 (by kernel_rfl)) (A := (F160c fuel).A) (R := (F160c fuel).R) (F := (F160c fuel).F) (fun x => by kernel_rfl) (fun x => by kernel_rfl) x y h

noncomputable def S159_5 (fuel : Nat) (a5 : List PV) (a6 : Unit) (a7 : List PV) (a8 : Int) (a9 : Int) : Option (((List PV) × Unit × (List PV) × Int × Int) ⊕ ((Bool) ⊕ (Unit))) :=
  bif (decide (a9 < a8)) then
    bif inRange a9 a7.length then
    bif inRange a9 a5.length then
    (F160 fuel (a7.getD a9.toNat .bad) (a5.getD a9.toNat .bad)).bind fun y13 =>
    bif (!y13) then
      some (.inr (.inl false))
    else
      some (.inl (a5, (), a7, a8, (IntKind.wrap .i64 (a9 + (1 : Int)))))
    else none
    else none
  else
    some (.inr (.inr ()))

noncomputable def S159_5step (fuel : Nat) (x : (List PV) × Unit × (List PV) × Int × Int) : Option (((List PV) × Unit × (List PV) × Int × Int) ⊕ ((Bool) ⊕ (Unit))) := S159_5 fuel x.1 x.2.1 x.2.2.1 x.2.2.2.1 x.2.2.2.2

/-- slices.EqualFunc[[]wireschema/api.Method,[]wireschema/api.Method,wireschema/api.Method,wireschema/api.Method] -/
noncomputable def F159 (fuel : Nat) (a0 : List PV) (a1 : List PV) (a2 : Unit) : Option (Bool) :=
  bif ((a0.length : Int) != (a1.length : Int)) then
    some false
  else
    (loopQ fuel (S159_5step fuel) (a1, (), a0, (a0.length : Int), (0 : Int))).bind fun z => sumE (fun y16 =>
      some y16
    ) (fun y17 =>
      some true
    ) z

noncomputable def S159_5l (fuel : Nat) : LoopE := { key := 5, H := ⟨[1, 2, 15, 16, 17], [], [(.slice 112), (.con (.fn 160 0 [])), (.slice 112), (.int .i64), (.int .i64)]⟩, X := [(.ret, ⟨[6], [], [.bool]⟩), (.exit 0, ⟨[], [], []⟩)], step := S159_5step fuel }

noncomputable def F159C (fuel : Nat) : Cfg := cfg Tryz.prog 32 0 [F160c fuel] [S159_5l fuel] fuel

noncomputable def F159c (fuel : Nat) : CallE := { f := 159, A := ⟨3, [], [(.slice 112), (.slice 112), (.con (.fn 160 0 []))]⟩, R := ⟨1, [], [.bool]⟩, F := fun x => F159 fuel x.1 x.2.1 x.2.2, dflt := false }

theorem F159k (fuel : Nat) : CallOk (F159C fuel) := cfg_callOk (callsC (F160ok fuel) <| callsN)

theorem S159_5ok (fuel : Nat) : LoopOk (F159C fuel) (lp (bodyOf Tryz.f159) 0) := loopOk_of (F159k fuel) fuel (S159_5l fuel) (loops0 (by kernel_rfl)) (by kernel_rfl) (fun x => by kernel_rfl) (fun R e st K => by kernel_rfl)

theorem F159ok (fuel : Nat) : (F159c fuel).Ok Tryz.prog := fun x y h => meets_of (F159k fuel) (f := 159) (fn := Tryz.f159) (c := bodyOf Tryz.f159) (by kernel_rfl) (by kernel_rfl) (by kernel_rfl) (by kernel_rfl) (loopsN 1 (by kernel_rfl) fun i hi => match i, hi with | 0, _ => S159_5ok fuel | n + 1, h => absurd h (by omega)) (A := (F159c fuel).A) (R := (F159c fuel).R) (F := (F159c fuel).F) (fun x => by kernel_rfl) (fun x => by kernel_rfl) x y h

/-- wireschema/format.sameService -/
noncomputable def F66 (fuel : Nat) (a0 : PV) (a1 : PV) : Option (Bool) :=
  let x3 := ((a0.fld 0).asStr) == ((a1.fld 0).asStr)
  (bif x3 then F156 fuel ((a0.fld 2).asList) ((a1.fld 2).asList) else some false).bind fun y6 =>
  let x7 := bif x3 then y6 else false
  (bif x7 then F159 fuel ((a0.fld 1).asList) ((a1.fld 1).asList) () else some false).bind fun y10 =>
  some (bif x7 then y10 else false)

noncomputable def F66C (fuel : Nat) : Cfg := cfg Tryz.prog 24 0 [F156c fuel, F159c fuel] [] fuel

noncomputable def F66c (fuel : Nat) : CallE := { f := 66, A := ⟨2, [], [(.data 67), (.data 67)]⟩, R := ⟨1, [], [.bool]⟩, F := fun x => F66 fuel x.1 x.2, dflt := false }

theorem F66k (fuel : Nat) : CallOk (F66C fuel) := cfg_callOk (callsC (F156ok fuel) <| callsC (F159ok fuel) <| callsN)

theorem F66ok (fuel : Nat) : (F66c fuel).Ok Tryz.prog := fun x y h => meets_of (F66k fuel) (f := 66) (fn := Tryz.f66) (c := bodyOf Tryz.f66) (by kernel_rfl) (by kernel_rfl) (by kernel_rfl) (by kernel_rfl) (loops0 (by kernel_rfl)) (A := (F66c fuel).A) (R := (F66c fuel).R) (F := (F66c fuel).F) (fun x => by kernel_rfl) (fun x => by kernel_rfl) x y h

noncomputable def S65_5 (fuel : Nat) (a5 : List PV) (a6 : Unit) (a7 : List PV) (a8 : Int) (a9 : Int) : Option (((List PV) × Unit × (List PV) × Int × Int) ⊕ ((Bool) ⊕ (Unit))) :=
  bif (decide (a9 < a8)) then
    bif inRange a9 a7.length then
    bif inRange a9 a5.length then
    (F66 fuel (a7.getD a9.toNat .bad) (a5.getD a9.toNat .bad)).bind fun y13 =>
    bif (!y13) then
      some (.inr (.inl false))
    else
      some (.inl (a5, (), a7, a8, (IntKind.wrap .i64 (a9 + (1 : Int)))))
    else none
    else none
  else
    some (.inr (.inr ()))

noncomputable def S65_5step (fuel : Nat) (x : (List PV) × Unit × (List PV) × Int × Int) : Option (((List PV) × Unit × (List PV) × Int × Int) ⊕ ((Bool) ⊕ (Unit))) := S65_5 fuel x.1 x.2.1 x.2.2.1 x.2.2.2.1 x.2.2.2.2

/-- slices.EqualFunc[[]wireschema/api.Service,[]wireschema/api.Service,wireschema/api.Service,wireschema/api.Service] -/
noncomputable def F65 (fuel : Nat) (a0 : List PV) (a1 : List PV) (a2 : Unit) : Option (Bool) :=
  bif ((a0.length : Int) != (a1.length : Int)) then
    some false
  else
    (loopQ fuel (S65_5step fuel) (a1, (), a0, (a0.length : Int), (0 : Int))).bind fun z => sumE (fun y16 =>
      some y16
    ) (fun y17 =>
      some true
    ) z

noncomputable def S65_5l (fuel : Nat) : LoopE := { key := 5, H := ⟨[1, 2, 15, 16, 17], [], [(.slice 67), (.con (.fn 66 0 [])), (.slice 67), (.int .i64), (.int .i64)]⟩, X := [(.ret, ⟨[6], [], [.bool]⟩), (.exit 0, ⟨[], [], []⟩)], step := S65_5step fuel }

noncomputable def F65C (fuel : Nat) : Cfg := cfg Tryz.prog 32 0 [F66c fuel] [S65_5l fuel] fuel

noncomputable def F65c (fuel : Nat) : CallE := { f := 65, A := ⟨3, [], [(.slice 67), (.slice 67), (.con (.fn 66 0 []))]⟩, R := ⟨1, [], [.bool]⟩, F := fun x => F65 fuel x.1 x.2.1 x.2.2, dflt := false }

theorem F65k (fuel : Nat) : CallOk (F65C fuel) := cfg_callOk (callsC (F66ok fuel) <| callsN)

theorem S65_5ok (fuel : Nat) : LoopOk (F65C fuel) (lp (bodyOf Tryz.f65) 0) := loopOk_of (F65k fuel) fuel (S65_5l fuel) (loops0 (by kernel_rfl)) (by kernel_rfl) (fun x => by kernel_rfl) (fun R e st K => by kernel_rfl)

theorem F65ok (fuel : Nat) : (F65c fuel).Ok Tryz.prog := fun x y h => meets_of (F65k fuel) (f := 65) (fn := Tryz.f65) (c := bodyOf Tryz.f65) (by kernel_rfl) (by kernel_rfl) (by kernel_rfl) (by kernel_rfl) (loopsN 1 (by kernel_rfl) fun i hi => match i, hi with | 0, _ => S65_5ok fuel | n + 1, h => absurd h (by omega)) (A := (F65c fuel).A) (R := (F65c fuel).R) (F := (F65c fuel).F) (fun x => by kernel_rfl) (fun x => by kernel_rfl) x y h

/-- wireschema/format.Same -/
noncomputable def F24 (fuel : Nat) (a0 : PV) (a1 : PV) : Option (Bool) :=
  let x3 := ((a0.fld 1).asStr) == ((a1.fld 1).asStr)
  (bif x3 then F60 fuel ((a0.fld 2).asList) ((a1.fld 2).asList) else some false).bind fun y6 =>
  let x7 := bif x3 then y6 else false
  (bif x7 then F61 fuel ((a0.fld 3).asList) ((a1.fld 3).asList) () else some false).bind fun y10 =>
  let x11 := bif x7 then y10 else false
  (bif x11 then F63 fuel ((a0.fld 4).asList) ((a1.fld 4).asList) () else some false).bind fun y14 =>
  let x15 := bif x11 then y14 else false
  (bif x15 then F65 fuel ((a0.fld 5).asList) ((a1.fld 5).asList) () else some false).bind fun y18 =>
  some (bif x15 then y18 else false)

noncomputable def F24C (fuel : Nat) : Cfg := cfg Tryz.prog 38 0 [F60c fuel, F61c fuel, F63c fuel, F65c fuel] [] fuel

noncomputable def F24c (fuel : Nat) : CallE := { f := 24, A := ⟨2, [], [(.data 27), (.data 27)]⟩, R := ⟨1, [], [.bool]⟩, F := fun x => F24 fuel x.1 x.2, dflt := false }

theorem F24k (fuel : Nat) : CallOk (F24C fuel) := cfg_callOk (callsC (F60ok fuel) <| callsC (F61ok fuel) <| callsC (F63ok fuel) <| callsC (F65ok fuel) <| callsN)

theorem F24ok (fuel : Nat) : (F24c fuel).Ok Tryz.prog := fun x y h => meets_of (F24k fuel) (f := 24) (fn := Tryz.f24) (c := bodyOf Tryz.f24) (by kernel_rfl) (by kernel_rfl) (by kernel_rfl) (by kernel_rfl) (loops0 (by kernel_rfl)) (A := (F24c fuel).A) (R := (F24c fuel).R) (F := (F24c fuel).F) (fun x => by kernel_rfl) (fun x => by kernel_rfl) x y h

noncomputable def S41_4 (fuel : Nat) (a4 : List PV) (a5 : List PV) (a6 : Bool) (a7 : Int) : Option (((List PV) × (List PV) × Bool × Int) ⊕ ((Bool))) :=
  bif (bif a6 then (decide (a7 < (a4.length : Int))) else false) then
    bif inRange a7 a4.length then
    bif inRange a7 a5.length then
    some (.inl (a4, a5, ((a4.getD a7.toNat .bad).asStr == (a5.getD a7.toNat .bad).asStr), (IntKind.wrap .i64 (a7 + (1 : Int)))))
    else none
    else none
  else
    some (.inr a6)

noncomputable def S41_4step (fuel : Nat) (x : (List PV) × (List PV) × Bool × Int) : Option (((List PV) × (List PV) × Bool × Int) ⊕ ((Bool))) := S41_4 fuel x.1 x.2.1 x.2.2.1 x.2.2.2

/-- wireschema/wireschemaref10.texts -/
noncomputable def F41 (fuel : Nat) (a0 : List PV) (a1 : List PV) : Option (Bool) :=
  (loopQ fuel (S41_4step fuel) (a0, a1, ((a0.length : Int) == (a1.length : Int)), (0 : Int))).bind fun y17 =>
  some y17

noncomputable def S41_4l (fuel : Nat) : LoopE := { key := 4, H := ⟨[0, 1, 5, 6], [], [(.slice 9), (.slice 9), .bool, (.int .i64)]⟩, X := [(.exit 0, ⟨[5], [], [.bool]⟩)], step := S41_4step fuel }

noncomputable def F41C (fuel : Nat) : Cfg := cfg Tryz.prog 31 0 [] [S41_4l fuel] fuel

noncomputable def F41c (fuel : Nat) : CallE := { f := 41, A := ⟨2, [], [(.slice 9), (.slice 9)]⟩, R := ⟨1, [], [.bool]⟩, F := fun x => F41 fuel x.1 x.2, dflt := false }

theorem F41k (fuel : Nat) : CallOk (F41C fuel) := cfg_callOk (callsN)

theorem S41_4ok (fuel : Nat) : LoopOk (F41C fuel) (lp (bodyOf Tryz.f41) 0) := loopOk_of (F41k fuel) fuel (S41_4l fuel) (loops0 (by kernel_rfl)) (by kernel_rfl) (fun x => by kernel_rfl) (fun R e st K => by kernel_rfl)

theorem F41ok (fuel : Nat) : (F41c fuel).Ok Tryz.prog := fun x y h => meets_of (F41k fuel) (f := 41) (fn := Tryz.f41) (c := bodyOf Tryz.f41) (by kernel_rfl) (by kernel_rfl) (by kernel_rfl) (by kernel_rfl) (loopsN 1 (by kernel_rfl) fun i hi => match i, hi with | 0, _ => S41_4ok fuel | n + 1, h => absurd h (by omega)) (A := (F41c fuel).A) (R := (F41c fuel).R) (F := (F41c fuel).F) (fun x => by kernel_rfl) (fun x => by kernel_rfl) x y h

noncomputable def S123_4 (fuel : Nat) (a4 : List PV) (a5 : List PV) (a6 : Bool) (a7 : Int) : Option (((List PV) × (List PV) × Bool × Int) ⊕ ((Bool))) :=
  bif (bif a6 then (decide (a7 < (a4.length : Int))) else false) then
    bif inRange a7 a4.length then
    let x11 := a4.getD a7.toNat .bad
    bif inRange a7 a5.length then
    let x12 := a5.getD a7.toNat .bad
    let x13 := bif ((x11.fld 0).asInt) == ((x12.fld 0).asInt) then (bif ((x11.fld 1).asInt) == ((x12.fld 1).asInt) then true else false) else false
    some (.inl (a4, a5, x13, (IntKind.wrap .i64 (a7 + (1 : Int)))))
    else none
    else none
  else
    some (.inr a6)

noncomputable def S123_4step (fuel : Nat) (x : (List PV) × (List PV) × Bool × Int) : Option (((List PV) × (List PV) × Bool × Int) ⊕ ((Bool))) := S123_4 fuel x.1 x.2.1 x.2.2.1 x.2.2.2

/-- wireschema/wireschemaref10.ranges -/
noncomputable def F123 (fuel : Nat) (a0 : List PV) (a1 : List PV) : Option (Bool) :=
  (loopQ fuel (S123_4step fuel) (a0, a1, ((a0.length : Int) == (a1.length : Int)), (0 : Int))).bind fun y15 =>
  some y15

noncomputable def S123_4l (fuel : Nat) : LoopE := { key := 4, H := ⟨[0, 1, 5, 6], [], [(.slice 163), (.slice 163), .bool, (.int .i64)]⟩, X := [(.exit 0, ⟨[5], [], [.bool]⟩)], step := S123_4step fuel }

noncomputable def F123C (fuel : Nat) : Cfg := cfg Tryz.prog 31 0 [] [S123_4l fuel] fuel

noncomputable def F123c (fuel : Nat) : CallE := { f := 123, A := ⟨2, [], [(.slice 163), (.slice 163)]⟩, R := ⟨1, [], [.bool]⟩, F := fun x => F123 fuel x.1 x.2, dflt := false }

theorem F123k (fuel : Nat) : CallOk (F123C fuel) := cfg_callOk (callsN)

theorem S123_4ok (fuel : Nat) : LoopOk (F123C fuel) (lp (bodyOf Tryz.f123) 0) := loopOk_of (F123k fuel) fuel (S123_4l fuel) (loops0 (by kernel_rfl)) (by kernel_rfl) (fun x => by kernel_rfl) (fun R e st K => by kernel_rfl)

theorem F123ok (fuel : Nat) : (F123c fuel).Ok Tryz.prog := fun x y h => meets_of (F123k fuel) (f := 123) (fn := Tryz.f123) (c := bodyOf Tryz.f123) (by kernel_rfl) (by kernel_rfl) (by kernel_rfl) (by kernel_rfl) (loopsN 1 (by kernel_rfl) fun i hi => match i, hi with | 0, _ => S123_4ok fuel | n + 1, h => absurd h (by omega)) (A := (F123c fuel).A) (R := (F123c fuel).R) (F := (F123c fuel).F) (fun x => by kernel_rfl) (fun x => by kernel_rfl) x y h

noncomputable def S124_5 (fuel : Nat) (a4 : List PV) (a5 : List PV) (a6 : Int) : Option (((List PV) × (List PV) × Int) ⊕ ((Bool) ⊕ (Unit))) :=
  bif (decide (a6 < (a4.length : Int))) then
    bif inRange a6 a4.length then
    bif inRange a6 a5.length then
    let x15 := !(((a4.getD a6.toNat .bad).fld 0).asStr == ((a5.getD a6.toNat .bad).fld 0).asStr)
    bif imp (!x15) (inRange a6 a4.length) then
    bif imp (!x15) (inRange a6 a5.length) then
    let x25 := bif x15 then true else ((((a4.getD a6.toNat .bad).fld 1).fld 0).asInt != (((a5.getD a6.toNat .bad).fld 1).fld 0).asInt)
    bif imp (!x25) (inRange a6 a4.length) then
    bif imp (!x25) (inRange a6 a5.length) then
    let x35 := bif x25 then true else ((((a4.getD a6.toNat .bad).fld 1).fld 1).asInt != (((a5.getD a6.toNat .bad).fld 1).fld 1).asInt)
    bif imp (!x35) (inRange a6 a4.length) then
    bif imp (!x35) (inRange a6 a5.length) then
    bif (bif x35 then true else (!((((a4.getD a6.toNat .bad).fld 1).fld 2).asStr == (((a5.getD a6.toNat .bad).fld 1).fld 2).asStr))) then
      some (.inr (.inl false))
    else
      some (.inl (a4, a5, (IntKind.wrap .i64 (a6 + (1 : Int)))))
    else none
    else none
    else none
    else none
    else none
    else none
    else none
    else none
  else
    some (.inr (.inr ()))

noncomputable def S124_5step (fuel : Nat) (x : (List PV) × (List PV) × Int) : Option (((List PV) × (List PV) × Int) ⊕ ((Bool) ⊕ (Unit))) := S124_5 fuel x.1 x.2.1 x.2.2

/-- wireschema/wireschemaref08.Same -/
noncomputable def F124 (fuel : Nat) (a0 : List PV) (a1 : List PV) : Option (Bool) :=
  bif ((a0.length : Int) != (a1.length : Int)) then
    some false
  else
    (loopQ fuel (S124_5step fuel) (a0, a1, (0 : Int))).bind fun z => sumE (fun y47 =>
      some y47
    ) (fun y48 =>
      some true
    ) z

noncomputable def S124_5l (fuel : Nat) : LoopE := { key := 5, H := ⟨[0, 1, 5], [], [(.slice 119), (.slice 119), (.int .i64)]⟩, X := [(.ret, ⟨[4], [], [.bool]⟩), (.exit 0, ⟨[], [], []⟩)], step := S124_5step fuel }

noncomputable def F124C (fuel : Nat) : Cfg := cfg Tryz.prog 73 0 [] [S124_5l fuel] fuel

noncomputable def F124c (fuel : Nat) : CallE := { f := 124, A := ⟨2, [], [(.slice 119), (.slice 119)]⟩, R := ⟨1, [], [.bool]⟩, F := fun x => F124 fuel x.1 x.2, dflt := false }

theorem F124k (fuel : Nat) : CallOk (F124C fuel) := cfg_callOk (callsN)

theorem S124_5ok (fuel : Nat) : LoopOk (F124C fuel) (lp (bodyOf Tryz.f124) 0) := loopOk_of (F124k fuel) fuel (S124_5l fuel) (loops0 (by kernel_rfl)) (by kernel_rfl) (fun x => by kernel_rfl) (fun R e st K => by kernel_rfl)

theorem F124ok (fuel : Nat) : (F124c fuel).Ok Tryz.prog := fun x y h => meets_of (F124k fuel) (f := 124) (fn := Tryz.f124) (c := bodyOf Tryz.f124) (by kernel_rfl) (by kernel_rfl) (by kernel_rfl) (by kernel_rfl) (loopsN 1 (by kernel_rfl) fun i hi => match i, hi with | 0, _ => S124_5ok fuel | n + 1, h => absurd h (by omega)) (A := (F124c fuel).A) (R := (F124c fuel).R) (F := (F124c fuel).F) (fun x => by kernel_rfl) (fun x => by kernel_rfl) x y h

/-- wireschema/wireschemaref10.SameField -/
noncomputable def F125 (fuel : Nat) (a0 : PV) (a1 : PV) : Option (Bool) :=
  let x1 := a0.fld 7
  let x2 := a1.fld 7
  let x18 := a0.fld 4
  let x19 := a1.fld 4
  let x20 := bif ((x18.fld 0).asInt) == ((x19.fld 0).asInt) then (bif ((x18.fld 1).asStr) == ((x19.fld 1).asStr) then true else false) else false
  let x41 := bif (bif (bif (bif (bif (bif (bif (bif (bif (((a0.fld 0).asInt) == ((a1.fld 0).asInt)) then (((a0.fld 1).asStr) == ((a1.fld 1).asStr)) else false) then (((a0.fld 2).asInt) == ((a1.fld 2).asInt)) else false) then (((a0.fld 3).asInt) == ((a1.fld 3).asInt)) else false) then x20 else false) then (((a0.fld 5).asStr) == ((a1.fld 5).asStr)) else false) then (((a0.fld 6).asBool) == ((a1.fld 6).asBool)) else false) then (((x1.fld 0).asInt) == ((x2.fld 0).asInt)) else false) then (((x1.fld 1).asInt) == ((x2.fld 1).asInt)) else false) then (((x1.fld 2).asStr) == ((x2.fld 2).asStr)) else false
  (bif x41 then F124 fuel ((a0.fld 8).asList) ((a1.fld 8).asList) else some false).bind fun y44 =>
  some (bif x41 then y44 else false)

noncomputable def F125C (fuel : Nat) : Cfg := cfg Tryz.prog 86 0 [F124c fuel] [] fuel

noncomputable def F125c (fuel : Nat) : CallE := { f := 125, A := ⟨2, [], [(.data 45), (.data 45)]⟩, R := ⟨1, [], [.bool]⟩, F := fun x => F125 fuel x.1 x.2, dflt := false }

theorem F125k (fuel : Nat) : CallOk (F125C fuel) := cfg_callOk (callsC (F124ok fuel) <| callsN)

theorem F125ok (fuel : Nat) : (F125c fuel).Ok Tryz.prog := fun x y h => meets_of (F125k fuel) (f := 125) (fn := Tryz.f125) (c := bodyOf Tryz.f125) (by kernel_rfl) (by kernel_rfl) (by kernel_rfl) (by kernel_rfl) (loops0 (by kernel_rfl)) (A := (F125c fuel).A) (R := (F125c fuel).R) (F := (F125c fuel).F) (fun x => by kernel_rfl) (fun x => by kernel_rfl) x y h

noncomputable def S42_4 (fuel : Nat) (a22 : Unit) (a23 : Unit) (a24 : Bool) (a25 : Int) (a26 : PV) (a27 : PV) : Option ((Unit × Unit × Bool × Int × PV × PV) ⊕ ((Bool × PV × PV))) :=
  bif (bif a24 then (decide (a25 < (((a26.fld 1).asList).length : Int))) else false) then
    let x32 := (a26.fld 1).asList
    bif inRange a25 x32.length then
    let x34 := (a27.fld 1).asList
    bif inRange a25 x34.length then
    (F125 fuel (x32.getD a25.toNat .bad) (x34.getD a25.toNat .bad)).bind fun y36 =>
    some (.inl ((), (), y36, (IntKind.wrap .i64 (a25 + (1 : Int))), a26, a27))
    else none
    else none
  else
    some (.inr (a24, a26, a27))

noncomputable def S42_4step (fuel : Nat) (x : Unit × Unit × Bool × Int × PV × PV) : Option ((Unit × Unit × Bool × Int × PV × PV) ⊕ ((Bool × PV × PV))) := S42_4 fuel x.1 x.2.1 x.2.2.1 x.2.2.2.1 x.2.2.2.2.1 x.2.2.2.2.2

/-- wireschema/wireschemaref10.SameMessage -/
noncomputable def F42 (fuel : Nat) (a0 : PV) (a1 : PV) : Option (Bool) :=
  let x9 := bif (((a0.fld 0).asStr) == ((a1.fld 0).asStr)) then ((((a0.fld 1).asList).length : Int) == (((a1.fld 1).asList).length : Int)) else false
  (bif x9 then F123 fuel ((a0.fld 2).asList) ((a1.fld 2).asList) else some false).bind fun y12 =>
  let x13 := bif x9 then y12 else false
  (bif x13 then F41 fuel ((a0.fld 3).asList) ((a1.fld 3).asList) else some false).bind fun y16 =>
  let x17 := bif x13 then y16 else false
  (bif x17 then F124 fuel ((a0.fld 4).asList) ((a1.fld 4).asList) else some false).bind fun y20 =>
  (loopQ fuel (S42_4step fuel) ((), (), (bif x17 then y20 else false), (0 : Int), a0, a1)).bind fun y38 =>
  some y38.1

noncomputable def S42_4l (fuel : Nat) : LoopE := { key := 4, H := ⟨[2, 3, 5, 6], [.box 61 .leaf, .box 61 .leaf], [(.con (.ref 0 [] 61)), (.con (.ref 1 [] 61)), .bool, (.int .i64), (.data 61), (.data 61)]⟩, X := [(.exit 0, ⟨[5], [.box 61 .leaf, .box 61 .leaf], [.bool, (.data 61), (.data 61)]⟩)], step := S42_4step fuel }

noncomputable def F42C (fuel : Nat) : Cfg := cfg Tryz.prog 64 0 [F123c fuel, F41c fuel, F124c fuel, F125c fuel] [S42_4l fuel] fuel

noncomputable def F42c (fuel : Nat) : CallE := { f := 42, A := ⟨2, [], [(.data 61), (.data 61)]⟩, R := ⟨1, [], [.bool]⟩, F := fun x => F42 fuel x.1 x.2, dflt := false }

theorem F42k (fuel : Nat) : CallOk (F42C fuel) := cfg_callOk (callsC (F123ok fuel) <| callsC (F41ok fuel) <| callsC (F124ok fuel) <| callsC (F125ok fuel) <| callsN)

theorem S42_4ok (fuel : Nat) : LoopOk (F42C fuel) (lp (bodyOf Tryz.f42) 0) := loopOk_of (F42k fuel) fuel (S42_4l fuel) (loops0 (by kernel_rfl)) (by kernel_rfl) (fun x => by kernel_rfl) (fun R e st K => by kernel_rfl)

theorem F42ok (fuel : Nat) : (F42c fuel).Ok Tryz.prog := fun x y h => meets_of (F42k fuel) (f := 42) (fn := Tryz.f42) (c := bodyOf Tryz.f42) (by kernel_rfl) (by kernel_rfl) (by kernel_rfl) (by kernel_rfl) (loopsN 1 (by kernel_rfl) fun i hi => match i, hi with | 0, _ => S42_4ok fuel | n + 1, h => absurd h (by omega)) (A := (F42c fuel).A) (R := (F42c fuel).R) (F := (F42c fuel).F) (fun x => by kernel_rfl) (fun x => by kernel_rfl) x y h

noncomputable def S43_4 (fuel : Nat) (a22 : Unit) (a23 : Unit) (a24 : Bool) (a25 : Int) (a26 : PV) (a27 : PV) : Option ((Unit × Unit × Bool × Int × PV × PV) ⊕ ((Bool × PV × PV))) :=
  bif (bif a24 then (decide (a25 < (((a26.fld 2).asList).length : Int))) else false) then
    let x32 := (a26.fld 2).asList
    bif inRange a25 x32.length then
    let x33 := x32.getD a25.toNat .bad
    let x34 := (a27.fld 2).asList
    bif inRange a25 x34.length then
    let x35 := x34.getD a25.toNat .bad
    let x42 := bif (((x33.fld 0).asStr) == ((x35.fld 0).asStr)) then (((x33.fld 1).asInt) == ((x35.fld 1).asInt)) else false
    (bif x42 then F124 fuel ((x33.fld 2).asList) ((x35.fld 2).asList) else some false).bind fun y45 =>
    some (.inl ((), (), (bif x42 then y45 else false), (IntKind.wrap .i64 (a25 + (1 : Int))), a26, a27))
    else none
    else none
  else
    some (.inr (a24, a26, a27))

noncomputable def S43_4step (fuel : Nat) (x : Unit × Unit × Bool × Int × PV × PV) : Option ((Unit × Unit × Bool × Int × PV × PV) ⊕ ((Bool × PV × PV))) := S43_4 fuel x.1 x.2.1 x.2.2.1 x.2.2.2.1 x.2.2.2.2.1 x.2.2.2.2.2

/-- wireschema/wireschemaref10.SameEnum -/
noncomputable def F43 (fuel : Nat) (a0 : PV) (a1 : PV) : Option (Bool) :=
  let x13 := bif (bif (((a0.fld 0).asStr) == ((a1.fld 0).asStr)) then (((a0.fld 1).asBool) == ((a1.fld 1).asBool)) else false) then ((((a0.fld 2).asList).length : Int) == (((a1.fld 2).asList).length : Int)) else false
  (bif x13 then F123 fuel ((a0.fld 3).asList) ((a1.fld 3).asList) else some false).bind fun y16 =>
  let x17 := bif x13 then y16 else false
  (bif x17 then F124 fuel ((a0.fld 4).asList) ((a1.fld 4).asList) else some false).bind fun y20 =>
  (loopQ fuel (S43_4step fuel) ((), (), (bif x17 then y20 else false), (0 : Int), a0, a1)).bind fun y48 =>
  some y48.1

noncomputable def S43_4l (fuel : Nat) : LoopE := { key := 4, H := ⟨[2, 3, 5, 6], [.box 64 .leaf, .box 64 .leaf], [(.con (.ref 0 [] 64)), (.con (.ref 1 [] 64)), .bool, (.int .i64), (.data 64), (.data 64)]⟩, X := [(.exit 0, ⟨[5], [.box 64 .leaf, .box 64 .leaf], [.bool, (.data 64), (.data 64)]⟩)], step := S43_4step fuel }

noncomputable def F43C (fuel : Nat) : Cfg := cfg Tryz.prog 84 0 [F123c fuel, F124c fuel] [S43_4l fuel] fuel

noncomputable def F43c (fuel : Nat) : CallE := { f := 43, A := ⟨2, [], [(.data 64), (.data 64)]⟩, R := ⟨1, [], [.bool]⟩, F := fun x => F43 fuel x.1 x.2, dflt := false }

theorem F43k (fuel : Nat) : CallOk (F43C fuel) := cfg_callOk (callsC (F123ok fuel) <| callsC (F124ok fuel) <| callsN)

theorem S43_4ok (fuel : Nat) : LoopOk (F43C fuel) (lp (bodyOf Tryz.f43) 0) := loopOk_of (F43k fuel) fuel (S43_4l fuel) (loops0 (by kernel_rfl)) (by kernel_rfl) (fun x => by kernel_rfl) (fun R e st K => by kernel_rfl)

theorem F43ok (fuel : Nat) : (F43c fuel).Ok Tryz.prog := fun x y h => meets_of (F43k fuel) (f := 43) (fn := Tryz.f43) (c := bodyOf Tryz.f43) (by kernel_rfl) (by kernel_rfl) (by kernel_rfl) (by kernel_rfl) (loopsN 1 (by kernel_rfl) fun i hi => match i, hi with | 0, _ => S43_4ok fuel | n + 1, h => absurd h (by omega)) (A := (F43c fuel).A) (R := (F43c fuel).R) (F := (F43c fuel).F) (fun x => by kernel_rfl) (fun x => by kernel_rfl) x y h

noncomputable def S44_4 (fuel : Nat) (a14 : Unit) (a15 : Unit) (a16 : Bool) (a17 : Int) (a18 : PV) (a19 : PV) : Option ((Unit × Unit × Bool × Int × PV × PV) ⊕ ((Bool × PV × PV))) :=
  bif (bif a16 then (decide (a17 < (((a18.fld 1).asList).length : Int))) else false) then
    let x24 := (a18.fld 1).asList
    bif inRange a17 x24.length then
    let x25 := x24.getD a17.toNat .bad
    let x26 := (a19.fld 1).asList
    bif inRange a17 x26.length then
    let x27 := x26.getD a17.toNat .bad
    let x42 := bif (bif (bif (((x25.fld 0).asStr) == ((x27.fld 0).asStr)) then (((x25.fld 1).asStr) == ((x27.fld 1).asStr)) else false) then (((x25.fld 2).asStr) == ((x27.fld 2).asStr)) else false) then (((x25.fld 3).asInt) == ((x27.fld 3).asInt)) else false
    (bif x42 then F124 fuel ((x25.fld 4).asList) ((x27.fld 4).asList) else some false).bind fun y45 =>
    some (.inl ((), (), (bif x42 then y45 else false), (IntKind.wrap .i64 (a17 + (1 : Int))), a18, a19))
    else none
    else none
  else
    some (.inr (a16, a18, a19))

noncomputable def S44_4step (fuel : Nat) (x : Unit × Unit × Bool × Int × PV × PV) : Option ((Unit × Unit × Bool × Int × PV × PV) ⊕ ((Bool × PV × PV))) := S44_4 fuel x.1 x.2.1 x.2.2.1 x.2.2.2.1 x.2.2.2.2.1 x.2.2.2.2.2

/-- wireschema/wireschemaref10.SameService -/
noncomputable def F44 (fuel : Nat) (a0 : PV) (a1 : PV) : Option (Bool) :=
  let x9 := bif (((a0.fld 0).asStr) == ((a1.fld 0).asStr)) then ((((a0.fld 1).asList).length : Int) == (((a1.fld 1).asList).length : Int)) else false
  (bif x9 then F124 fuel ((a0.fld 2).asList) ((a1.fld 2).asList) else some false).bind fun y12 =>
  (loopQ fuel (S44_4step fuel) ((), (), (bif x9 then y12 else false), (0 : Int), a0, a1)).bind fun y48 =>
  some y48.1

noncomputable def S44_4l (fuel : Nat) : LoopE := { key := 4, H := ⟨[2, 3, 5, 6], [.box 67 .leaf, .box 67 .leaf], [(.con (.ref 0 [] 67)), (.con (.ref 1 [] 67)), .bool, (.int .i64), (.data 67), (.data 67)]⟩, X := [(.exit 0, ⟨[5], [.box 67 .leaf, .box 67 .leaf], [.bool, (.data 67), (.data 67)]⟩)], step := S44_4step fuel }

noncomputable def F44C (fuel : Nat) : Cfg := cfg Tryz.prog 84 0 [F124c fuel] [S44_4l fuel] fuel

noncomputable def F44c (fuel : Nat) : CallE := { f := 44, A := ⟨2, [], [(.data 67), (.data 67)]⟩, R := ⟨1, [], [.bool]⟩, F := fun x => F44 fuel x.1 x.2, dflt := false }

theorem F44k (fuel : Nat) : CallOk (F44C fuel) := cfg_callOk (callsC (F124ok fuel) <| callsN)

theorem S44_4ok (fuel : Nat) : LoopOk (F44C fuel) (lp (bodyOf Tryz.f44) 0) := loopOk_of (F44k fuel) fuel (S44_4l fuel) (loops0 (by kernel_rfl)) (by kernel_rfl) (fun x => by kernel_rfl) (fun R e st K => by kernel_rfl)

theorem F44ok (fuel : Nat) : (F44c fuel).Ok Tryz.prog := fun x y h => meets_of (F44k fuel) (f := 44) (fn := Tryz.f44) (c := bodyOf Tryz.f44) (by kernel_rfl) (by kernel_rfl) (by kernel_rfl) (by kernel_rfl) (loopsN 1 (by kernel_rfl) fun i hi => match i, hi with | 0, _ => S44_4ok fuel | n + 1, h => absurd h (by omega)) (A := (F44c fuel).A) (R := (F44c fuel).R) (F := (F44c fuel).F) (fun x => by kernel_rfl) (fun x => by kernel_rfl) x y h

noncomputable def S17_4 (fuel : Nat) (a26 : Unit) (a27 : Unit) (a28 : Bool) (a29 : Int) (a30 : PV) (a31 : PV) : Option ((Unit × Unit × Bool × Int × PV × PV) ⊕ ((Unit × Unit × Bool × PV × PV))) :=
  bif (bif a28 then (decide (a29 < (((a30.fld 3).asList).length : Int))) else false) then
    let x36 := (a30.fld 3).asList
    bif inRange a29 x36.length then
    let x38 := (a31.fld 3).asList
    bif inRange a29 x38.length then
    (F42 fuel (x36.getD a29.toNat .bad) (x38.getD a29.toNat .bad)).bind fun y40 =>
    some (.inl ((), (), y40, (IntKind.wrap .i64 (a29 + (1 : Int))), a30, a31))
    else none
    else none
  else
    some (.inr ((), (), a28, a30, a31))

noncomputable def S17_4step (fuel : Nat) (x : Unit × Unit × Bool × Int × PV × PV) : Option ((Unit × Unit × Bool × Int × PV × PV) ⊕ ((Unit × Unit × Bool × PV × PV))) := S17_4 fuel x.1 x.2.1 x.2.2.1 x.2.2.2.1 x.2.2.2.2.1 x.2.2.2.2.2

noncomputable def S17_8 (fuel : Nat) (a43 : Unit) (a44 : Unit) (a45 : Bool) (a46 : Int) (a47 : PV) (a48 : PV) : Option ((Unit × Unit × Bool × Int × PV × PV) ⊕ ((Unit × Unit × Bool × PV × PV))) :=
  bif (bif a45 then (decide (a46 < (((a47.fld 4).asList).length : Int))) else false) then
    let x53 := (a47.fld 4).asList
    bif inRange a46 x53.length then
    let x55 := (a48.fld 4).asList
    bif inRange a46 x55.length then
    (F43 fuel (x53.getD a46.toNat .bad) (x55.getD a46.toNat .bad)).bind fun y57 =>
    some (.inl ((), (), y57, (IntKind.wrap .i64 (a46 + (1 : Int))), a47, a48))
    else none
    else none
  else
    some (.inr ((), (), a45, a47, a48))

noncomputable def S17_8step (fuel : Nat) (x : Unit × Unit × Bool × Int × PV × PV) : Option ((Unit × Unit × Bool × Int × PV × PV) ⊕ ((Unit × Unit × Bool × PV × PV))) := S17_8 fuel x.1 x.2.1 x.2.2.1 x.2.2.2.1 x.2.2.2.2.1 x.2.2.2.2.2

noncomputable def S17_12 (fuel : Nat) (a60 : Unit) (a61 : Unit) (a62 : Bool) (a63 : Int) (a64 : PV) (a65 : PV) : Option ((Unit × Unit × Bool × Int × PV × PV) ⊕ ((Bool × PV × PV))) :=
  bif (bif a62 then (decide (a63 < (((a64.fld 5).asList).length : Int))) else false) then
    let x70 := (a64.fld 5).asList
    bif inRange a63 x70.length then
    let x72 := (a65.fld 5).asList
    bif inRange a63 x72.length then
    (F44 fuel (x70.getD a63.toNat .bad) (x72.getD a63.toNat .bad)).bind fun y74 =>
    some (.inl ((), (), y74, (IntKind.wrap .i64 (a63 + (1 : Int))), a64, a65))
    else none
    else none
  else
    some (.inr (a62, a64, a65))

noncomputable def S17_12step (fuel : Nat) (x : Unit × Unit × Bool × Int × PV × PV) : Option ((Unit × Unit × Bool × Int × PV × PV) ⊕ ((Bool × PV × PV))) := S17_12 fuel x.1 x.2.1 x.2.2.1 x.2.2.2.1 x.2.2.2.2.1 x.2.2.2.2.2

/-- wireschema/wireschemaref10.Same -/
noncomputable def F17 (fuel : Nat) (a0 : PV) (a1 : PV) : Option (Bool) :=
  let x3 := ((a0.fld 1).asStr) == ((a1.fld 1).asStr)
  (bif x3 then F41 fuel ((a0.fld 2).asList) ((a1.fld 2).asList) else some false).bind fun y6 =>
  (loopQ fuel (S17_4step fuel) ((), (), (bif (bif (bif (bif x3 then y6 else false) then ((((a0.fld 3).asList).length : Int) == (((a1.fld 3).asList).length : Int)) else false) then ((((a0.fld 4).asList).length : Int) == (((a1.fld 4).asList).length : Int)) else false) then ((((a0.fld 5).asList).length : Int) == (((a1.fld 5).asList).length : Int)) else false), (0 : Int), a0, a1)).bind fun y42 =>
  (loopQ fuel (S17_8step fuel) ((), (), y42.2.2.1, (0 : Int), y42.2.2.2.1, y42.2.2.2.2)).bind fun y59 =>
  (loopQ fuel (S17_12step fuel) ((), (), y59.2.2.1, (0 : Int), y59.2.2.2.1, y59.2.2.2.2)).bind fun y76 =>
  some y76.1

noncomputable def S17_4l (fuel : Nat) : LoopE := { key := 4, H := ⟨[2, 3, 5, 6], [.box 27 .leaf, .box 27 .leaf], [(.con (.ref 0 [] 27)), (.con (.ref 1 [] 27)), .bool, (.int .i64), (.data 27), (.data 27)]⟩, X := [(.exit 0, ⟨[2, 3, 5], [.box 27 .leaf, .box 27 .leaf], [(.con (.ref 0 [] 27)), (.con (.ref 1 [] 27)), .bool, (.data 27), (.data 27)]⟩)], step := S17_4step fuel }

noncomputable def S17_8l (fuel : Nat) : LoopE := { key := 8, H := ⟨[2, 3, 5, 7], [.box 27 .leaf, .box 27 .leaf], [(.con (.ref 0 [] 27)), (.con (.ref 1 [] 27)), .bool, (.int .i64), (.data 27), (.data 27)]⟩, X := [(.exit 2, ⟨[2, 3, 5], [.box 27 .leaf, .box 27 .leaf], [(.con (.ref 0 [] 27)), (.con (.ref 1 [] 27)), .bool, (.data 27), (.data 27)]⟩)], step := S17_8step fuel }

noncomputable def S17_12l (fuel : Nat) : LoopE := { key := 12, H := ⟨[2, 3, 5, 8], [.box 27 .leaf, .box 27 .leaf], [(.con (.ref 0 [] 27)), (.con (.ref 1 [] 27)), .bool, (.int .i64), (.data 27), (.data 27)]⟩, X := [(.exit 4, ⟨[5], [.box 27 .leaf, .box 27 .leaf], [.bool, (.data 27), (.data 27)]⟩)], step := S17_12step fuel }

noncomputable def F17C (fuel : Nat) : Cfg := cfg Tryz.prog 112 0 [F41c fuel, F42c fuel, F43c fuel, F44c fuel] [S17_4l fuel, S17_8l fuel, S17_12l fuel] fuel

noncomputable def F17c (fuel : Nat) : CallE := { f := 17, A := ⟨2, [], [(.data 27), (.data 27)]⟩, R := ⟨1, [], [.bool]⟩, F := fun x => F17 fuel x.1 x.2, dflt := false }

theorem F17k (fuel : Nat) : CallOk (F17C fuel) := cfg_callOk (callsC (F41ok fuel) <| callsC (F42ok fuel) <| callsC (F43ok fuel) <| callsC (F44ok fuel) <| callsN)

theorem S17_4ok (fuel : Nat) : LoopOk (F17C fuel) (lp (bodyOf Tryz.f17) 0) := loopOk_of (F17k fuel) fuel (S17_4l fuel) (loops0 (by kernel_rfl)) (by kernel_rfl) (fun x => by kernel_rfl) (fun R e st K => by kernel_rfl)

theorem S17_8ok (fuel : Nat) : LoopOk (F17C fuel) (lp (bodyOf Tryz.f17) 1) := loopOk_of (F17k fuel) fuel (S17_8l fuel) (loops0 (by kernel_rfl)) (by kernel_rfl) (fun x => by kernel_rfl) (fun R e st K => by kernel_rfl)

theorem S17_12ok (fuel : Nat) : LoopOk (F17C fuel) (lp (bodyOf Tryz.f17) 2) := loopOk_of (F17k fuel) fuel (S17_12l fuel) (loops0 (by kernel_rfl)) (by kernel_rfl) (fun x => by kernel_rfl) (fun R e st K => by kernel_rfl)

theorem F17ok (fuel : Nat) : (F17c fuel).Ok Tryz.prog := fun x y h => meets_of (F17k fuel) (f := 17) (fn := Tryz.f17) (c := bodyOf Tryz.f17) (by kernel_rfl) (by kernel_rfl) (by kernel_rfl) (by kernel_rfl) (loopsN 3 (by kernel_rfl) fun i hi => match i, hi with | 0, _ => S17_4ok fuel | 1, _ => S17_8ok fuel | 2, _ => S17_12ok fuel | n + 3, h => absurd h (by omega)) (A := (F17c fuel).A) (R := (F17c fuel).R) (F := (F17c fuel).F) (fun x => by kernel_rfl) (fun x => by kernel_rfl) x y h

/-- wireschema/wireschemalaw10.FormatSames -/
noncomputable def F7 (fuel : Nat) (a0 : PV) (a1 : PV) (a2 : List UInt8) : Option (Bool) :=
  (F11 fuel a0).bind fun y1 =>
  let x2 := !y1
  (bif !x2 then F11 fuel a1 else some false).bind fun y3 =>
  bif (bif x2 then true else (!y3)) then
    some true
  else
    (F24 fuel a0 a1).bind fun y6 =>
    (F17 fuel a0 a1).bind fun y7 =>
    let x8 := y6 == y7
    (bif x8 then F24 fuel a1 a0 else some false).bind fun y9 =>
    (bif x8 then F24 fuel a0 a1 else some false).bind fun y10 =>
    let x12 := bif x8 then (y9 == y10) else false
    (bif x12 then F24 fuel a0 (PV.agg [(PV.str a2), (PV.str ((a0.fld 1).asStr)), (PV.slice ((a0.fld 2).asList)), (PV.slice ((a0.fld 3).asList)), (PV.slice ((a0.fld 4).asList)), (PV.slice ((a0.fld 5).asList))]) else some false).bind fun y13 =>
    let x14 := bif x12 then y13 else false
    (bif x14 then Lawake fuel else some false).bind fun y15 =>
    some (bif x14 then y15 else false)

noncomputable def F7C (fuel : Nat) : Cfg := cfg Tryz.prog 43 0 [F11c fuel, F24c fuel, F17c fuel, Lawakec fuel] [] fuel

noncomputable def F7c (fuel : Nat) : CallE := { f := 7, A := ⟨3, [], [(.data 27), (.data 27), .str]⟩, R := ⟨1, [], [.bool]⟩, F := fun x => F7 fuel x.1 x.2.1 x.2.2, dflt := false }

theorem F7k (fuel : Nat) : CallOk (F7C fuel) := cfg_callOk (callsC (F11ok fuel) <| callsC (F24ok fuel) <| callsC (F17ok fuel) <| callsC (Lawakeok fuel) <| callsN)

theorem F7ok (fuel : Nat) : (F7c fuel).Ok Tryz.prog := fun x y h => meets_of (F7k fuel) (f := 7) (fn := Tryz.f7) (c := bodyOf Tryz.f7) (by kernel_rfl) (by kernel_rfl) (by kernel_rfl) (by kernel_rfl) (loops0 (by kernel_rfl)) (A := (F7c fuel).A) (R := (F7c fuel).R) (F := (F7c fuel).F) (fun x => by kernel_rfl) (fun x => by kernel_rfl) x y h
end Go.Ab
