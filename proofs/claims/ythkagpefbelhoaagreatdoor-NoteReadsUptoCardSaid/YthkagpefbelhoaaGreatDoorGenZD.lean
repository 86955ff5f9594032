/- A part of the proof: lemmas on how the program runs over plain data. -/
import Derived.Test.YthkagpefbelhoaaGreatDoorAbFmtZD
import Derived.KernelRfl
set_option linter.unusedVariables false
set_option linter.unusedSimpArgs false
set_option linter.unnecessarySimpa false
namespace Go.Ab
open Go Go.Proofs
set_option maxRecDepth 100000

/-- wireschema/note.known -/
noncomputable def F28 (fuel : Nat)  : Option ((List (PV × PV))) :=
  some (PV.mput (PV.mput (PV.mput (PV.mput (PV.mput (PV.mput (PV.mput (PV.mput (PV.mput (PV.mput (PV.mput (PV.mput (PV.mput [] (PV.str ([100, 101, 112, 114, 101, 99, 97, 116, 101, 100] : List UInt8)) (PV.agg [(PV.int (1 : Int)), (PV.int (126 : Int))])) (PV.str ([100, 111, 99] : List UInt8)) (PV.agg [(PV.int (7 : Int)), (PV.int (126 : Int))])) (PV.str ([97, 108, 105, 97, 115] : List UInt8)) (PV.agg [(PV.int (7 : Int)), (PV.int (84 : Int))])) (PV.str ([115, 105, 110, 99, 101] : List UInt8)) (PV.agg [(PV.int (4 : Int)), (PV.int (84 : Int))])) (PV.str ([117, 110, 116, 105, 108] : List UInt8)) (PV.agg [(PV.int (4 : Int)), (PV.int (84 : Int))])) (PV.str ([109, 105, 110] : List UInt8)) (PV.agg [(PV.int (3 : Int)), (PV.int (4 : Int))])) (PV.str ([109, 97, 120] : List UInt8)) (PV.agg [(PV.int (3 : Int)), (PV.int (4 : Int))])) (PV.str ([108, 101, 110, 103, 116, 104] : List UInt8)) (PV.agg [(PV.int (4 : Int)), (PV.int (4 : Int))])) (PV.str ([115, 101, 99, 114, 101, 116] : List UInt8)) (PV.agg [(PV.int (1 : Int)), (PV.int (4 : Int))])) (PV.str ([105, 100, 101, 109, 112, 111, 116, 101, 110, 116] : List UInt8)) (PV.agg [(PV.int (1 : Int)), (PV.int (64 : Int))])) (PV.str ([116, 105, 109, 101, 111, 117, 116] : List UInt8)) (PV.agg [(PV.int (4 : Int)), (PV.int (64 : Int))])) (PV.str ([114, 111, 117, 116, 101] : List UInt8)) (PV.agg [(PV.int (7 : Int)), (PV.int (64 : Int))])) (PV.str ([111, 119, 110, 101, 114] : List UInt8)) (PV.agg [(PV.int (7 : Int)), (PV.int (34 : Int))]))

noncomputable def F28C (fuel : Nat) : Cfg := cfg Tryz.prog 16 0 [] [] fuel

noncomputable def F28c (fuel : Nat) : CallE := { f := 28, A := ⟨0, [], []⟩, R := ⟨1, [], [(.map 9 61)]⟩, F := fun x => F28 fuel , dflt := [] }

theorem F28k (fuel : Nat) : CallOk (F28C fuel) := cfg_callOk (callsN)

theorem F28ok (fuel : Nat) : (F28c fuel).Ok Tryz.prog := fun x y h => meets_of (F28k fuel) (f := 28) (fn := Tryz.f28) (c := bodyOf Tryz.f28) (by kernel_rfl) (by kernel_rfl) (by kernel_rfl) (by kernel_rfl) (loops0 (by kernel_rfl)) (A := (F28c fuel).A) (R := (F28c fuel).R) (F := (F28c fuel).F) (fun x => by kernel_rfl) (fun x => by kernel_rfl) x y h

/-- wireschema/note.Kind -/
noncomputable def F13 (fuel : Nat) (a0 : List UInt8) : Option (Int) :=
  (F28 fuel).bind fun y1 =>
  let x2 := (PV.mget y1 (PV.str a0)).getD (PV.agg [(PV.int (0 : Int)), (PV.int (0 : Int))])
  some ((x2.fld 0).asInt)

noncomputable def F13C (fuel : Nat) : Cfg := cfg Tryz.prog 7 0 [F28c fuel] [] fuel

noncomputable def F13c (fuel : Nat) : CallE := { f := 13, A := ⟨1, [], [.str]⟩, R := ⟨1, [], [(.int .i64)]⟩, F := fun x => F13 fuel x, dflt := 0 }

theorem F13k (fuel : Nat) : CallOk (F13C fuel) := cfg_callOk (callsC (F28ok fuel) <| callsN)

theorem F13ok (fuel : Nat) : (F13c fuel).Ok Tryz.prog := fun x y h => meets_of (F13k fuel) (f := 13) (fn := Tryz.f13) (c := bodyOf Tryz.f13) (by kernel_rfl) (by kernel_rfl) (by kernel_rfl) (by kernel_rfl) (loops0 (by kernel_rfl)) (A := (F13c fuel).A) (R := (F13c fuel).R) (F := (F13c fuel).F) (fun x => by kernel_rfl) (fun x => by kernel_rfl) x y h

/-- wireschema/scalar.Is -/
noncomputable def F65 (fuel : Nat) (a0 : Int) : Option (Bool) :=
  some (bif (decide (a0 ≥ (1 : Int))) then (decide (a0 ≤ (9 : Int))) else false)

noncomputable def F65C (fuel : Nat) : Cfg := cfg Tryz.prog 9 0 [] [] fuel

noncomputable def F65c (fuel : Nat) : CallE := { f := 65, A := ⟨1, [], [(.int .i64)]⟩, R := ⟨1, [], [.bool]⟩, F := fun x => F65 fuel x, dflt := false }

theorem F65k (fuel : Nat) : CallOk (F65C fuel) := cfg_callOk (callsN)

theorem F65ok (fuel : Nat) : (F65c fuel).Ok Tryz.prog := fun x y h => meets_of (F65k fuel) (f := 65) (fn := Tryz.f65) (c := bodyOf Tryz.f65) (by kernel_rfl) (by kernel_rfl) (by kernel_rfl) (by kernel_rfl) (loops0 (by kernel_rfl)) (A := (F65c fuel).A) (R := (F65c fuel).R) (F := (F65c fuel).F) (fun x => by kernel_rfl) (fun x => by kernel_rfl) x y h

/-- wireschema/scalar.texty -/
noncomputable def F91 (fuel : Nat) (a0 : Int) : Option (Bool) :=
  some (bif (a0 == (7 : Int)) then true else (a0 == (8 : Int)))

noncomputable def F91C (fuel : Nat) : Cfg := cfg Tryz.prog 9 0 [] [] fuel

noncomputable def F91c (fuel : Nat) : CallE := { f := 91, A := ⟨1, [], [(.int .i64)]⟩, R := ⟨1, [], [.bool]⟩, F := fun x => F91 fuel x, dflt := false }

theorem F91k (fuel : Nat) : CallOk (F91C fuel) := cfg_callOk (callsN)

theorem F91ok (fuel : Nat) : (F91c fuel).Ok Tryz.prog := fun x y h => meets_of (F91k fuel) (f := 91) (fn := Tryz.f91) (c := bodyOf Tryz.f91) (by kernel_rfl) (by kernel_rfl) (by kernel_rfl) (by kernel_rfl) (loops0 (by kernel_rfl)) (A := (F91c fuel).A) (R := (F91c fuel).R) (F := (F91c fuel).F) (fun x => by kernel_rfl) (fun x => by kernel_rfl) x y h

/-- wireschema/scalar.lean -/
noncomputable def F66 (fuel : Nat) (a0 : PV) : Option (Bool) :=
  bif (decide ((IntKind.wrap .i64 ((IntKind.wrap .i64 ((IntKind.wrap .i64 ((((a0.fld 3).asList).length : Int) + (((a0.fld 4).asList).length : Int))) + (((a0.fld 5).asList).length : Int))) + (((a0.fld 6).asList).length : Int))) > (0 : Int))) then
    some false
  else
    (F91 fuel ((a0.fld 0).asInt)).bind fun y14 =>
    bif y14 then
      some (((a0.fld 1).asInt) == (0 : Int))
    else
      some (((a0.fld 2).asStr) == ([] : List UInt8))

noncomputable def F66C (fuel : Nat) : Cfg := cfg Tryz.prog 28 0 [F91c fuel] [] fuel

noncomputable def F66c (fuel : Nat) : CallE := { f := 66, A := ⟨1, [], [(.data 42)]⟩, R := ⟨1, [], [.bool]⟩, F := fun x => F66 fuel x, dflt := false }

theorem F66k (fuel : Nat) : CallOk (F66C fuel) := cfg_callOk (callsC (F91ok fuel) <| callsN)

theorem F66ok (fuel : Nat) : (F66c fuel).Ok Tryz.prog := fun x y h => meets_of (F66k fuel) (f := 66) (fn := Tryz.f66) (c := bodyOf Tryz.f66) (by kernel_rfl) (by kernel_rfl) (by kernel_rfl) (by kernel_rfl) (loops0 (by kernel_rfl)) (A := (F66c fuel).A) (R := (F66c fuel).R) (F := (F66c fuel).F) (fun x => by kernel_rfl) (fun x => by kernel_rfl) x y h

/-- wireschema/scalar.within -/
noncomputable def F67 (fuel : Nat) (a0 : Int) (a1 : Int) : Option (Bool) :=
  bif (a0 == (1 : Int)) then
    some (decide (a1 ≤ (1 : Int)))
  else
    bif (a0 == (2 : Int)) then
      some (bif (decide ((IntKind.wrap .i64 a1) ≥ (-2147483648 : Int))) then (decide ((IntKind.wrap .i64 a1) ≤ (2147483647 : Int))) else false)
    else
      bif (a0 == (9 : Int)) then
        some (decide (a1 ≤ (2147483647 : Int)))
      else
        bif (a0 == (4 : Int)) then
          some (decide (a1 ≤ (4294967295 : Int)))
        else
          some true

noncomputable def F67C (fuel : Nat) : Cfg := cfg Tryz.prog 28 0 [] [] fuel

noncomputable def F67c (fuel : Nat) : CallE := { f := 67, A := ⟨2, [], [(.int .i64), (.int .u64)]⟩, R := ⟨1, [], [.bool]⟩, F := fun x => F67 fuel x.1 x.2, dflt := false }

theorem F67k (fuel : Nat) : CallOk (F67C fuel) := cfg_callOk (callsN)

theorem F67ok (fuel : Nat) : (F67c fuel).Ok Tryz.prog := fun x y h => meets_of (F67k fuel) (f := 67) (fn := Tryz.f67) (c := bodyOf Tryz.f67) (by kernel_rfl) (by kernel_rfl) (by kernel_rfl) (by kernel_rfl) (loops0 (by kernel_rfl)) (A := (F67c fuel).A) (R := (F67c fuel).R) (F := (F67c fuel).F) (fun x => by kernel_rfl) (fun x => by kernel_rfl) x y h

/-- internal/stringslite.HasPrefix -/
noncomputable def F112 (fuel : Nat) (a0 : List UInt8) (a1 : List UInt8) : Option (Bool) :=
  let x3 := decide ((a0.length : Int) ≥ (a1.length : Int))
  let x4 := (a1.length : Int)
  bif imp x3 (decide (0 ≤ (0 : Int) ∧ (0 : Int) ≤ x4 ∧ x4 ≤ (a0.length : Int))) then
  some (bif x3 then (((a0.take x4.toNat).drop (0 : Int).toNat) == a1) else false)
  else none

noncomputable def F112C (fuel : Nat) : Cfg := cfg Tryz.prog 18 0 [] [] fuel

noncomputable def F112c (fuel : Nat) : CallE := { f := 112, A := ⟨2, [], [.str, .str]⟩, R := ⟨1, [], [.bool]⟩, F := fun x => F112 fuel x.1 x.2, dflt := false }

theorem F112k (fuel : Nat) : CallOk (F112C fuel) := cfg_callOk (callsN)

theorem F112ok (fuel : Nat) : (F112c fuel).Ok Tryz.prog := fun x y h => meets_of (F112k fuel) (f := 112) (fn := Tryz.f112) (c := bodyOf Tryz.f112) (by kernel_rfl) (by kernel_rfl) (by kernel_rfl) (by kernel_rfl) (loops0 (by kernel_rfl)) (A := (F112c fuel).A) (R := (F112c fuel).R) (F := (F112c fuel).F) (fun x => by kernel_rfl) (fun x => by kernel_rfl) x y h

/-- strings.HasPrefix -/
noncomputable def F79 (fuel : Nat) (a0 : List UInt8) (a1 : List UInt8) : Option (Bool) :=
  (F112 fuel a0 a1).bind fun y1 =>
  some y1

noncomputable def F79C (fuel : Nat) : Cfg := cfg Tryz.prog 8 0 [F112c fuel] [] fuel

noncomputable def F79c (fuel : Nat) : CallE := { f := 79, A := ⟨2, [], [.str, .str]⟩, R := ⟨1, [], [.bool]⟩, F := fun x => F79 fuel x.1 x.2, dflt := false }

theorem F79k (fuel : Nat) : CallOk (F79C fuel) := cfg_callOk (callsC (F112ok fuel) <| callsN)

theorem F79ok (fuel : Nat) : (F79c fuel).Ok Tryz.prog := fun x y h => meets_of (F79k fuel) (f := 79) (fn := Tryz.f79) (c := bodyOf Tryz.f79) (by kernel_rfl) (by kernel_rfl) (by kernel_rfl) (by kernel_rfl) (loops0 (by kernel_rfl)) (A := (F79c fuel).A) (R := (F79c fuel).R) (F := (F79c fuel).F) (fun x => by kernel_rfl) (fun x => by kernel_rfl) x y h

/-- wireschema/utf.wrong -/
noncomputable def F102 (fuel : Nat) (a0 : List UInt8) (a1 : Int) (a2 : Int) : Option (Bool) :=
  let x1 := a2 == (65533 : Int)
  bif imp x1 (decide (0 ≤ a1 ∧ a1 ≤ (a0.length : Int) ∧ (a0.length : Int) ≤ (a0.length : Int))) then
  (bif x1 then F79 fuel ((a0.take (a0.length : Int).toNat).drop a1.toNat) ([239, 191, 189] : List UInt8) else some false).bind fun y3 =>
  some (bif x1 then (!y3) else false)
  else none

noncomputable def F102C (fuel : Nat) : Cfg := cfg Tryz.prog 16 0 [F79c fuel] [] fuel

noncomputable def F102c (fuel : Nat) : CallE := { f := 102, A := ⟨3, [], [.str, (.int .i64), (.int .i32)]⟩, R := ⟨1, [], [.bool]⟩, F := fun x => F102 fuel x.1 x.2.1 x.2.2, dflt := false }

theorem F102k (fuel : Nat) : CallOk (F102C fuel) := cfg_callOk (callsC (F79ok fuel) <| callsN)

theorem F102ok (fuel : Nat) : (F102c fuel).Ok Tryz.prog := fun x y h => meets_of (F102k fuel) (f := 102) (fn := Tryz.f102) (c := bodyOf Tryz.f102) (by kernel_rfl) (by kernel_rfl) (by kernel_rfl) (by kernel_rfl) (loops0 (by kernel_rfl)) (A := (F102c fuel).A) (R := (F102c fuel).R) (F := (F102c fuel).F) (fun x => by kernel_rfl) (fun x => by kernel_rfl) x y h

noncomputable def S98_3 (fuel : Nat) (a1 : List UInt8) (a2 : Unit) (a3 : List UInt8) (a4 : Int) : Option (((List UInt8) × Unit × (List UInt8) × Int) ⊕ ((Int × (List UInt8) × Int) ⊕ ((List UInt8) × Int))) :=
  bif (decide (a4.toNat < a3.length)) then
    bif decide (a4.toNat < a3.length) then
    let x6 := (a4.toNat : Int)
    bif decide (a4.toNat < a3.length) then
    (F102 fuel a1 x6 ((Utf8.decode ⟨a3.toArray⟩ a4.toNat).1 : Int)).bind fun y8 =>
    bif y8 then
      some (.inr (.inl (x6, a3, ((bif decide (a4.toNat < a3.length) then a4.toNat + (Utf8.decode ⟨a3.toArray⟩ a4.toNat).2 else a4.toNat : Nat) : Int))))
    else
      some (.inl (a1, (), a3, ((bif decide (a4.toNat < a3.length) then a4.toNat + (Utf8.decode ⟨a3.toArray⟩ a4.toNat).2 else a4.toNat : Nat) : Int)))
    else none
    else none
  else
    some (.inr (.inr (a3, ((bif decide (a4.toNat < a3.length) then a4.toNat + (Utf8.decode ⟨a3.toArray⟩ a4.toNat).2 else a4.toNat : Nat) : Int))))

noncomputable def S98_3step (fuel : Nat) (x : (List UInt8) × Unit × (List UInt8) × Int) : Option (((List UInt8) × Unit × (List UInt8) × Int) ⊕ ((Int × (List UInt8) × Int) ⊕ ((List UInt8) × Int))) := S98_3 fuel x.1 x.2.1 x.2.2.1 x.2.2.2

/-- wireschema/utf.Bad -/
noncomputable def F98 (fuel : Nat) (a0 : List UInt8) : Option (Int) :=
  (loopQ fuel (S98_3step fuel) (a0, (), a0, ((0 : Nat) : Int))).bind fun z => sumE (fun y9 =>
    some y9.1
  ) (fun y10 =>
    some (-1 : Int)
  ) z

noncomputable def S98_3l (fuel : Nat) : LoopE := { key := 3, H := ⟨[0, 6], [.iter], [.str, (.con (.iref 0)), .str, (.int .i64)]⟩, X := [(.ret, ⟨[2], [.iter], [(.int .i64), .str, (.int .i64)]⟩), (.exit 0, ⟨[], [.iter], [.str, (.int .i64)]⟩)], step := S98_3step fuel }

noncomputable def F98C (fuel : Nat) : Cfg := cfg Tryz.prog 16 0 [F102c fuel] [S98_3l fuel] fuel

noncomputable def F98c (fuel : Nat) : CallE := { f := 98, A := ⟨1, [], [.str]⟩, R := ⟨1, [], [(.int .i64)]⟩, F := fun x => F98 fuel x, dflt := 0 }

theorem F98k (fuel : Nat) : CallOk (F98C fuel) := cfg_callOk (callsC (F102ok fuel) <| callsN)

theorem S98_3ok (fuel : Nat) : LoopOk (F98C fuel) (lp (bodyOf Tryz.f98) 0) := loopOk_of (F98k fuel) fuel (S98_3l fuel) (loops0 (by kernel_rfl)) (by kernel_rfl) (fun x => by kernel_rfl) (fun R e st K => by kernel_rfl)

theorem F98ok (fuel : Nat) : (F98c fuel).Ok Tryz.prog := fun x y h => meets_of (F98k fuel) (f := 98) (fn := Tryz.f98) (c := bodyOf Tryz.f98) (by kernel_rfl) (by kernel_rfl) (by kernel_rfl) (by kernel_rfl) (loopsN 1 (by kernel_rfl) fun i hi => match i, hi with | 0, _ => S98_3ok fuel | n + 1, h => absurd h (by omega)) (A := (F98c fuel).A) (R := (F98c fuel).R) (F := (F98c fuel).F) (fun x => by kernel_rfl) (fun x => by kernel_rfl) x y h

/-- wireschema/utf.Valid -/
noncomputable def F68 (fuel : Nat) (a0 : List UInt8) : Option (Bool) :=
  (F98 fuel a0).bind fun y1 =>
  some (decide (y1 < (0 : Int)))

noncomputable def F68C (fuel : Nat) : Cfg := cfg Tryz.prog 6 0 [F98c fuel] [] fuel

noncomputable def F68c (fuel : Nat) : CallE := { f := 68, A := ⟨1, [], [.str]⟩, R := ⟨1, [], [.bool]⟩, F := fun x => F68 fuel x, dflt := false }

theorem F68k (fuel : Nat) : CallOk (F68C fuel) := cfg_callOk (callsC (F98ok fuel) <| callsN)

theorem F68ok (fuel : Nat) : (F68c fuel).Ok Tryz.prog := fun x y h => meets_of (F68k fuel) (f := 68) (fn := Tryz.f68) (c := bodyOf Tryz.f68) (by kernel_rfl) (by kernel_rfl) (by kernel_rfl) (by kernel_rfl) (loops0 (by kernel_rfl)) (A := (F68c fuel).A) (R := (F68c fuel).R) (F := (F68c fuel).F) (fun x => by kernel_rfl) (fun x => by kernel_rfl) x y h

/-- wireschema/scalar.Fits -/
noncomputable def F33 (fuel : Nat) (a0 : Int) (a1 : PV) : Option (Bool) :=
  (F65 fuel a0).bind fun y1 =>
  let x5 := bif (!y1) then true else (((a1.fld 0).asInt) != a0)
  (bif !x5 then F66 fuel a1 else some false).bind fun y6 =>
  let x8 := bif x5 then true else (!y6)
  (bif !x8 then F67 fuel a0 ((a1.fld 1).asInt) else some false).bind fun y10 =>
  bif (bif (bif x8 then true else (!y10)) then true else (decide ((((a1.fld 2).asStr).length : Int) > (4096 : Int)))) then
    some false
  else
    let x17 := a0 != (7 : Int)
    (bif !x17 then F68 fuel ((a1.fld 2).asStr) else some false).bind fun y19 =>
    some (bif x17 then true else y19)

noncomputable def F33C (fuel : Nat) : Cfg := cfg Tryz.prog 39 0 [F65c fuel, F66c fuel, F67c fuel, F68c fuel] [] fuel

noncomputable def F33c (fuel : Nat) : CallE := { f := 33, A := ⟨2, [], [(.int .i64), (.data 42)]⟩, R := ⟨1, [], [.bool]⟩, F := fun x => F33 fuel x.1 x.2, dflt := false }

theorem F33k (fuel : Nat) : CallOk (F33C fuel) := cfg_callOk (callsC (F65ok fuel) <| callsC (F66ok fuel) <| callsC (F67ok fuel) <| callsC (F68ok fuel) <| callsN)

theorem F33ok (fuel : Nat) : (F33c fuel).Ok Tryz.prog := fun x y h => meets_of (F33k fuel) (f := 33) (fn := Tryz.f33) (c := bodyOf Tryz.f33) (by kernel_rfl) (by kernel_rfl) (by kernel_rfl) (by kernel_rfl) (loops0 (by kernel_rfl)) (A := (F33c fuel).A) (R := (F33c fuel).R) (F := (F33c fuel).F) (fun x => by kernel_rfl) (fun x => by kernel_rfl) x y h

/-- wireschema/note.right -/
noncomputable def F19 (fuel : Nat) (a0 : PV) : Option (Bool) :=
  (F13 fuel ((a0.fld 0).asStr)).bind fun y2 =>
  let x3 := y2 != (0 : Int)
  (bif x3 then F33 fuel y2 (a0.fld 1) else some false).bind fun y5 =>
  some (bif x3 then y5 else false)

noncomputable def F19C (fuel : Nat) : Cfg := cfg Tryz.prog 15 0 [F13c fuel, F33c fuel] [] fuel

noncomputable def F19c (fuel : Nat) : CallE := { f := 19, A := ⟨1, [], [(.data 44)]⟩, R := ⟨1, [], [.bool]⟩, F := fun x => F19 fuel x, dflt := false }

theorem F19k (fuel : Nat) : CallOk (F19C fuel) := cfg_callOk (callsC (F13ok fuel) <| callsC (F33ok fuel) <| callsN)

theorem F19ok (fuel : Nat) : (F19c fuel).Ok Tryz.prog := fun x y h => meets_of (F19k fuel) (f := 19) (fn := Tryz.f19) (c := bodyOf Tryz.f19) (by kernel_rfl) (by kernel_rfl) (by kernel_rfl) (by kernel_rfl) (loops0 (by kernel_rfl)) (A := (F19c fuel).A) (R := (F19c fuel).R) (F := (F19c fuel).F) (fun x => by kernel_rfl) (fun x => by kernel_rfl) x y h

/-- internal/strconv.FormatBool -/
noncomputable def F69 (fuel : Nat) (a0 : Bool) : Option ((List UInt8)) :=
  bif a0 then
    some ([116, 114, 117, 101] : List UInt8)
  else
    some ([102, 97, 108, 115, 101] : List UInt8)

noncomputable def F69C (fuel : Nat) : Cfg := cfg Tryz.prog 4 0 [] [] fuel

noncomputable def F69c (fuel : Nat) : CallE := { f := 69, A := ⟨1, [], [.bool]⟩, R := ⟨1, [], [.str]⟩, F := fun x => F69 fuel x, dflt := [] }

theorem F69k (fuel : Nat) : CallOk (F69C fuel) := cfg_callOk (callsN)

theorem F69ok (fuel : Nat) : (F69c fuel).Ok Tryz.prog := fun x y h => meets_of (F69k fuel) (f := 69) (fn := Tryz.f69) (c := bodyOf Tryz.f69) (by kernel_rfl) (by kernel_rfl) (by kernel_rfl) (by kernel_rfl) (loops0 (by kernel_rfl)) (A := (F69c fuel).A) (R := (F69c fuel).R) (F := (F69c fuel).F) (fun x => by kernel_rfl) (fun x => by kernel_rfl) x y h

/-- strconv.FormatBool -/
noncomputable def F34 (fuel : Nat) (a0 : Bool) : Option ((List UInt8)) :=
  (F69 fuel a0).bind fun y1 =>
  some y1

noncomputable def F34C (fuel : Nat) : Cfg := cfg Tryz.prog 5 0 [F69c fuel] [] fuel

noncomputable def F34c (fuel : Nat) : CallE := { f := 34, A := ⟨1, [], [.bool]⟩, R := ⟨1, [], [.str]⟩, F := fun x => F34 fuel x, dflt := [] }

theorem F34k (fuel : Nat) : CallOk (F34C fuel) := cfg_callOk (callsC (F69ok fuel) <| callsN)

theorem F34ok (fuel : Nat) : (F34c fuel).Ok Tryz.prog := fun x y h => meets_of (F34k fuel) (f := 34) (fn := Tryz.f34) (c := bodyOf Tryz.f34) (by kernel_rfl) (by kernel_rfl) (by kernel_rfl) (by kernel_rfl) (loops0 (by kernel_rfl)) (A := (F34c fuel).A) (R := (F34c fuel).R) (F := (F34c fuel).F) (fun x => by kernel_rfl) (fun x => by kernel_rfl) x y h

/-- wireschema/scalar.Class -/
noncomputable def F71 (fuel : Nat) (a0 : Int) : Option (Int) :=
  let x1 := bitsI .and .u64 a0 (9218868437227405312 : Int)
  let x2 := bitsI .and .u64 a0 (4503599627370495 : Int)
  bif (bif (x1 == (9218868437227405312 : Int)) then (x2 != (0 : Int)) else false) then
    some (0 : Int)
  else
    bif (x1 == (9218868437227405312 : Int)) then
      some (1 : Int)
    else
      bif (bif (x1 == (0 : Int)) then (x2 == (0 : Int)) else false) then
        some (2 : Int)
      else
        bif (x1 == (0 : Int)) then
          some (3 : Int)
        else
          some (4 : Int)

noncomputable def F71C (fuel : Nat) : Cfg := cfg Tryz.prog 29 0 [] [] fuel

noncomputable def F71c (fuel : Nat) : CallE := { f := 71, A := ⟨1, [], [(.int .u64)]⟩, R := ⟨1, [], [(.int .i64)]⟩, F := fun x => F71 fuel x, dflt := 0 }

theorem F71k (fuel : Nat) : CallOk (F71C fuel) := cfg_callOk (callsN)

theorem F71ok (fuel : Nat) : (F71c fuel).Ok Tryz.prog := fun x y h => meets_of (F71k fuel) (f := 71) (fn := Tryz.f71) (c := bodyOf Tryz.f71) (by kernel_rfl) (by kernel_rfl) (by kernel_rfl) (by kernel_rfl) (loops0 (by kernel_rfl)) (A := (F71c fuel).A) (R := (F71c fuel).R) (F := (F71c fuel).F) (fun x => by kernel_rfl) (fun x => by kernel_rfl) x y h

/-- strconv.FormatUint -/
noncomputable def F39 (fuel : Nat) (a0 : Int) (a1 : Int) : Option ((List UInt8)) :=
  (Lfmtu fuel a0 a1).bind fun y1 =>
  some y1

noncomputable def F39C (fuel : Nat) : Cfg := cfg Tryz.prog 8 0 [Lfmtuc fuel] [] fuel

noncomputable def F39c (fuel : Nat) : CallE := { f := 39, A := ⟨2, [], [(.int .u64), (.int .i64)]⟩, R := ⟨1, [], [.str]⟩, F := fun x => F39 fuel x.1 x.2, dflt := [] }

theorem F39k (fuel : Nat) : CallOk (F39C fuel) := cfg_callOk (callsC (Lfmtuok fuel) <| callsN)

theorem F39ok (fuel : Nat) : (F39c fuel).Ok Tryz.prog := fun x y h => meets_of (F39k fuel) (f := 39) (fn := Tryz.f39) (c := bodyOf Tryz.f39) (by kernel_rfl) (by kernel_rfl) (by kernel_rfl) (by kernel_rfl) (loops0 (by kernel_rfl)) (A := (F39c fuel).A) (R := (F39c fuel).R) (F := (F39c fuel).F) (fun x => by kernel_rfl) (fun x => by kernel_rfl) x y h

/-- wireschema/scalar.double -/
noncomputable def F36 (fuel : Nat) (a0 : Int) : Option ((List UInt8)) :=
  (F71 fuel a0).bind fun y1 =>
  bif (y1 == (0 : Int)) then
    some ([110, 97, 110] : List UInt8)
  else
    bif (bif (y1 == (1 : Int)) then ((bitsI .and .u64 a0 (9223372036854775808 : Int)) != (0 : Int)) else false) then
      some ([45, 105, 110, 102] : List UInt8)
    else
      bif (y1 == (1 : Int)) then
        some ([105, 110, 102] : List UInt8)
      else
        (F39 fuel a0 (16 : Int)).bind fun y8 =>
        (Lrepeat fuel ([48] : List UInt8) (IntKind.wrap .i64 ((16 : Int) - (y8.length : Int)))).bind fun y11 =>
        bif decide (([48, 120] : List UInt8).length + y11.length ≤ strMax) then
        bif decide ((([48, 120] : List UInt8) ++ y11).length + y8.length ≤ strMax) then
        some ((([48, 120] : List UInt8) ++ y11) ++ y8)
        else none
        else none

noncomputable def F36C (fuel : Nat) : Cfg := cfg Tryz.prog 30 0 [F71c fuel, F39c fuel, Lrepeatc fuel] [] fuel

noncomputable def F36c (fuel : Nat) : CallE := { f := 36, A := ⟨1, [], [(.int .u64)]⟩, R := ⟨1, [], [.str]⟩, F := fun x => F36 fuel x, dflt := [] }

theorem F36k (fuel : Nat) : CallOk (F36C fuel) := cfg_callOk (callsC (F71ok fuel) <| callsC (F39ok fuel) <| callsC (Lrepeatok fuel) <| callsN)

theorem F36ok (fuel : Nat) : (F36c fuel).Ok Tryz.prog := fun x y h => meets_of (F36k fuel) (f := 36) (fn := Tryz.f36) (c := bodyOf Tryz.f36) (by kernel_rfl) (by kernel_rfl) (by kernel_rfl) (by kernel_rfl) (loops0 (by kernel_rfl)) (A := (F36c fuel).A) (R := (F36c fuel).R) (F := (F36c fuel).F) (fun x => by kernel_rfl) (fun x => by kernel_rfl) x y h

/-- wireschema/utf.escape -/
noncomputable def F103 (fuel : Nat) (a0 : Int) : Option ((List UInt8)) :=
  let x1 := a0.fdiv (2 ^ (min (4 : Int).toNat (IntKind.bits .u8)))
  let x3 := IntKind.wrap .u8 ((a0.fdiv (2 ^ (min (4 : Int).toNat (IntKind.bits .u8)))) + (1 : Int))
  bif decide (0 ≤ x1 ∧ x1 ≤ x3 ∧ x3 ≤ (([48, 49, 50, 51, 52, 53, 54, 55, 56, 57, 97, 98, 99, 100, 101, 102] : List UInt8).length : Int)) then
  let x4 := (([48, 49, 50, 51, 52, 53, 54, 55, 56, 57, 97, 98, 99, 100, 101, 102] : List UInt8).take x3.toNat).drop x1.toNat
  bif decide (([92, 120] : List UInt8).length + x4.length ≤ strMax) then
  let x5 := bitsI .and .u8 a0 (15 : Int)
  let x7 := IntKind.wrap .u8 ((bitsI .and .u8 a0 (15 : Int)) + (1 : Int))
  bif decide (0 ≤ x5 ∧ x5 ≤ x7 ∧ x7 ≤ (([48, 49, 50, 51, 52, 53, 54, 55, 56, 57, 97, 98, 99, 100, 101, 102] : List UInt8).length : Int)) then
  let x8 := (([48, 49, 50, 51, 52, 53, 54, 55, 56, 57, 97, 98, 99, 100, 101, 102] : List UInt8).take x7.toNat).drop x5.toNat
  bif decide ((([92, 120] : List UInt8) ++ x4).length + x8.length ≤ strMax) then
  some ((([92, 120] : List UInt8) ++ x4) ++ x8)
  else none
  else none
  else none
  else none

noncomputable def F103C (fuel : Nat) : Cfg := cfg Tryz.prog 17 0 [] [] fuel

noncomputable def F103c (fuel : Nat) : CallE := { f := 103, A := ⟨1, [], [(.int .u8)]⟩, R := ⟨1, [], [.str]⟩, F := fun x => F103 fuel x, dflt := [] }

theorem F103k (fuel : Nat) : CallOk (F103C fuel) := cfg_callOk (callsN)

theorem F103ok (fuel : Nat) : (F103c fuel).Ok Tryz.prog := fun x y h => meets_of (F103k fuel) (f := 103) (fn := Tryz.f103) (c := bodyOf Tryz.f103) (by kernel_rfl) (by kernel_rfl) (by kernel_rfl) (by kernel_rfl) (loops0 (by kernel_rfl)) (A := (F103c fuel).A) (R := (F103c fuel).R) (F := (F103c fuel).F) (fun x => by kernel_rfl) (fun x => by kernel_rfl) x y h

/-- wireschema/utf.form -/
noncomputable def F73 (fuel : Nat) (a0 : List UInt8) (a1 : Int) (a2 : Int) : Option ((List UInt8)) :=
  bif (a2 == (34 : Int)) then
    some ([92, 34] : List UInt8)
  else
    bif (a2 == (92 : Int)) then
      some ([92, 92] : List UInt8)
    else
      bif (a2 == (10 : Int)) then
        some ([92, 110] : List UInt8)
      else
        bif (a2 == (9 : Int)) then
          some ([92, 116] : List UInt8)
        else
          bif (a2 == (13 : Int)) then
            some ([92, 114] : List UInt8)
          else
            let x8 := bif (decide (a2 < (32 : Int))) then true else (a2 == (127 : Int))
            (bif !x8 then F102 fuel a0 a1 a2 else some false).bind fun y9 =>
            bif (bif x8 then true else y9) then
              bif inRange a1 a0.length then
              (F103 fuel ((a0.getD a1.toNat 0).toNat : Int)).bind fun y12 =>
              some y12
              else none
            else
              some ((Utf8.encode a2).data.toList)

noncomputable def F73C (fuel : Nat) : Cfg := cfg Tryz.prog 41 0 [F102c fuel, F103c fuel] [] fuel

noncomputable def F73c (fuel : Nat) : CallE := { f := 73, A := ⟨3, [], [.str, (.int .i64), (.int .i32)]⟩, R := ⟨1, [], [.str]⟩, F := fun x => F73 fuel x.1 x.2.1 x.2.2, dflt := [] }

theorem F73k (fuel : Nat) : CallOk (F73C fuel) := cfg_callOk (callsC (F102ok fuel) <| callsC (F103ok fuel) <| callsN)

theorem F73ok (fuel : Nat) : (F73c fuel).Ok Tryz.prog := fun x y h => meets_of (F73k fuel) (f := 73) (fn := Tryz.f73) (c := bodyOf Tryz.f73) (by kernel_rfl) (by kernel_rfl) (by kernel_rfl) (by kernel_rfl) (loops0 (by kernel_rfl)) (A := (F73c fuel).A) (R := (F73c fuel).R) (F := (F73c fuel).F) (fun x => by kernel_rfl) (fun x => by kernel_rfl) x y h

noncomputable def S37_5 (fuel : Nat) (a2 : List UInt8) (a3 : Unit) (a4 : Unit) (a5 : List UInt8) (a6 : List UInt8) (a7 : Int) : Option (((List UInt8) × Unit × Unit × (List UInt8) × (List UInt8) × Int) ⊕ ((Unit × (List UInt8) × (List UInt8) × Int))) :=
  bif (decide (a7.toNat < a6.length)) then
    bif decide (a7.toNat < a6.length) then
    bif decide (a7.toNat < a6.length) then
    (F73 fuel a2 (a7.toNat : Int) ((Utf8.decode ⟨a6.toArray⟩ a7.toNat).1 : Int)).bind fun y11 =>
    (LwriteString fuel y11 a5).bind fun y12 =>
    some (.inl (a2, (), (), y12.2.2, a6, ((bif decide (a7.toNat < a6.length) then a7.toNat + (Utf8.decode ⟨a6.toArray⟩ a7.toNat).2 else a7.toNat : Nat) : Int)))
    else none
    else none
  else
    some (.inr ((), a5, a6, ((bif decide (a7.toNat < a6.length) then a7.toNat + (Utf8.decode ⟨a6.toArray⟩ a7.toNat).2 else a7.toNat : Nat) : Int)))

noncomputable def S37_5step (fuel : Nat) (x : (List UInt8) × Unit × Unit × (List UInt8) × (List UInt8) × Int) : Option (((List UInt8) × Unit × Unit × (List UInt8) × (List UInt8) × Int) ⊕ ((Unit × (List UInt8) × (List UInt8) × Int))) := S37_5 fuel x.1 x.2.1 x.2.2.1 x.2.2.2.1 x.2.2.2.2.1 x.2.2.2.2.2

/-- wireschema/utf.Quote -/
noncomputable def F37 (fuel : Nat) (a0 : List UInt8) : Option ((List UInt8)) :=
  (LwriteString fuel ([34] : List UInt8) []).bind fun y1 =>
  (loopQ fuel (S37_5step fuel) (a0, (), (), y1.2.2, a0, ((0 : Nat) : Int))).bind fun y13 =>
  (LwriteString fuel ([34] : List UInt8) y13.2.1).bind fun y14 =>
  (Lstring fuel y14.2.2).bind fun y15 =>
  some y15.1

noncomputable def S37_5l (fuel : Nat) : LoopE := { key := 5, H := ⟨[0, 3, 8], [.bld 75, .iter], [.str, (.con (.bref 0 75)), (.con (.iref 1)), .str, .str, (.int .i64)]⟩, X := [(.exit 0, ⟨[3], [.bld 75, .iter], [(.con (.bref 0 75)), .str, .str, (.int .i64)]⟩)], step := S37_5step fuel }

noncomputable def F37C (fuel : Nat) : Cfg := cfg Tryz.prog 20 0 [LwriteString_75c fuel, F73c fuel, Lstring_75c fuel] [S37_5l fuel] fuel

noncomputable def F37c (fuel : Nat) : CallE := { f := 37, A := ⟨1, [], [.str]⟩, R := ⟨1, [], [.str]⟩, F := fun x => F37 fuel x, dflt := [] }

theorem F37k (fuel : Nat) : CallOk (F37C fuel) := cfg_callOk (callsC (LwriteString_75ok fuel) <| callsC (F73ok fuel) <| callsC (Lstring_75ok fuel) <| callsN)

theorem S37_5ok (fuel : Nat) : LoopOk (F37C fuel) (lp (bodyOf Tryz.f37) 0) := loopOk_of (F37k fuel) fuel (S37_5l fuel) (loops0 (by kernel_rfl)) (by kernel_rfl) (fun x => by kernel_rfl) (fun R e st K => by kernel_rfl)

theorem F37ok (fuel : Nat) : (F37c fuel).Ok Tryz.prog := fun x y h => meets_of (F37k fuel) (f := 37) (fn := Tryz.f37) (c := bodyOf Tryz.f37) (by kernel_rfl) (by kernel_rfl) (by kernel_rfl) (by kernel_rfl) (loopsN 1 (by kernel_rfl) fun i hi => match i, hi with | 0, _ => S37_5ok fuel | n + 1, h => absurd h (by omega)) (A := (F37c fuel).A) (R := (F37c fuel).R) (F := (F37c fuel).F) (fun x => by kernel_rfl) (fun x => by kernel_rfl) x y h

/-- wireschema/scalar.Text -/
noncomputable def F20 (fuel : Nat) (a0 : PV) : Option ((List UInt8)) :=
  (F33 fuel ((a0.fld 0).asInt) a0).bind fun y2 =>
  bif (!y2) then
    some ([] : List UInt8)
  else
    let x4 := (a0.fld 0).asInt
    bif (x4 == (1 : Int)) then
      (F34 fuel (((a0.fld 1).asInt) == (1 : Int))).bind fun y8 =>
      some y8
    else
      bif (x4 == (2 : Int)) then
        (Litoa fuel (IntKind.wrap .i64 ((a0.fld 1).asInt))).bind fun y12 =>
        some y12
      else
        bif (x4 == (3 : Int)) then
          (Litoa fuel (IntKind.wrap .i64 ((a0.fld 1).asInt))).bind fun y16 =>
          some y16
        else
          bif (x4 == (6 : Int)) then
            (F36 fuel ((a0.fld 1).asInt)).bind fun y19 =>
            some y19
          else
            bif (x4 == (7 : Int)) then
              (F37 fuel ((a0.fld 2).asStr)).bind fun y22 =>
              some y22
            else
              bif (x4 == (8 : Int)) then
                none
              else
                (F39 fuel ((a0.fld 1).asInt) (10 : Int)).bind fun y26 =>
                some y26

noncomputable def F20C (fuel : Nat) : Cfg := cfg Tryz.prog 43 0 [F33c fuel, F34c fuel, Litoac fuel, F36c fuel, F37c fuel, F39c fuel] [] fuel

noncomputable def F20c (fuel : Nat) : CallE := { f := 20, A := ⟨1, [], [(.data 42)]⟩, R := ⟨1, [], [.str]⟩, F := fun x => F20 fuel x, dflt := [] }

theorem F20k (fuel : Nat) : CallOk (F20C fuel) := cfg_callOk (callsC (F33ok fuel) <| callsC (F34ok fuel) <| callsC (Litoaok fuel) <| callsC (F36ok fuel) <| callsC (F37ok fuel) <| callsC (F39ok fuel) <| callsN)

theorem F20ok (fuel : Nat) : (F20c fuel).Ok Tryz.prog := fun x y h => meets_of (F20k fuel) (f := 20) (fn := Tryz.f20) (c := bodyOf Tryz.f20) (by kernel_rfl) (by kernel_rfl) (by kernel_rfl) (by kernel_rfl) (loops0 (by kernel_rfl)) (A := (F20c fuel).A) (R := (F20c fuel).R) (F := (F20c fuel).F) (fun x => by kernel_rfl) (fun x => by kernel_rfl) x y h

noncomputable def S9_4 (fuel : Nat) (a2 : List PV) (a3 : List PV) (a4 : Int) (a5 : Int) : Option (((List PV) × (List PV) × Int × Int) ⊕ (((List UInt8)) ⊕ ((List PV)))) :=
  bif (decide (a5 < a4)) then
    bif inRange a5 a3.length then
    let x7 := a3.getD a5.toNat .bad
    (F19 fuel x7).bind fun y8 =>
    bif (!y8) then
      some (.inr (.inl ([] : List UInt8)))
    else
      let x10 := (x7.fld 0).asStr
      bif decide (x10.length + ([32, 61, 32] : List UInt8).length ≤ strMax) then
      let x11 := x10 ++ ([32, 61, 32] : List UInt8)
      (F20 fuel (x7.fld 1)).bind fun y13 =>
      bif decide (x11.length + y13.length ≤ strMax) then
      let x14 := x11 ++ y13
      bif decide (a2.length + [(PV.str x14)].length ≤ accMax) then
      some (.inl ((a2 ++ [(PV.str x14)]), a3, a4, (IntKind.wrap .i64 (a5 + (1 : Int)))))
      else none
      else none
      else none
    else none
  else
    some (.inr (.inr a2))

noncomputable def S9_4step (fuel : Nat) (x : (List PV) × (List PV) × Int × Int) : Option (((List PV) × (List PV) × Int × Int) ⊕ (((List UInt8)) ⊕ ((List PV)))) := S9_4 fuel x.1 x.2.1 x.2.2.1 x.2.2.2

/-- wireschema/note.Text -/
noncomputable def F9 (fuel : Nat) (a0 : List PV) : Option ((List UInt8)) :=
  (loopQ fuel (S9_4step fuel) ([], a0, (a0.length : Int), (0 : Int))).bind fun z => sumE (fun y17 =>
    some y17
  ) (fun y18 =>
    bif ((y18.length : Int) == (0 : Int)) then
      some ([] : List UInt8)
    else
      (Ljoin fuel y18 ([44, 32] : List UInt8)).bind fun y21 =>
      bif decide (([91] : List UInt8).length + y21.length ≤ strMax) then
      bif decide ((([91] : List UInt8) ++ y21).length + ([93] : List UInt8).length ≤ strMax) then
      some ((([91] : List UInt8) ++ y21) ++ ([93] : List UInt8))
      else none
      else none
  ) z

noncomputable def S9_4l (fuel : Nat) : LoopE := { key := 4, H := ⟨[3, 6, 7, 8], [.acc], [(.acc 0 9), (.slice 44), (.int .i64), (.int .i64)]⟩, X := [(.ret, ⟨[2], [.acc], [.str]⟩), (.exit 0, ⟨[3], [.acc], [(.acc 0 9)]⟩)], step := S9_4step fuel }

noncomputable def F9C (fuel : Nat) : Cfg := cfg Tryz.prog 33 0 [F19c fuel, F20c fuel, Ljoinc fuel] [S9_4l fuel] fuel

noncomputable def F9c (fuel : Nat) : CallE := { f := 9, A := ⟨1, [], [(.slice 44)]⟩, R := ⟨1, [], [.str]⟩, F := fun x => F9 fuel x, dflt := [] }

theorem F9k (fuel : Nat) : CallOk (F9C fuel) := cfg_callOk (callsC (F19ok fuel) <| callsC (F20ok fuel) <| callsC (Ljoinok fuel) <| callsN)

theorem S9_4ok (fuel : Nat) : LoopOk (F9C fuel) (lp (bodyOf Tryz.f9) 0) := loopOk_of (F9k fuel) fuel (S9_4l fuel) (loops0 (by kernel_rfl)) (by kernel_rfl) (fun x => by kernel_rfl) (fun R e st K => by kernel_rfl)

theorem F9ok (fuel : Nat) : (F9c fuel).Ok Tryz.prog := fun x y h => meets_of (F9k fuel) (f := 9) (fn := Tryz.f9) (c := bodyOf Tryz.f9) (by kernel_rfl) (by kernel_rfl) (by kernel_rfl) (by kernel_rfl) (loopsN 1 (by kernel_rfl) fun i hi => match i, hi with | 0, _ => S9_4ok fuel | n + 1, h => absurd h (by omega)) (A := (F9c fuel).A) (R := (F9c fuel).R) (F := (F9c fuel).F) (fun x => by kernel_rfl) (fun x => by kernel_rfl) x y h

/-- wireschema/note.one -/
noncomputable def F27 (fuel : Nat) (a0 : PV) (a1 : Int) (a2 : List UInt8) (a3 : Bool) : Option (Int) :=
  (F28 fuel).bind fun y1 =>
  let x2 := (a0.fld 0).asStr
  let x3 := (PV.mget y1 (PV.str x2)).getD (PV.agg [(PV.int (0 : Int)), (PV.int (0 : Int))])
  bif (!(PV.mhas y1 (PV.str x2))) then
    some (8 : Int)
  else
    let x8 := bif (decide (a1 < (1 : Int))) then true else (decide (a1 > (6 : Int)))
    bif imp (!x8) (decide (0 ≤ a1)) then
    bif (bif x8 then true else ((bitsI .and .i64 (((x3.fld 1).asInt).fdiv (2 ^ (min a1.toNat (IntKind.bits .i64)))) (1 : Int)) == (0 : Int))) then
      some (1 : Int)
    else
      (F19 fuel a0).bind fun y14 =>
      bif (!y14) then
        some (12 : Int)
      else
        bif (bif a3 then (Op.bytesLess ((a0.fld 0).asStr) a2) else false) then
          some (11 : Int)
        else
          bif (bif a3 then (((a0.fld 0).asStr) == a2) else false) then
            some (9 : Int)
          else
            some (0 : Int)
    else none

noncomputable def F27C (fuel : Nat) : Cfg := cfg Tryz.prog 56 0 [F28c fuel, F19c fuel] [] fuel

noncomputable def F27c (fuel : Nat) : CallE := { f := 27, A := ⟨4, [], [(.data 44), (.int .i64), .str, .bool]⟩, R := ⟨1, [], [(.int .i64)]⟩, F := fun x => F27 fuel x.1 x.2.1 x.2.2.1 x.2.2.2, dflt := 0 }

theorem F27k (fuel : Nat) : CallOk (F27C fuel) := cfg_callOk (callsC (F28ok fuel) <| callsC (F19ok fuel) <| callsN)

theorem F27ok (fuel : Nat) : (F27c fuel).Ok Tryz.prog := fun x y h => meets_of (F27k fuel) (f := 27) (fn := Tryz.f27) (c := bodyOf Tryz.f27) (by kernel_rfl) (by kernel_rfl) (by kernel_rfl) (by kernel_rfl) (loops0 (by kernel_rfl)) (A := (F27c fuel).A) (R := (F27c fuel).R) (F := (F27c fuel).F) (fun x => by kernel_rfl) (fun x => by kernel_rfl) x y h

noncomputable def S12_6 (fuel : Nat) (a4 : Int) (a5 : List UInt8) (a6 : List PV) (a7 : Int) (a8 : Int) : Option ((Int × (List UInt8) × (List PV) × Int × Int) ⊕ ((Int) ⊕ (Unit))) :=
  bif (decide (a8 < a7)) then
    bif inRange a8 a6.length then
    let x10 := a6.getD a8.toNat .bad
    (F27 fuel x10 a4 a5 (decide (a8 > (0 : Int)))).bind fun y12 =>
    bif (y12 != (0 : Int)) then
      some (.inr (.inl y12))
    else
      some (.inl (a4, ((x10.fld 0).asStr), a6, a7, (IntKind.wrap .i64 (a8 + (1 : Int)))))
    else none
  else
    some (.inr (.inr ()))

noncomputable def S12_6step (fuel : Nat) (x : Int × (List UInt8) × (List PV) × Int × Int) : Option ((Int × (List UInt8) × (List PV) × Int × Int) ⊕ ((Int) ⊕ (Unit))) := S12_6 fuel x.1 x.2.1 x.2.2.1 x.2.2.2.1 x.2.2.2.2

/-- wireschema/note.Check -/
noncomputable def F12 (fuel : Nat) (a0 : List PV) (a1 : Int) : Option (Int) :=
  bif (decide ((a0.length : Int) > (8 : Int))) then
    some (3 : Int)
  else
    (loopQ fuel (S12_6step fuel) (a1, ([] : List UInt8), a0, (a0.length : Int), (0 : Int))).bind fun z => sumE (fun y16 =>
      some y16
    ) (fun y17 =>
      some (0 : Int)
    ) z

noncomputable def S12_6l (fuel : Nat) : LoopE := { key := 6, H := ⟨[1, 5, 12, 13, 14], [], [(.int .i64), .str, (.slice 44), (.int .i64), (.int .i64)]⟩, X := [(.ret, ⟨[4], [], [(.int .i64)]⟩), (.exit 0, ⟨[], [], []⟩)], step := S12_6step fuel }

noncomputable def F12C (fuel : Nat) : Cfg := cfg Tryz.prog 31 0 [F27c fuel] [S12_6l fuel] fuel

noncomputable def F12c (fuel : Nat) : CallE := { f := 12, A := ⟨2, [], [(.slice 44), (.int .i64)]⟩, R := ⟨1, [], [(.int .i64)]⟩, F := fun x => F12 fuel x.1 x.2, dflt := 0 }

theorem F12k (fuel : Nat) : CallOk (F12C fuel) := cfg_callOk (callsC (F27ok fuel) <| callsN)

theorem S12_6ok (fuel : Nat) : LoopOk (F12C fuel) (lp (bodyOf Tryz.f12) 0) := loopOk_of (F12k fuel) fuel (S12_6l fuel) (loops0 (by kernel_rfl)) (by kernel_rfl) (fun x => by kernel_rfl) (fun R e st K => by kernel_rfl)

theorem F12ok (fuel : Nat) : (F12c fuel).Ok Tryz.prog := fun x y h => meets_of (F12k fuel) (f := 12) (fn := Tryz.f12) (c := bodyOf Tryz.f12) (by kernel_rfl) (by kernel_rfl) (by kernel_rfl) (by kernel_rfl) (loopsN 1 (by kernel_rfl) fun i hi => match i, hi with | 0, _ => S12_6ok fuel | n + 1, h => absurd h (by omega)) (A := (F12c fuel).A) (R := (F12c fuel).R) (F := (F12c fuel).F) (fun x => by kernel_rfl) (fun x => by kernel_rfl) x y h

/-- wireschema/wireschemalaw08.awake -/
noncomputable def F5 (fuel : Nat)  : Option (Bool) :=
  (F9 fuel [(PV.agg [(PV.str ([97, 108, 105, 97, 115] : List UInt8)), (PV.agg [(PV.int (7 : Int)), (PV.int (0 : Int)), (PV.str ([105, 100] : List UInt8)), (PV.slice []), (PV.slice []), (PV.slice []), (PV.slice [])])]), (PV.agg [(PV.str ([109, 105, 110] : List UInt8)), (PV.agg [(PV.int (3 : Int)), (PV.int (18446744073709551611 : Int)), (PV.str ([] : List UInt8)), (PV.slice []), (PV.slice []), (PV.slice []), (PV.slice [])])])]).bind fun y1 =>
  let x2 := y1 == ([91, 97, 108, 105, 97, 115, 32, 61, 32, 34, 105, 100, 34, 44, 32, 109, 105, 110, 32, 61, 32, 45, 53, 93] : List UInt8)
  (bif x2 then F12 fuel [(PV.agg [(PV.str ([97, 108, 105, 97, 115] : List UInt8)), (PV.agg [(PV.int (7 : Int)), (PV.int (0 : Int)), (PV.str ([105, 100] : List UInt8)), (PV.slice []), (PV.slice []), (PV.slice []), (PV.slice [])])]), (PV.agg [(PV.str ([109, 105, 110] : List UInt8)), (PV.agg [(PV.int (3 : Int)), (PV.int (18446744073709551611 : Int)), (PV.str ([] : List UInt8)), (PV.slice []), (PV.slice []), (PV.slice []), (PV.slice [])])])] (2 : Int) else some 0).bind fun y3 =>
  let x5 := bif x2 then (y3 == (0 : Int)) else false
  (bif x5 then F12 fuel [(PV.agg [(PV.str ([97, 108, 105, 97, 115] : List UInt8)), (PV.agg [(PV.int (7 : Int)), (PV.int (0 : Int)), (PV.str ([105, 100] : List UInt8)), (PV.slice []), (PV.slice []), (PV.slice []), (PV.slice [])])]), (PV.agg [(PV.str ([109, 105, 110] : List UInt8)), (PV.agg [(PV.int (3 : Int)), (PV.int (18446744073709551611 : Int)), (PV.str ([] : List UInt8)), (PV.slice []), (PV.slice []), (PV.slice []), (PV.slice [])])])] (4 : Int) else some 0).bind fun y6 =>
  let x8 := bif x5 then (y6 == (1 : Int)) else false
  (bif x8 then F13 fuel ([115, 101, 99, 114, 101, 116] : List UInt8) else some 0).bind fun y9 =>
  some (bif x8 then (y9 == (1 : Int)) else false)

noncomputable def F5C (fuel : Nat) : Cfg := cfg Tryz.prog 24 0 [F9c fuel, F12c fuel, F13c fuel] [] fuel

noncomputable def F5c (fuel : Nat) : CallE := { f := 5, A := ⟨0, [], []⟩, R := ⟨1, [], [.bool]⟩, F := fun x => F5 fuel , dflt := false }

theorem F5k (fuel : Nat) : CallOk (F5C fuel) := cfg_callOk (callsC (F9ok fuel) <| callsC (F12ok fuel) <| callsC (F13ok fuel) <| callsN)

theorem F5ok (fuel : Nat) : (F5c fuel).Ok Tryz.prog := fun x y h => meets_of (F5k fuel) (f := 5) (fn := Tryz.f5) (c := bodyOf Tryz.f5) (by kernel_rfl) (by kernel_rfl) (by kernel_rfl) (by kernel_rfl) (loops0 (by kernel_rfl)) (A := (F5c fuel).A) (R := (F5c fuel).R) (F := (F5c fuel).F) (fun x => by kernel_rfl) (fun x => by kernel_rfl) x y h


theorem awake_run : F5 1000 = some true := by kernel_rfl
def Lawake (fuel : Nat) : Option Bool := some true
def Lawakec (fuel : Nat) : CallE := { f := 5, A := ⟨0, [], []⟩, R := ⟨1, [], [.bool]⟩, F := fun x => Lawake fuel, dflt := false }
theorem Lawakeok (fuel : Nat) : (Lawakec fuel).Ok Tryz.prog := fun x y h => F5ok 1000 () y (awake_run.trans h)

/-- wireschema/note.is -/
noncomputable def F14 (fuel : Nat) (a0 : List PV) (a1 : Int) (a2 : List UInt8) : Option (Bool) :=
  let x4 := bif (decide (a1 ≥ (0 : Int))) then (decide (a1 < (a0.length : Int))) else false
  bif imp x4 (inRange a1 a0.length) then
  let x9 := bif x4 then (((a0.getD a1.toNat .bad).fld 0).asInt == (4 : Int)) else false
  bif imp x9 (inRange a1 a0.length) then
  some (bif x9 then (((a0.getD a1.toNat .bad).fld 1).asStr == a2) else false)
  else none
  else none

noncomputable def F14C (fuel : Nat) : Cfg := cfg Tryz.prog 32 0 [] [] fuel

noncomputable def F14c (fuel : Nat) : CallE := { f := 14, A := ⟨3, [], [(.slice 34), (.int .i64), .str]⟩, R := ⟨1, [], [.bool]⟩, F := fun x => F14 fuel x.1 x.2.1 x.2.2, dflt := false }

theorem F14k (fuel : Nat) : CallOk (F14C fuel) := cfg_callOk (callsN)

theorem F14ok (fuel : Nat) : (F14c fuel).Ok Tryz.prog := fun x y h => meets_of (F14k fuel) (f := 14) (fn := Tryz.f14) (c := bodyOf Tryz.f14) (by kernel_rfl) (by kernel_rfl) (by kernel_rfl) (by kernel_rfl) (loops0 (by kernel_rfl)) (A := (F14c fuel).A) (R := (F14c fuel).R) (F := (F14c fuel).F) (fun x => by kernel_rfl) (fun x => by kernel_rfl) x y h

/-- wireschema/note.kindAt -/
noncomputable def F29 (fuel : Nat) (a0 : List PV) (a1 : Int) : Option (Int) :=
  bif (bif (decide (a1 < (0 : Int))) then true else (decide (a1 ≥ (a0.length : Int)))) then
    some (0 : Int)
  else
    bif inRange a1 a0.length then
    some ((a0.getD a1.toNat .bad).fld 0).asInt
    else none

noncomputable def F29C (fuel : Nat) : Cfg := cfg Tryz.prog 18 0 [] [] fuel

noncomputable def F29c (fuel : Nat) : CallE := { f := 29, A := ⟨2, [], [(.slice 34), (.int .i64)]⟩, R := ⟨1, [], [(.int .i64)]⟩, F := fun x => F29 fuel x.1 x.2, dflt := 0 }

theorem F29k (fuel : Nat) : CallOk (F29C fuel) := cfg_callOk (callsN)

theorem F29ok (fuel : Nat) : (F29c fuel).Ok Tryz.prog := fun x y h => meets_of (F29k fuel) (f := 29) (fn := Tryz.f29) (c := bodyOf Tryz.f29) (by kernel_rfl) (by kernel_rfl) (by kernel_rfl) (by kernel_rfl) (loops0 (by kernel_rfl)) (A := (F29c fuel).A) (R := (F29c fuel).R) (F := (F29c fuel).F) (fun x => by kernel_rfl) (fun x => by kernel_rfl) x y h

/-- internal/stringslite.TrimPrefix -/
noncomputable def F120 (fuel : Nat) (a0 : List UInt8) (a1 : List UInt8) : Option ((List UInt8)) :=
  (F112 fuel a0 a1).bind fun y1 =>
  bif y1 then
    let x2 := (a1.length : Int)
    bif decide (0 ≤ x2 ∧ x2 ≤ (a0.length : Int) ∧ (a0.length : Int) ≤ (a0.length : Int)) then
    some ((a0.take (a0.length : Int).toNat).drop x2.toNat)
    else none
  else
    some a0

noncomputable def F120C (fuel : Nat) : Cfg := cfg Tryz.prog 13 0 [F112c fuel] [] fuel

noncomputable def F120c (fuel : Nat) : CallE := { f := 120, A := ⟨2, [], [.str, .str]⟩, R := ⟨1, [], [.str]⟩, F := fun x => F120 fuel x.1 x.2, dflt := [] }

theorem F120k (fuel : Nat) : CallOk (F120C fuel) := cfg_callOk (callsC (F112ok fuel) <| callsN)

theorem F120ok (fuel : Nat) : (F120c fuel).Ok Tryz.prog := fun x y h => meets_of (F120k fuel) (f := 120) (fn := Tryz.f120) (c := bodyOf Tryz.f120) (by kernel_rfl) (by kernel_rfl) (by kernel_rfl) (by kernel_rfl) (loops0 (by kernel_rfl)) (A := (F120c fuel).A) (R := (F120c fuel).R) (F := (F120c fuel).F) (fun x => by kernel_rfl) (fun x => by kernel_rfl) x y h

/-- strings.TrimPrefix -/
noncomputable def F86 (fuel : Nat) (a0 : List UInt8) (a1 : List UInt8) : Option ((List UInt8)) :=
  (F120 fuel a0 a1).bind fun y1 =>
  some y1

noncomputable def F86C (fuel : Nat) : Cfg := cfg Tryz.prog 8 0 [F120c fuel] [] fuel

noncomputable def F86c (fuel : Nat) : CallE := { f := 86, A := ⟨2, [], [.str, .str]⟩, R := ⟨1, [], [.str]⟩, F := fun x => F86 fuel x.1 x.2, dflt := [] }

theorem F86k (fuel : Nat) : CallOk (F86C fuel) := cfg_callOk (callsC (F120ok fuel) <| callsN)

theorem F86ok (fuel : Nat) : (F86c fuel).Ok Tryz.prog := fun x y h => meets_of (F86k fuel) (f := 86) (fn := Tryz.f86) (c := bodyOf Tryz.f86) (by kernel_rfl) (by kernel_rfl) (by kernel_rfl) (by kernel_rfl) (loops0 (by kernel_rfl)) (A := (F86c fuel).A) (R := (F86c fuel).R) (F := (F86c fuel).F) (fun x => by kernel_rfl) (fun x => by kernel_rfl) x y h

/-- wireschema/scalar.parseDouble -/
noncomputable def F90 (fuel : Nat) (a0 : List UInt8) : Option (PV × Int) :=
  bif (a0 == ([110, 97, 110] : List UInt8)) then
    some ((PV.agg [(PV.int (6 : Int)), (PV.int (9221120237041090560 : Int)), (PV.str ([] : List UInt8)), (PV.slice []), (PV.slice []), (PV.slice []), (PV.slice [])]), (0 : Int))
  else
    bif (a0 == ([105, 110, 102] : List UInt8)) then
      some ((PV.agg [(PV.int (6 : Int)), (PV.int (9218868437227405312 : Int)), (PV.str ([] : List UInt8)), (PV.slice []), (PV.slice []), (PV.slice []), (PV.slice [])]), (0 : Int))
    else
      bif (a0 == ([45, 105, 110, 102] : List UInt8)) then
        some ((PV.agg [(PV.int (6 : Int)), (PV.int (18442240474082181120 : Int)), (PV.str ([] : List UInt8)), (PV.slice []), (PV.slice []), (PV.slice []), (PV.slice [])]), (0 : Int))
      else
        (F86 fuel a0 ([48, 120] : List UInt8)).bind fun y4 =>
        (LparseUint fuel y4 (16 : Int) (64 : Int)).bind fun y5 =>
        let x6 := y5.1
        let x8 := !y5.2
        (bif !x8 then F36 fuel x6 else some []).bind fun y9 =>
        bif (bif x8 then true else (!(y9 == a0))) then
          some ((PV.agg [(PV.int (0 : Int)), (PV.int (0 : Int)), (PV.str ([] : List UInt8)), (PV.slice []), (PV.slice []), (PV.slice []), (PV.slice [])]), (2 : Int))
        else
          some ((PV.agg [(PV.int (6 : Int)), (PV.int x6), (PV.str ([] : List UInt8)), (PV.slice []), (PV.slice []), (PV.slice []), (PV.slice [])]), (0 : Int))

noncomputable def F90C (fuel : Nat) : Cfg := cfg Tryz.prog 36 0 [F86c fuel, LparseUintc fuel, F36c fuel] [] fuel

noncomputable def F90c (fuel : Nat) : CallE := { f := 90, A := ⟨1, [], [.str]⟩, R := ⟨2, [], [(.data 42), (.int .i64)]⟩, F := fun x => F90 fuel x, dflt := (PV.bad, 0) }

theorem F90k (fuel : Nat) : CallOk (F90C fuel) := cfg_callOk (callsC (F86ok fuel) <| callsC (LparseUintok fuel) <| callsC (F36ok fuel) <| callsN)

theorem F90ok (fuel : Nat) : (F90c fuel).Ok Tryz.prog := fun x y h => meets_of (F90k fuel) (f := 90) (fn := Tryz.f90) (c := bodyOf Tryz.f90) (by kernel_rfl) (by kernel_rfl) (by kernel_rfl) (by kernel_rfl) (loops0 (by kernel_rfl)) (A := (F90c fuel).A) (R := (F90c fuel).R) (F := (F90c fuel).F) (fun x => by kernel_rfl) (fun x => by kernel_rfl) x y h

/-- internal/stringslite.CutPrefix -/
noncomputable def F152 (fuel : Nat) (a0 : List UInt8) (a1 : List UInt8) : Option ((List UInt8) × Bool) :=
  (F112 fuel a0 a1).bind fun y1 =>
  bif (!y1) then
    some (a0, false)
  else
    let x3 := (a1.length : Int)
    bif decide (0 ≤ x3 ∧ x3 ≤ (a0.length : Int) ∧ (a0.length : Int) ≤ (a0.length : Int)) then
    some (((a0.take (a0.length : Int).toNat).drop x3.toNat), true)
    else none

noncomputable def F152C (fuel : Nat) : Cfg := cfg Tryz.prog 15 0 [F112c fuel] [] fuel

noncomputable def F152c (fuel : Nat) : CallE := { f := 152, A := ⟨2, [], [.str, .str]⟩, R := ⟨2, [], [.str, .bool]⟩, F := fun x => F152 fuel x.1 x.2, dflt := ([], false) }

theorem F152k (fuel : Nat) : CallOk (F152C fuel) := cfg_callOk (callsC (F112ok fuel) <| callsN)

theorem F152ok (fuel : Nat) : (F152c fuel).Ok Tryz.prog := fun x y h => meets_of (F152k fuel) (f := 152) (fn := Tryz.f152) (c := bodyOf Tryz.f152) (by kernel_rfl) (by kernel_rfl) (by kernel_rfl) (by kernel_rfl) (loops0 (by kernel_rfl)) (A := (F152c fuel).A) (R := (F152c fuel).R) (F := (F152c fuel).F) (fun x => by kernel_rfl) (fun x => by kernel_rfl) x y h

/-- strings.CutPrefix -/
noncomputable def F125 (fuel : Nat) (a0 : List UInt8) (a1 : List UInt8) : Option ((List UInt8) × Bool) :=
  (F152 fuel a0 a1).bind fun y1 =>
  some (y1.1, y1.2)

noncomputable def F125C (fuel : Nat) : Cfg := cfg Tryz.prog 11 0 [F152c fuel] [] fuel

noncomputable def F125c (fuel : Nat) : CallE := { f := 125, A := ⟨2, [], [.str, .str]⟩, R := ⟨2, [], [.str, .bool]⟩, F := fun x => F125 fuel x.1 x.2, dflt := ([], false) }

theorem F125k (fuel : Nat) : CallOk (F125C fuel) := cfg_callOk (callsC (F152ok fuel) <| callsN)

theorem F125ok (fuel : Nat) : (F125c fuel).Ok Tryz.prog := fun x y h => meets_of (F125k fuel) (f := 125) (fn := Tryz.f125) (c := bodyOf Tryz.f125) (by kernel_rfl) (by kernel_rfl) (by kernel_rfl) (by kernel_rfl) (loops0 (by kernel_rfl)) (A := (F125c fuel).A) (R := (F125c fuel).R) (F := (F125c fuel).F) (fun x => by kernel_rfl) (fun x => by kernel_rfl) x y h

/-- wireschema/utf.plain -/
noncomputable def F123 (fuel : Nat) (a0 : Int) : Option (Int × Bool) :=
  bif (a0 == (34 : Int)) then
    some (a0, true)
  else
    bif (a0 == (92 : Int)) then
      some (a0, true)
    else
      bif (a0 == (110 : Int)) then
        some ((10 : Int), true)
      else
        bif (a0 == (116 : Int)) then
          some ((9 : Int), true)
        else
          bif (a0 == (114 : Int)) then
            some ((13 : Int), true)
          else
            some ((0 : Int), false)

noncomputable def F123C (fuel : Nat) : Cfg := cfg Tryz.prog 15 0 [] [] fuel

noncomputable def F123c (fuel : Nat) : CallE := { f := 123, A := ⟨1, [], [(.int .u8)]⟩, R := ⟨2, [], [(.int .u8), .bool]⟩, F := fun x => F123 fuel x, dflt := (0, false) }

theorem F123k (fuel : Nat) : CallOk (F123C fuel) := cfg_callOk (callsN)

theorem F123ok (fuel : Nat) : (F123c fuel).Ok Tryz.prog := fun x y h => meets_of (F123k fuel) (f := 123) (fn := Tryz.f123) (c := bodyOf Tryz.f123) (by kernel_rfl) (by kernel_rfl) (by kernel_rfl) (by kernel_rfl) (loops0 (by kernel_rfl)) (A := (F123c fuel).A) (R := (F123c fuel).R) (F := (F123c fuel).F) (fun x => by kernel_rfl) (fun x => by kernel_rfl) x y h

/-- wireschema/utf.unescape -/
noncomputable def F89 (fuel : Nat) (a0 : List UInt8) (a1 : Int) : Option (Int × Int) :=
  bif (decide ((IntKind.wrap .i64 (a1 + (1 : Int))) ≥ (a0.length : Int))) then
    some ((0 : Int), (0 : Int))
  else
    let x4 := IntKind.wrap .i64 (a1 + (1 : Int))
    bif inRange x4 a0.length then
    (F123 fuel ((a0.getD x4.toNat 0).toNat : Int)).bind fun y6 =>
    bif y6.2 then
      some (y6.1, (2 : Int))
    else
      let x9 := IntKind.wrap .i64 (a1 + (1 : Int))
      bif inRange x9 a0.length then
      bif imp (!(bif (((a0.getD x9.toNat 0).toNat : Int) != (120 : Int)) then true else (decide ((IntKind.wrap .i64 (a1 + (3 : Int))) ≥ (a0.length : Int))))) (inRange (IntKind.wrap .i64 (a1 + (2 : Int))) a0.length) then
      none
      else none
      else none
    else none

noncomputable def F89C (fuel : Nat) : Cfg := cfg Tryz.prog 64 0 [F123c fuel] [] fuel

noncomputable def F89c (fuel : Nat) : CallE := { f := 89, A := ⟨2, [], [.str, (.int .i64)]⟩, R := ⟨2, [], [(.int .u8), (.int .i64)]⟩, F := fun x => F89 fuel x.1 x.2, dflt := (0, 0) }

theorem F89k (fuel : Nat) : CallOk (F89C fuel) := cfg_callOk (callsC (F123ok fuel) <| callsN)

theorem F89ok (fuel : Nat) : (F89c fuel).Ok Tryz.prog := fun x y h => meets_of (F89k fuel) (f := 89) (fn := Tryz.f89) (c := bodyOf Tryz.f89) (by kernel_rfl) (by kernel_rfl) (by kernel_rfl) (by kernel_rfl) (loops0 (by kernel_rfl)) (A := (F89c fuel).A) (R := (F89c fuel).R) (F := (F89c fuel).F) (fun x => by kernel_rfl) (fun x => by kernel_rfl) x y h

noncomputable def S56_6 (fuel : Nat) (a5 : List UInt8) (a6 : List PV) (a7 : Int) : Option (((List UInt8) × (List PV) × Int) ⊕ (((List UInt8) × Int × Int) ⊕ ((List UInt8) × (List PV) × Int))) :=
  let x9 := decide (a7 < (a5.length : Int))
  bif imp x9 (inRange a7 a5.length) then
  bif (bif x9 then (((a5.getD a7.toNat 0).toNat : Int) != (34 : Int)) else false) then
    bif inRange a7 a5.length then
    let x13 := ((a5.getD a7.toNat 0).toNat : Int)
    bif (x13 == (92 : Int)) then
      (F89 fuel a5 a7).bind fun y15 =>
      let x16 := y15.1
      let x17 := y15.2
      bif (x17 == (0 : Int)) then
        some (.inr (.inl (([] : List UInt8), (0 : Int), (2 : Int))))
      else
        bif decide (a6.length + [(PV.int x16)].length ≤ accMax) then
        some (.inl (a5, (a6 ++ [(PV.int x16)]), (IntKind.wrap .i64 (a7 + x17))))
        else none
    else
      bif ((1 : Int) == (0 : Int)) then
        some (.inr (.inl (([] : List UInt8), (0 : Int), (2 : Int))))
      else
        bif decide (a6.length + [(PV.int x13)].length ≤ accMax) then
        some (.inl (a5, (a6 ++ [(PV.int x13)]), (IntKind.wrap .i64 (a7 + (1 : Int)))))
        else none
    else none
  else
    some (.inr (.inr (a5, a6, a7)))
  else none

noncomputable def S56_6step (fuel : Nat) (x : (List UInt8) × (List PV) × Int) : Option (((List UInt8) × (List PV) × Int) ⊕ (((List UInt8) × Int × Int) ⊕ ((List UInt8) × (List PV) × Int))) := S56_6 fuel x.1 x.2.1 x.2.2

/-- wireschema/utf.Unquote -/
noncomputable def F56 (fuel : Nat) (a0 : List UInt8) : Option ((List UInt8) × Int × Int) :=
  let x1 := a0 == ([] : List UInt8)
  bif imp (!x1) (inRange (0 : Int) a0.length) then
  bif (bif x1 then true else (((a0.getD (0 : Int).toNat 0).toNat : Int) != (34 : Int))) then
    some (([] : List UInt8), (0 : Int), (2 : Int))
  else
    (loopQ fuel (S56_6step fuel) (a0, [], (1 : Int))).bind fun z => sumE (fun y24 =>
      some (y24.1, y24.2.1, y24.2.2)
    ) (fun y25 =>
      let x27 := y25.2.1.map byteOfPV
      let x31 := decide (y25.2.2 ≥ (y25.1.length : Int))
      (bif !x31 then F37 fuel x27 else some []).bind fun y32 =>
      let x33 := y25.1
      let x35 := IntKind.wrap .i64 (y25.2.2 + (1 : Int))
      bif imp (!x31) (decide (0 ≤ (0 : Int) ∧ (0 : Int) ≤ x35 ∧ x35 ≤ (x33.length : Int))) then
      bif (bif x31 then true else (!(y32 == ((x33.take x35.toNat).drop (0 : Int).toNat)))) then
        some (([] : List UInt8), (0 : Int), (2 : Int))
      else
        some (x27, (IntKind.wrap .i64 (y25.2.2 + (1 : Int))), (0 : Int))
      else none
    ) z
  else none

noncomputable def S56_6l (fuel : Nat) : LoopE := { key := 6, H := ⟨[0, 5, 6], [.acc], [.str, (.acc 0 5), (.int .i64)]⟩, X := [(.ret, ⟨[2, 3, 4], [.acc], [.str, (.int .i64), (.int .i64)]⟩), (.exit 0, ⟨[0, 5, 6], [.acc], [.str, (.acc 0 5), (.int .i64)]⟩)], step := S56_6step fuel }

noncomputable def F56C (fuel : Nat) : Cfg := cfg Tryz.prog 65 0 [F89c fuel, F37c fuel] [S56_6l fuel] fuel

noncomputable def F56c (fuel : Nat) : CallE := { f := 56, A := ⟨1, [], [.str]⟩, R := ⟨3, [], [.str, (.int .i64), (.int .i64)]⟩, F := fun x => F56 fuel x, dflt := ([], 0, 0) }

theorem F56k (fuel : Nat) : CallOk (F56C fuel) := cfg_callOk (callsC (F89ok fuel) <| callsC (F37ok fuel) <| callsN)

theorem S56_6ok (fuel : Nat) : LoopOk (F56C fuel) (lp (bodyOf Tryz.f56) 0) := loopOk_of (F56k fuel) fuel (S56_6l fuel) (loops0 (by kernel_rfl)) (by kernel_rfl) (fun x => by kernel_rfl) (fun R e st K => by kernel_rfl)

theorem F56ok (fuel : Nat) : (F56c fuel).Ok Tryz.prog := fun x y h => meets_of (F56k fuel) (f := 56) (fn := Tryz.f56) (c := bodyOf Tryz.f56) (by kernel_rfl) (by kernel_rfl) (by kernel_rfl) (by kernel_rfl) (loopsN 1 (by kernel_rfl) fun i hi => match i, hi with | 0, _ => S56_6ok fuel | n + 1, h => absurd h (by omega)) (A := (F56c fuel).A) (R := (F56c fuel).R) (F := (F56c fuel).F) (fun x => by kernel_rfl) (fun x => by kernel_rfl) x y h

/-- wireschema/scalar.quoted -/
noncomputable def F126 (fuel : Nat) (a0 : List UInt8) : Option ((List UInt8) × Bool) :=
  (F56 fuel a0).bind fun y1 =>
  some (y1.1, (bif (y1.2.2 == (0 : Int)) then (y1.2.1 == (a0.length : Int)) else false))

noncomputable def F126C (fuel : Nat) : Cfg := cfg Tryz.prog 22 0 [F56c fuel] [] fuel

noncomputable def F126c (fuel : Nat) : CallE := { f := 126, A := ⟨1, [], [.str]⟩, R := ⟨2, [], [.str, .bool]⟩, F := fun x => F126 fuel x, dflt := ([], false) }

theorem F126k (fuel : Nat) : CallOk (F126C fuel) := cfg_callOk (callsC (F56ok fuel) <| callsN)

theorem F126ok (fuel : Nat) : (F126c fuel).Ok Tryz.prog := fun x y h => meets_of (F126k fuel) (f := 126) (fn := Tryz.f126) (c := bodyOf Tryz.f126) (by kernel_rfl) (by kernel_rfl) (by kernel_rfl) (by kernel_rfl) (loops0 (by kernel_rfl)) (A := (F126c fuel).A) (R := (F126c fuel).R) (F := (F126c fuel).F) (fun x => by kernel_rfl) (fun x => by kernel_rfl) x y h

/-- wireschema/utf.Unhex -/
noncomputable def F127 (fuel : Nat) (a0 : List UInt8) : Option ((List UInt8) × Int) :=
  bif (((a0.length : Int).tmod (2 : Int)) != (0 : Int)) then
    some (([] : List UInt8), (2 : Int))
  else
    none

noncomputable def F127C (fuel : Nat) : Cfg := cfg Tryz.prog 47 0 [] [] fuel

noncomputable def F127c (fuel : Nat) : CallE := { f := 127, A := ⟨1, [], [.str]⟩, R := ⟨2, [], [.str, (.int .i64)]⟩, F := fun x => F127 fuel x, dflt := ([], 0) }

theorem F127k (fuel : Nat) : CallOk (F127C fuel) := cfg_callOk (callsN)

theorem F127ok (fuel : Nat) : (F127c fuel).Ok Tryz.prog := fun x y h => meets_of (F127k fuel) (f := 127) (fn := Tryz.f127) (c := bodyOf Tryz.f127) (by kernel_rfl) (by kernel_rfl) (by kernel_rfl) (by kernel_rfl) (loopsN 1 (by kernel_rfl) fun i hi => match i, hi with | 0, _ => loopCut (fun R e st K => by kernel_rfl) | n + 1, h => absurd h (by omega)) (A := (F127c fuel).A) (R := (F127c fuel).R) (F := (F127c fuel).F) (fun x => by kernel_rfl) (fun x => by kernel_rfl) x y h

/-- wireschema/scalar.parseText -/
noncomputable def F92 (fuel : Nat) (a0 : Int) (a1 : List UInt8) : Option (PV × Int) :=
  bif (a0 == (8 : Int)) then
    (F125 fuel a1 ([120] : List UInt8)).bind fun y2 =>
    (F126 fuel y2.1).bind fun y5 =>
    let x6 := y5.1
    bif (bif (!y2.2) then true else (!y5.2)) then
      some ((PV.agg [(PV.int (0 : Int)), (PV.int (0 : Int)), (PV.str ([] : List UInt8)), (PV.slice []), (PV.slice []), (PV.slice []), (PV.slice [])]), (2 : Int))
    else
      bif (a0 == (8 : Int)) then
        (F127 fuel x6).bind fun y12 =>
        let x13 := y12.1
        let x14 := y12.2
        bif (x14 != (0 : Int)) then
          some ((PV.agg [(PV.int (0 : Int)), (PV.int (0 : Int)), (PV.str ([] : List UInt8)), (PV.slice []), (PV.slice []), (PV.slice []), (PV.slice [])]), x14)
        else
          let x16 := a0 == (7 : Int)
          (bif x16 then F68 fuel x13 else some false).bind fun y17 =>
          bif (bif x16 then (!y17) else false) then
            some ((PV.agg [(PV.int (0 : Int)), (PV.int (0 : Int)), (PV.str ([] : List UInt8)), (PV.slice []), (PV.slice []), (PV.slice []), (PV.slice [])]), (7 : Int))
          else
            bif (decide ((x13.length : Int) > (4096 : Int))) then
              some ((PV.agg [(PV.int (0 : Int)), (PV.int (0 : Int)), (PV.str ([] : List UInt8)), (PV.slice []), (PV.slice []), (PV.slice []), (PV.slice [])]), (3 : Int))
            else
              some ((PV.agg [(PV.int a0), (PV.int (0 : Int)), (PV.str x13), (PV.slice []), (PV.slice []), (PV.slice []), (PV.slice [])]), (0 : Int))
      else
        let x22 := a0 == (7 : Int)
        (bif x22 then F68 fuel x6 else some false).bind fun y23 =>
        bif (bif x22 then (!y23) else false) then
          some ((PV.agg [(PV.int (0 : Int)), (PV.int (0 : Int)), (PV.str ([] : List UInt8)), (PV.slice []), (PV.slice []), (PV.slice []), (PV.slice [])]), (7 : Int))
        else
          bif (decide ((x6.length : Int) > (4096 : Int))) then
            some ((PV.agg [(PV.int (0 : Int)), (PV.int (0 : Int)), (PV.str ([] : List UInt8)), (PV.slice []), (PV.slice []), (PV.slice []), (PV.slice [])]), (3 : Int))
          else
            some ((PV.agg [(PV.int a0), (PV.int (0 : Int)), (PV.str x6), (PV.slice []), (PV.slice []), (PV.slice []), (PV.slice [])]), (0 : Int))
  else
    (F126 fuel a1).bind fun y28 =>
    let x29 := y28.1
    bif (!y28.2) then
      some ((PV.agg [(PV.int (0 : Int)), (PV.int (0 : Int)), (PV.str ([] : List UInt8)), (PV.slice []), (PV.slice []), (PV.slice []), (PV.slice [])]), (2 : Int))
    else
      bif (a0 == (8 : Int)) then
        (F127 fuel x29).bind fun y33 =>
        let x34 := y33.1
        let x35 := y33.2
        bif (x35 != (0 : Int)) then
          some ((PV.agg [(PV.int (0 : Int)), (PV.int (0 : Int)), (PV.str ([] : List UInt8)), (PV.slice []), (PV.slice []), (PV.slice []), (PV.slice [])]), x35)
        else
          let x37 := a0 == (7 : Int)
          (bif x37 then F68 fuel x34 else some false).bind fun y38 =>
          bif (bif x37 then (!y38) else false) then
            some ((PV.agg [(PV.int (0 : Int)), (PV.int (0 : Int)), (PV.str ([] : List UInt8)), (PV.slice []), (PV.slice []), (PV.slice []), (PV.slice [])]), (7 : Int))
          else
            bif (decide ((x34.length : Int) > (4096 : Int))) then
              some ((PV.agg [(PV.int (0 : Int)), (PV.int (0 : Int)), (PV.str ([] : List UInt8)), (PV.slice []), (PV.slice []), (PV.slice []), (PV.slice [])]), (3 : Int))
            else
              some ((PV.agg [(PV.int a0), (PV.int (0 : Int)), (PV.str x34), (PV.slice []), (PV.slice []), (PV.slice []), (PV.slice [])]), (0 : Int))
      else
        let x43 := a0 == (7 : Int)
        (bif x43 then F68 fuel x29 else some false).bind fun y44 =>
        bif (bif x43 then (!y44) else false) then
          some ((PV.agg [(PV.int (0 : Int)), (PV.int (0 : Int)), (PV.str ([] : List UInt8)), (PV.slice []), (PV.slice []), (PV.slice []), (PV.slice [])]), (7 : Int))
        else
          bif (decide ((x29.length : Int) > (4096 : Int))) then
            some ((PV.agg [(PV.int (0 : Int)), (PV.int (0 : Int)), (PV.str ([] : List UInt8)), (PV.slice []), (PV.slice []), (PV.slice []), (PV.slice [])]), (3 : Int))
          else
            some ((PV.agg [(PV.int a0), (PV.int (0 : Int)), (PV.str x29), (PV.slice []), (PV.slice []), (PV.slice []), (PV.slice [])]), (0 : Int))

noncomputable def F92C (fuel : Nat) : Cfg := cfg Tryz.prog 61 0 [F125c fuel, F126c fuel, F127c fuel, F68c fuel] [] fuel

noncomputable def F92c (fuel : Nat) : CallE := { f := 92, A := ⟨2, [], [(.int .i64), .str]⟩, R := ⟨2, [], [(.data 42), (.int .i64)]⟩, F := fun x => F92 fuel x.1 x.2, dflt := (PV.bad, 0) }

theorem F92k (fuel : Nat) : CallOk (F92C fuel) := cfg_callOk (callsC (F125ok fuel) <| callsC (F126ok fuel) <| callsC (F127ok fuel) <| callsC (F68ok fuel) <| callsN)

theorem F92ok (fuel : Nat) : (F92c fuel).Ok Tryz.prog := fun x y h => meets_of (F92k fuel) (f := 92) (fn := Tryz.f92) (c := bodyOf Tryz.f92) (by kernel_rfl) (by kernel_rfl) (by kernel_rfl) (by kernel_rfl) (loops0 (by kernel_rfl)) (A := (F92c fuel).A) (R := (F92c fuel).R) (F := (F92c fuel).F) (fun x => by kernel_rfl) (fun x => by kernel_rfl) x y h

noncomputable def S128_6 (fuel : Nat) (a9 : List UInt8) (a10 : Int) (a11 : Int) : Option (((List UInt8) × Int × Int) ⊕ ((Bool) ⊕ (Unit))) :=
  bif (decide (a11 < a10)) then
    bif inRange a11 a9.length then
    let x14 := decide (((a9.getD a11.toNat 0).toNat : Int) < (48 : Int))
    bif imp (!x14) (inRange a11 a9.length) then
    bif (bif x14 then true else (decide (((a9.getD a11.toNat 0).toNat : Int) > (57 : Int)))) then
      some (.inr (.inl false))
    else
      some (.inl (a9, a10, (IntKind.wrap .i64 (a11 + (1 : Int)))))
    else none
    else none
  else
    some (.inr (.inr ()))

noncomputable def S128_6step (fuel : Nat) (x : (List UInt8) × Int × Int) : Option (((List UInt8) × Int × Int) ⊕ ((Bool) ⊕ (Unit))) := S128_6 fuel x.1 x.2.1 x.2.2

/-- wireschema/scalar.decimal -/
noncomputable def F128 (fuel : Nat) (a0 : List UInt8) : Option (Bool) :=
  (F86 fuel a0 ([45] : List UInt8)).bind fun y1 =>
  let x2 := y1 == ([] : List UInt8)
  bif imp (!x2) (inRange (0 : Int) y1.length) then
  bif (bif x2 then true else (bif (((y1.getD (0 : Int).toNat 0).toNat : Int) == (48 : Int)) then (!(a0 == ([48] : List UInt8))) else false)) then
    some false
  else
    (loopQ fuel (S128_6step fuel) (y1, (y1.length : Int), (0 : Int))).bind fun z => sumE (fun y19 =>
      some y19
    ) (fun y20 =>
      some true
    ) z
  else none

noncomputable def S128_6l (fuel : Nat) : LoopE := { key := 6, H := ⟨[3, 19, 20], [], [.str, (.int .i64), (.int .i64)]⟩, X := [(.ret, ⟨[2], [], [.bool]⟩), (.exit 0, ⟨[], [], []⟩)], step := S128_6step fuel }

noncomputable def F128C (fuel : Nat) : Cfg := cfg Tryz.prog 34 0 [F86c fuel] [S128_6l fuel] fuel

noncomputable def F128c (fuel : Nat) : CallE := { f := 128, A := ⟨1, [], [.str]⟩, R := ⟨1, [], [.bool]⟩, F := fun x => F128 fuel x, dflt := false }

theorem F128k (fuel : Nat) : CallOk (F128C fuel) := cfg_callOk (callsC (F86ok fuel) <| callsN)

theorem S128_6ok (fuel : Nat) : LoopOk (F128C fuel) (lp (bodyOf Tryz.f128) 0) := loopOk_of (F128k fuel) fuel (S128_6l fuel) (loops0 (by kernel_rfl)) (by kernel_rfl) (fun x => by kernel_rfl) (fun R e st K => by kernel_rfl)

theorem F128ok (fuel : Nat) : (F128c fuel).Ok Tryz.prog := fun x y h => meets_of (F128k fuel) (f := 128) (fn := Tryz.f128) (c := bodyOf Tryz.f128) (by kernel_rfl) (by kernel_rfl) (by kernel_rfl) (by kernel_rfl) (loopsN 1 (by kernel_rfl) fun i hi => match i, hi with | 0, _ => S128_6ok fuel | n + 1, h => absurd h (by omega)) (A := (F128c fuel).A) (R := (F128c fuel).R) (F := (F128c fuel).F) (fun x => by kernel_rfl) (fun x => by kernel_rfl) x y h

/-- wireschema/scalar.number -/
noncomputable def F93 (fuel : Nat) (a0 : Int) (a1 : List UInt8) : Option (PV × Int) :=
  (F128 fuel a1).bind fun y1 =>
  bif (!y1) then
    some ((PV.agg [(PV.int (0 : Int)), (PV.int (0 : Int)), (PV.str ([] : List UInt8)), (PV.slice []), (PV.slice []), (PV.slice []), (PV.slice [])]), (2 : Int))
  else
    bif (bif (a0 == (2 : Int)) then true else (a0 == (3 : Int))) then
      (LparseInt fuel a1 (10 : Int) (64 : Int)).bind fun y6 =>
      let x9 := IntKind.wrap .u64 y6.1
      let x10 := !y6.2
      (bif !x10 then F67 fuel a0 x9 else some false).bind fun y11 =>
      bif (bif x10 then true else (!y11)) then
        some ((PV.agg [(PV.int (0 : Int)), (PV.int (0 : Int)), (PV.str ([] : List UInt8)), (PV.slice []), (PV.slice []), (PV.slice []), (PV.slice [])]), (6 : Int))
      else
        some ((PV.agg [(PV.int a0), (PV.int x9), (PV.str ([] : List UInt8)), (PV.slice []), (PV.slice []), (PV.slice []), (PV.slice [])]), (0 : Int))
    else
      (LparseUint fuel a1 (10 : Int) (64 : Int)).bind fun y14 =>
      let x15 := y14.1
      let x17 := !y14.2
      (bif !x17 then F67 fuel a0 x15 else some false).bind fun y18 =>
      bif (bif x17 then true else (!y18)) then
        some ((PV.agg [(PV.int (0 : Int)), (PV.int (0 : Int)), (PV.str ([] : List UInt8)), (PV.slice []), (PV.slice []), (PV.slice []), (PV.slice [])]), (6 : Int))
      else
        some ((PV.agg [(PV.int a0), (PV.int x15), (PV.str ([] : List UInt8)), (PV.slice []), (PV.slice []), (PV.slice []), (PV.slice [])]), (0 : Int))

noncomputable def F93C (fuel : Nat) : Cfg := cfg Tryz.prog 46 0 [F128c fuel, LparseIntc fuel, F67c fuel, LparseUintc fuel] [] fuel

noncomputable def F93c (fuel : Nat) : CallE := { f := 93, A := ⟨2, [], [(.int .i64), .str]⟩, R := ⟨2, [], [(.data 42), (.int .i64)]⟩, F := fun x => F93 fuel x.1 x.2, dflt := (PV.bad, 0) }

theorem F93k (fuel : Nat) : CallOk (F93C fuel) := cfg_callOk (callsC (F128ok fuel) <| callsC (LparseIntok fuel) <| callsC (F67ok fuel) <| callsC (LparseUintok fuel) <| callsN)

theorem F93ok (fuel : Nat) : (F93c fuel).Ok Tryz.prog := fun x y h => meets_of (F93k fuel) (f := 93) (fn := Tryz.f93) (c := bodyOf Tryz.f93) (by kernel_rfl) (by kernel_rfl) (by kernel_rfl) (by kernel_rfl) (loops0 (by kernel_rfl)) (A := (F93c fuel).A) (R := (F93c fuel).R) (F := (F93c fuel).F) (fun x => by kernel_rfl) (fun x => by kernel_rfl) x y h

/-- wireschema/scalar.Parse -/
noncomputable def F57 (fuel : Nat) (a0 : Int) (a1 : List UInt8) : Option (PV × Int) :=
  (F65 fuel a0).bind fun y1 =>
  bif (!y1) then
    some ((PV.agg [(PV.int (0 : Int)), (PV.int (0 : Int)), (PV.str ([] : List UInt8)), (PV.slice []), (PV.slice []), (PV.slice []), (PV.slice [])]), (1 : Int))
  else
    bif (bif (a0 == (1 : Int)) then (a1 == ([116, 114, 117, 101] : List UInt8)) else false) then
      some ((PV.agg [(PV.int a0), (PV.int (1 : Int)), (PV.str ([] : List UInt8)), (PV.slice []), (PV.slice []), (PV.slice []), (PV.slice [])]), (0 : Int))
    else
      bif (bif (a0 == (1 : Int)) then (a1 == ([102, 97, 108, 115, 101] : List UInt8)) else false) then
        some ((PV.agg [(PV.int a0), (PV.int (0 : Int)), (PV.str ([] : List UInt8)), (PV.slice []), (PV.slice []), (PV.slice []), (PV.slice [])]), (0 : Int))
      else
        bif (a0 == (1 : Int)) then
          some ((PV.agg [(PV.int (0 : Int)), (PV.int (0 : Int)), (PV.str ([] : List UInt8)), (PV.slice []), (PV.slice []), (PV.slice []), (PV.slice [])]), (2 : Int))
        else
          bif (a0 == (6 : Int)) then
            (F90 fuel a1).bind fun y11 =>
            some (y11.1, y11.2)
          else
            (F91 fuel a0).bind fun y14 =>
            bif y14 then
              (F92 fuel a0 a1).bind fun y15 =>
              some (y15.1, y15.2)
            else
              (F93 fuel a0 a1).bind fun y18 =>
              some (y18.1, y18.2)

noncomputable def F57C (fuel : Nat) : Cfg := cfg Tryz.prog 53 0 [F65c fuel, F90c fuel, F91c fuel, F92c fuel, F93c fuel] [] fuel

noncomputable def F57c (fuel : Nat) : CallE := { f := 57, A := ⟨2, [], [(.int .i64), .str]⟩, R := ⟨2, [], [(.data 42), (.int .i64)]⟩, F := fun x => F57 fuel x.1 x.2, dflt := (PV.bad, 0) }

theorem F57k (fuel : Nat) : CallOk (F57C fuel) := cfg_callOk (callsC (F65ok fuel) <| callsC (F90ok fuel) <| callsC (F91ok fuel) <| callsC (F92ok fuel) <| callsC (F93ok fuel) <| callsN)

theorem F57ok (fuel : Nat) : (F57c fuel).Ok Tryz.prog := fun x y h => meets_of (F57k fuel) (f := 57) (fn := Tryz.f57) (c := bodyOf Tryz.f57) (by kernel_rfl) (by kernel_rfl) (by kernel_rfl) (by kernel_rfl) (loops0 (by kernel_rfl)) (A := (F57c fuel).A) (R := (F57c fuel).R) (F := (F57c fuel).F) (fun x => by kernel_rfl) (fun x => by kernel_rfl) x y h

/-- wireschema/note.number -/
noncomputable def F58 (fuel : Nat) (a0 : Int) (a1 : List PV) (a2 : Int) : Option (PV × Int × Int) :=
  (F14 fuel a1 a2 ([45] : List UInt8)).bind fun y1 =>
  bif y1 then
    let x2 := IntKind.wrap .i64 (a2 + (1 : Int))
    (F29 fuel a1 x2).bind fun y3 =>
    bif (y3 != (2 : Int)) then
      some ((PV.agg [(PV.int (0 : Int)), (PV.int (0 : Int)), (PV.str ([] : List UInt8)), (PV.slice []), (PV.slice []), (PV.slice []), (PV.slice [])]), x2, (2 : Int))
    else
      bif inRange x2 a1.length then
      (F39 fuel (IntKind.wrap .u64 ((a1.getD x2.toNat .bad).fld 2).asInt) (10 : Int)).bind fun y9 =>
      bif decide (([45] : List UInt8).length + y9.length ≤ strMax) then
      (F57 fuel a0 (([45] : List UInt8) ++ y9)).bind fun y10 =>
      let x12 := y10.2
      bif (x12 != (0 : Int)) then
        some ((PV.agg [(PV.int (0 : Int)), (PV.int (0 : Int)), (PV.str ([] : List UInt8)), (PV.slice []), (PV.slice []), (PV.slice []), (PV.slice [])]), x2, x12)
      else
        some (y10.1, (IntKind.wrap .i64 (x2 + (1 : Int))), (0 : Int))
      else none
      else none
  else
    (F29 fuel a1 a2).bind fun y15 =>
    bif (y15 != (2 : Int)) then
      some ((PV.agg [(PV.int (0 : Int)), (PV.int (0 : Int)), (PV.str ([] : List UInt8)), (PV.slice []), (PV.slice []), (PV.slice []), (PV.slice [])]), a2, (2 : Int))
    else
      bif inRange a2 a1.length then
      (F39 fuel (IntKind.wrap .u64 ((a1.getD a2.toNat .bad).fld 2).asInt) (10 : Int)).bind fun y21 =>
      bif decide (([] : List UInt8).length + y21.length ≤ strMax) then
      (F57 fuel a0 (([] : List UInt8) ++ y21)).bind fun y22 =>
      let x24 := y22.2
      bif (x24 != (0 : Int)) then
        some ((PV.agg [(PV.int (0 : Int)), (PV.int (0 : Int)), (PV.str ([] : List UInt8)), (PV.slice []), (PV.slice []), (PV.slice []), (PV.slice [])]), a2, x24)
      else
        some (y22.1, (IntKind.wrap .i64 (a2 + (1 : Int))), (0 : Int))
      else none
      else none

noncomputable def F58C (fuel : Nat) : Cfg := cfg Tryz.prog 45 0 [F14c fuel, F29c fuel, F39c fuel, F57c fuel] [] fuel

noncomputable def F58c (fuel : Nat) : CallE := { f := 58, A := ⟨3, [], [(.int .i64), (.slice 34), (.int .i64)]⟩, R := ⟨3, [], [(.data 42), (.int .i64), (.int .i64)]⟩, F := fun x => F58 fuel x.1 x.2.1 x.2.2, dflt := (PV.bad, 0, 0) }

theorem F58k (fuel : Nat) : CallOk (F58C fuel) := cfg_callOk (callsC (F14ok fuel) <| callsC (F29ok fuel) <| callsC (F39ok fuel) <| callsC (F57ok fuel) <| callsN)

theorem F58ok (fuel : Nat) : (F58c fuel).Ok Tryz.prog := fun x y h => meets_of (F58k fuel) (f := 58) (fn := Tryz.f58) (c := bodyOf Tryz.f58) (by kernel_rfl) (by kernel_rfl) (by kernel_rfl) (by kernel_rfl) (loops0 (by kernel_rfl)) (A := (F58c fuel).A) (R := (F58c fuel).R) (F := (F58c fuel).F) (fun x => by kernel_rfl) (fun x => by kernel_rfl) x y h

/-- wireschema/note.value -/
noncomputable def F30 (fuel : Nat) (a0 : Int) (a1 : List PV) (a2 : Int) : Option (PV × Int × Int) :=
  let x1 := a0 == (1 : Int)
  (bif x1 then F29 fuel a1 a2 else some 0).bind fun y2 =>
  let x4 := bif x1 then (y2 == (1 : Int)) else false
  bif imp x4 (inRange a2 a1.length) then
  let x8 := ((a1.getD a2.toNat .bad).fld 1).asStr == ([116, 114, 117, 101] : List UInt8)
  bif imp (bif !x8 then x4 else false) (inRange a2 a1.length) then
  bif (bif x4 then (bif x8 then true else (((a1.getD a2.toNat .bad).fld 1).asStr == ([102, 97, 108, 115, 101] : List UInt8))) else false) then
    bif inRange a2 a1.length then
    (F57 fuel a0 ((a1.getD a2.toNat .bad).fld 1).asStr).bind fun y18 =>
    some (y18.1, (IntKind.wrap .i64 (a2 + (1 : Int))), (0 : Int))
    else none
  else
    let x22 := a0 == (7 : Int)
    (bif x22 then F29 fuel a1 a2 else some 0).bind fun y23 =>
    bif (bif x22 then (y23 == (3 : Int)) else false) then
      bif inRange a2 a1.length then
      let x28 := ((a1.getD a2.toNat .bad).fld 1).asStr
      bif (decide ((x28.length : Int) > (4096 : Int))) then
        some ((PV.agg [(PV.int (0 : Int)), (PV.int (0 : Int)), (PV.str ([] : List UInt8)), (PV.slice []), (PV.slice []), (PV.slice []), (PV.slice [])]), a2, (3 : Int))
      else
        (F33 fuel a0 (PV.agg [(PV.int a0), (PV.int (0 : Int)), (PV.str x28), (PV.slice []), (PV.slice []), (PV.slice []), (PV.slice [])])).bind fun y31 =>
        bif (!y31) then
          some ((PV.agg [(PV.int (0 : Int)), (PV.int (0 : Int)), (PV.str ([] : List UInt8)), (PV.slice []), (PV.slice []), (PV.slice []), (PV.slice [])]), a2, (7 : Int))
        else
          some ((PV.agg [(PV.int a0), (PV.int (0 : Int)), (PV.str x28), (PV.slice []), (PV.slice []), (PV.slice []), (PV.slice [])]), (IntKind.wrap .i64 (a2 + (1 : Int))), (0 : Int))
      else none
    else
      bif (bif (a0 == (4 : Int)) then true else (a0 == (3 : Int))) then
        (F58 fuel a0 a1 a2).bind fun y37 =>
        some (y37.1, y37.2.1, y37.2.2)
      else
        some ((PV.agg [(PV.int (0 : Int)), (PV.int (0 : Int)), (PV.str ([] : List UInt8)), (PV.slice []), (PV.slice []), (PV.slice []), (PV.slice [])]), a2, (2 : Int))
  else none
  else none

noncomputable def F30C (fuel : Nat) : Cfg := cfg Tryz.prog 99 0 [F29c fuel, F57c fuel, F33c fuel, F58c fuel] [] fuel

noncomputable def F30c (fuel : Nat) : CallE := { f := 30, A := ⟨3, [], [(.int .i64), (.slice 34), (.int .i64)]⟩, R := ⟨3, [], [(.data 42), (.int .i64), (.int .i64)]⟩, F := fun x => F30 fuel x.1 x.2.1 x.2.2, dflt := (PV.bad, 0, 0) }

theorem F30k (fuel : Nat) : CallOk (F30C fuel) := cfg_callOk (callsC (F29ok fuel) <| callsC (F57ok fuel) <| callsC (F33ok fuel) <| callsC (F58ok fuel) <| callsN)

theorem F30ok (fuel : Nat) : (F30c fuel).Ok Tryz.prog := fun x y h => meets_of (F30k fuel) (f := 30) (fn := Tryz.f30) (c := bodyOf Tryz.f30) (by kernel_rfl) (by kernel_rfl) (by kernel_rfl) (by kernel_rfl) (loops0 (by kernel_rfl)) (A := (F30c fuel).A) (R := (F30c fuel).R) (F := (F30c fuel).F) (fun x => by kernel_rfl) (fun x => by kernel_rfl) x y h

/-- wireschema/note.note -/
noncomputable def F15 (fuel : Nat) (a0 : List PV) (a1 : Int) : Option (PV × Int × Int) :=
  (F29 fuel a0 a1).bind fun y1 =>
  bif (y1 != (1 : Int)) then
    some ((PV.agg [(PV.str ([] : List UInt8)), (PV.agg [(PV.int (0 : Int)), (PV.int (0 : Int)), (PV.str ([] : List UInt8)), (PV.slice []), (PV.slice []), (PV.slice []), (PV.slice [])])]), a1, (2 : Int))
  else
    bif inRange a1 a0.length then
    (F13 fuel ((a0.getD a1.toNat .bad).fld 1).asStr).bind fun y6 =>
    bif (y6 == (0 : Int)) then
      some ((PV.agg [(PV.str ([] : List UInt8)), (PV.agg [(PV.int (0 : Int)), (PV.int (0 : Int)), (PV.str ([] : List UInt8)), (PV.slice []), (PV.slice []), (PV.slice []), (PV.slice [])])]), a1, (8 : Int))
    else
      (F14 fuel a0 (IntKind.wrap .i64 (a1 + (1 : Int))) ([61] : List UInt8)).bind fun y9 =>
      bif (!y9) then
        let x11 := IntKind.wrap .i64 (a1 + (1 : Int))
        let x12 := (a0.length : Int)
        some ((PV.agg [(PV.str ([] : List UInt8)), (PV.agg [(PV.int (0 : Int)), (PV.int (0 : Int)), (PV.str ([] : List UInt8)), (PV.slice []), (PV.slice []), (PV.slice []), (PV.slice [])])]), (if x12 < x11 then x12 else x11), (2 : Int))
      else
        bif inRange a1 a0.length then
        (F13 fuel ((a0.getD a1.toNat .bad).fld 1).asStr).bind fun y17 =>
        (F30 fuel y17 a0 (IntKind.wrap .i64 (a1 + (2 : Int)))).bind fun y19 =>
        bif inRange a1 a0.length then
        some ((PV.agg [(PV.str ((a0.getD a1.toNat .bad).fld 1).asStr), y19.1]), y19.2.1, y19.2.2)
        else none
        else none
    else none

noncomputable def F15C (fuel : Nat) : Cfg := cfg Tryz.prog 62 0 [F29c fuel, F13c fuel, F14c fuel, F30c fuel] [] fuel

noncomputable def F15c (fuel : Nat) : CallE := { f := 15, A := ⟨2, [], [(.slice 34), (.int .i64)]⟩, R := ⟨3, [], [(.data 44), (.int .i64), (.int .i64)]⟩, F := fun x => F15 fuel x.1 x.2, dflt := (PV.bad, 0, 0) }

theorem F15k (fuel : Nat) : CallOk (F15C fuel) := cfg_callOk (callsC (F29ok fuel) <| callsC (F13ok fuel) <| callsC (F14ok fuel) <| callsC (F30ok fuel) <| callsN)

theorem F15ok (fuel : Nat) : (F15c fuel).Ok Tryz.prog := fun x y h => meets_of (F15k fuel) (f := 15) (fn := Tryz.f15) (c := bodyOf Tryz.f15) (by kernel_rfl) (by kernel_rfl) (by kernel_rfl) (by kernel_rfl) (loops0 (by kernel_rfl)) (A := (F15c fuel).A) (R := (F15c fuel).R) (F := (F15c fuel).F) (fun x => by kernel_rfl) (fun x => by kernel_rfl) x y h

noncomputable def S6_5 (fuel : Nat) (a3 : List PV) (a4 : Int) (a5 : List PV) : Option (((List PV) × Int × (List PV)) ⊕ (((List PV) × Int × Int))) :=
  (F15 fuel a3 (IntKind.wrap .i64 (a4 + (1 : Int)))).bind fun y7 =>
  let x8 := y7.1
  let x9 := y7.2.1
  let x10 := y7.2.2
  bif (x10 != (0 : Int)) then
    some (.inr ([], x9, x10))
  else
    bif decide (a5.length + [x8].length ≤ accMax) then
    let x12 := a5 ++ [x8]
    (F14 fuel a3 x9 ([93] : List UInt8)).bind fun y13 =>
    bif y13 then
      some (.inr (x12, (IntKind.wrap .i64 (x9 + (1 : Int))), (0 : Int)))
    else
      (F14 fuel a3 x9 ([44] : List UInt8)).bind fun y15 =>
      bif (!y15) then
        some (.inr ([], x9, (2 : Int)))
      else
        some (.inl (a3, x9, x12))
    else none

noncomputable def S6_5step (fuel : Nat) (x : (List PV) × Int × (List PV)) : Option (((List PV) × Int × (List PV)) ⊕ (((List PV) × Int × Int))) := S6_5 fuel x.1 x.2.1 x.2.2

/-- wireschema/note.Read -/
noncomputable def F6 (fuel : Nat) (a0 : List PV) (a1 : Int) : Option ((List PV) × Int × Int) :=
  (F14 fuel a0 a1 ([91] : List UInt8)).bind fun y1 =>
  bif (!y1) then
    some ([], a1, (0 : Int))
  else
    (loopQ fuel (S6_5step fuel) (a0, a1, [])).bind fun y17 =>
    some (y17.1, y17.2.1, y17.2.2)

noncomputable def S6_5l (fuel : Nat) : LoopE := { key := 5, H := ⟨[0, 1, 7], [.acc], [(.slice 34), (.int .i64), (.acc 0 44)]⟩, X := [(.ret, ⟨[4, 5, 6], [.acc], [(.slice 44), (.int .i64), (.int .i64)]⟩)], step := S6_5step fuel }

noncomputable def F6C (fuel : Nat) : Cfg := cfg Tryz.prog 46 0 [F14c fuel, F15c fuel] [S6_5l fuel] fuel

noncomputable def F6c (fuel : Nat) : CallE := { f := 6, A := ⟨2, [], [(.slice 34), (.int .i64)]⟩, R := ⟨3, [], [(.slice 44), (.int .i64), (.int .i64)]⟩, F := fun x => F6 fuel x.1 x.2, dflt := ([], 0, 0) }

theorem F6k (fuel : Nat) : CallOk (F6C fuel) := cfg_callOk (callsC (F14ok fuel) <| callsC (F15ok fuel) <| callsN)

theorem S6_5ok (fuel : Nat) : LoopOk (F6C fuel) (lp (bodyOf Tryz.f6) 0) := loopOk_of (F6k fuel) fuel (S6_5l fuel) (loops0 (by kernel_rfl)) (by kernel_rfl) (fun x => by kernel_rfl) (fun R e st K => by kernel_rfl)

theorem F6ok (fuel : Nat) : (F6c fuel).Ok Tryz.prog := fun x y h => meets_of (F6k fuel) (f := 6) (fn := Tryz.f6) (c := bodyOf Tryz.f6) (by kernel_rfl) (by kernel_rfl) (by kernel_rfl) (by kernel_rfl) (loopsN 1 (by kernel_rfl) fun i hi => match i, hi with | 0, _ => S6_5ok fuel | n + 1, h => absurd h (by omega)) (A := (F6c fuel).A) (R := (F6c fuel).R) (F := (F6c fuel).F) (fun x => by kernel_rfl) (fun x => by kernel_rfl) x y h

/-- wireschema/wireschemaref08.sign -/
noncomputable def F16 (fuel : Nat) (a0 : List PV) (a1 : Int) (a2 : List UInt8) : Option (Bool) :=
  let x4 := bif (decide (a1 ≥ (0 : Int))) then (decide (a1 < (a0.length : Int))) else false
  bif imp x4 (inRange a1 a0.length) then
  let x9 := bif x4 then (((a0.getD a1.toNat .bad).fld 0).asInt == (4 : Int)) else false
  bif imp x9 (inRange a1 a0.length) then
  some (bif x9 then (((a0.getD a1.toNat .bad).fld 1).asStr == a2) else false)
  else none
  else none

noncomputable def F16C (fuel : Nat) : Cfg := cfg Tryz.prog 32 0 [] [] fuel

noncomputable def F16c (fuel : Nat) : CallE := { f := 16, A := ⟨3, [], [(.slice 34), (.int .i64), .str]⟩, R := ⟨1, [], [.bool]⟩, F := fun x => F16 fuel x.1 x.2.1 x.2.2, dflt := false }

theorem F16k (fuel : Nat) : CallOk (F16C fuel) := cfg_callOk (callsN)

theorem F16ok (fuel : Nat) : (F16c fuel).Ok Tryz.prog := fun x y h => meets_of (F16k fuel) (f := 16) (fn := Tryz.f16) (c := bodyOf Tryz.f16) (by kernel_rfl) (by kernel_rfl) (by kernel_rfl) (by kernel_rfl) (loops0 (by kernel_rfl)) (A := (F16c fuel).A) (R := (F16c fuel).R) (F := (F16c fuel).F) (fun x => by kernel_rfl) (fun x => by kernel_rfl) x y h

/-- wireschema/wireschemaref08.Kind -/
noncomputable def F17 (fuel : Nat) (a0 : List UInt8) : Option (Int) :=
  let x1 := a0 == ([100, 101, 112, 114, 101, 99, 97, 116, 101, 100] : List UInt8)
  bif x1 then
    some (1 : Int)
  else
    bif (a0 == ([115, 101, 99, 114, 101, 116] : List UInt8)) then
      some (1 : Int)
    else
      let x3 := a0 == ([105, 100, 101, 109, 112, 111, 116, 101, 110, 116] : List UInt8)
      bif x3 then
        some (1 : Int)
      else
        bif (a0 == ([100, 111, 99] : List UInt8)) then
          some (7 : Int)
        else
          bif (a0 == ([97, 108, 105, 97, 115] : List UInt8)) then
            some (7 : Int)
          else
            bif (a0 == ([114, 111, 117, 116, 101] : List UInt8)) then
              some (7 : Int)
            else
              bif (a0 == ([111, 119, 110, 101, 114] : List UInt8)) then
                some (7 : Int)
              else
                bif (a0 == ([115, 105, 110, 99, 101] : List UInt8)) then
                  some (4 : Int)
                else
                  bif (a0 == ([117, 110, 116, 105, 108] : List UInt8)) then
                    some (4 : Int)
                  else
                    bif (a0 == ([108, 101, 110, 103, 116, 104] : List UInt8)) then
                      some (4 : Int)
                    else
                      bif (a0 == ([116, 105, 109, 101, 111, 117, 116] : List UInt8)) then
                        some (4 : Int)
                      else
                        bif (a0 == ([109, 105, 110] : List UInt8)) then
                          some (3 : Int)
                        else
                          bif (a0 == ([109, 97, 120] : List UInt8)) then
                            some (3 : Int)
                          else
                            some (0 : Int)

noncomputable def F17C (fuel : Nat) : Cfg := cfg Tryz.prog 21 0 [] [] fuel

noncomputable def F17c (fuel : Nat) : CallE := { f := 17, A := ⟨1, [], [.str]⟩, R := ⟨1, [], [(.int .i64)]⟩, F := fun x => F17 fuel x, dflt := 0 }

theorem F17k (fuel : Nat) : CallOk (F17C fuel) := cfg_callOk (callsN)

theorem F17ok (fuel : Nat) : (F17c fuel).Ok Tryz.prog := fun x y h => meets_of (F17k fuel) (f := 17) (fn := Tryz.f17) (c := bodyOf Tryz.f17) (by kernel_rfl) (by kernel_rfl) (by kernel_rfl) (by kernel_rfl) (loops0 (by kernel_rfl)) (A := (F17c fuel).A) (R := (F17c fuel).R) (F := (F17c fuel).F) (fun x => by kernel_rfl) (fun x => by kernel_rfl) x y h

noncomputable def S60_4 (fuel : Nat) (a5 : Int) (a6 : List UInt8) (a7 : List UInt8) : Option ((Int × (List UInt8) × (List UInt8)) ⊕ (((List UInt8)))) :=
  bif (decide (a5 > (9 : Int))) then
    let x9 := IntKind.wrap .u64 (a5.tdiv (10 : Int))
    let x10 := x9.tmod (10 : Int)
    let x12 := IntKind.wrap .u64 ((x9.tmod (10 : Int)) + (1 : Int))
    bif decide (0 ≤ x10 ∧ x10 ≤ x12 ∧ x12 ≤ (a6.length : Int)) then
    let x13 := (a6.take x12.toNat).drop x10.toNat
    bif decide (x13.length + a7.length ≤ strMax) then
    some (.inl (x9, a6, (x13 ++ a7)))
    else none
    else none
  else
    some (.inr a7)

noncomputable def S60_4step (fuel : Nat) (x : Int × (List UInt8) × (List UInt8)) : Option ((Int × (List UInt8) × (List UInt8)) ⊕ (((List UInt8)))) := S60_4 fuel x.1 x.2.1 x.2.2

/-- wireschema/wireschemaref08.digits -/
noncomputable def F60 (fuel : Nat) (a0 : Int) : Option ((List UInt8)) :=
  let x1 := a0.tmod (10 : Int)
  let x3 := IntKind.wrap .u64 ((a0.tmod (10 : Int)) + (1 : Int))
  bif decide (0 ≤ x1 ∧ x1 ≤ x3 ∧ x3 ≤ (([48, 49, 50, 51, 52, 53, 54, 55, 56, 57] : List UInt8).length : Int)) then
  let x4 := (([48, 49, 50, 51, 52, 53, 54, 55, 56, 57] : List UInt8).take x3.toNat).drop x1.toNat
  (loopQ fuel (S60_4step fuel) (a0, ([48, 49, 50, 51, 52, 53, 54, 55, 56, 57] : List UInt8), x4)).bind fun y15 =>
  some y15
  else none

noncomputable def S60_4l (fuel : Nat) : LoopE := { key := 4, H := ⟨[0, 3, 4], [], [(.int .u64), .str, .str]⟩, X := [(.exit 0, ⟨[4], [], [.str]⟩)], step := S60_4step fuel }

noncomputable def F60C (fuel : Nat) : Cfg := cfg Tryz.prog 26 0 [] [S60_4l fuel] fuel

noncomputable def F60c (fuel : Nat) : CallE := { f := 60, A := ⟨1, [], [(.int .u64)]⟩, R := ⟨1, [], [.str]⟩, F := fun x => F60 fuel x, dflt := [] }

theorem F60k (fuel : Nat) : CallOk (F60C fuel) := cfg_callOk (callsN)

theorem S60_4ok (fuel : Nat) : LoopOk (F60C fuel) (lp (bodyOf Tryz.f60) 0) := loopOk_of (F60k fuel) fuel (S60_4l fuel) (loops0 (by kernel_rfl)) (by kernel_rfl) (fun x => by kernel_rfl) (fun R e st K => by kernel_rfl)

theorem F60ok (fuel : Nat) : (F60c fuel).Ok Tryz.prog := fun x y h => meets_of (F60k fuel) (f := 60) (fn := Tryz.f60) (c := bodyOf Tryz.f60) (by kernel_rfl) (by kernel_rfl) (by kernel_rfl) (by kernel_rfl) (loopsN 1 (by kernel_rfl) fun i hi => match i, hi with | 0, _ => S60_4ok fuel | n + 1, h => absurd h (by omega)) (A := (F60c fuel).A) (R := (F60c fuel).R) (F := (F60c fuel).F) (fun x => by kernel_rfl) (fun x => by kernel_rfl) x y h

/-- wireschema/wireschemaref04.Is -/
noncomputable def F61 (fuel : Nat) (a0 : Int) : Option (Bool) :=
  some (bif (decide (a0 ≥ (1 : Int))) then (decide (a0 ≤ (9 : Int))) else false)

noncomputable def F61C (fuel : Nat) : Cfg := cfg Tryz.prog 9 0 [] [] fuel

noncomputable def F61c (fuel : Nat) : CallE := { f := 61, A := ⟨1, [], [(.int .i64)]⟩, R := ⟨1, [], [.bool]⟩, F := fun x => F61 fuel x, dflt := false }

theorem F61k (fuel : Nat) : CallOk (F61C fuel) := cfg_callOk (callsN)

theorem F61ok (fuel : Nat) : (F61c fuel).Ok Tryz.prog := fun x y h => meets_of (F61k fuel) (f := 61) (fn := Tryz.f61) (c := bodyOf Tryz.f61) (by kernel_rfl) (by kernel_rfl) (by kernel_rfl) (by kernel_rfl) (loops0 (by kernel_rfl)) (A := (F61c fuel).A) (R := (F61c fuel).R) (F := (F61c fuel).F) (fun x => by kernel_rfl) (fun x => by kernel_rfl) x y h

/-- wireschema/wireschemaref03.digit -/
noncomputable def F154 (fuel : Nat) (a0 : Int) : Option (Int) :=
  bif (bif (decide (a0 ≥ (48 : Int))) then (decide (a0 ≤ (57 : Int))) else false) then
    some (IntKind.wrap .i64 (IntKind.wrap .u8 (a0 - (48 : Int))))
  else
    bif (bif (decide (a0 ≥ (97 : Int))) then (decide (a0 ≤ (102 : Int))) else false) then
      some (IntKind.wrap .i64 ((IntKind.wrap .i64 (IntKind.wrap .u8 (a0 - (97 : Int)))) + (10 : Int)))
    else
      some (-1 : Int)

noncomputable def F154C (fuel : Nat) : Cfg := cfg Tryz.prog 22 0 [] [] fuel

noncomputable def F154c (fuel : Nat) : CallE := { f := 154, A := ⟨1, [], [(.int .u8)]⟩, R := ⟨1, [], [(.int .i64)]⟩, F := fun x => F154 fuel x, dflt := 0 }

theorem F154k (fuel : Nat) : CallOk (F154C fuel) := cfg_callOk (callsN)

theorem F154ok (fuel : Nat) : (F154c fuel).Ok Tryz.prog := fun x y h => meets_of (F154k fuel) (f := 154) (fn := Tryz.f154) (c := bodyOf Tryz.f154) (by kernel_rfl) (by kernel_rfl) (by kernel_rfl) (by kernel_rfl) (loops0 (by kernel_rfl)) (A := (F154c fuel).A) (R := (F154c fuel).R) (F := (F154c fuel).F) (fun x => by kernel_rfl) (fun x => by kernel_rfl) x y h

noncomputable def S130_6 (fuel : Nat) (a4 : List UInt8) (a5 : List UInt8) (a6 : Int) : Option (((List UInt8) × (List UInt8) × Int) ⊕ (((List UInt8) × Int) ⊕ ((List UInt8)))) :=
  bif (decide (a6 < (a4.length : Int))) then
    bif inRange a6 a4.length then
    (F154 fuel ((a4.getD a6.toNat 0).toNat : Int)).bind fun y10 =>
    let x11 := decide (y10 < (0 : Int))
    let x12 := IntKind.wrap .i64 (a6 + (1 : Int))
    bif imp (!x11) (inRange x12 a4.length) then
    (bif !x11 then F154 fuel ((a4.getD x12.toNat 0).toNat : Int) else some 0).bind fun y14 =>
    bif (bif x11 then true else (decide (y14 < (0 : Int)))) then
      some (.inr (.inl (([] : List UInt8), (2 : Int))))
    else
      bif inRange a6 a4.length then
      (F154 fuel ((a4.getD a6.toNat 0).toNat : Int)).bind fun y18 =>
      let x20 := IntKind.wrap .i64 (a6 + (1 : Int))
      bif inRange x20 a4.length then
      (F154 fuel ((a4.getD x20.toNat 0).toNat : Int)).bind fun y22 =>
      let x24 := IntKind.wrap .u8 (IntKind.wrap .i64 ((IntKind.wrap .i64 ((16 : Int) * y18)) + y22))
      bif decide (a5.length + ([(PV.int x24)].map byteOfPV).length ≤ strMax) then
      some (.inl (a4, (a5 ++ ([(PV.int x24)].map byteOfPV)), (IntKind.wrap .i64 (a6 + (2 : Int)))))
      else none
      else none
      else none
    else none
    else none
  else
    some (.inr (.inr a5))

noncomputable def S130_6step (fuel : Nat) (x : (List UInt8) × (List UInt8) × Int) : Option (((List UInt8) × (List UInt8) × Int) ⊕ (((List UInt8) × Int) ⊕ ((List UInt8)))) := S130_6 fuel x.1 x.2.1 x.2.2

/-- wireschema/wireschemaref03.Unhex -/
noncomputable def F130 (fuel : Nat) (a0 : List UInt8) : Option ((List UInt8) × Int) :=
  bif (((a0.length : Int).tmod (2 : Int)) != (0 : Int)) then
    some (([] : List UInt8), (2 : Int))
  else
    (loopQ fuel (S130_6step fuel) (a0, ([] : List UInt8), (0 : Int))).bind fun z => sumE (fun y27 =>
      some (y27.1, y27.2)
    ) (fun y28 =>
      some (y28, (0 : Int))
    ) z

noncomputable def S130_6l (fuel : Nat) : LoopE := { key := 6, H := ⟨[0, 4, 5], [], [.str, .str, (.int .i64)]⟩, X := [(.ret, ⟨[2, 3], [], [.str, (.int .i64)]⟩), (.exit 0, ⟨[4], [], [.str]⟩)], step := S130_6step fuel }

noncomputable def F130C (fuel : Nat) : Cfg := cfg Tryz.prog 46 0 [F154c fuel] [S130_6l fuel] fuel

noncomputable def F130c (fuel : Nat) : CallE := { f := 130, A := ⟨1, [], [.str]⟩, R := ⟨2, [], [.str, (.int .i64)]⟩, F := fun x => F130 fuel x, dflt := ([], 0) }

theorem F130k (fuel : Nat) : CallOk (F130C fuel) := cfg_callOk (callsC (F154ok fuel) <| callsN)

theorem S130_6ok (fuel : Nat) : LoopOk (F130C fuel) (lp (bodyOf Tryz.f130) 0) := loopOk_of (F130k fuel) fuel (S130_6l fuel) (loops0 (by kernel_rfl)) (by kernel_rfl) (fun x => by kernel_rfl) (fun R e st K => by kernel_rfl)

theorem F130ok (fuel : Nat) : (F130c fuel).Ok Tryz.prog := fun x y h => meets_of (F130k fuel) (f := 130) (fn := Tryz.f130) (c := bodyOf Tryz.f130) (by kernel_rfl) (by kernel_rfl) (by kernel_rfl) (by kernel_rfl) (loopsN 1 (by kernel_rfl) fun i hi => match i, hi with | 0, _ => S130_6ok fuel | n + 1, h => absurd h (by omega)) (A := (F130c fuel).A) (R := (F130c fuel).R) (F := (F130c fuel).F) (fun x => by kernel_rfl) (fun x => by kernel_rfl) x y h

/-- wireschema/wireschemaref04.Class -/
noncomputable def F44 (fuel : Nat) (a0 : Int) : Option (Int) :=
  let x1 := a0.tmod (9223372036854775808 : Int)
  bif (decide (x1 > (9218868437227405312 : Int))) then
    some (0 : Int)
  else
    bif (x1 == (9218868437227405312 : Int)) then
      some (1 : Int)
    else
      bif (x1 == (0 : Int)) then
        some (2 : Int)
      else
        bif (decide (x1 < (4503599627370496 : Int))) then
          some (3 : Int)
        else
          some (4 : Int)

noncomputable def F44C (fuel : Nat) : Cfg := cfg Tryz.prog 18 0 [] [] fuel

noncomputable def F44c (fuel : Nat) : CallE := { f := 44, A := ⟨1, [], [(.int .u64)]⟩, R := ⟨1, [], [(.int .i64)]⟩, F := fun x => F44 fuel x, dflt := 0 }

theorem F44k (fuel : Nat) : CallOk (F44C fuel) := cfg_callOk (callsN)

theorem F44ok (fuel : Nat) : (F44c fuel).Ok Tryz.prog := fun x y h => meets_of (F44k fuel) (f := 44) (fn := Tryz.f44) (c := bodyOf Tryz.f44) (by kernel_rfl) (by kernel_rfl) (by kernel_rfl) (by kernel_rfl) (loops0 (by kernel_rfl)) (A := (F44c fuel).A) (R := (F44c fuel).R) (F := (F44c fuel).F) (fun x => by kernel_rfl) (fun x => by kernel_rfl) x y h

noncomputable def S94_16 (fuel : Nat) (a14 : Unit) (a15 : List UInt8) (a16 : Unit) (a17 : Int) (a18 : PV) (a19 : PV) : Option ((Unit × (List UInt8) × Unit × Int × PV × PV) ⊕ ((Unit × Unit × PV × PV))) :=
  bif (decide (a17 < (a15.length : Int))) then
    bif inRange a17 a15.length then
    some (.inl ((), a15, (), (IntKind.wrap .i64 (a17 + (1 : Int))), a18, (PV.agg [(PV.int ((a19.fld 0).asInt)), (PV.int (IntKind.wrap .u64 ((IntKind.wrap .u64 ((256 : Int) * ((a19.fld 1).asInt))) + (IntKind.wrap .u64 ((a15.getD a17.toNat 0).toNat : Int))))), (PV.str ((a19.fld 2).asStr)), (PV.slice ((a19.fld 3).asList)), (PV.slice ((a19.fld 4).asList)), (PV.slice ((a19.fld 5).asList)), (PV.slice ((a19.fld 6).asList))])))
    else none
  else
    some (.inr ((), (), a18, a19))

noncomputable def S94_16step (fuel : Nat) (x : Unit × (List UInt8) × Unit × Int × PV × PV) : Option ((Unit × (List UInt8) × Unit × Int × PV × PV) ⊕ ((Unit × Unit × PV × PV))) := S94_16 fuel x.1 x.2.1 x.2.2.1 x.2.2.2.1 x.2.2.2.2.1 x.2.2.2.2.2

/-- wireschema/wireschemaref04.double -/
noncomputable def F94 (fuel : Nat) (a0 : List UInt8) : Option (PV × Int) :=
  bif (a0 == ([110, 97, 110] : List UInt8)) then
    some ((PV.agg [(PV.int (6 : Int)), (PV.int (9221120237041090560 : Int)), (PV.str ([] : List UInt8)), (PV.slice []), (PV.slice []), (PV.slice []), (PV.slice [])]), (0 : Int))
  else
    bif (a0 == ([105, 110, 102] : List UInt8)) then
      some ((PV.agg [(PV.int (6 : Int)), (PV.int (9218868437227405312 : Int)), (PV.str ([] : List UInt8)), (PV.slice []), (PV.slice []), (PV.slice []), (PV.slice [])]), (0 : Int))
    else
      bif (a0 == ([45, 105, 110, 102] : List UInt8)) then
        some ((PV.agg [(PV.int (6 : Int)), (PV.int (18442240474082181120 : Int)), (PV.str ([] : List UInt8)), (PV.slice []), (PV.slice []), (PV.slice []), (PV.slice [])]), (0 : Int))
      else
        let x5 := (a0.length : Int) != (18 : Int)
        bif imp (!x5) (decide (0 ≤ (0 : Int) ∧ (0 : Int) ≤ (2 : Int) ∧ (2 : Int) ≤ (a0.length : Int))) then
        bif (bif x5 then true else (!(((a0.take (2 : Int).toNat).drop (0 : Int).toNat) == ([48, 120] : List UInt8)))) then
          some ((PV.agg [(PV.int (0 : Int)), (PV.int (0 : Int)), (PV.str ([] : List UInt8)), (PV.slice []), (PV.slice []), (PV.slice []), (PV.slice [])]), (2 : Int))
        else
          bif decide (0 ≤ (2 : Int) ∧ (2 : Int) ≤ (a0.length : Int) ∧ (a0.length : Int) ≤ (a0.length : Int)) then
          (F130 fuel ((a0.take (a0.length : Int).toNat).drop (2 : Int).toNat)).bind fun y10 =>
          bif (y10.2 != (0 : Int)) then
            some ((PV.agg [(PV.int (0 : Int)), (PV.int (0 : Int)), (PV.str ([] : List UInt8)), (PV.slice []), (PV.slice []), (PV.slice []), (PV.slice [])]), (2 : Int))
          else
            (loopQ fuel (S94_16step fuel) ((), y10.1, (), (0 : Int), (PV.agg [(PV.int (0 : Int)), (PV.int (0 : Int)), (PV.str ([] : List UInt8)), (PV.slice []), (PV.slice []), (PV.slice []), (PV.slice [])]), (PV.agg [(PV.int (6 : Int)), (PV.int (0 : Int)), (PV.str ([] : List UInt8)), (PV.slice []), (PV.slice []), (PV.slice []), (PV.slice [])]))).bind fun y28 =>
            (F44 fuel ((y28.2.2.2.fld 1).asInt)).bind fun y30 =>
            bif (decide (y30 ≤ (1 : Int))) then
              some ((PV.agg [(PV.int (0 : Int)), (PV.int (0 : Int)), (PV.str ([] : List UInt8)), (PV.slice []), (PV.slice []), (PV.slice []), (PV.slice [])]), (2 : Int))
            else
              some (y28.2.2.2, (0 : Int))
          else none
        else none

noncomputable def S94_16l (fuel : Nat) : LoopE := { key := 16, H := ⟨[2, 4, 6, 7], [.box 42, .box 42], [(.con (.ref 0 [] 42)), .str, (.con (.ref 1 [] 42)), (.int .i64), (.data 42), (.data 42)]⟩, X := [(.exit 1, ⟨[2, 6], [.box 42, .box 42], [(.con (.ref 0 [] 42)), (.con (.ref 1 [] 42)), (.data 42), (.data 42)]⟩)], step := S94_16step fuel }

noncomputable def F94C (fuel : Nat) : Cfg := cfg Tryz.prog 58 0 [F130c fuel, F44c fuel] [S94_16l fuel] fuel

noncomputable def F94c (fuel : Nat) : CallE := { f := 94, A := ⟨1, [], [.str]⟩, R := ⟨2, [], [(.data 42), (.int .i64)]⟩, F := fun x => F94 fuel x, dflt := (PV.bad, 0) }

theorem F94k (fuel : Nat) : CallOk (F94C fuel) := cfg_callOk (callsC (F130ok fuel) <| callsC (F44ok fuel) <| callsN)

theorem S94_16ok (fuel : Nat) : LoopOk (F94C fuel) (lp (bodyOf Tryz.f94) 0) := loopOk_of (F94k fuel) fuel (S94_16l fuel) (loops0 (by kernel_rfl)) (by kernel_rfl) (fun x => by kernel_rfl) (fun R e st K => by kernel_rfl)

theorem F94ok (fuel : Nat) : (F94c fuel).Ok Tryz.prog := fun x y h => meets_of (F94k fuel) (f := 94) (fn := Tryz.f94) (c := bodyOf Tryz.f94) (by kernel_rfl) (by kernel_rfl) (by kernel_rfl) (by kernel_rfl) (loopsN 1 (by kernel_rfl) fun i hi => match i, hi with | 0, _ => S94_16ok fuel | n + 1, h => absurd h (by omega)) (A := (F94c fuel).A) (R := (F94c fuel).R) (F := (F94c fuel).F) (fun x => by kernel_rfl) (fun x => by kernel_rfl) x y h

/-- wireschema/wireschemaref03.between -/
noncomputable def F111 (fuel : Nat) (a0 : List UInt8) (a1 : Int) (a2 : Int) (a3 : Int) : Option (Bool) :=
  let x2 := decide (a1 < (a0.length : Int))
  bif imp x2 (inRange a1 a0.length) then
  let x5 := bif x2 then (decide (((a0.getD a1.toNat 0).toNat : Int) ≥ a2)) else false
  bif imp x5 (inRange a1 a0.length) then
  some (bif x5 then (decide (((a0.getD a1.toNat 0).toNat : Int) ≤ a3)) else false)
  else none
  else none

noncomputable def F111C (fuel : Nat) : Cfg := cfg Tryz.prog 27 0 [] [] fuel

noncomputable def F111c (fuel : Nat) : CallE := { f := 111, A := ⟨4, [], [.str, (.int .i64), (.int .u8), (.int .u8)]⟩, R := ⟨1, [], [.bool]⟩, F := fun x => F111 fuel x.1 x.2.1 x.2.2.1 x.2.2.2, dflt := false }

theorem F111k (fuel : Nat) : CallOk (F111C fuel) := cfg_callOk (callsN)

theorem F111ok (fuel : Nat) : (F111c fuel).Ok Tryz.prog := fun x y h => meets_of (F111k fuel) (f := 111) (fn := Tryz.f111) (c := bodyOf Tryz.f111) (by kernel_rfl) (by kernel_rfl) (by kernel_rfl) (by kernel_rfl) (loops0 (by kernel_rfl)) (A := (F111c fuel).A) (R := (F111c fuel).R) (F := (F111c fuel).F) (fun x => by kernel_rfl) (fun x => by kernel_rfl) x y h

noncomputable def S110_3 (fuel : Nat) (a1 : List UInt8) (a2 : Int) (a3 : Int) (a4 : Int) : Option (((List UInt8) × Int × Int × Int) ⊕ ((Bool) ⊕ (Unit))) :=
  bif (decide (a4 < a3)) then
    (F111 fuel a1 (IntKind.wrap .i64 (a2 + a4)) (128 : Int) (191 : Int)).bind fun y7 =>
    bif (!y7) then
      some (.inr (.inl false))
    else
      some (.inl (a1, a2, a3, (IntKind.wrap .i64 (a4 + (1 : Int)))))
  else
    some (.inr (.inr ()))

noncomputable def S110_3step (fuel : Nat) (x : (List UInt8) × Int × Int × Int) : Option (((List UInt8) × Int × Int × Int) ⊕ ((Bool) ⊕ (Unit))) := S110_3 fuel x.1 x.2.1 x.2.2.1 x.2.2.2

/-- wireschema/wireschemaref03.tail -/
noncomputable def F110 (fuel : Nat) (a0 : List UInt8) (a1 : Int) (a2 : Int) : Option (Bool) :=
  (loopQ fuel (S110_3step fuel) (a0, a1, a2, (0 : Int))).bind fun z => sumE (fun y10 =>
    some y10
  ) (fun y11 =>
    some true
  ) z

noncomputable def S110_3l (fuel : Nat) : LoopE := { key := 3, H := ⟨[0, 1, 2, 7], [], [.str, (.int .i64), (.int .i64), (.int .i64)]⟩, X := [(.ret, ⟨[6], [], [.bool]⟩), (.exit 0, ⟨[], [], []⟩)], step := S110_3step fuel }

noncomputable def F110C (fuel : Nat) : Cfg := cfg Tryz.prog 19 0 [F111c fuel] [S110_3l fuel] fuel

noncomputable def F110c (fuel : Nat) : CallE := { f := 110, A := ⟨3, [], [.str, (.int .i64), (.int .i64)]⟩, R := ⟨1, [], [.bool]⟩, F := fun x => F110 fuel x.1 x.2.1 x.2.2, dflt := false }

theorem F110k (fuel : Nat) : CallOk (F110C fuel) := cfg_callOk (callsC (F111ok fuel) <| callsN)

theorem S110_3ok (fuel : Nat) : LoopOk (F110C fuel) (lp (bodyOf Tryz.f110) 0) := loopOk_of (F110k fuel) fuel (S110_3l fuel) (loops0 (by kernel_rfl)) (by kernel_rfl) (fun x => by kernel_rfl) (fun R e st K => by kernel_rfl)

theorem F110ok (fuel : Nat) : (F110c fuel).Ok Tryz.prog := fun x y h => meets_of (F110k fuel) (f := 110) (fn := Tryz.f110) (c := bodyOf Tryz.f110) (by kernel_rfl) (by kernel_rfl) (by kernel_rfl) (by kernel_rfl) (loopsN 1 (by kernel_rfl) fun i hi => match i, hi with | 0, _ => S110_3ok fuel | n + 1, h => absurd h (by omega)) (A := (F110c fuel).A) (R := (F110c fuel).R) (F := (F110c fuel).F) (fun x => by kernel_rfl) (fun x => by kernel_rfl) x y h

/-- wireschema/wireschemaref03.Size -/
noncomputable def F77 (fuel : Nat) (a0 : List UInt8) (a1 : Int) : Option (Int) :=
  bif inRange a1 a0.length then
  let x1 := ((a0.getD a1.toNat 0).toNat : Int)
  bif (decide (x1 < (128 : Int))) then
    some (1 : Int)
  else
    let x5 := bif (decide (x1 ≥ (194 : Int))) then (decide (x1 ≤ (223 : Int))) else false
    (bif x5 then F110 fuel a0 (IntKind.wrap .i64 (a1 + (1 : Int))) (1 : Int) else some false).bind fun y7 =>
    bif (bif x5 then y7 else false) then
      some (2 : Int)
    else
      let x9 := x1 == (224 : Int)
      (bif x9 then F111 fuel a0 (IntKind.wrap .i64 (a1 + (1 : Int))) (160 : Int) (191 : Int) else some false).bind fun y11 =>
      let x12 := bif x9 then y11 else false
      (bif x12 then F110 fuel a0 (IntKind.wrap .i64 (a1 + (2 : Int))) (1 : Int) else some false).bind fun y14 =>
      bif (bif x12 then y14 else false) then
        some (3 : Int)
      else
        let x16 := x1 == (237 : Int)
        (bif x16 then F111 fuel a0 (IntKind.wrap .i64 (a1 + (1 : Int))) (128 : Int) (159 : Int) else some false).bind fun y18 =>
        let x19 := bif x16 then y18 else false
        (bif x19 then F110 fuel a0 (IntKind.wrap .i64 (a1 + (2 : Int))) (1 : Int) else some false).bind fun y21 =>
        bif (bif x19 then y21 else false) then
          some (3 : Int)
        else
          let x27 := bif (bif (decide (x1 ≥ (225 : Int))) then (decide (x1 ≤ (239 : Int))) else false) then (x1 != (237 : Int)) else false
          (bif x27 then F110 fuel a0 (IntKind.wrap .i64 (a1 + (1 : Int))) (2 : Int) else some false).bind fun y29 =>
          bif (bif x27 then y29 else false) then
            some (3 : Int)
          else
            let x31 := x1 == (240 : Int)
            (bif x31 then F111 fuel a0 (IntKind.wrap .i64 (a1 + (1 : Int))) (144 : Int) (191 : Int) else some false).bind fun y33 =>
            let x34 := bif x31 then y33 else false
            (bif x34 then F110 fuel a0 (IntKind.wrap .i64 (a1 + (2 : Int))) (2 : Int) else some false).bind fun y36 =>
            bif (bif x34 then y36 else false) then
              some (4 : Int)
            else
              let x40 := bif (decide (x1 ≥ (241 : Int))) then (decide (x1 ≤ (243 : Int))) else false
              (bif x40 then F110 fuel a0 (IntKind.wrap .i64 (a1 + (1 : Int))) (3 : Int) else some false).bind fun y42 =>
              bif (bif x40 then y42 else false) then
                some (4 : Int)
              else
                let x44 := x1 == (244 : Int)
                (bif x44 then F111 fuel a0 (IntKind.wrap .i64 (a1 + (1 : Int))) (128 : Int) (143 : Int) else some false).bind fun y46 =>
                let x47 := bif x44 then y46 else false
                (bif x47 then F110 fuel a0 (IntKind.wrap .i64 (a1 + (2 : Int))) (2 : Int) else some false).bind fun y49 =>
                bif (bif x47 then y49 else false) then
                  some (4 : Int)
                else
                  some (0 : Int)
  else none

noncomputable def F77C (fuel : Nat) : Cfg := cfg Tryz.prog 115 0 [F110c fuel, F111c fuel] [] fuel

noncomputable def F77c (fuel : Nat) : CallE := { f := 77, A := ⟨2, [], [.str, (.int .i64)]⟩, R := ⟨1, [], [(.int .i64)]⟩, F := fun x => F77 fuel x.1 x.2, dflt := 0 }

theorem F77k (fuel : Nat) : CallOk (F77C fuel) := cfg_callOk (callsC (F110ok fuel) <| callsC (F111ok fuel) <| callsN)

theorem F77ok (fuel : Nat) : (F77c fuel).Ok Tryz.prog := fun x y h => meets_of (F77k fuel) (f := 77) (fn := Tryz.f77) (c := bodyOf Tryz.f77) (by kernel_rfl) (by kernel_rfl) (by kernel_rfl) (by kernel_rfl) (loops0 (by kernel_rfl)) (A := (F77c fuel).A) (R := (F77c fuel).R) (F := (F77c fuel).F) (fun x => by kernel_rfl) (fun x => by kernel_rfl) x y h

/-- wireschema/wireschemaref03.pair -/
noncomputable def F78 (fuel : Nat) (a0 : Int) : Option ((List UInt8)) :=
  let x1 := IntKind.wrap .u8 (a0.tdiv (16 : Int))
  let x3 := IntKind.wrap .u8 ((IntKind.wrap .u8 (a0.tdiv (16 : Int))) + (1 : Int))
  bif decide (0 ≤ x1 ∧ x1 ≤ x3 ∧ x3 ≤ (([48, 49, 50, 51, 52, 53, 54, 55, 56, 57, 97, 98, 99, 100, 101, 102] : List UInt8).length : Int)) then
  let x4 := (([48, 49, 50, 51, 52, 53, 54, 55, 56, 57, 97, 98, 99, 100, 101, 102] : List UInt8).take x3.toNat).drop x1.toNat
  let x5 := a0.tmod (16 : Int)
  let x7 := IntKind.wrap .u8 ((a0.tmod (16 : Int)) + (1 : Int))
  bif decide (0 ≤ x5 ∧ x5 ≤ x7 ∧ x7 ≤ (([48, 49, 50, 51, 52, 53, 54, 55, 56, 57, 97, 98, 99, 100, 101, 102] : List UInt8).length : Int)) then
  let x8 := (([48, 49, 50, 51, 52, 53, 54, 55, 56, 57, 97, 98, 99, 100, 101, 102] : List UInt8).take x7.toNat).drop x5.toNat
  bif decide (x4.length + x8.length ≤ strMax) then
  some (x4 ++ x8)
  else none
  else none
  else none

noncomputable def F78C (fuel : Nat) : Cfg := cfg Tryz.prog 16 0 [] [] fuel

noncomputable def F78c (fuel : Nat) : CallE := { f := 78, A := ⟨1, [], [(.int .u8)]⟩, R := ⟨1, [], [.str]⟩, F := fun x => F78 fuel x, dflt := [] }

theorem F78k (fuel : Nat) : CallOk (F78C fuel) := cfg_callOk (callsN)

theorem F78ok (fuel : Nat) : (F78c fuel).Ok Tryz.prog := fun x y h => meets_of (F78k fuel) (f := 78) (fn := Tryz.f78) (c := bodyOf Tryz.f78) (by kernel_rfl) (by kernel_rfl) (by kernel_rfl) (by kernel_rfl) (loops0 (by kernel_rfl)) (A := (F78c fuel).A) (R := (F78c fuel).R) (F := (F78c fuel).F) (fun x => by kernel_rfl) (fun x => by kernel_rfl) x y h

noncomputable def S46_4 (fuel : Nat) (a1 : List UInt8) (a2 : List UInt8) (a3 : Int) : Option (((List UInt8) × (List UInt8) × Int) ⊕ (((List UInt8)))) :=
  bif (decide (a3 < (a1.length : Int))) then
    (F77 fuel a1 a3).bind fun y6 =>
    bif inRange a3 a1.length then
    let x7 := ((a1.getD a3.toNat 0).toNat : Int)
    bif (x7 == (34 : Int)) then
      bif decide (a2.length + ([92, 34] : List UInt8).length ≤ strMax) then
      let x9 := a2 ++ ([92, 34] : List UInt8)
      bif (y6 == (0 : Int)) then
        some (.inl (a1, x9, (IntKind.wrap .i64 (a3 + (1 : Int)))))
      else
        some (.inl (a1, x9, (IntKind.wrap .i64 (a3 + y6))))
      else none
    else
      bif (x7 == (92 : Int)) then
        bif decide (a2.length + ([92, 92] : List UInt8).length ≤ strMax) then
        let x14 := a2 ++ ([92, 92] : List UInt8)
        bif (y6 == (0 : Int)) then
          some (.inl (a1, x14, (IntKind.wrap .i64 (a3 + (1 : Int)))))
        else
          some (.inl (a1, x14, (IntKind.wrap .i64 (a3 + y6))))
        else none
      else
        bif (x7 == (10 : Int)) then
          bif decide (a2.length + ([92, 110] : List UInt8).length ≤ strMax) then
          let x19 := a2 ++ ([92, 110] : List UInt8)
          bif (y6 == (0 : Int)) then
            some (.inl (a1, x19, (IntKind.wrap .i64 (a3 + (1 : Int)))))
          else
            some (.inl (a1, x19, (IntKind.wrap .i64 (a3 + y6))))
          else none
        else
          bif (x7 == (9 : Int)) then
            bif decide (a2.length + ([92, 116] : List UInt8).length ≤ strMax) then
            let x24 := a2 ++ ([92, 116] : List UInt8)
            bif (y6 == (0 : Int)) then
              some (.inl (a1, x24, (IntKind.wrap .i64 (a3 + (1 : Int)))))
            else
              some (.inl (a1, x24, (IntKind.wrap .i64 (a3 + y6))))
            else none
          else
            bif (x7 == (13 : Int)) then
              bif decide (a2.length + ([92, 114] : List UInt8).length ≤ strMax) then
              let x29 := a2 ++ ([92, 114] : List UInt8)
              bif (y6 == (0 : Int)) then
                some (.inl (a1, x29, (IntKind.wrap .i64 (a3 + (1 : Int)))))
              else
                some (.inl (a1, x29, (IntKind.wrap .i64 (a3 + y6))))
              else none
            else
              bif (bif (bif (decide (x7 < (32 : Int))) then true else (x7 == (127 : Int))) then true else (y6 == (0 : Int))) then
                bif decide (a2.length + ([92, 120] : List UInt8).length ≤ strMax) then
                let x38 := a2 ++ ([92, 120] : List UInt8)
                (F78 fuel x7).bind fun y39 =>
                bif decide (x38.length + y39.length ≤ strMax) then
                let x40 := x38 ++ y39
                bif (y6 == (0 : Int)) then
                  some (.inl (a1, x40, (IntKind.wrap .i64 (a3 + (1 : Int)))))
                else
                  some (.inl (a1, x40, (IntKind.wrap .i64 (a3 + y6))))
                else none
                else none
              else
                let x44 := IntKind.wrap .i64 (a3 + y6)
                bif decide (0 ≤ a3 ∧ a3 ≤ x44 ∧ x44 ≤ (a1.length : Int)) then
                let x45 := (a1.take x44.toNat).drop a3.toNat
                bif decide (a2.length + x45.length ≤ strMax) then
                let x46 := a2 ++ x45
                bif (y6 == (0 : Int)) then
                  some (.inl (a1, x46, (IntKind.wrap .i64 (a3 + (1 : Int)))))
                else
                  some (.inl (a1, x46, (IntKind.wrap .i64 (a3 + y6))))
                else none
                else none
    else none
  else
    some (.inr a2)

noncomputable def S46_4step (fuel : Nat) (x : (List UInt8) × (List UInt8) × Int) : Option (((List UInt8) × (List UInt8) × Int) ⊕ (((List UInt8)))) := S46_4 fuel x.1 x.2.1 x.2.2

/-- wireschema/wireschemaref03.Quote -/
noncomputable def F46 (fuel : Nat) (a0 : List UInt8) : Option ((List UInt8)) :=
  (loopQ fuel (S46_4step fuel) (a0, ([34] : List UInt8), (0 : Int))).bind fun y50 =>
  bif decide (y50.length + ([34] : List UInt8).length ≤ strMax) then
  some (y50 ++ ([34] : List UInt8))
  else none

noncomputable def S46_4l (fuel : Nat) : LoopE := { key := 4, H := ⟨[0, 3, 4], [], [.str, .str, (.int .i64)]⟩, X := [(.exit 0, ⟨[3], [], [.str]⟩)], step := S46_4step fuel }

noncomputable def F46C (fuel : Nat) : Cfg := cfg Tryz.prog 73 0 [F77c fuel, F78c fuel] [S46_4l fuel] fuel

noncomputable def F46c (fuel : Nat) : CallE := { f := 46, A := ⟨1, [], [.str]⟩, R := ⟨1, [], [.str]⟩, F := fun x => F46 fuel x, dflt := [] }

theorem F46k (fuel : Nat) : CallOk (F46C fuel) := cfg_callOk (callsC (F77ok fuel) <| callsC (F78ok fuel) <| callsN)

theorem S46_4ok (fuel : Nat) : LoopOk (F46C fuel) (lp (bodyOf Tryz.f46) 0) := loopOk_of (F46k fuel) fuel (S46_4l fuel) (loops0 (by kernel_rfl)) (by kernel_rfl) (fun x => by kernel_rfl) (fun R e st K => by kernel_rfl)

theorem F46ok (fuel : Nat) : (F46c fuel).Ok Tryz.prog := fun x y h => meets_of (F46k fuel) (f := 46) (fn := Tryz.f46) (c := bodyOf Tryz.f46) (by kernel_rfl) (by kernel_rfl) (by kernel_rfl) (by kernel_rfl) (loopsN 1 (by kernel_rfl) fun i hi => match i, hi with | 0, _ => S46_4ok fuel | n + 1, h => absurd h (by omega)) (A := (F46c fuel).A) (R := (F46c fuel).R) (F := (F46c fuel).F) (fun x => by kernel_rfl) (fun x => by kernel_rfl) x y h

/-- wireschema/wireschemaref03.escape -/
noncomputable def F155 (fuel : Nat) (a0 : List UInt8) (a1 : Int) : Option (Int × Int) :=
  bif (decide ((IntKind.wrap .i64 (a1 + (1 : Int))) ≥ (a0.length : Int))) then
    some ((0 : Int), (0 : Int))
  else
    let x4 := IntKind.wrap .i64 (a1 + (1 : Int))
    bif inRange x4 a0.length then
    let x5 := ((a0.getD x4.toNat 0).toNat : Int)
    bif (x5 == (34 : Int)) then
      let x7 := IntKind.wrap .i64 (a1 + (1 : Int))
      bif inRange x7 a0.length then
      some (((a0.getD x7.toNat 0).toNat : Int), (2 : Int))
      else none
    else
      bif (x5 == (92 : Int)) then
        let x10 := IntKind.wrap .i64 (a1 + (1 : Int))
        bif inRange x10 a0.length then
        some (((a0.getD x10.toNat 0).toNat : Int), (2 : Int))
        else none
      else
        bif (x5 == (110 : Int)) then
          some ((10 : Int), (2 : Int))
        else
          bif (x5 == (116 : Int)) then
            some ((9 : Int), (2 : Int))
          else
            bif (x5 == (114 : Int)) then
              some ((13 : Int), (2 : Int))
            else
              let x15 := IntKind.wrap .i64 (a1 + (1 : Int))
              bif inRange x15 a0.length then
              let x21 := bif (((a0.getD x15.toNat 0).toNat : Int) != (120 : Int)) then true else (decide ((IntKind.wrap .i64 (a1 + (3 : Int))) ≥ (a0.length : Int)))
              let x22 := IntKind.wrap .i64 (a1 + (2 : Int))
              bif imp (!x21) (inRange x22 a0.length) then
              (bif !x21 then F154 fuel ((a0.getD x22.toNat 0).toNat : Int) else some 0).bind fun y24 =>
              let x26 := bif x21 then true else (decide (y24 < (0 : Int)))
              let x27 := IntKind.wrap .i64 (a1 + (3 : Int))
              bif imp (!x26) (inRange x27 a0.length) then
              (bif !x26 then F154 fuel ((a0.getD x27.toNat 0).toNat : Int) else some 0).bind fun y29 =>
              bif (bif x26 then true else (decide (y29 < (0 : Int)))) then
                some ((0 : Int), (0 : Int))
              else
                let x32 := IntKind.wrap .i64 (a1 + (2 : Int))
                bif inRange x32 a0.length then
                (F154 fuel ((a0.getD x32.toNat 0).toNat : Int)).bind fun y34 =>
                let x36 := IntKind.wrap .i64 (a1 + (3 : Int))
                bif inRange x36 a0.length then
                (F154 fuel ((a0.getD x36.toNat 0).toNat : Int)).bind fun y38 =>
                some ((IntKind.wrap .u8 (IntKind.wrap .i64 ((IntKind.wrap .i64 ((16 : Int) * y34)) + y38))), (4 : Int))
                else none
                else none
              else none
              else none
              else none
    else none

noncomputable def F155C (fuel : Nat) : Cfg := cfg Tryz.prog 69 0 [F154c fuel] [] fuel

noncomputable def F155c (fuel : Nat) : CallE := { f := 155, A := ⟨2, [], [.str, (.int .i64)]⟩, R := ⟨2, [], [(.int .u8), (.int .i64)]⟩, F := fun x => F155 fuel x.1 x.2, dflt := (0, 0) }

theorem F155k (fuel : Nat) : CallOk (F155C fuel) := cfg_callOk (callsC (F154ok fuel) <| callsN)

theorem F155ok (fuel : Nat) : (F155c fuel).Ok Tryz.prog := fun x y h => meets_of (F155k fuel) (f := 155) (fn := Tryz.f155) (c := bodyOf Tryz.f155) (by kernel_rfl) (by kernel_rfl) (by kernel_rfl) (by kernel_rfl) (loops0 (by kernel_rfl)) (A := (F155c fuel).A) (R := (F155c fuel).R) (F := (F155c fuel).F) (fun x => by kernel_rfl) (fun x => by kernel_rfl) x y h

noncomputable def S131_6 (fuel : Nat) (a6 : List UInt8) (a7 : List UInt8) (a8 : Int) : Option (((List UInt8) × (List UInt8) × Int) ⊕ (((List UInt8) × Int × Int) ⊕ (Unit))) :=
  bif (decide (a8 < (a6.length : Int))) then
    bif inRange a8 a6.length then
    bif (((a6.getD a8.toNat 0).toNat : Int) == (34 : Int)) then
      (F46 fuel a7).bind fun y13 =>
      let x14 := IntKind.wrap .i64 (a8 + (1 : Int))
      bif decide (0 ≤ (0 : Int) ∧ (0 : Int) ≤ x14 ∧ x14 ≤ (a6.length : Int)) then
      bif (!(y13 == ((a6.take x14.toNat).drop (0 : Int).toNat))) then
        some (.inr (.inl (([] : List UInt8), (0 : Int), (2 : Int))))
      else
        some (.inr (.inl (a7, (IntKind.wrap .i64 (a8 + (1 : Int))), (0 : Int))))
      else none
    else
      bif inRange a8 a6.length then
      bif (((a6.getD a8.toNat 0).toNat : Int) != (92 : Int)) then
        let x20 := IntKind.wrap .i64 (a8 + (1 : Int))
        bif decide (0 ≤ a8 ∧ a8 ≤ x20 ∧ x20 ≤ (a6.length : Int)) then
        let x21 := (a6.take x20.toNat).drop a8.toNat
        bif decide (a7.length + x21.length ≤ strMax) then
        some (.inl (a6, (a7 ++ x21), (IntKind.wrap .i64 (a8 + (1 : Int)))))
        else none
        else none
      else
        (F155 fuel a6 a8).bind fun y24 =>
        let x25 := y24.1
        let x26 := y24.2
        bif (x26 == (0 : Int)) then
          some (.inr (.inl (([] : List UInt8), (0 : Int), (2 : Int))))
        else
          bif decide (a7.length + ([(PV.int x25)].map byteOfPV).length ≤ strMax) then
          some (.inl (a6, (a7 ++ ([(PV.int x25)].map byteOfPV)), (IntKind.wrap .i64 (a8 + x26))))
          else none
      else none
    else none
  else
    some (.inr (.inr ()))

noncomputable def S131_6step (fuel : Nat) (x : (List UInt8) × (List UInt8) × Int) : Option (((List UInt8) × (List UInt8) × Int) ⊕ (((List UInt8) × Int × Int) ⊕ (Unit))) := S131_6 fuel x.1 x.2.1 x.2.2

/-- wireschema/wireschemaref03.Unquote -/
noncomputable def F131 (fuel : Nat) (a0 : List UInt8) : Option ((List UInt8) × Int × Int) :=
  let x2 := (a0.length : Int) == (0 : Int)
  bif imp (!x2) (inRange (0 : Int) a0.length) then
  bif (bif x2 then true else (((a0.getD (0 : Int).toNat 0).toNat : Int) != (34 : Int))) then
    some (([] : List UInt8), (0 : Int), (2 : Int))
  else
    (loopQ fuel (S131_6step fuel) (a0, ([] : List UInt8), (1 : Int))).bind fun z => sumE (fun y30 =>
      some (y30.1, y30.2.1, y30.2.2)
    ) (fun y31 =>
      some (([] : List UInt8), (0 : Int), (2 : Int))
    ) z
  else none

noncomputable def S131_6l (fuel : Nat) : LoopE := { key := 6, H := ⟨[0, 5, 6], [], [.str, .str, (.int .i64)]⟩, X := [(.ret, ⟨[2, 3, 4], [], [.str, (.int .i64), (.int .i64)]⟩), (.exit 0, ⟨[], [], []⟩)], step := S131_6step fuel }

noncomputable def F131C (fuel : Nat) : Cfg := cfg Tryz.prog 64 0 [F46c fuel, F155c fuel] [S131_6l fuel] fuel

noncomputable def F131c (fuel : Nat) : CallE := { f := 131, A := ⟨1, [], [.str]⟩, R := ⟨3, [], [.str, (.int .i64), (.int .i64)]⟩, F := fun x => F131 fuel x, dflt := ([], 0, 0) }

theorem F131k (fuel : Nat) : CallOk (F131C fuel) := cfg_callOk (callsC (F46ok fuel) <| callsC (F155ok fuel) <| callsN)

theorem S131_6ok (fuel : Nat) : LoopOk (F131C fuel) (lp (bodyOf Tryz.f131) 0) := loopOk_of (F131k fuel) fuel (S131_6l fuel) (loops0 (by kernel_rfl)) (by kernel_rfl) (fun x => by kernel_rfl) (fun R e st K => by kernel_rfl)

theorem F131ok (fuel : Nat) : (F131c fuel).Ok Tryz.prog := fun x y h => meets_of (F131k fuel) (f := 131) (fn := Tryz.f131) (c := bodyOf Tryz.f131) (by kernel_rfl) (by kernel_rfl) (by kernel_rfl) (by kernel_rfl) (loopsN 1 (by kernel_rfl) fun i hi => match i, hi with | 0, _ => S131_6ok fuel | n + 1, h => absurd h (by omega)) (A := (F131c fuel).A) (R := (F131c fuel).R) (F := (F131c fuel).F) (fun x => by kernel_rfl) (fun x => by kernel_rfl) x y h

noncomputable def S97_3 (fuel : Nat) (a1 : List UInt8) (a2 : Int) : Option (((List UInt8) × Int) ⊕ ((Int) ⊕ (Unit))) :=
  bif (decide (a2 < (a1.length : Int))) then
    (F77 fuel a1 a2).bind fun y5 =>
    bif (y5 == (0 : Int)) then
      some (.inr (.inl a2))
    else
      some (.inl (a1, (IntKind.wrap .i64 (a2 + y5))))
  else
    some (.inr (.inr ()))

noncomputable def S97_3step (fuel : Nat) (x : (List UInt8) × Int) : Option (((List UInt8) × Int) ⊕ ((Int) ⊕ (Unit))) := S97_3 fuel x.1 x.2

/-- wireschema/wireschemaref03.Bad -/
noncomputable def F97 (fuel : Nat) (a0 : List UInt8) : Option (Int) :=
  (loopQ fuel (S97_3step fuel) (a0, (0 : Int))).bind fun z => sumE (fun y8 =>
    some y8
  ) (fun y9 =>
    some (-1 : Int)
  ) z

noncomputable def S97_3l (fuel : Nat) : LoopE := { key := 3, H := ⟨[0, 3], [], [.str, (.int .i64)]⟩, X := [(.ret, ⟨[2], [], [(.int .i64)]⟩), (.exit 0, ⟨[], [], []⟩)], step := S97_3step fuel }

noncomputable def F97C (fuel : Nat) : Cfg := cfg Tryz.prog 18 0 [F77c fuel] [S97_3l fuel] fuel

noncomputable def F97c (fuel : Nat) : CallE := { f := 97, A := ⟨1, [], [.str]⟩, R := ⟨1, [], [(.int .i64)]⟩, F := fun x => F97 fuel x, dflt := 0 }

theorem F97k (fuel : Nat) : CallOk (F97C fuel) := cfg_callOk (callsC (F77ok fuel) <| callsN)

theorem S97_3ok (fuel : Nat) : LoopOk (F97C fuel) (lp (bodyOf Tryz.f97) 0) := loopOk_of (F97k fuel) fuel (S97_3l fuel) (loops0 (by kernel_rfl)) (by kernel_rfl) (fun x => by kernel_rfl) (fun R e st K => by kernel_rfl)

theorem F97ok (fuel : Nat) : (F97c fuel).Ok Tryz.prog := fun x y h => meets_of (F97k fuel) (f := 97) (fn := Tryz.f97) (c := bodyOf Tryz.f97) (by kernel_rfl) (by kernel_rfl) (by kernel_rfl) (by kernel_rfl) (loopsN 1 (by kernel_rfl) fun i hi => match i, hi with | 0, _ => S97_3ok fuel | n + 1, h => absurd h (by omega)) (A := (F97c fuel).A) (R := (F97c fuel).R) (F := (F97c fuel).F) (fun x => by kernel_rfl) (fun x => by kernel_rfl) x y h

/-- wireschema/wireschemaref03.Valid -/
noncomputable def F64 (fuel : Nat) (a0 : List UInt8) : Option (Bool) :=
  (F97 fuel a0).bind fun y1 =>
  some (decide (y1 < (0 : Int)))

noncomputable def F64C (fuel : Nat) : Cfg := cfg Tryz.prog 6 0 [F97c fuel] [] fuel

noncomputable def F64c (fuel : Nat) : CallE := { f := 64, A := ⟨1, [], [.str]⟩, R := ⟨1, [], [.bool]⟩, F := fun x => F64 fuel x, dflt := false }

theorem F64k (fuel : Nat) : CallOk (F64C fuel) := cfg_callOk (callsC (F97ok fuel) <| callsN)

theorem F64ok (fuel : Nat) : (F64c fuel).Ok Tryz.prog := fun x y h => meets_of (F64k fuel) (f := 64) (fn := Tryz.f64) (c := bodyOf Tryz.f64) (by kernel_rfl) (by kernel_rfl) (by kernel_rfl) (by kernel_rfl) (loops0 (by kernel_rfl)) (A := (F64c fuel).A) (R := (F64c fuel).R) (F := (F64c fuel).F) (fun x => by kernel_rfl) (fun x => by kernel_rfl) x y h

/-- wireschema/wireschemaref04.text -/
noncomputable def F95 (fuel : Nat) (a0 : Int) (a1 : List UInt8) : Option (PV × Int) :=
  (F131 fuel a1).bind fun y1 =>
  let x2 := y1.1
  bif (bif (y1.2.2 != (0 : Int)) then true else (y1.2.1 != (a1.length : Int))) then
    some ((PV.agg [(PV.int (0 : Int)), (PV.int (0 : Int)), (PV.str ([] : List UInt8)), (PV.slice []), (PV.slice []), (PV.slice []), (PV.slice [])]), (2 : Int))
  else
    bif (a0 == (8 : Int)) then
      (F130 fuel x2).bind fun y10 =>
      let x11 := y10.1
      bif (y10.2 != (0 : Int)) then
        some ((PV.agg [(PV.int (0 : Int)), (PV.int (0 : Int)), (PV.str ([] : List UInt8)), (PV.slice []), (PV.slice []), (PV.slice []), (PV.slice [])]), (2 : Int))
      else
        bif (decide ((x11.length : Int) > (4096 : Int))) then
          some ((PV.agg [(PV.int (0 : Int)), (PV.int (0 : Int)), (PV.str ([] : List UInt8)), (PV.slice []), (PV.slice []), (PV.slice []), (PV.slice [])]), (3 : Int))
        else
          some ((PV.agg [(PV.int a0), (PV.int (0 : Int)), (PV.str x11), (PV.slice []), (PV.slice []), (PV.slice []), (PV.slice [])]), (0 : Int))
    else
      (F64 fuel x2).bind fun y16 =>
      bif (!y16) then
        some ((PV.agg [(PV.int (0 : Int)), (PV.int (0 : Int)), (PV.str ([] : List UInt8)), (PV.slice []), (PV.slice []), (PV.slice []), (PV.slice [])]), (7 : Int))
      else
        bif (decide ((x2.length : Int) > (4096 : Int))) then
          some ((PV.agg [(PV.int (0 : Int)), (PV.int (0 : Int)), (PV.str ([] : List UInt8)), (PV.slice []), (PV.slice []), (PV.slice []), (PV.slice [])]), (3 : Int))
        else
          some ((PV.agg [(PV.int a0), (PV.int (0 : Int)), (PV.str x2), (PV.slice []), (PV.slice []), (PV.slice []), (PV.slice [])]), (0 : Int))

noncomputable def F95C (fuel : Nat) : Cfg := cfg Tryz.prog 45 0 [F131c fuel, F130c fuel, F64c fuel] [] fuel

noncomputable def F95c (fuel : Nat) : CallE := { f := 95, A := ⟨2, [], [(.int .i64), .str]⟩, R := ⟨2, [], [(.data 42), (.int .i64)]⟩, F := fun x => F95 fuel x.1 x.2, dflt := (PV.bad, 0) }

theorem F95k (fuel : Nat) : CallOk (F95C fuel) := cfg_callOk (callsC (F131ok fuel) <| callsC (F130ok fuel) <| callsC (F64ok fuel) <| callsN)

theorem F95ok (fuel : Nat) : (F95c fuel).Ok Tryz.prog := fun x y h => meets_of (F95k fuel) (f := 95) (fn := Tryz.f95) (c := bodyOf Tryz.f95) (by kernel_rfl) (by kernel_rfl) (by kernel_rfl) (by kernel_rfl) (loops0 (by kernel_rfl)) (A := (F95c fuel).A) (R := (F95c fuel).R) (F := (F95c fuel).F) (fun x => by kernel_rfl) (fun x => by kernel_rfl) x y h

noncomputable def S132_9 (fuel : Nat) (a13 : List UInt8) (a14 : Bool) (a15 : Int) (a16 : Bool) (a17 : Int) : Option (((List UInt8) × Bool × Int × Bool × Int) ⊕ ((Int × Bool × Int) ⊕ (Bool × Int × Bool))) :=
  bif (decide (a17 < (a13.length : Int))) then
    bif inRange a17 a13.length then
    let x21 := decide (((a13.getD a17.toNat 0).toNat : Int) < (48 : Int))
    bif imp (!x21) (inRange a17 a13.length) then
    bif (bif x21 then true else (decide (((a13.getD a17.toNat 0).toNat : Int) > (57 : Int)))) then
      some (.inr (.inl ((0 : Int), false, (2 : Int))))
    else
      bif inRange a17 a13.length then
      let x27 := IntKind.wrap .u64 (IntKind.wrap .u8 (((a13.getD a17.toNat 0).toNat : Int) - (48 : Int)))
      bif (decide (a15 > (IntKind.wrap .u64 ((IntKind.wrap .u64 ((18446744073709551615 : Int) - x27)).tdiv (10 : Int))))) then
        some (.inl (a13, a14, a15, true, (IntKind.wrap .i64 (a17 + (1 : Int)))))
      else
        bif (!a16) then
          some (.inl (a13, a14, (IntKind.wrap .u64 ((IntKind.wrap .u64 ((10 : Int) * a15)) + x27)), a16, (IntKind.wrap .i64 (a17 + (1 : Int)))))
        else
          some (.inl (a13, a14, a15, a16, (IntKind.wrap .i64 (a17 + (1 : Int)))))
      else none
    else none
    else none
  else
    some (.inr (.inr (a14, a15, a16)))

noncomputable def S132_9step (fuel : Nat) (x : (List UInt8) × Bool × Int × Bool × Int) : Option (((List UInt8) × Bool × Int × Bool × Int) ⊕ ((Int × Bool × Int) ⊕ (Bool × Int × Bool))) := S132_9 fuel x.1 x.2.1 x.2.2.1 x.2.2.2.1 x.2.2.2.2

/-- wireschema/wireschemaref04.number -/
noncomputable def F132 (fuel : Nat) (a0 : List UInt8) : Option (Int × Bool × Int) :=
  let x2 := decide ((a0.length : Int) > (0 : Int))
  bif imp x2 (inRange (0 : Int) a0.length) then
  bif (bif x2 then (((a0.getD (0 : Int).toNat 0).toNat : Int) == (45 : Int)) else false) then
    bif decide (0 ≤ (1 : Int) ∧ (1 : Int) ≤ (a0.length : Int) ∧ (a0.length : Int) ≤ (a0.length : Int)) then
    let x6 := (a0.take (a0.length : Int).toNat).drop (1 : Int).toNat
    let x7 := x6 == ([] : List UInt8)
    bif imp (!x7) (inRange (0 : Int) x6.length) then
    bif (bif x7 then true else (bif (((x6.getD (0 : Int).toNat 0).toNat : Int) == (48 : Int)) then (!(a0 == ([48] : List UInt8))) else false)) then
      some ((0 : Int), false, (2 : Int))
    else
      (loopQ fuel (S132_9step fuel) (x6, true, (0 : Int), false, (0 : Int))).bind fun z => sumE (fun y37 =>
        some (y37.1, y37.2.1, y37.2.2)
      ) (fun y38 =>
        bif y38.2.2 then
          some ((0 : Int), false, (6 : Int))
        else
          some (y38.2.1, y38.1, (0 : Int))
      ) z
    else none
    else none
  else
    let x42 := a0 == ([] : List UInt8)
    bif imp (!x42) (inRange (0 : Int) a0.length) then
    bif (bif x42 then true else (bif (((a0.getD (0 : Int).toNat 0).toNat : Int) == (48 : Int)) then (!(a0 == ([48] : List UInt8))) else false)) then
      some ((0 : Int), false, (2 : Int))
    else
      (loopQ fuel (S132_9step fuel) (a0, false, (0 : Int), false, (0 : Int))).bind fun z => sumE (fun y48 =>
        some (y48.1, y48.2.1, y48.2.2)
      ) (fun y49 =>
        bif y49.2.2 then
          some ((0 : Int), false, (6 : Int))
        else
          some (y49.2.1, y49.1, (0 : Int))
      ) z
    else none
  else none

noncomputable def S132_9l (fuel : Nat) : LoopE := { key := 9, H := ⟨[5, 6, 7, 8, 9], [], [.str, .bool, (.int .u64), .bool, (.int .i64)]⟩, X := [(.ret, ⟨[2, 3, 4], [], [(.int .u64), .bool, (.int .i64)]⟩), (.exit 0, ⟨[6, 7, 8], [], [.bool, (.int .u64), .bool]⟩)], step := S132_9step fuel }

noncomputable def F132C (fuel : Nat) : Cfg := cfg Tryz.prog 68 0 [] [S132_9l fuel] fuel

noncomputable def F132c (fuel : Nat) : CallE := { f := 132, A := ⟨1, [], [.str]⟩, R := ⟨3, [], [(.int .u64), .bool, (.int .i64)]⟩, F := fun x => F132 fuel x, dflt := (0, false, 0) }

theorem F132k (fuel : Nat) : CallOk (F132C fuel) := cfg_callOk (callsN)

theorem S132_9ok (fuel : Nat) : LoopOk (F132C fuel) (lp (bodyOf Tryz.f132) 0) := loopOk_of (F132k fuel) fuel (S132_9l fuel) (loops0 (by kernel_rfl)) (by kernel_rfl) (fun x => by kernel_rfl) (fun R e st K => by kernel_rfl)

theorem F132ok (fuel : Nat) : (F132c fuel).Ok Tryz.prog := fun x y h => meets_of (F132k fuel) (f := 132) (fn := Tryz.f132) (c := bodyOf Tryz.f132) (by kernel_rfl) (by kernel_rfl) (by kernel_rfl) (by kernel_rfl) (loopsN 1 (by kernel_rfl) fun i hi => match i, hi with | 0, _ => S132_9ok fuel | n + 1, h => absurd h (by omega)) (A := (F132c fuel).A) (R := (F132c fuel).R) (F := (F132c fuel).F) (fun x => by kernel_rfl) (fun x => by kernel_rfl) x y h

/-- wireschema/wireschemaref04.signed -/
noncomputable def F133 (fuel : Nat) (a0 : Int) : Option (Bool) :=
  some (bif (a0 == (2 : Int)) then true else (a0 == (3 : Int)))

noncomputable def F133C (fuel : Nat) : Cfg := cfg Tryz.prog 9 0 [] [] fuel

noncomputable def F133c (fuel : Nat) : CallE := { f := 133, A := ⟨1, [], [(.int .i64)]⟩, R := ⟨1, [], [.bool]⟩, F := fun x => F133 fuel x, dflt := false }

theorem F133k (fuel : Nat) : CallOk (F133C fuel) := cfg_callOk (callsN)

theorem F133ok (fuel : Nat) : (F133c fuel).Ok Tryz.prog := fun x y h => meets_of (F133k fuel) (f := 133) (fn := Tryz.f133) (c := bodyOf Tryz.f133) (by kernel_rfl) (by kernel_rfl) (by kernel_rfl) (by kernel_rfl) (loops0 (by kernel_rfl)) (A := (F133c fuel).A) (R := (F133c fuel).R) (F := (F133c fuel).F) (fun x => by kernel_rfl) (fun x => by kernel_rfl) x y h

/-- wireschema/wireschemaref04.lone -/
noncomputable def F62 (fuel : Nat) (a0 : PV) : Option (Bool) :=
  some (bif (bif (bif ((((a0.fld 3).asList).length : Int) == (0 : Int)) then ((((a0.fld 4).asList).length : Int) == (0 : Int)) else false) then ((((a0.fld 5).asList).length : Int) == (0 : Int)) else false) then ((((a0.fld 6).asList).length : Int) == (0 : Int)) else false)

noncomputable def F62C (fuel : Nat) : Cfg := cfg Tryz.prog 25 0 [] [] fuel

noncomputable def F62c (fuel : Nat) : CallE := { f := 62, A := ⟨1, [], [(.data 42)]⟩, R := ⟨1, [], [.bool]⟩, F := fun x => F62 fuel x, dflt := false }

theorem F62k (fuel : Nat) : CallOk (F62C fuel) := cfg_callOk (callsN)

theorem F62ok (fuel : Nat) : (F62c fuel).Ok Tryz.prog := fun x y h => meets_of (F62k fuel) (f := 62) (fn := Tryz.f62) (c := bodyOf Tryz.f62) (by kernel_rfl) (by kernel_rfl) (by kernel_rfl) (by kernel_rfl) (loops0 (by kernel_rfl)) (A := (F62c fuel).A) (R := (F62c fuel).R) (F := (F62c fuel).F) (fun x => by kernel_rfl) (fun x => by kernel_rfl) x y h

/-- wireschema/wireschemaref04.texts -/
noncomputable def F63 (fuel : Nat) (a0 : Int) : Option (Bool) :=
  some (bif (a0 == (7 : Int)) then true else (a0 == (8 : Int)))

noncomputable def F63C (fuel : Nat) : Cfg := cfg Tryz.prog 9 0 [] [] fuel

noncomputable def F63c (fuel : Nat) : CallE := { f := 63, A := ⟨1, [], [(.int .i64)]⟩, R := ⟨1, [], [.bool]⟩, F := fun x => F63 fuel x, dflt := false }

theorem F63k (fuel : Nat) : CallOk (F63C fuel) := cfg_callOk (callsN)

theorem F63ok (fuel : Nat) : (F63c fuel).Ok Tryz.prog := fun x y h => meets_of (F63k fuel) (f := 63) (fn := Tryz.f63) (c := bodyOf Tryz.f63) (by kernel_rfl) (by kernel_rfl) (by kernel_rfl) (by kernel_rfl) (loops0 (by kernel_rfl)) (A := (F63c fuel).A) (R := (F63c fuel).R) (F := (F63c fuel).F) (fun x => by kernel_rfl) (fun x => by kernel_rfl) x y h

/-- wireschema/wireschemaref04.Fits -/
noncomputable def F32 (fuel : Nat) (a0 : Int) (a1 : PV) : Option (Bool) :=
  (F61 fuel a0).bind fun y1 =>
  let x5 := bif (!y1) then true else (((a1.fld 0).asInt) != a0)
  (bif !x5 then F62 fuel a1 else some false).bind fun y6 =>
  bif (bif x5 then true else (!y6)) then
    some false
  else
    (F63 fuel a0).bind fun y9 =>
    bif y9 then
      let x15 := bif (((a1.fld 1).asInt) == (0 : Int)) then (decide ((((a1.fld 2).asStr).length : Int) ≤ (4096 : Int))) else false
      let x16 := a0 == (8 : Int)
      (bif bif !x16 then x15 else false then F64 fuel ((a1.fld 2).asStr) else some false).bind fun y18 =>
      some (bif x15 then (bif x16 then true else y18) else false)
    else
      bif (!(((a1.fld 2).asStr) == ([] : List UInt8))) then
        some false
      else
        bif (a0 == (1 : Int)) then
          some (decide (((a1.fld 1).asInt) ≤ (1 : Int)))
        else
          bif (a0 == (2 : Int)) then
            let x28 := IntKind.wrap .i64 ((a1.fld 1).asInt)
            some (bif (decide (x28 ≥ (-2147483648 : Int))) then (decide (x28 ≤ (2147483647 : Int))) else false)
          else
            bif (a0 == (4 : Int)) then
              some (decide (((a1.fld 1).asInt) < (4294967296 : Int)))
            else
              bif (a0 == (9 : Int)) then
                some (decide (((a1.fld 1).asInt) < (2147483648 : Int)))
              else
                some true

noncomputable def F32C (fuel : Nat) : Cfg := cfg Tryz.prog 70 0 [F61c fuel, F62c fuel, F63c fuel, F64c fuel] [] fuel

noncomputable def F32c (fuel : Nat) : CallE := { f := 32, A := ⟨2, [], [(.int .i64), (.data 42)]⟩, R := ⟨1, [], [.bool]⟩, F := fun x => F32 fuel x.1 x.2, dflt := false }

theorem F32k (fuel : Nat) : CallOk (F32C fuel) := cfg_callOk (callsC (F61ok fuel) <| callsC (F62ok fuel) <| callsC (F63ok fuel) <| callsC (F64ok fuel) <| callsN)

theorem F32ok (fuel : Nat) : (F32c fuel).Ok Tryz.prog := fun x y h => meets_of (F32k fuel) (f := 32) (fn := Tryz.f32) (c := bodyOf Tryz.f32) (by kernel_rfl) (by kernel_rfl) (by kernel_rfl) (by kernel_rfl) (loops0 (by kernel_rfl)) (A := (F32c fuel).A) (R := (F32c fuel).R) (F := (F32c fuel).F) (fun x => by kernel_rfl) (fun x => by kernel_rfl) x y h

/-- wireschema/wireschemaref04.whole -/
noncomputable def F96 (fuel : Nat) (a0 : Int) (a1 : List UInt8) : Option (PV × Int) :=
  (F132 fuel a1).bind fun y1 =>
  let x2 := y1.1
  let x3 := y1.2.1
  let x4 := y1.2.2
  bif (x4 != (0 : Int)) then
    some ((PV.agg [(PV.int (0 : Int)), (PV.int (0 : Int)), (PV.str ([] : List UInt8)), (PV.slice []), (PV.slice []), (PV.slice []), (PV.slice [])]), x4)
  else
    (bif x3 then F133 fuel a0 else some false).bind fun y6 =>
    let x10 := bif x3 then (bif (!y6) then true else (decide (x2 > (9223372036854775808 : Int)))) else false
    let x11 := !x3
    (bif bif x11 then !x10 else false then F133 fuel a0 else some false).bind fun y12 =>
    bif (bif x10 then true else (bif (bif x11 then y12 else false) then (decide (x2 ≥ (9223372036854775808 : Int))) else false)) then
      some ((PV.agg [(PV.int (0 : Int)), (PV.int (0 : Int)), (PV.str ([] : List UInt8)), (PV.slice []), (PV.slice []), (PV.slice []), (PV.slice [])]), (6 : Int))
    else
      bif x3 then
        let x17 := IntKind.wrap .u64 (0 - x2)
        (F32 fuel a0 (PV.agg [(PV.int a0), (PV.int x17), (PV.str ([] : List UInt8)), (PV.slice []), (PV.slice []), (PV.slice []), (PV.slice [])])).bind fun y18 =>
        bif (!y18) then
          some ((PV.agg [(PV.int (0 : Int)), (PV.int (0 : Int)), (PV.str ([] : List UInt8)), (PV.slice []), (PV.slice []), (PV.slice []), (PV.slice [])]), (6 : Int))
        else
          some ((PV.agg [(PV.int a0), (PV.int x17), (PV.str ([] : List UInt8)), (PV.slice []), (PV.slice []), (PV.slice []), (PV.slice [])]), (0 : Int))
      else
        (F32 fuel a0 (PV.agg [(PV.int a0), (PV.int x2), (PV.str ([] : List UInt8)), (PV.slice []), (PV.slice []), (PV.slice []), (PV.slice [])])).bind fun y20 =>
        bif (!y20) then
          some ((PV.agg [(PV.int (0 : Int)), (PV.int (0 : Int)), (PV.str ([] : List UInt8)), (PV.slice []), (PV.slice []), (PV.slice []), (PV.slice [])]), (6 : Int))
        else
          some ((PV.agg [(PV.int a0), (PV.int x2), (PV.str ([] : List UInt8)), (PV.slice []), (PV.slice []), (PV.slice []), (PV.slice [])]), (0 : Int))

noncomputable def F96C (fuel : Nat) : Cfg := cfg Tryz.prog 56 0 [F132c fuel, F133c fuel, F32c fuel] [] fuel

noncomputable def F96c (fuel : Nat) : CallE := { f := 96, A := ⟨2, [], [(.int .i64), .str]⟩, R := ⟨2, [], [(.data 42), (.int .i64)]⟩, F := fun x => F96 fuel x.1 x.2, dflt := (PV.bad, 0) }

theorem F96k (fuel : Nat) : CallOk (F96C fuel) := cfg_callOk (callsC (F132ok fuel) <| callsC (F133ok fuel) <| callsC (F32ok fuel) <| callsN)

theorem F96ok (fuel : Nat) : (F96c fuel).Ok Tryz.prog := fun x y h => meets_of (F96k fuel) (f := 96) (fn := Tryz.f96) (c := bodyOf Tryz.f96) (by kernel_rfl) (by kernel_rfl) (by kernel_rfl) (by kernel_rfl) (loops0 (by kernel_rfl)) (A := (F96c fuel).A) (R := (F96c fuel).R) (F := (F96c fuel).F) (fun x => by kernel_rfl) (fun x => by kernel_rfl) x y h

/-- wireschema/wireschemaref04.Parse -/
noncomputable def F59 (fuel : Nat) (a0 : Int) (a1 : List UInt8) : Option (PV × Int) :=
  (F61 fuel a0).bind fun y1 =>
  bif (!y1) then
    some ((PV.agg [(PV.int (0 : Int)), (PV.int (0 : Int)), (PV.str ([] : List UInt8)), (PV.slice []), (PV.slice []), (PV.slice []), (PV.slice [])]), (1 : Int))
  else
    bif (a0 == (1 : Int)) then
      bif (bif (!(a1 == ([116, 114, 117, 101] : List UInt8))) then (!(a1 == ([102, 97, 108, 115, 101] : List UInt8))) else false) then
        some ((PV.agg [(PV.int (0 : Int)), (PV.int (0 : Int)), (PV.str ([] : List UInt8)), (PV.slice []), (PV.slice []), (PV.slice []), (PV.slice [])]), (2 : Int))
      else
        bif (a1 == ([116, 114, 117, 101] : List UInt8)) then
          some ((PV.agg [(PV.int a0), (PV.int (1 : Int)), (PV.str ([] : List UInt8)), (PV.slice []), (PV.slice []), (PV.slice []), (PV.slice [])]), (0 : Int))
        else
          some ((PV.agg [(PV.int a0), (PV.int (0 : Int)), (PV.str ([] : List UInt8)), (PV.slice []), (PV.slice []), (PV.slice []), (PV.slice [])]), (0 : Int))
    else
      bif (a0 == (6 : Int)) then
        (F94 fuel a1).bind fun y9 =>
        some (y9.1, y9.2)
      else
        bif (a0 == (7 : Int)) then
          (F95 fuel a0 a1).bind fun y13 =>
          some (y13.1, y13.2)
        else
          bif (a0 == (8 : Int)) then
            let x17 := a1 == ([] : List UInt8)
            bif imp (!x17) (inRange (0 : Int) a1.length) then
            bif (bif x17 then true else (((a1.getD (0 : Int).toNat 0).toNat : Int) != (120 : Int))) then
              some ((PV.agg [(PV.int (0 : Int)), (PV.int (0 : Int)), (PV.str ([] : List UInt8)), (PV.slice []), (PV.slice []), (PV.slice []), (PV.slice [])]), (2 : Int))
            else
              bif decide (0 ≤ (1 : Int) ∧ (1 : Int) ≤ (a1.length : Int) ∧ (a1.length : Int) ≤ (a1.length : Int)) then
              (F95 fuel a0 ((a1.take (a1.length : Int).toNat).drop (1 : Int).toNat)).bind fun y22 =>
              some (y22.1, y22.2)
              else none
            else none
          else
            (F96 fuel a0 a1).bind fun y25 =>
            some (y25.1, y25.2)

noncomputable def F59C (fuel : Nat) : Cfg := cfg Tryz.prog 60 0 [F61c fuel, F94c fuel, F95c fuel, F96c fuel] [] fuel

noncomputable def F59c (fuel : Nat) : CallE := { f := 59, A := ⟨2, [], [(.int .i64), .str]⟩, R := ⟨2, [], [(.data 42), (.int .i64)]⟩, F := fun x => F59 fuel x.1 x.2, dflt := (PV.bad, 0) }

theorem F59k (fuel : Nat) : CallOk (F59C fuel) := cfg_callOk (callsC (F61ok fuel) <| callsC (F94ok fuel) <| callsC (F95ok fuel) <| callsC (F96ok fuel) <| callsN)

theorem F59ok (fuel : Nat) : (F59c fuel).Ok Tryz.prog := fun x y h => meets_of (F59k fuel) (f := 59) (fn := Tryz.f59) (c := bodyOf Tryz.f59) (by kernel_rfl) (by kernel_rfl) (by kernel_rfl) (by kernel_rfl) (loops0 (by kernel_rfl)) (A := (F59c fuel).A) (R := (F59c fuel).R) (F := (F59c fuel).F) (fun x => by kernel_rfl) (fun x => by kernel_rfl) x y h

/-- wireschema/wireschemaref08.number -/
noncomputable def F31 (fuel : Nat) (a0 : List PV) (a1 : Int) (a2 : Int) : Option (PV × Int × Int) :=
  (F16 fuel a0 a1 ([45] : List UInt8)).bind fun y1 =>
  bif y1 then
    let x2 := IntKind.wrap .i64 (a1 + (1 : Int))
    let x4 := decide (x2 ≥ (a0.length : Int))
    bif imp (!x4) (inRange x2 a0.length) then
    bif (bif x4 then true else (((a0.getD x2.toNat .bad).fld 0).asInt != (2 : Int))) then
      some ((PV.agg [(PV.int (0 : Int)), (PV.int (0 : Int)), (PV.str ([] : List UInt8)), (PV.slice []), (PV.slice []), (PV.slice []), (PV.slice [])]), x2, (2 : Int))
    else
      bif inRange x2 a0.length then
      (F60 fuel (IntKind.wrap .u64 ((a0.getD x2.toNat .bad).fld 2).asInt)).bind fun y14 =>
      bif decide (([45] : List UInt8).length + y14.length ≤ strMax) then
      (F59 fuel a2 (([45] : List UInt8) ++ y14)).bind fun y15 =>
      let x17 := y15.2
      bif (x17 != (0 : Int)) then
        some ((PV.agg [(PV.int (0 : Int)), (PV.int (0 : Int)), (PV.str ([] : List UInt8)), (PV.slice []), (PV.slice []), (PV.slice []), (PV.slice [])]), x2, x17)
      else
        some (y15.1, (IntKind.wrap .i64 (x2 + (1 : Int))), (0 : Int))
      else none
      else none
    else none
  else
    let x21 := decide (a1 ≥ (a0.length : Int))
    bif imp (!x21) (inRange a1 a0.length) then
    bif (bif x21 then true else (((a0.getD a1.toNat .bad).fld 0).asInt != (2 : Int))) then
      some ((PV.agg [(PV.int (0 : Int)), (PV.int (0 : Int)), (PV.str ([] : List UInt8)), (PV.slice []), (PV.slice []), (PV.slice []), (PV.slice [])]), a1, (2 : Int))
    else
      bif inRange a1 a0.length then
      (F60 fuel (IntKind.wrap .u64 ((a0.getD a1.toNat .bad).fld 2).asInt)).bind fun y31 =>
      bif decide (([] : List UInt8).length + y31.length ≤ strMax) then
      (F59 fuel a2 (([] : List UInt8) ++ y31)).bind fun y32 =>
      let x34 := y32.2
      bif (x34 != (0 : Int)) then
        some ((PV.agg [(PV.int (0 : Int)), (PV.int (0 : Int)), (PV.str ([] : List UInt8)), (PV.slice []), (PV.slice []), (PV.slice []), (PV.slice [])]), a1, x34)
      else
        some (y32.1, (IntKind.wrap .i64 (a1 + (1 : Int))), (0 : Int))
      else none
      else none
    else none

noncomputable def F31C (fuel : Nat) : Cfg := cfg Tryz.prog 53 0 [F16c fuel, F60c fuel, F59c fuel] [] fuel

noncomputable def F31c (fuel : Nat) : CallE := { f := 31, A := ⟨3, [], [(.slice 34), (.int .i64), (.int .i64)]⟩, R := ⟨3, [], [(.data 42), (.int .i64), (.int .i64)]⟩, F := fun x => F31 fuel x.1 x.2.1 x.2.2, dflt := (PV.bad, 0, 0) }

theorem F31k (fuel : Nat) : CallOk (F31C fuel) := cfg_callOk (callsC (F16ok fuel) <| callsC (F60ok fuel) <| callsC (F59ok fuel) <| callsN)

theorem F31ok (fuel : Nat) : (F31c fuel).Ok Tryz.prog := fun x y h => meets_of (F31k fuel) (f := 31) (fn := Tryz.f31) (c := bodyOf Tryz.f31) (by kernel_rfl) (by kernel_rfl) (by kernel_rfl) (by kernel_rfl) (loops0 (by kernel_rfl)) (A := (F31c fuel).A) (R := (F31c fuel).R) (F := (F31c fuel).F) (fun x => by kernel_rfl) (fun x => by kernel_rfl) x y h

/-- wireschema/wireschemaref08.value -/
noncomputable def F18 (fuel : Nat) (a0 : List PV) (a1 : Int) (a2 : Int) : Option (PV × Int × Int) :=
  bif (bif (a2 == (4 : Int)) then true else (a2 == (3 : Int))) then
    (F31 fuel a0 a1 a2).bind fun y4 =>
    some (y4.1, y4.2.1, y4.2.2)
  else
    bif (decide (a1 ≥ (a0.length : Int))) then
      some ((PV.agg [(PV.int (0 : Int)), (PV.int (0 : Int)), (PV.str ([] : List UInt8)), (PV.slice []), (PV.slice []), (PV.slice []), (PV.slice [])]), a1, (2 : Int))
    else
      bif (a2 == (1 : Int)) then
        bif inRange a1 a0.length then
        let x14 := ((a0.getD a1.toNat .bad).fld 0).asInt != (1 : Int)
        bif imp (!x14) (inRange a1 a0.length) then
        let x18 := !(((a0.getD a1.toNat .bad).fld 1).asStr == ([116, 114, 117, 101] : List UInt8))
        bif imp (bif x18 then !x14 else false) (inRange a1 a0.length) then
        bif (bif x14 then true else (bif x18 then (!(((a0.getD a1.toNat .bad).fld 1).asStr == ([102, 97, 108, 115, 101] : List UInt8))) else false)) then
          some ((PV.agg [(PV.int (0 : Int)), (PV.int (0 : Int)), (PV.str ([] : List UInt8)), (PV.slice []), (PV.slice []), (PV.slice []), (PV.slice [])]), a1, (2 : Int))
        else
          bif inRange a1 a0.length then
          bif (((a0.getD a1.toNat .bad).fld 1).asStr == ([116, 114, 117, 101] : List UInt8)) then
            some ((PV.agg [(PV.int a2), (PV.int (1 : Int)), (PV.str ([] : List UInt8)), (PV.slice []), (PV.slice []), (PV.slice []), (PV.slice [])]), (IntKind.wrap .i64 (a1 + (1 : Int))), (0 : Int))
          else
            some ((PV.agg [(PV.int a2), (PV.int (0 : Int)), (PV.str ([] : List UInt8)), (PV.slice []), (PV.slice []), (PV.slice []), (PV.slice [])]), (IntKind.wrap .i64 (a1 + (1 : Int))), (0 : Int))
          else none
        else none
        else none
        else none
      else
        bif inRange a1 a0.length then
        bif (((a0.getD a1.toNat .bad).fld 0).asInt != (3 : Int)) then
          some ((PV.agg [(PV.int (0 : Int)), (PV.int (0 : Int)), (PV.str ([] : List UInt8)), (PV.slice []), (PV.slice []), (PV.slice []), (PV.slice [])]), a1, (2 : Int))
        else
          bif inRange a1 a0.length then
          let x37 := ((a0.getD a1.toNat .bad).fld 1).asStr
          bif (decide ((x37.length : Int) > (4096 : Int))) then
            some ((PV.agg [(PV.int (0 : Int)), (PV.int (0 : Int)), (PV.str ([] : List UInt8)), (PV.slice []), (PV.slice []), (PV.slice []), (PV.slice [])]), a1, (3 : Int))
          else
            (F32 fuel a2 (PV.agg [(PV.int a2), (PV.int (0 : Int)), (PV.str x37), (PV.slice []), (PV.slice []), (PV.slice []), (PV.slice [])])).bind fun y40 =>
            bif (!y40) then
              some ((PV.agg [(PV.int (0 : Int)), (PV.int (0 : Int)), (PV.str ([] : List UInt8)), (PV.slice []), (PV.slice []), (PV.slice []), (PV.slice [])]), a1, (7 : Int))
            else
              some ((PV.agg [(PV.int a2), (PV.int (0 : Int)), (PV.str x37), (PV.slice []), (PV.slice []), (PV.slice []), (PV.slice [])]), (IntKind.wrap .i64 (a1 + (1 : Int))), (0 : Int))
          else none
        else none

noncomputable def F18C (fuel : Nat) : Cfg := cfg Tryz.prog 98 0 [F31c fuel, F32c fuel] [] fuel

noncomputable def F18c (fuel : Nat) : CallE := { f := 18, A := ⟨3, [], [(.slice 34), (.int .i64), (.int .i64)]⟩, R := ⟨3, [], [(.data 42), (.int .i64), (.int .i64)]⟩, F := fun x => F18 fuel x.1 x.2.1 x.2.2, dflt := (PV.bad, 0, 0) }

theorem F18k (fuel : Nat) : CallOk (F18C fuel) := cfg_callOk (callsC (F31ok fuel) <| callsC (F32ok fuel) <| callsN)

theorem F18ok (fuel : Nat) : (F18c fuel).Ok Tryz.prog := fun x y h => meets_of (F18k fuel) (f := 18) (fn := Tryz.f18) (c := bodyOf Tryz.f18) (by kernel_rfl) (by kernel_rfl) (by kernel_rfl) (by kernel_rfl) (loops0 (by kernel_rfl)) (A := (F18c fuel).A) (R := (F18c fuel).R) (F := (F18c fuel).F) (fun x => by kernel_rfl) (fun x => by kernel_rfl) x y h

noncomputable def S7_6 (fuel : Nat) (a4 : List PV) (a5 : Int) (a6 : List PV) : Option (((List PV) × Int × (List PV)) ⊕ (((List PV) × Int × Int))) :=
  let x8 := decide (a5 ≥ (a4.length : Int))
  bif imp (!x8) (inRange a5 a4.length) then
  bif (bif x8 then true else (((a4.getD a5.toNat .bad).fld 0).asInt != (1 : Int))) then
    some (.inr ([], a5, (2 : Int)))
  else
    bif inRange a5 a4.length then
    let x16 := ((a4.getD a5.toNat .bad).fld 1).asStr
    (F17 fuel x16).bind fun y17 =>
    bif (y17 == (0 : Int)) then
      some (.inr ([], a5, (8 : Int)))
    else
      let x19 := IntKind.wrap .i64 (a5 + (1 : Int))
      (F16 fuel a4 x19 ([61] : List UInt8)).bind fun y20 =>
      bif (!y20) then
        some (.inr ([], x19, (2 : Int)))
      else
        (F18 fuel a4 (IntKind.wrap .i64 (x19 + (1 : Int))) y17).bind fun y23 =>
        let x24 := y23.1
        let x25 := y23.2.1
        let x26 := y23.2.2
        bif (x26 != (0 : Int)) then
          some (.inr ([], x25, x26))
        else
          bif decide (a6.length + [(PV.agg [(PV.str x16), x24])].length ≤ accMax) then
          let x28 := a6 ++ [(PV.agg [(PV.str x16), x24])]
          (F16 fuel a4 x25 ([93] : List UInt8)).bind fun y29 =>
          bif y29 then
            some (.inr (x28, (IntKind.wrap .i64 (x25 + (1 : Int))), (0 : Int)))
          else
            (F16 fuel a4 x25 ([44] : List UInt8)).bind fun y31 =>
            bif (!y31) then
              some (.inr ([], x25, (2 : Int)))
            else
              some (.inl (a4, (IntKind.wrap .i64 (x25 + (1 : Int))), x28))
          else none
    else none
  else none

noncomputable def S7_6step (fuel : Nat) (x : (List PV) × Int × (List PV)) : Option (((List PV) × Int × (List PV)) ⊕ (((List PV) × Int × Int))) := S7_6 fuel x.1 x.2.1 x.2.2

/-- wireschema/wireschemaref08.Read -/
noncomputable def F7 (fuel : Nat) (a0 : List PV) (a1 : Int) : Option ((List PV) × Int × Int) :=
  (F16 fuel a0 a1 ([91] : List UInt8)).bind fun y1 =>
  bif (!y1) then
    some ([], a1, (0 : Int))
  else
    (loopQ fuel (S7_6step fuel) (a0, (IntKind.wrap .i64 (a1 + (1 : Int))), [])).bind fun y34 =>
    some (y34.1, y34.2.1, y34.2.2)

noncomputable def S7_6l (fuel : Nat) : LoopE := { key := 6, H := ⟨[0, 1, 7], [.acc], [(.slice 34), (.int .i64), (.acc 0 44)]⟩, X := [(.ret, ⟨[4, 5, 6], [.acc], [(.slice 44), (.int .i64), (.int .i64)]⟩)], step := S7_6step fuel }

noncomputable def F7C (fuel : Nat) : Cfg := cfg Tryz.prog 85 0 [F16c fuel, F17c fuel, F18c fuel] [S7_6l fuel] fuel

noncomputable def F7c (fuel : Nat) : CallE := { f := 7, A := ⟨2, [], [(.slice 34), (.int .i64)]⟩, R := ⟨3, [], [(.slice 44), (.int .i64), (.int .i64)]⟩, F := fun x => F7 fuel x.1 x.2, dflt := ([], 0, 0) }

theorem F7k (fuel : Nat) : CallOk (F7C fuel) := cfg_callOk (callsC (F16ok fuel) <| callsC (F17ok fuel) <| callsC (F18ok fuel) <| callsN)

theorem S7_6ok (fuel : Nat) : LoopOk (F7C fuel) (lp (bodyOf Tryz.f7) 0) := loopOk_of (F7k fuel) fuel (S7_6l fuel) (loops0 (by kernel_rfl)) (by kernel_rfl) (fun x => by kernel_rfl) (fun R e st K => by kernel_rfl)

theorem F7ok (fuel : Nat) : (F7c fuel).Ok Tryz.prog := fun x y h => meets_of (F7k fuel) (f := 7) (fn := Tryz.f7) (c := bodyOf Tryz.f7) (by kernel_rfl) (by kernel_rfl) (by kernel_rfl) (by kernel_rfl) (loopsN 1 (by kernel_rfl) fun i hi => match i, hi with | 0, _ => S7_6ok fuel | n + 1, h => absurd h (by omega)) (A := (F7c fuel).A) (R := (F7c fuel).R) (F := (F7c fuel).F) (fun x => by kernel_rfl) (fun x => by kernel_rfl) x y h

noncomputable def S8_5 (fuel : Nat) (a4 : List PV) (a5 : List PV) (a6 : Int) : Option (((List PV) × (List PV) × Int) ⊕ ((Bool) ⊕ (Unit))) :=
  bif (decide (a6 < (a4.length : Int))) then
    bif inRange a6 a4.length then
    bif inRange a6 a5.length then
    let x15 := !(((a4.getD a6.toNat .bad).fld 0).asStr == ((a5.getD a6.toNat .bad).fld 0).asStr)
    bif imp (!x15) (inRange a6 a4.length) then
    bif imp (!x15) (inRange a6 a5.length) then
    let x25 := bif x15 then true else ((((a4.getD a6.toNat .bad).fld 1).fld 0).asInt != (((a5.getD a6.toNat .bad).fld 1).fld 0).asInt)
    bif imp (!x25) (inRange a6 a4.length) then
    bif imp (!x25) (inRange a6 a5.length) then
    let x35 := bif x25 then true else ((((a4.getD a6.toNat .bad).fld 1).fld 1).asInt != (((a5.getD a6.toNat .bad).fld 1).fld 1).asInt)
    bif imp (!x35) (inRange a6 a4.length) then
    bif imp (!x35) (inRange a6 a5.length) then
    bif (bif x35 then true else (!((((a4.getD a6.toNat .bad).fld 1).fld 2).asStr == (((a5.getD a6.toNat .bad).fld 1).fld 2).asStr))) then
      some (.inr (.inl false))
    else
      some (.inl (a4, a5, (IntKind.wrap .i64 (a6 + (1 : Int)))))
    else none
    else none
    else none
    else none
    else none
    else none
    else none
    else none
  else
    some (.inr (.inr ()))

noncomputable def S8_5step (fuel : Nat) (x : (List PV) × (List PV) × Int) : Option (((List PV) × (List PV) × Int) ⊕ ((Bool) ⊕ (Unit))) := S8_5 fuel x.1 x.2.1 x.2.2

/-- wireschema/wireschemaref08.Same -/
noncomputable def F8 (fuel : Nat) (a0 : List PV) (a1 : List PV) : Option (Bool) :=
  bif ((a0.length : Int) != (a1.length : Int)) then
    some false
  else
    (loopQ fuel (S8_5step fuel) (a0, a1, (0 : Int))).bind fun z => sumE (fun y47 =>
      some y47
    ) (fun y48 =>
      some true
    ) z

noncomputable def S8_5l (fuel : Nat) : LoopE := { key := 5, H := ⟨[0, 1, 5], [], [(.slice 44), (.slice 44), (.int .i64)]⟩, X := [(.ret, ⟨[4], [], [.bool]⟩), (.exit 0, ⟨[], [], []⟩)], step := S8_5step fuel }

noncomputable def F8C (fuel : Nat) : Cfg := cfg Tryz.prog 73 0 [] [S8_5l fuel] fuel

noncomputable def F8c (fuel : Nat) : CallE := { f := 8, A := ⟨2, [], [(.slice 44), (.slice 44)]⟩, R := ⟨1, [], [.bool]⟩, F := fun x => F8 fuel x.1 x.2, dflt := false }

theorem F8k (fuel : Nat) : CallOk (F8C fuel) := cfg_callOk (callsN)

theorem S8_5ok (fuel : Nat) : LoopOk (F8C fuel) (lp (bodyOf Tryz.f8) 0) := loopOk_of (F8k fuel) fuel (S8_5l fuel) (loops0 (by kernel_rfl)) (by kernel_rfl) (fun x => by kernel_rfl) (fun R e st K => by kernel_rfl)

theorem F8ok (fuel : Nat) : (F8c fuel).Ok Tryz.prog := fun x y h => meets_of (F8k fuel) (f := 8) (fn := Tryz.f8) (c := bodyOf Tryz.f8) (by kernel_rfl) (by kernel_rfl) (by kernel_rfl) (by kernel_rfl) (loopsN 1 (by kernel_rfl) fun i hi => match i, hi with | 0, _ => S8_5ok fuel | n + 1, h => absurd h (by omega)) (A := (F8c fuel).A) (R := (F8c fuel).R) (F := (F8c fuel).F) (fun x => by kernel_rfl) (fun x => by kernel_rfl) x y h

/-- wireschema/wireschemalaw08.NoteReads -/
noncomputable def F3 (fuel : Nat) (a0 : List PV) (a1 : Int) : Option (Bool) :=
  bif (decide ((a0.length : Int) > (500 : Int))) then
    (Lawake fuel).bind fun y3 =>
    some y3
  else
    (F6 fuel a0 a1).bind fun y4 =>
    (F7 fuel a0 a1).bind fun y8 =>
    (F8 fuel y4.1 y8.1).bind fun y12 =>
    let x16 := bif (bif y12 then (y4.2.1 == y8.2.1) else false) then (y4.2.2 == y8.2.2) else false
    (bif x16 then Lawake fuel else some false).bind fun y17 =>
    some (bif x16 then y17 else false)

noncomputable def F3C (fuel : Nat) : Cfg := cfg Tryz.prog 45 0 [Lawakec fuel, F6c fuel, F7c fuel, F8c fuel] [] fuel

noncomputable def F3c (fuel : Nat) : CallE := { f := 3, A := ⟨2, [], [(.slice 34), (.int .i64)]⟩, R := ⟨1, [], [.bool]⟩, F := fun x => F3 fuel x.1 x.2, dflt := false }

theorem F3k (fuel : Nat) : CallOk (F3C fuel) := cfg_callOk (callsC (Lawakeok fuel) <| callsC (F6ok fuel) <| callsC (F7ok fuel) <| callsC (F8ok fuel) <| callsN)

theorem F3ok (fuel : Nat) : (F3c fuel).Ok Tryz.prog := fun x y h => meets_of (F3k fuel) (f := 3) (fn := Tryz.f3) (c := bodyOf Tryz.f3) (by kernel_rfl) (by kernel_rfl) (by kernel_rfl) (by kernel_rfl) (loops0 (by kernel_rfl)) (A := (F3c fuel).A) (R := (F3c fuel).R) (F := (F3c fuel).F) (fun x => by kernel_rfl) (fun x => by kernel_rfl) x y h

/-- wireschema/wireschemaref08.Right -/
noncomputable def F22 (fuel : Nat) (a0 : PV) : Option (Bool) :=
  (F17 fuel ((a0.fld 0).asStr)).bind fun y2 =>
  let x6 := bif (y2 != (0 : Int)) then ((((a0.fld 1).fld 0).asInt) == y2) else false
  (bif x6 then F32 fuel y2 (a0.fld 1) else some false).bind fun y8 =>
  some (bif x6 then y8 else false)

noncomputable def F22C (fuel : Nat) : Cfg := cfg Tryz.prog 22 0 [F17c fuel, F32c fuel] [] fuel

noncomputable def F22c (fuel : Nat) : CallE := { f := 22, A := ⟨1, [], [(.data 44)]⟩, R := ⟨1, [], [.bool]⟩, F := fun x => F22 fuel x, dflt := false }

theorem F22k (fuel : Nat) : CallOk (F22C fuel) := cfg_callOk (callsC (F17ok fuel) <| callsC (F32ok fuel) <| callsN)

theorem F22ok (fuel : Nat) : (F22c fuel).Ok Tryz.prog := fun x y h => meets_of (F22k fuel) (f := 22) (fn := Tryz.f22) (c := bodyOf Tryz.f22) (by kernel_rfl) (by kernel_rfl) (by kernel_rfl) (by kernel_rfl) (loops0 (by kernel_rfl)) (A := (F22c fuel).A) (R := (F22c fuel).R) (F := (F22c fuel).F) (fun x => by kernel_rfl) (fun x => by kernel_rfl) x y h

noncomputable def S43_3 (fuel : Nat) (a4 : Int) (a5 : List UInt8) : Option ((Int × (List UInt8)) ⊕ (((List UInt8)))) :=
  bif (decide (a4 ≥ (10 : Int))) then
    let x7 := IntKind.wrap .u64 (a4.tdiv (10 : Int))
    let x10 := IntKind.wrap .u8 (IntKind.wrap .u64 ((48 : Int) + (x7.tmod (10 : Int))))
    bif decide (([(PV.int x10)].map byteOfPV).length + a5.length ≤ strMax) then
    some (.inl (x7, ([(PV.int x10)].map byteOfPV) ++ a5))
    else none
  else
    some (.inr a5)

noncomputable def S43_3step (fuel : Nat) (x : Int × (List UInt8)) : Option ((Int × (List UInt8)) ⊕ (((List UInt8)))) := S43_3 fuel x.1 x.2

/-- wireschema/wireschemaref04.decimal -/
noncomputable def F43 (fuel : Nat) (a0 : Int) : Option ((List UInt8)) :=
  (loopQ fuel (S43_3step fuel) (a0, [(PV.int (IntKind.wrap .u8 (IntKind.wrap .u64 ((48 : Int) + (a0.tmod (10 : Int))))))].map byteOfPV)).bind fun y11 =>
  some y11

noncomputable def S43_3l (fuel : Nat) : LoopE := { key := 3, H := ⟨[0, 3], [], [(.int .u64), .str]⟩, X := [(.exit 0, ⟨[3], [], [.str]⟩)], step := S43_3step fuel }

noncomputable def F43C (fuel : Nat) : Cfg := cfg Tryz.prog 23 0 [] [S43_3l fuel] fuel

noncomputable def F43c (fuel : Nat) : CallE := { f := 43, A := ⟨1, [], [(.int .u64)]⟩, R := ⟨1, [], [.str]⟩, F := fun x => F43 fuel x, dflt := [] }

theorem F43k (fuel : Nat) : CallOk (F43C fuel) := cfg_callOk (callsN)

theorem S43_3ok (fuel : Nat) : LoopOk (F43C fuel) (lp (bodyOf Tryz.f43) 0) := loopOk_of (F43k fuel) fuel (S43_3l fuel) (loops0 (by kernel_rfl)) (by kernel_rfl) (fun x => by kernel_rfl) (fun R e st K => by kernel_rfl)

theorem F43ok (fuel : Nat) : (F43c fuel).Ok Tryz.prog := fun x y h => meets_of (F43k fuel) (f := 43) (fn := Tryz.f43) (c := bodyOf Tryz.f43) (by kernel_rfl) (by kernel_rfl) (by kernel_rfl) (by kernel_rfl) (loopsN 1 (by kernel_rfl) fun i hi => match i, hi with | 0, _ => S43_3ok fuel | n + 1, h => absurd h (by omega)) (A := (F43c fuel).A) (R := (F43c fuel).R) (F := (F43c fuel).F) (fun x => by kernel_rfl) (fun x => by kernel_rfl) x y h

noncomputable def S47_4 (fuel : Nat) (a1 : List UInt8) (a2 : List UInt8) (a3 : Int) : Option (((List UInt8) × (List UInt8) × Int) ⊕ (((List UInt8)))) :=
  bif (decide (a3 < (a1.length : Int))) then
    bif inRange a3 a1.length then
    (F78 fuel ((a1.getD a3.toNat 0).toNat : Int)).bind fun y7 =>
    bif decide (a2.length + y7.length ≤ strMax) then
    some (.inl (a1, (a2 ++ y7), (IntKind.wrap .i64 (a3 + (1 : Int)))))
    else none
    else none
  else
    some (.inr a2)

noncomputable def S47_4step (fuel : Nat) (x : (List UInt8) × (List UInt8) × Int) : Option (((List UInt8) × (List UInt8) × Int) ⊕ (((List UInt8)))) := S47_4 fuel x.1 x.2.1 x.2.2

/-- wireschema/wireschemaref03.Hex -/
noncomputable def F47 (fuel : Nat) (a0 : List UInt8) : Option ((List UInt8)) :=
  (loopQ fuel (S47_4step fuel) (a0, ([] : List UInt8), (0 : Int))).bind fun y10 =>
  some y10

noncomputable def S47_4l (fuel : Nat) : LoopE := { key := 4, H := ⟨[0, 3, 4], [], [.str, .str, (.int .i64)]⟩, X := [(.exit 0, ⟨[3], [], [.str]⟩)], step := S47_4step fuel }

noncomputable def F47C (fuel : Nat) : Cfg := cfg Tryz.prog 18 0 [F78c fuel] [S47_4l fuel] fuel

noncomputable def F47c (fuel : Nat) : CallE := { f := 47, A := ⟨1, [], [.str]⟩, R := ⟨1, [], [.str]⟩, F := fun x => F47 fuel x, dflt := [] }

theorem F47k (fuel : Nat) : CallOk (F47C fuel) := cfg_callOk (callsC (F78ok fuel) <| callsN)

theorem S47_4ok (fuel : Nat) : LoopOk (F47C fuel) (lp (bodyOf Tryz.f47) 0) := loopOk_of (F47k fuel) fuel (S47_4l fuel) (loops0 (by kernel_rfl)) (by kernel_rfl) (fun x => by kernel_rfl) (fun R e st K => by kernel_rfl)

theorem F47ok (fuel : Nat) : (F47c fuel).Ok Tryz.prog := fun x y h => meets_of (F47k fuel) (f := 47) (fn := Tryz.f47) (c := bodyOf Tryz.f47) (by kernel_rfl) (by kernel_rfl) (by kernel_rfl) (by kernel_rfl) (loopsN 1 (by kernel_rfl) fun i hi => match i, hi with | 0, _ => S47_4ok fuel | n + 1, h => absurd h (by omega)) (A := (F47c fuel).A) (R := (F47c fuel).R) (F := (F47c fuel).F) (fun x => by kernel_rfl) (fun x => by kernel_rfl) x y h

noncomputable def S45_4 (fuel : Nat) (a1 : Int) (a2 : List PV) (a3 : Int) : Option ((Int × (List PV) × Int) ⊕ (((List PV)))) :=
  bif (decide (a3 < (8 : Int))) then
    none
  else
    some (.inr a2)

noncomputable def S45_4step (fuel : Nat) (x : Int × (List PV) × Int) : Option ((Int × (List PV) × Int) ⊕ (((List PV)))) := S45_4 fuel x.1 x.2.1 x.2.2

/-- wireschema/wireschemaref04.hex -/
noncomputable def F45 (fuel : Nat) (a0 : Int) : Option ((List UInt8)) :=
  (loopQ fuel (S45_4step fuel) (a0, [], (0 : Int))).bind fun y7 =>
  (F47 fuel (y7.map byteOfPV)).bind fun y9 =>
  some y9

noncomputable def S45_4l (fuel : Nat) : LoopE := { key := 4, H := ⟨[0, 3, 4], [.acc], [(.int .u64), (.acc 0 5), (.int .i64)]⟩, X := [(.exit 0, ⟨[3], [.acc], [(.acc 0 5)]⟩)], step := S45_4step fuel }

noncomputable def F45C (fuel : Nat) : Cfg := cfg Tryz.prog 20 0 [F47c fuel] [S45_4l fuel] fuel

noncomputable def F45c (fuel : Nat) : CallE := { f := 45, A := ⟨1, [], [(.int .u64)]⟩, R := ⟨1, [], [.str]⟩, F := fun x => F45 fuel x, dflt := [] }

theorem F45k (fuel : Nat) : CallOk (F45C fuel) := cfg_callOk (callsC (F47ok fuel) <| callsN)

theorem S45_4ok (fuel : Nat) : LoopOk (F45C fuel) (lp (bodyOf Tryz.f45) 0) := loopOk_of (F45k fuel) fuel (S45_4l fuel) (loops0 (by kernel_rfl)) (by kernel_rfl) (fun x => by kernel_rfl) (fun R e st K => by kernel_rfl)

theorem F45ok (fuel : Nat) : (F45c fuel).Ok Tryz.prog := fun x y h => meets_of (F45k fuel) (f := 45) (fn := Tryz.f45) (c := bodyOf Tryz.f45) (by kernel_rfl) (by kernel_rfl) (by kernel_rfl) (by kernel_rfl) (loopsN 1 (by kernel_rfl) fun i hi => match i, hi with | 0, _ => S45_4ok fuel | n + 1, h => absurd h (by omega)) (A := (F45c fuel).A) (R := (F45c fuel).R) (F := (F45c fuel).F) (fun x => by kernel_rfl) (fun x => by kernel_rfl) x y h

/-- wireschema/wireschemaref04.Text -/
noncomputable def F23 (fuel : Nat) (a0 : PV) : Option ((List UInt8)) :=
  (F32 fuel ((a0.fld 0).asInt) a0).bind fun y2 =>
  bif (!y2) then
    some ([] : List UInt8)
  else
    let x4 := (a0.fld 0).asInt
    bif (x4 == (1 : Int)) then
      bif (((a0.fld 1).asInt) == (1 : Int)) then
        some ([116, 114, 117, 101] : List UInt8)
      else
        some ([102, 97, 108, 115, 101] : List UInt8)
    else
      bif (x4 == (2 : Int)) then
        bif (decide (((a0.fld 1).asInt) ≥ (9223372036854775808 : Int))) then
          (F43 fuel (IntKind.wrap .u64 (0 - ((a0.fld 1).asInt)))).bind fun y13 =>
          bif decide (([45] : List UInt8).length + y13.length ≤ strMax) then
          some (([45] : List UInt8) ++ y13)
          else none
        else
          (F43 fuel ((a0.fld 1).asInt)).bind fun y15 =>
          some y15
      else
        bif (x4 == (3 : Int)) then
          bif (decide (((a0.fld 1).asInt) ≥ (9223372036854775808 : Int))) then
            (F43 fuel (IntKind.wrap .u64 (0 - ((a0.fld 1).asInt)))).bind fun y21 =>
            bif decide (([45] : List UInt8).length + y21.length ≤ strMax) then
            some (([45] : List UInt8) ++ y21)
            else none
          else
            (F43 fuel ((a0.fld 1).asInt)).bind fun y23 =>
            some y23
        else
          bif (x4 == (6 : Int)) then
            (F44 fuel ((a0.fld 1).asInt)).bind fun y26 =>
            bif (y26 == (0 : Int)) then
              some ([110, 97, 110] : List UInt8)
            else
              bif (y26 == (1 : Int)) then
                bif (decide (((a0.fld 1).asInt) ≥ (9223372036854775808 : Int))) then
                  some ([45, 105, 110, 102] : List UInt8)
                else
                  some ([105, 110, 102] : List UInt8)
              else
                (F45 fuel ((a0.fld 1).asInt)).bind fun y32 =>
                bif decide (([48, 120] : List UInt8).length + y32.length ≤ strMax) then
                some (([48, 120] : List UInt8) ++ y32)
                else none
          else
            bif (x4 == (7 : Int)) then
              (F46 fuel ((a0.fld 2).asStr)).bind fun y35 =>
              some y35
            else
              bif (x4 == (8 : Int)) then
                (F47 fuel ((a0.fld 2).asStr)).bind fun y38 =>
                (F46 fuel y38).bind fun y39 =>
                bif decide (([120] : List UInt8).length + y39.length ≤ strMax) then
                some (([120] : List UInt8) ++ y39)
                else none
              else
                (F43 fuel ((a0.fld 1).asInt)).bind fun y41 =>
                some y41

noncomputable def F23C (fuel : Nat) : Cfg := cfg Tryz.prog 60 0 [F32c fuel, F43c fuel, F44c fuel, F45c fuel, F46c fuel, F47c fuel] [] fuel

noncomputable def F23c (fuel : Nat) : CallE := { f := 23, A := ⟨1, [], [(.data 42)]⟩, R := ⟨1, [], [.str]⟩, F := fun x => F23 fuel x, dflt := [] }

theorem F23k (fuel : Nat) : CallOk (F23C fuel) := cfg_callOk (callsC (F32ok fuel) <| callsC (F43ok fuel) <| callsC (F44ok fuel) <| callsC (F45ok fuel) <| callsC (F46ok fuel) <| callsC (F47ok fuel) <| callsN)

theorem F23ok (fuel : Nat) : (F23c fuel).Ok Tryz.prog := fun x y h => meets_of (F23k fuel) (f := 23) (fn := Tryz.f23) (c := bodyOf Tryz.f23) (by kernel_rfl) (by kernel_rfl) (by kernel_rfl) (by kernel_rfl) (loops0 (by kernel_rfl)) (A := (F23c fuel).A) (R := (F23c fuel).R) (F := (F23c fuel).F) (fun x => by kernel_rfl) (fun x => by kernel_rfl) x y h

noncomputable def S10_6 (fuel : Nat) (a3 : List PV) (a4 : List UInt8) (a5 : Int) : Option (((List PV) × (List UInt8) × Int) ⊕ (((List UInt8)) ⊕ ((List UInt8)))) :=
  bif (decide (a5 < (a3.length : Int))) then
    bif inRange a5 a3.length then
    (F22 fuel (a3.getD a5.toNat .bad)).bind fun y9 =>
    bif (!y9) then
      some (.inr (.inl ([] : List UInt8)))
    else
      bif (decide (a5 > (0 : Int))) then
        bif decide (a4.length + ([44, 32] : List UInt8).length ≤ strMax) then
        let x12 := a4 ++ ([44, 32] : List UInt8)
        bif inRange a5 a3.length then
        let x15 := ((a3.getD a5.toNat .bad).fld 0).asStr
        bif decide (x15.length + ([32, 61, 32] : List UInt8).length ≤ strMax) then
        let x16 := x15 ++ ([32, 61, 32] : List UInt8)
        bif inRange a5 a3.length then
        (F23 fuel ((a3.getD a5.toNat .bad).fld 1)).bind fun y19 =>
        bif decide (x16.length + y19.length ≤ strMax) then
        let x20 := x16 ++ y19
        bif decide (x12.length + x20.length ≤ strMax) then
        some (.inl (a3, (x12 ++ x20), (IntKind.wrap .i64 (a5 + (1 : Int)))))
        else none
        else none
        else none
        else none
        else none
        else none
      else
        bif inRange a5 a3.length then
        let x25 := ((a3.getD a5.toNat .bad).fld 0).asStr
        bif decide (x25.length + ([32, 61, 32] : List UInt8).length ≤ strMax) then
        let x26 := x25 ++ ([32, 61, 32] : List UInt8)
        bif inRange a5 a3.length then
        (F23 fuel ((a3.getD a5.toNat .bad).fld 1)).bind fun y29 =>
        bif decide (x26.length + y29.length ≤ strMax) then
        let x30 := x26 ++ y29
        bif decide (a4.length + x30.length ≤ strMax) then
        some (.inl (a3, (a4 ++ x30), (IntKind.wrap .i64 (a5 + (1 : Int)))))
        else none
        else none
        else none
        else none
        else none
    else none
  else
    some (.inr (.inr a4))

noncomputable def S10_6step (fuel : Nat) (x : (List PV) × (List UInt8) × Int) : Option (((List PV) × (List UInt8) × Int) ⊕ (((List UInt8)) ⊕ ((List UInt8)))) := S10_6 fuel x.1 x.2.1 x.2.2

/-- wireschema/wireschemaref08.Text -/
noncomputable def F10 (fuel : Nat) (a0 : List PV) : Option ((List UInt8)) :=
  bif ((a0.length : Int) == (0 : Int)) then
    some ([] : List UInt8)
  else
    (loopQ fuel (S10_6step fuel) (a0, ([91] : List UInt8), (0 : Int))).bind fun z => sumE (fun y33 =>
      some y33
    ) (fun y34 =>
      bif decide (y34.length + ([93] : List UInt8).length ≤ strMax) then
      some (y34 ++ ([93] : List UInt8))
      else none
    ) z

noncomputable def S10_6l (fuel : Nat) : LoopE := { key := 6, H := ⟨[0, 3, 4], [], [(.slice 44), .str, (.int .i64)]⟩, X := [(.ret, ⟨[2], [], [.str]⟩), (.exit 0, ⟨[3], [], [.str]⟩)], step := S10_6step fuel }

noncomputable def F10C (fuel : Nat) : Cfg := cfg Tryz.prog 41 0 [F22c fuel, F23c fuel] [S10_6l fuel] fuel

noncomputable def F10c (fuel : Nat) : CallE := { f := 10, A := ⟨1, [], [(.slice 44)]⟩, R := ⟨1, [], [.str]⟩, F := fun x => F10 fuel x, dflt := [] }

theorem F10k (fuel : Nat) : CallOk (F10C fuel) := cfg_callOk (callsC (F22ok fuel) <| callsC (F23ok fuel) <| callsN)

theorem S10_6ok (fuel : Nat) : LoopOk (F10C fuel) (lp (bodyOf Tryz.f10) 0) := loopOk_of (F10k fuel) fuel (S10_6l fuel) (loops0 (by kernel_rfl)) (by kernel_rfl) (fun x => by kernel_rfl) (fun R e st K => by kernel_rfl)

theorem F10ok (fuel : Nat) : (F10c fuel).Ok Tryz.prog := fun x y h => meets_of (F10k fuel) (f := 10) (fn := Tryz.f10) (c := bodyOf Tryz.f10) (by kernel_rfl) (by kernel_rfl) (by kernel_rfl) (by kernel_rfl) (loopsN 1 (by kernel_rfl) fun i hi => match i, hi with | 0, _ => S10_6ok fuel | n + 1, h => absurd h (by omega)) (A := (F10c fuel).A) (R := (F10c fuel).R) (F := (F10c fuel).F) (fun x => by kernel_rfl) (fun x => by kernel_rfl) x y h

/-- wireschema/token.letter -/
noncomputable def F80 (fuel : Nat) (a0 : Int) : Option (Bool) :=
  some (bif (bif (decide (a0 ≥ (97 : Int))) then (decide (a0 ≤ (122 : Int))) else false) then true else (bif (decide (a0 ≥ (65 : Int))) then (decide (a0 ≤ (90 : Int))) else false))

noncomputable def F80C (fuel : Nat) : Cfg := cfg Tryz.prog 17 0 [] [] fuel

noncomputable def F80c (fuel : Nat) : CallE := { f := 80, A := ⟨1, [], [(.int .u8)]⟩, R := ⟨1, [], [.bool]⟩, F := fun x => F80 fuel x, dflt := false }

theorem F80k (fuel : Nat) : CallOk (F80C fuel) := cfg_callOk (callsN)

theorem F80ok (fuel : Nat) : (F80c fuel).Ok Tryz.prog := fun x y h => meets_of (F80k fuel) (f := 80) (fn := Tryz.f80) (c := bodyOf Tryz.f80) (by kernel_rfl) (by kernel_rfl) (by kernel_rfl) (by kernel_rfl) (loops0 (by kernel_rfl)) (A := (F80c fuel).A) (R := (F80c fuel).R) (F := (F80c fuel).F) (fun x => by kernel_rfl) (fun x => by kernel_rfl) x y h

/-- wireschema/token.digit -/
noncomputable def F81 (fuel : Nat) (a0 : Int) : Option (Bool) :=
  some (bif (decide (a0 ≥ (48 : Int))) then (decide (a0 ≤ (57 : Int))) else false)

noncomputable def F81C (fuel : Nat) : Cfg := cfg Tryz.prog 9 0 [] [] fuel

noncomputable def F81c (fuel : Nat) : CallE := { f := 81, A := ⟨1, [], [(.int .u8)]⟩, R := ⟨1, [], [.bool]⟩, F := fun x => F81 fuel x, dflt := false }

theorem F81k (fuel : Nat) : CallOk (F81C fuel) := cfg_callOk (callsN)

theorem F81ok (fuel : Nat) : (F81c fuel).Ok Tryz.prog := fun x y h => meets_of (F81k fuel) (f := 81) (fn := Tryz.f81) (c := bodyOf Tryz.f81) (by kernel_rfl) (by kernel_rfl) (by kernel_rfl) (by kernel_rfl) (loops0 (by kernel_rfl)) (A := (F81c fuel).A) (R := (F81c fuel).R) (F := (F81c fuel).F) (fun x => by kernel_rfl) (fun x => by kernel_rfl) x y h

/-- internal/stringslite.Index -/
noncomputable def F83 (fuel : Nat) (a0 : List UInt8) (a1 : List UInt8) : Option (Int) :=
  let x1 := (a1.length : Int)
  bif (bif (x1 == (0 : Int)) then true else (a1 == a0)) then
    some (0 : Int)
  else
    bif (x1 == (1 : Int)) then
      bif inRange (0 : Int) a1.length then
      none
      else none
    else
      bif (decide (x1 ≥ (a0.length : Int))) then
        some (-1 : Int)
      else
        none

noncomputable def F83C (fuel : Nat) : Cfg := cfg Tryz.prog 143 0 [] [] fuel

noncomputable def F83c (fuel : Nat) : CallE := { f := 83, A := ⟨2, [], [.str, .str]⟩, R := ⟨1, [], [(.int .i64)]⟩, F := fun x => F83 fuel x.1 x.2, dflt := 0 }

theorem F83k (fuel : Nat) : CallOk (F83C fuel) := cfg_callOk (callsN)

theorem F83ok (fuel : Nat) : (F83c fuel).Ok Tryz.prog := fun x y h => meets_of (F83k fuel) (f := 83) (fn := Tryz.f83) (c := bodyOf Tryz.f83) (by kernel_rfl) (by kernel_rfl) (by kernel_rfl) (by kernel_rfl) (loopsN 1 (by kernel_rfl) fun i hi => match i, hi with | 0, _ => loopCut (fun R e st K => by kernel_rfl) | n + 1, h => absurd h (by omega)) (A := (F83c fuel).A) (R := (F83c fuel).R) (F := (F83c fuel).F) (fun x => by kernel_rfl) (fun x => by kernel_rfl) x y h

/-- strings.Index -/
noncomputable def F53 (fuel : Nat) (a0 : List UInt8) (a1 : List UInt8) : Option (Int) :=
  (F83 fuel a0 a1).bind fun y1 =>
  some y1

noncomputable def F53C (fuel : Nat) : Cfg := cfg Tryz.prog 8 0 [F83c fuel] [] fuel

noncomputable def F53c (fuel : Nat) : CallE := { f := 53, A := ⟨2, [], [.str, .str]⟩, R := ⟨1, [], [(.int .i64)]⟩, F := fun x => F53 fuel x.1 x.2, dflt := 0 }

theorem F53k (fuel : Nat) : CallOk (F53C fuel) := cfg_callOk (callsC (F83ok fuel) <| callsN)

theorem F53ok (fuel : Nat) : (F53c fuel).Ok Tryz.prog := fun x y h => meets_of (F53k fuel) (f := 53) (fn := Tryz.f53) (c := bodyOf Tryz.f53) (by kernel_rfl) (by kernel_rfl) (by kernel_rfl) (by kernel_rfl) (loops0 (by kernel_rfl)) (A := (F53c fuel).A) (R := (F53c fuel).R) (F := (F53c fuel).F) (fun x => by kernel_rfl) (fun x => by kernel_rfl) x y h

/-- strings.Contains -/
noncomputable def F113 (fuel : Nat) (a0 : List UInt8) (a1 : List UInt8) : Option (Bool) :=
  (F53 fuel a0 a1).bind fun y1 =>
  some (decide (y1 ≥ (0 : Int)))

noncomputable def F113C (fuel : Nat) : Cfg := cfg Tryz.prog 9 0 [F53c fuel] [] fuel

noncomputable def F113c (fuel : Nat) : CallE := { f := 113, A := ⟨2, [], [.str, .str]⟩, R := ⟨1, [], [.bool]⟩, F := fun x => F113 fuel x.1 x.2, dflt := false }

theorem F113k (fuel : Nat) : CallOk (F113C fuel) := cfg_callOk (callsC (F53ok fuel) <| callsN)

theorem F113ok (fuel : Nat) : (F113c fuel).Ok Tryz.prog := fun x y h => meets_of (F113k fuel) (f := 113) (fn := Tryz.f113) (c := bodyOf Tryz.f113) (by kernel_rfl) (by kernel_rfl) (by kernel_rfl) (by kernel_rfl) (loops0 (by kernel_rfl)) (A := (F113c fuel).A) (R := (F113c fuel).R) (F := (F113c fuel).F) (fun x => by kernel_rfl) (fun x => by kernel_rfl) x y h

/-- wireschema/token.isSign -/
noncomputable def F82 (fuel : Nat) (a0 : List UInt8) : Option (Bool) :=
  let x2 := (a0.length : Int) == (1 : Int)
  (bif x2 then F113 fuel ([123, 125, 91, 93, 40, 41, 60, 62, 61, 59, 44, 64, 45] : List UInt8) a0 else some false).bind fun y3 =>
  some (bif x2 then y3 else false)

noncomputable def F82C (fuel : Nat) : Cfg := cfg Tryz.prog 10 0 [F113c fuel] [] fuel

noncomputable def F82c (fuel : Nat) : CallE := { f := 82, A := ⟨1, [], [.str]⟩, R := ⟨1, [], [.bool]⟩, F := fun x => F82 fuel x, dflt := false }

theorem F82k (fuel : Nat) : CallOk (F82C fuel) := cfg_callOk (callsC (F113ok fuel) <| callsN)

theorem F82ok (fuel : Nat) : (F82c fuel).Ok Tryz.prog := fun x y h => meets_of (F82k fuel) (f := 82) (fn := Tryz.f82) (c := bodyOf Tryz.f82) (by kernel_rfl) (by kernel_rfl) (by kernel_rfl) (by kernel_rfl) (loops0 (by kernel_rfl)) (A := (F82c fuel).A) (R := (F82c fuel).R) (F := (F82c fuel).F) (fun x => by kernel_rfl) (fun x => by kernel_rfl) x y h

/-- wireschema/token.state -/
noncomputable def F48 (fuel : Nat) (a0 : List UInt8) : Option (Int) :=
  bif inRange (0 : Int) a0.length then
  let x1 := ((a0.getD (0 : Int).toNat 0).toNat : Int)
  bif (bif (bif (bif (x1 == (32 : Int)) then true else (x1 == (9 : Int))) then true else (x1 == (13 : Int))) then true else (x1 == (10 : Int))) then
    some (1 : Int)
  else
    (F79 fuel a0 ([47, 47] : List UInt8)).bind fun y9 =>
    bif y9 then
      some (2 : Int)
    else
      (F80 fuel x1).bind fun y10 =>
      let x14 := bif (x1 == (46 : Int)) then (decide ((a0.length : Int) > (1 : Int))) else false
      bif imp (bif x14 then !y10 else false) (inRange (1 : Int) a0.length) then
      (bif bif x14 then !y10 else false then F80 fuel ((a0.getD (1 : Int).toNat 0).toNat : Int) else some false).bind fun y16 =>
      bif (bif y10 then true else (bif x14 then y16 else false)) then
        some (3 : Int)
      else
        (F81 fuel x1).bind fun y19 =>
        bif y19 then
          some (4 : Int)
        else
          bif (x1 == (34 : Int)) then
            some (5 : Int)
          else
            bif decide (0 ≤ (0 : Int) ∧ (0 : Int) ≤ (1 : Int) ∧ (1 : Int) ≤ (a0.length : Int)) then
            (F82 fuel ((a0.take (1 : Int).toNat).drop (0 : Int).toNat)).bind fun y22 =>
            bif y22 then
              some (6 : Int)
            else
              some (0 : Int)
            else none
      else none
  else none

noncomputable def F48C (fuel : Nat) : Cfg := cfg Tryz.prog 51 0 [F79c fuel, F80c fuel, F81c fuel, F82c fuel] [] fuel

noncomputable def F48c (fuel : Nat) : CallE := { f := 48, A := ⟨1, [], [.str]⟩, R := ⟨1, [], [(.int .i64)]⟩, F := fun x => F48 fuel x, dflt := 0 }

theorem F48k (fuel : Nat) : CallOk (F48C fuel) := cfg_callOk (callsC (F79ok fuel) <| callsC (F80ok fuel) <| callsC (F81ok fuel) <| callsC (F82ok fuel) <| callsN)

theorem F48ok (fuel : Nat) : (F48c fuel).Ok Tryz.prog := fun x y h => meets_of (F48k fuel) (f := 48) (fn := Tryz.f48) (c := bodyOf Tryz.f48) (by kernel_rfl) (by kernel_rfl) (by kernel_rfl) (by kernel_rfl) (loops0 (by kernel_rfl)) (A := (F48c fuel).A) (R := (F48c fuel).R) (F := (F48c fuel).F) (fun x => by kernel_rfl) (fun x => by kernel_rfl) x y h

/-- wireschema/token.skip$1 -/
noncomputable def F50 (fuel : Nat) (a0 : Int) : Option (Bool) :=
  some (a0 != (10 : Int))

noncomputable def F50C (fuel : Nat) : Cfg := cfg Tryz.prog 5 0 [] [] fuel

noncomputable def F50c (fuel : Nat) : CallE := { f := 50, A := ⟨1, [], [(.int .u8)]⟩, R := ⟨1, [], [.bool]⟩, F := fun x => F50 fuel x, dflt := false }

theorem F50k (fuel : Nat) : CallOk (F50C fuel) := cfg_callOk (callsN)

theorem F50ok (fuel : Nat) : (F50c fuel).Ok Tryz.prog := fun x y h => meets_of (F50k fuel) (f := 50) (fn := Tryz.f50) (c := bodyOf Tryz.f50) (by kernel_rfl) (by kernel_rfl) (by kernel_rfl) (by kernel_rfl) (loops0 (by kernel_rfl)) (A := (F50c fuel).A) (R := (F50c fuel).R) (F := (F50c fuel).F) (fun x => by kernel_rfl) (fun x => by kernel_rfl) x y h

noncomputable def S49_3 (fuel : Nat) (a1 : List UInt8) (a2 : Unit) (a3 : Int) : Option (((List UInt8) × Unit × Int) ⊕ ((Int))) :=
  let x5 := decide (a3 < (a1.length : Int))
  bif imp x5 (inRange a3 a1.length) then
  (bif x5 then F50 fuel ((a1.getD a3.toNat 0).toNat : Int) else some false).bind fun y7 =>
  bif (bif x5 then y7 else false) then
    some (.inl (a1, (), (IntKind.wrap .i64 (a3 + (1 : Int)))))
  else
    some (.inr a3)
  else none

noncomputable def S49_3step (fuel : Nat) (x : (List UInt8) × Unit × Int) : Option (((List UInt8) × Unit × Int) ⊕ ((Int))) := S49_3 fuel x.1 x.2.1 x.2.2

/-- wireschema/token.run -/
noncomputable def F49 (fuel : Nat) (a0 : List UInt8) (a1 : Unit) : Option (Int) :=
  (loopQ fuel (S49_3step fuel) (a0, (), (0 : Int))).bind fun y10 =>
  some y10

noncomputable def S49_3l (fuel : Nat) : LoopE := { key := 3, H := ⟨[0, 1, 5], [], [.str, (.con (.fn 50 [])), (.int .i64)]⟩, X := [(.exit 0, ⟨[5], [], [(.int .i64)]⟩)], step := S49_3step fuel }

noncomputable def F49C (fuel : Nat) : Cfg := cfg Tryz.prog 20 0 [F50c fuel] [S49_3l fuel] fuel

noncomputable def F49c (fuel : Nat) : CallE := { f := 49, A := ⟨2, [], [.str, (.con (.fn 50 []))]⟩, R := ⟨1, [], [(.int .i64)]⟩, F := fun x => F49 fuel x.1 x.2, dflt := 0 }

theorem F49k (fuel : Nat) : CallOk (F49C fuel) := cfg_callOk (callsC (F50ok fuel) <| callsN)

theorem S49_3ok (fuel : Nat) : LoopOk (F49C fuel) (lp (bodyOf Tryz.f49) 0) := loopOk_of (F49k fuel) fuel (S49_3l fuel) (loops0 (by kernel_rfl)) (by kernel_rfl) (fun x => by kernel_rfl) (fun R e st K => by kernel_rfl)

theorem F49ok (fuel : Nat) : (F49c fuel).Ok Tryz.prog := fun x y h => meets_of (F49k fuel) (f := 49) (fn := Tryz.f49) (c := bodyOf Tryz.f49) (by kernel_rfl) (by kernel_rfl) (by kernel_rfl) (by kernel_rfl) (loopsN 1 (by kernel_rfl) fun i hi => match i, hi with | 0, _ => S49_3ok fuel | n + 1, h => absurd h (by omega)) (A := (F49c fuel).A) (R := (F49c fuel).R) (F := (F49c fuel).F) (fun x => by kernel_rfl) (fun x => by kernel_rfl) x y h

noncomputable def S24_3 (fuel : Nat) (a1 : List UInt8) (a2 : Int) : Option (((List UInt8) × Int) ⊕ ((Int) ⊕ (Int))) :=
  bif (decide (a2 < (a1.length : Int))) then
    bif decide (0 ≤ a2 ∧ a2 ≤ (a1.length : Int) ∧ (a1.length : Int) ≤ (a1.length : Int)) then
    (F48 fuel ((a1.take (a1.length : Int).toNat).drop a2.toNat)).bind fun y6 =>
    bif (y6 == (1 : Int)) then
      some (.inl (a1, (IntKind.wrap .i64 (a2 + (1 : Int)))))
    else
      bif (y6 == (2 : Int)) then
        bif decide (0 ≤ a2 ∧ a2 ≤ (a1.length : Int) ∧ (a1.length : Int) ≤ (a1.length : Int)) then
        (F49 fuel ((a1.take (a1.length : Int).toNat).drop a2.toNat) ()).bind fun y11 =>
        some (.inl (a1, (IntKind.wrap .i64 (a2 + y11))))
        else none
      else
        some (.inr (.inl a2))
    else none
  else
    some (.inr (.inr a2))

noncomputable def S24_3step (fuel : Nat) (x : (List UInt8) × Int) : Option (((List UInt8) × Int) ⊕ ((Int) ⊕ (Int))) := S24_3 fuel x.1 x.2

/-- wireschema/token.skip -/
noncomputable def F24 (fuel : Nat) (a0 : List UInt8) : Option (Int) :=
  (loopQ fuel (S24_3step fuel) (a0, (0 : Int))).bind fun z => sumE (fun y13 =>
    some y13
  ) (fun y14 =>
    some y14
  ) z

noncomputable def S24_3l (fuel : Nat) : LoopE := { key := 3, H := ⟨[0, 3], [], [.str, (.int .i64)]⟩, X := [(.ret, ⟨[2], [], [(.int .i64)]⟩), (.exit 0, ⟨[3], [], [(.int .i64)]⟩)], step := S24_3step fuel }

noncomputable def F24C (fuel : Nat) : Cfg := cfg Tryz.prog 26 0 [F48c fuel, F49c fuel] [S24_3l fuel] fuel

noncomputable def F24c (fuel : Nat) : CallE := { f := 24, A := ⟨1, [], [.str]⟩, R := ⟨1, [], [(.int .i64)]⟩, F := fun x => F24 fuel x, dflt := 0 }

theorem F24k (fuel : Nat) : CallOk (F24C fuel) := cfg_callOk (callsC (F48ok fuel) <| callsC (F49ok fuel) <| callsN)

theorem S24_3ok (fuel : Nat) : LoopOk (F24C fuel) (lp (bodyOf Tryz.f24) 0) := loopOk_of (F24k fuel) fuel (S24_3l fuel) (loops0 (by kernel_rfl)) (by kernel_rfl) (fun x => by kernel_rfl) (fun R e st K => by kernel_rfl)

theorem F24ok (fuel : Nat) : (F24c fuel).Ok Tryz.prog := fun x y h => meets_of (F24k fuel) (f := 24) (fn := Tryz.f24) (c := bodyOf Tryz.f24) (by kernel_rfl) (by kernel_rfl) (by kernel_rfl) (by kernel_rfl) (loopsN 1 (by kernel_rfl) fun i hi => match i, hi with | 0, _ => S24_3ok fuel | n + 1, h => absurd h (by omega)) (A := (F24c fuel).A) (R := (F24c fuel).R) (F := (F24c fuel).F) (fun x => by kernel_rfl) (fun x => by kernel_rfl) x y h

noncomputable def S51_3 (fuel : Nat) (a1 : Int) (a2 : Unit) (a3 : List UInt8) (a4 : Int) : Option ((Int × Unit × (List UInt8) × Int) ⊕ ((Int × (List UInt8) × Int))) :=
  bif (decide (a4.toNat < a3.length)) then
    some (.inl ((IntKind.wrap .i64 (a1 + (1 : Int))), (), a3, ((bif decide (a4.toNat < a3.length) then a4.toNat + (Utf8.decode ⟨a3.toArray⟩ a4.toNat).2 else a4.toNat : Nat) : Int)))
  else
    some (.inr (a1, a3, ((bif decide (a4.toNat < a3.length) then a4.toNat + (Utf8.decode ⟨a3.toArray⟩ a4.toNat).2 else a4.toNat : Nat) : Int)))

noncomputable def S51_3step (fuel : Nat) (x : Int × Unit × (List UInt8) × Int) : Option ((Int × Unit × (List UInt8) × Int) ⊕ ((Int × (List UInt8) × Int))) := S51_3 fuel x.1 x.2.1 x.2.2.1 x.2.2.2

/-- unicode/utf8.RuneCountInString -/
noncomputable def F51 (fuel : Nat) (a0 : List UInt8) : Option (Int) :=
  (loopQ fuel (S51_3step fuel) ((0 : Int), (), a0, ((0 : Nat) : Int))).bind fun y7 =>
  some y7.1

noncomputable def S51_3l (fuel : Nat) : LoopE := { key := 3, H := ⟨[2, 4], [.iter], [(.int .i64), (.con (.iref 0)), .str, (.int .i64)]⟩, X := [(.exit 0, ⟨[2], [.iter], [(.int .i64), .str, (.int .i64)]⟩)], step := S51_3step fuel }

noncomputable def F51C (fuel : Nat) : Cfg := cfg Tryz.prog 10 0 [] [S51_3l fuel] fuel

noncomputable def F51c (fuel : Nat) : CallE := { f := 51, A := ⟨1, [], [.str]⟩, R := ⟨1, [], [(.int .i64)]⟩, F := fun x => F51 fuel x, dflt := 0 }

theorem F51k (fuel : Nat) : CallOk (F51C fuel) := cfg_callOk (callsN)

theorem S51_3ok (fuel : Nat) : LoopOk (F51C fuel) (lp (bodyOf Tryz.f51) 0) := loopOk_of (F51k fuel) fuel (S51_3l fuel) (loops0 (by kernel_rfl)) (by kernel_rfl) (fun x => by kernel_rfl) (fun R e st K => by kernel_rfl)

theorem F51ok (fuel : Nat) : (F51c fuel).Ok Tryz.prog := fun x y h => meets_of (F51k fuel) (f := 51) (fn := Tryz.f51) (c := bodyOf Tryz.f51) (by kernel_rfl) (by kernel_rfl) (by kernel_rfl) (by kernel_rfl) (loopsN 1 (by kernel_rfl) fun i hi => match i, hi with | 0, _ => S51_3ok fuel | n + 1, h => absurd h (by omega)) (A := (F51c fuel).A) (R := (F51c fuel).R) (F := (F51c fuel).F) (fun x => by kernel_rfl) (fun x => by kernel_rfl) x y h

noncomputable def S25_7 (fuel : Nat) (a8 : List UInt8) (a9 : List UInt8) (a10 : Int) : Option (((List UInt8) × (List UInt8) × Int) ⊕ ((Int))) :=
  (F53 fuel a8 a9).bind fun y11 =>
  bif (y11 == (-1 : Int)) then
    some (.inr a10)
  else
    let x15 := IntKind.wrap .i64 (y11 + (a9.length : Int))
    bif decide (0 ≤ x15 ∧ x15 ≤ (a8.length : Int) ∧ (a8.length : Int) ≤ (a8.length : Int)) then
    some (.inl (((a8.take (a8.length : Int).toNat).drop x15.toNat), a9, (IntKind.wrap .i64 (a10 + (1 : Int)))))
    else none

noncomputable def S25_7step (fuel : Nat) (x : (List UInt8) × (List UInt8) × Int) : Option (((List UInt8) × (List UInt8) × Int) ⊕ ((Int))) := S25_7 fuel x.1 x.2.1 x.2.2

/-- strings.Count -/
noncomputable def F25 (fuel : Nat) (a0 : List UInt8) (a1 : List UInt8) : Option (Int) :=
  bif ((a1.length : Int) == (0 : Int)) then
    (F51 fuel a0).bind fun y3 =>
    some (IntKind.wrap .i64 (y3 + (1 : Int)))
  else
    bif ((a1.length : Int) == (1 : Int)) then
      bif inRange (0 : Int) a1.length then
      none
      else none
    else
      (loopQ fuel (S25_7step fuel) (a0, a1, (0 : Int))).bind fun y17 =>
      some y17

noncomputable def S25_7l (fuel : Nat) : LoopE := { key := 7, H := ⟨[0, 1, 5], [], [.str, .str, (.int .i64)]⟩, X := [(.ret, ⟨[4], [], [(.int .i64)]⟩)], step := S25_7step fuel }

noncomputable def F25C (fuel : Nat) : Cfg := cfg Tryz.prog 34 0 [F51c fuel, F53c fuel] [S25_7l fuel] fuel

noncomputable def F25c (fuel : Nat) : CallE := { f := 25, A := ⟨2, [], [.str, .str]⟩, R := ⟨1, [], [(.int .i64)]⟩, F := fun x => F25 fuel x.1 x.2, dflt := 0 }

theorem F25k (fuel : Nat) : CallOk (F25C fuel) := cfg_callOk (callsC (F51ok fuel) <| callsC (F53ok fuel) <| callsN)

theorem S25_7ok (fuel : Nat) : LoopOk (F25C fuel) (lp (bodyOf Tryz.f25) 0) := loopOk_of (F25k fuel) fuel (S25_7l fuel) (loops0 (by kernel_rfl)) (by kernel_rfl) (fun x => by kernel_rfl) (fun R e st K => by kernel_rfl)

theorem F25ok (fuel : Nat) : (F25c fuel).Ok Tryz.prog := fun x y h => meets_of (F25k fuel) (f := 25) (fn := Tryz.f25) (c := bodyOf Tryz.f25) (by kernel_rfl) (by kernel_rfl) (by kernel_rfl) (by kernel_rfl) (loopsN 1 (by kernel_rfl) fun i hi => match i, hi with | 0, _ => S25_7ok fuel | n + 1, h => absurd h (by omega)) (A := (F25c fuel).A) (R := (F25c fuel).R) (F := (F25c fuel).F) (fun x => by kernel_rfl) (fun x => by kernel_rfl) x y h

/-- wireschema/token.goes -/
noncomputable def F87 (fuel : Nat) (a0 : Int) : Option (Bool) :=
  (F80 fuel a0).bind fun y1 =>
  (bif !y1 then F81 fuel a0 else some false).bind fun y2 =>
  some (bif (bif y1 then true else y2) then true else (a0 == (95 : Int)))

noncomputable def F87C (fuel : Nat) : Cfg := cfg Tryz.prog 13 0 [F80c fuel, F81c fuel] [] fuel

noncomputable def F87c (fuel : Nat) : CallE := { f := 87, A := ⟨1, [], [(.int .u8)]⟩, R := ⟨1, [], [.bool]⟩, F := fun x => F87 fuel x, dflt := false }

theorem F87k (fuel : Nat) : CallOk (F87C fuel) := cfg_callOk (callsC (F80ok fuel) <| callsC (F81ok fuel) <| callsN)

theorem F87ok (fuel : Nat) : (F87c fuel).Ok Tryz.prog := fun x y h => meets_of (F87k fuel) (f := 87) (fn := Tryz.f87) (c := bodyOf Tryz.f87) (by kernel_rfl) (by kernel_rfl) (by kernel_rfl) (by kernel_rfl) (loops0 (by kernel_rfl)) (A := (F87c fuel).A) (R := (F87c fuel).R) (F := (F87c fuel).F) (fun x => by kernel_rfl) (fun x => by kernel_rfl) x y h

noncomputable def S49_v1_3 (fuel : Nat) (a1 : List UInt8) (a2 : Unit) (a3 : Int) : Option (((List UInt8) × Unit × Int) ⊕ ((Int))) :=
  let x5 := decide (a3 < (a1.length : Int))
  bif imp x5 (inRange a3 a1.length) then
  (bif x5 then F87 fuel ((a1.getD a3.toNat 0).toNat : Int) else some false).bind fun y7 =>
  bif (bif x5 then y7 else false) then
    some (.inl (a1, (), (IntKind.wrap .i64 (a3 + (1 : Int)))))
  else
    some (.inr a3)
  else none

noncomputable def S49_v1_3step (fuel : Nat) (x : (List UInt8) × Unit × Int) : Option (((List UInt8) × Unit × Int) ⊕ ((Int))) := S49_v1_3 fuel x.1 x.2.1 x.2.2

/-- wireschema/token.run -/
noncomputable def F49_v1 (fuel : Nat) (a0 : List UInt8) (a1 : Unit) : Option (Int) :=
  (loopQ fuel (S49_v1_3step fuel) (a0, (), (0 : Int))).bind fun y10 =>
  some y10

noncomputable def S49_v1_3l (fuel : Nat) : LoopE := { key := 3, H := ⟨[0, 1, 5], [], [.str, (.con (.fn 87 [])), (.int .i64)]⟩, X := [(.exit 0, ⟨[5], [], [(.int .i64)]⟩)], step := S49_v1_3step fuel }

noncomputable def F49_v1C (fuel : Nat) : Cfg := cfg Tryz.prog 20 0 [F87c fuel] [S49_v1_3l fuel] fuel

noncomputable def F49_v1c (fuel : Nat) : CallE := { f := 49, A := ⟨2, [], [.str, (.con (.fn 87 []))]⟩, R := ⟨1, [], [(.int .i64)]⟩, F := fun x => F49_v1 fuel x.1 x.2, dflt := 0 }

theorem F49_v1k (fuel : Nat) : CallOk (F49_v1C fuel) := cfg_callOk (callsC (F87ok fuel) <| callsN)

theorem S49_v1_3ok (fuel : Nat) : LoopOk (F49_v1C fuel) (lp (bodyOf Tryz.f49) 0) := loopOk_of (F49_v1k fuel) fuel (S49_v1_3l fuel) (loops0 (by kernel_rfl)) (by kernel_rfl) (fun x => by kernel_rfl) (fun R e st K => by kernel_rfl)

theorem F49_v1ok (fuel : Nat) : (F49_v1c fuel).Ok Tryz.prog := fun x y h => meets_of (F49_v1k fuel) (f := 49) (fn := Tryz.f49) (c := bodyOf Tryz.f49) (by kernel_rfl) (by kernel_rfl) (by kernel_rfl) (by kernel_rfl) (loopsN 1 (by kernel_rfl) fun i hi => match i, hi with | 0, _ => S49_v1_3ok fuel | n + 1, h => absurd h (by omega)) (A := (F49_v1c fuel).A) (R := (F49_v1c fuel).R) (F := (F49_v1c fuel).F) (fun x => by kernel_rfl) (fun x => by kernel_rfl) x y h

noncomputable def S84_5 (fuel : Nat) (a3 : List UInt8) (a4 : Int) : Option (((List UInt8) × Int) ⊕ ((Int))) :=
  bif decide (0 ≤ a4 ∧ a4 ≤ (a3.length : Int) ∧ (a3.length : Int) ≤ (a3.length : Int)) then
  (F49_v1 fuel ((a3.take (a3.length : Int).toNat).drop a4.toNat) ()).bind fun y6 =>
  let x7 := IntKind.wrap .i64 (a4 + y6)
  let x10 := decide ((IntKind.wrap .i64 (x7 + (1 : Int))) ≥ (a3.length : Int))
  bif imp (!x10) (inRange x7 a3.length) then
  let x13 := bif x10 then true else (((a3.getD x7.toNat 0).toNat : Int) != (46 : Int))
  let x14 := IntKind.wrap .i64 (x7 + (1 : Int))
  bif imp (!x13) (inRange x14 a3.length) then
  (bif !x13 then F80 fuel ((a3.getD x14.toNat 0).toNat : Int) else some false).bind fun y16 =>
  bif (bif x13 then true else (!y16)) then
    some (.inr x7)
  else
    some (.inl (a3, (IntKind.wrap .i64 (x7 + (1 : Int)))))
  else none
  else none
  else none

noncomputable def S84_5step (fuel : Nat) (x : (List UInt8) × Int) : Option (((List UInt8) × Int) ⊕ ((Int))) := S84_5 fuel x.1 x.2

/-- wireschema/token.nameLen -/
noncomputable def F84 (fuel : Nat) (a0 : List UInt8) : Option (Int) :=
  bif inRange (0 : Int) a0.length then
  bif (((a0.getD (0 : Int).toNat 0).toNat : Int) == (46 : Int)) then
    (loopQ fuel (S84_5step fuel) (a0, (1 : Int))).bind fun y20 =>
    some y20
  else
    (loopQ fuel (S84_5step fuel) (a0, (0 : Int))).bind fun y21 =>
    some y21
  else none

noncomputable def S84_5l (fuel : Nat) : LoopE := { key := 5, H := ⟨[0, 3], [], [.str, (.int .i64)]⟩, X := [(.ret, ⟨[2], [], [(.int .i64)]⟩)], step := S84_5step fuel }

noncomputable def F84C (fuel : Nat) : Cfg := cfg Tryz.prog 35 0 [F49_v1c fuel, F80c fuel] [S84_5l fuel] fuel

noncomputable def F84c (fuel : Nat) : CallE := { f := 84, A := ⟨1, [], [.str]⟩, R := ⟨1, [], [(.int .i64)]⟩, F := fun x => F84 fuel x, dflt := 0 }

theorem F84k (fuel : Nat) : CallOk (F84C fuel) := cfg_callOk (callsC (F49_v1ok fuel) <| callsC (F80ok fuel) <| callsN)

theorem S84_5ok (fuel : Nat) : LoopOk (F84C fuel) (lp (bodyOf Tryz.f84) 0) := loopOk_of (F84k fuel) fuel (S84_5l fuel) (loops0 (by kernel_rfl)) (by kernel_rfl) (fun x => by kernel_rfl) (fun R e st K => by kernel_rfl)

theorem F84ok (fuel : Nat) : (F84c fuel).Ok Tryz.prog := fun x y h => meets_of (F84k fuel) (f := 84) (fn := Tryz.f84) (c := bodyOf Tryz.f84) (by kernel_rfl) (by kernel_rfl) (by kernel_rfl) (by kernel_rfl) (loopsN 1 (by kernel_rfl) fun i hi => match i, hi with | 0, _ => S84_5ok fuel | n + 1, h => absurd h (by omega)) (A := (F84c fuel).A) (R := (F84c fuel).R) (F := (F84c fuel).F) (fun x => by kernel_rfl) (fun x => by kernel_rfl) x y h

/-- strings.genSplit -/
noncomputable def F143 (fuel : Nat) (a0 : List UInt8) (a1 : List UInt8) (a2 : Int) (a3 : Int) : Option ((List PV)) :=
  bif (a3 == (0 : Int)) then
    some []
  else
    bif (a1 == ([] : List UInt8)) then
      none
    else
      bif (decide (a3 < (0 : Int))) then
        (F25 fuel a0 a1).bind fun y4 =>
        none
      else
        none

noncomputable def F143C (fuel : Nat) : Cfg := cfg Tryz.prog 66 0 [F25c fuel] [] fuel

noncomputable def F143c (fuel : Nat) : CallE := { f := 143, A := ⟨4, [], [.str, .str, (.int .i64), (.int .i64)]⟩, R := ⟨1, [], [(.slice 9)]⟩, F := fun x => F143 fuel x.1 x.2.1 x.2.2.1 x.2.2.2, dflt := [] }

theorem F143k (fuel : Nat) : CallOk (F143C fuel) := cfg_callOk (callsC (F25ok fuel) <| callsN)

theorem F143ok (fuel : Nat) : (F143c fuel).Ok Tryz.prog := fun x y h => meets_of (F143k fuel) (f := 143) (fn := Tryz.f143) (c := bodyOf Tryz.f143) (by kernel_rfl) (by kernel_rfl) (by kernel_rfl) (by kernel_rfl) (loopsN 1 (by kernel_rfl) fun i hi => match i, hi with | 0, _ => loopCut (fun R e st K => by kernel_rfl) | n + 1, h => absurd h (by omega)) (A := (F143c fuel).A) (R := (F143c fuel).R) (F := (F143c fuel).F) (fun x => by kernel_rfl) (fun x => by kernel_rfl) x y h

/-- strings.Split -/
noncomputable def F118 (fuel : Nat) (a0 : List UInt8) (a1 : List UInt8) : Option ((List PV)) :=
  (F143 fuel a0 a1 (0 : Int) (-1 : Int)).bind fun y1 =>
  some y1

noncomputable def F118C (fuel : Nat) : Cfg := cfg Tryz.prog 8 0 [F143c fuel] [] fuel

noncomputable def F118c (fuel : Nat) : CallE := { f := 118, A := ⟨2, [], [.str, .str]⟩, R := ⟨1, [], [(.slice 9)]⟩, F := fun x => F118 fuel x.1 x.2, dflt := [] }

theorem F118k (fuel : Nat) : CallOk (F118C fuel) := cfg_callOk (callsC (F143ok fuel) <| callsN)

theorem F118ok (fuel : Nat) : (F118c fuel).Ok Tryz.prog := fun x y h => meets_of (F118k fuel) (f := 118) (fn := Tryz.f118) (c := bodyOf Tryz.f118) (by kernel_rfl) (by kernel_rfl) (by kernel_rfl) (by kernel_rfl) (loops0 (by kernel_rfl)) (A := (F118c fuel).A) (R := (F118c fuel).R) (F := (F118c fuel).F) (fun x => by kernel_rfl) (fun x => by kernel_rfl) x y h

/-- wireschema/ident.class -/
noncomputable def F144 (fuel : Nat) (a0 : Int) : Option (Int) :=
  bif (bif (decide (a0 ≥ (97 : Int))) then (decide (a0 ≤ (122 : Int))) else false) then
    some (1 : Int)
  else
    bif (bif (decide (a0 ≥ (65 : Int))) then (decide (a0 ≤ (90 : Int))) else false) then
      some (2 : Int)
    else
      bif (bif (decide (a0 ≥ (48 : Int))) then (decide (a0 ≤ (57 : Int))) else false) then
        some (3 : Int)
      else
        bif (a0 == (95 : Int)) then
          some (4 : Int)
        else
          some (0 : Int)

noncomputable def F144C (fuel : Nat) : Cfg := cfg Tryz.prog 27 0 [] [] fuel

noncomputable def F144c (fuel : Nat) : CallE := { f := 144, A := ⟨1, [], [(.int .i32)]⟩, R := ⟨1, [], [(.int .i64)]⟩, F := fun x => F144 fuel x, dflt := 0 }

theorem F144k (fuel : Nat) : CallOk (F144C fuel) := cfg_callOk (callsN)

theorem F144ok (fuel : Nat) : (F144c fuel).Ok Tryz.prog := fun x y h => meets_of (F144k fuel) (f := 144) (fn := Tryz.f144) (c := bodyOf Tryz.f144) (by kernel_rfl) (by kernel_rfl) (by kernel_rfl) (by kernel_rfl) (loops0 (by kernel_rfl)) (A := (F144c fuel).A) (R := (F144c fuel).R) (F := (F144c fuel).F) (fun x => by kernel_rfl) (fun x => by kernel_rfl) x y h

noncomputable def S119_3 (fuel : Nat) (a1 : List UInt8) (a2 : Unit) (a3 : List UInt8) (a4 : Int) : Option (((List UInt8) × Unit × (List UInt8) × Int) ⊕ ((Bool × (List UInt8) × Int) ⊕ ((List UInt8) × (List UInt8) × Int))) :=
  bif (decide (a4.toNat < a3.length)) then
    bif decide (a4.toNat < a3.length) then
    bif decide (a4.toNat < a3.length) then
    (F144 fuel ((Utf8.decode ⟨a3.toArray⟩ a4.toNat).1 : Int)).bind fun y8 =>
    bif (bif (y8 == (0 : Int)) then true else (bif (bif ((a4.toNat : Int) == (0 : Int)) then (y8 != (1 : Int)) else false) then (y8 != (2 : Int)) else false)) then
      some (.inr (.inl (false, a3, ((bif decide (a4.toNat < a3.length) then a4.toNat + (Utf8.decode ⟨a3.toArray⟩ a4.toNat).2 else a4.toNat : Nat) : Int))))
    else
      some (.inl (a1, (), a3, ((bif decide (a4.toNat < a3.length) then a4.toNat + (Utf8.decode ⟨a3.toArray⟩ a4.toNat).2 else a4.toNat : Nat) : Int)))
    else none
    else none
  else
    some (.inr (.inr (a1, a3, ((bif decide (a4.toNat < a3.length) then a4.toNat + (Utf8.decode ⟨a3.toArray⟩ a4.toNat).2 else a4.toNat : Nat) : Int))))

noncomputable def S119_3step (fuel : Nat) (x : (List UInt8) × Unit × (List UInt8) × Int) : Option (((List UInt8) × Unit × (List UInt8) × Int) ⊕ ((Bool × (List UInt8) × Int) ⊕ ((List UInt8) × (List UInt8) × Int))) := S119_3 fuel x.1 x.2.1 x.2.2.1 x.2.2.2

/-- wireschema/ident.IsPart -/
noncomputable def F119 (fuel : Nat) (a0 : List UInt8) : Option (Bool) :=
  (loopQ fuel (S119_3step fuel) (a0, (), a0, ((0 : Nat) : Int))).bind fun z => sumE (fun y16 =>
    some y16.1
  ) (fun y17 =>
    some (bif (decide ((y17.1.length : Int) ≥ (1 : Int))) then (decide ((y17.1.length : Int) ≤ (40 : Int))) else false)
  ) z

noncomputable def S119_3l (fuel : Nat) : LoopE := { key := 3, H := ⟨[0, 7], [.iter], [.str, (.con (.iref 0)), .str, (.int .i64)]⟩, X := [(.ret, ⟨[2], [.iter], [.bool, .str, (.int .i64)]⟩), (.exit 0, ⟨[0], [.iter], [.str, .str, (.int .i64)]⟩)], step := S119_3step fuel }

noncomputable def F119C (fuel : Nat) : Cfg := cfg Tryz.prog 36 0 [F144c fuel] [S119_3l fuel] fuel

noncomputable def F119c (fuel : Nat) : CallE := { f := 119, A := ⟨1, [], [.str]⟩, R := ⟨1, [], [.bool]⟩, F := fun x => F119 fuel x, dflt := false }

theorem F119k (fuel : Nat) : CallOk (F119C fuel) := cfg_callOk (callsC (F144ok fuel) <| callsN)

theorem S119_3ok (fuel : Nat) : LoopOk (F119C fuel) (lp (bodyOf Tryz.f119) 0) := loopOk_of (F119k fuel) fuel (S119_3l fuel) (loops0 (by kernel_rfl)) (by kernel_rfl) (fun x => by kernel_rfl) (fun R e st K => by kernel_rfl)

theorem F119ok (fuel : Nat) : (F119c fuel).Ok Tryz.prog := fun x y h => meets_of (F119k fuel) (f := 119) (fn := Tryz.f119) (c := bodyOf Tryz.f119) (by kernel_rfl) (by kernel_rfl) (by kernel_rfl) (by kernel_rfl) (loopsN 1 (by kernel_rfl) fun i hi => match i, hi with | 0, _ => S119_3ok fuel | n + 1, h => absurd h (by omega)) (A := (F119c fuel).A) (R := (F119c fuel).R) (F := (F119c fuel).F) (fun x => by kernel_rfl) (fun x => by kernel_rfl) x y h

noncomputable def S85_3 (fuel : Nat) (a3 : List UInt8) (a4 : List PV) (a5 : Int) (a6 : Int) : Option (((List UInt8) × (List PV) × Int × Int) ⊕ ((Bool) ⊕ ((List UInt8)))) :=
  bif (decide (a6 < a5)) then
    bif inRange a6 a4.length then
    (F119 fuel (a4.getD a6.toNat .bad).asStr).bind fun y10 =>
    bif (!y10) then
      some (.inr (.inl false))
    else
      some (.inl (a3, a4, a5, (IntKind.wrap .i64 (a6 + (1 : Int)))))
    else none
  else
    some (.inr (.inr a3))

noncomputable def S85_3step (fuel : Nat) (x : (List UInt8) × (List PV) × Int × Int) : Option (((List UInt8) × (List PV) × Int × Int) ⊕ ((Bool) ⊕ ((List UInt8)))) := S85_3 fuel x.1 x.2.1 x.2.2.1 x.2.2.2

/-- wireschema/ident.IsFull -/
noncomputable def F85 (fuel : Nat) (a0 : List UInt8) : Option (Bool) :=
  (F118 fuel a0 ([46] : List UInt8)).bind fun y1 =>
  (loopQ fuel (S85_3step fuel) (a0, y1, (y1.length : Int), (0 : Int))).bind fun z => sumE (fun y13 =>
    some y13
  ) (fun y14 =>
    some (decide ((y14.length : Int) ≤ (120 : Int)))
  ) z

noncomputable def S85_3l (fuel : Nat) : LoopE := { key := 3, H := ⟨[0, 6, 7, 8], [], [.str, (.slice 9), (.int .i64), (.int .i64)]⟩, X := [(.ret, ⟨[2], [], [.bool]⟩), (.exit 0, ⟨[0], [], [.str]⟩)], step := S85_3step fuel }

noncomputable def F85C (fuel : Nat) : Cfg := cfg Tryz.prog 19 0 [F118c fuel, F119c fuel] [S85_3l fuel] fuel

noncomputable def F85c (fuel : Nat) : CallE := { f := 85, A := ⟨1, [], [.str]⟩, R := ⟨1, [], [.bool]⟩, F := fun x => F85 fuel x, dflt := false }

theorem F85k (fuel : Nat) : CallOk (F85C fuel) := cfg_callOk (callsC (F118ok fuel) <| callsC (F119ok fuel) <| callsN)

theorem S85_3ok (fuel : Nat) : LoopOk (F85C fuel) (lp (bodyOf Tryz.f85) 0) := loopOk_of (F85k fuel) fuel (S85_3l fuel) (loops0 (by kernel_rfl)) (by kernel_rfl) (fun x => by kernel_rfl) (fun R e st K => by kernel_rfl)

theorem F85ok (fuel : Nat) : (F85c fuel).Ok Tryz.prog := fun x y h => meets_of (F85k fuel) (f := 85) (fn := Tryz.f85) (c := bodyOf Tryz.f85) (by kernel_rfl) (by kernel_rfl) (by kernel_rfl) (by kernel_rfl) (loopsN 1 (by kernel_rfl) fun i hi => match i, hi with | 0, _ => S85_3ok fuel | n + 1, h => absurd h (by omega)) (A := (F85c fuel).A) (R := (F85c fuel).R) (F := (F85c fuel).F) (fun x => by kernel_rfl) (fun x => by kernel_rfl) x y h

/-- wireschema/token.readName -/
noncomputable def F54 (fuel : Nat) (a0 : List UInt8) : Option (PV × Int × Int) :=
  (F84 fuel a0).bind fun y1 =>
  bif decide (0 ≤ (0 : Int) ∧ (0 : Int) ≤ y1 ∧ y1 ≤ (a0.length : Int)) then
  (F86 fuel ((a0.take y1.toNat).drop (0 : Int).toNat) ([46] : List UInt8)).bind fun y3 =>
  (F85 fuel y3).bind fun y4 =>
  bif (!y4) then
    some ((PV.agg [(PV.int (0 : Int)), (PV.str ([] : List UInt8)), (PV.int (0 : Int)), (PV.int (0 : Int))]), (0 : Int), (8 : Int))
  else
    bif decide (0 ≤ (0 : Int) ∧ (0 : Int) ≤ y1 ∧ y1 ≤ (a0.length : Int)) then
    some ((PV.agg [(PV.int (1 : Int)), (PV.str ((a0.take y1.toNat).drop (0 : Int).toNat)), (PV.int (0 : Int)), (PV.int (0 : Int))]), y1, (0 : Int))
    else none
  else none

noncomputable def F54C (fuel : Nat) : Cfg := cfg Tryz.prog 20 0 [F84c fuel, F86c fuel, F85c fuel] [] fuel

noncomputable def F54c (fuel : Nat) : CallE := { f := 54, A := ⟨1, [], [.str]⟩, R := ⟨3, [], [(.data 34), (.int .i64), (.int .i64)]⟩, F := fun x => F54 fuel x, dflt := (PV.bad, 0, 0) }

theorem F54k (fuel : Nat) : CallOk (F54C fuel) := cfg_callOk (callsC (F84ok fuel) <| callsC (F86ok fuel) <| callsC (F85ok fuel) <| callsN)

theorem F54ok (fuel : Nat) : (F54c fuel).Ok Tryz.prog := fun x y h => meets_of (F54k fuel) (f := 54) (fn := Tryz.f54) (c := bodyOf Tryz.f54) (by kernel_rfl) (by kernel_rfl) (by kernel_rfl) (by kernel_rfl) (loops0 (by kernel_rfl)) (A := (F54c fuel).A) (R := (F54c fuel).R) (F := (F54c fuel).F) (fun x => by kernel_rfl) (fun x => by kernel_rfl) x y h

noncomputable def S49_v2_3 (fuel : Nat) (a1 : List UInt8) (a2 : Unit) (a3 : Int) : Option (((List UInt8) × Unit × Int) ⊕ ((Int))) :=
  let x5 := decide (a3 < (a1.length : Int))
  bif imp x5 (inRange a3 a1.length) then
  (bif x5 then F81 fuel ((a1.getD a3.toNat 0).toNat : Int) else some false).bind fun y7 =>
  bif (bif x5 then y7 else false) then
    some (.inl (a1, (), (IntKind.wrap .i64 (a3 + (1 : Int)))))
  else
    some (.inr a3)
  else none

noncomputable def S49_v2_3step (fuel : Nat) (x : (List UInt8) × Unit × Int) : Option (((List UInt8) × Unit × Int) ⊕ ((Int))) := S49_v2_3 fuel x.1 x.2.1 x.2.2

/-- wireschema/token.run -/
noncomputable def F49_v2 (fuel : Nat) (a0 : List UInt8) (a1 : Unit) : Option (Int) :=
  (loopQ fuel (S49_v2_3step fuel) (a0, (), (0 : Int))).bind fun y10 =>
  some y10

noncomputable def S49_v2_3l (fuel : Nat) : LoopE := { key := 3, H := ⟨[0, 1, 5], [], [.str, (.con (.fn 81 [])), (.int .i64)]⟩, X := [(.exit 0, ⟨[5], [], [(.int .i64)]⟩)], step := S49_v2_3step fuel }

noncomputable def F49_v2C (fuel : Nat) : Cfg := cfg Tryz.prog 20 0 [F81c fuel] [S49_v2_3l fuel] fuel

noncomputable def F49_v2c (fuel : Nat) : CallE := { f := 49, A := ⟨2, [], [.str, (.con (.fn 81 []))]⟩, R := ⟨1, [], [(.int .i64)]⟩, F := fun x => F49_v2 fuel x.1 x.2, dflt := 0 }

theorem F49_v2k (fuel : Nat) : CallOk (F49_v2C fuel) := cfg_callOk (callsC (F81ok fuel) <| callsN)

theorem S49_v2_3ok (fuel : Nat) : LoopOk (F49_v2C fuel) (lp (bodyOf Tryz.f49) 0) := loopOk_of (F49_v2k fuel) fuel (S49_v2_3l fuel) (loops0 (by kernel_rfl)) (by kernel_rfl) (fun x => by kernel_rfl) (fun R e st K => by kernel_rfl)

theorem F49_v2ok (fuel : Nat) : (F49_v2c fuel).Ok Tryz.prog := fun x y h => meets_of (F49_v2k fuel) (f := 49) (fn := Tryz.f49) (c := bodyOf Tryz.f49) (by kernel_rfl) (by kernel_rfl) (by kernel_rfl) (by kernel_rfl) (loopsN 1 (by kernel_rfl) fun i hi => match i, hi with | 0, _ => S49_v2_3ok fuel | n + 1, h => absurd h (by omega)) (A := (F49_v2c fuel).A) (R := (F49_v2c fuel).R) (F := (F49_v2c fuel).F) (fun x => by kernel_rfl) (fun x => by kernel_rfl) x y h

/-- wireschema/token.readInt -/
noncomputable def F55 (fuel : Nat) (a0 : List UInt8) : Option (PV × Int × Int) :=
  (F49_v2 fuel a0 ()).bind fun y1 =>
  let x2 := decide (y1 > (1 : Int))
  bif imp x2 (inRange (0 : Int) a0.length) then
  let x5 := bif x2 then (((a0.getD (0 : Int).toNat 0).toNat : Int) == (48 : Int)) else false
  let x7 := decide (y1 < (a0.length : Int))
  bif imp (bif x7 then !x5 else false) (inRange y1 a0.length) then
  (bif bif x7 then !x5 else false then F87 fuel ((a0.getD y1.toNat 0).toNat : Int) else some false).bind fun y9 =>
  bif (bif x5 then true else (bif x7 then y9 else false)) then
    some ((PV.agg [(PV.int (0 : Int)), (PV.str ([] : List UInt8)), (PV.int (0 : Int)), (PV.int (0 : Int))]), (0 : Int), (2 : Int))
  else
    bif decide (0 ≤ (0 : Int) ∧ (0 : Int) ≤ y1 ∧ y1 ≤ (a0.length : Int)) then
    (LparseUint fuel ((a0.take y1.toNat).drop (0 : Int).toNat) (10 : Int) (64 : Int)).bind fun y13 =>
    bif (!y13.2) then
      some ((PV.agg [(PV.int (0 : Int)), (PV.str ([] : List UInt8)), (PV.int (0 : Int)), (PV.int (0 : Int))]), (0 : Int), (6 : Int))
    else
      some ((PV.agg [(PV.int (2 : Int)), (PV.str ([] : List UInt8)), (PV.int (IntKind.wrap .i64 y13.1)), (PV.int (0 : Int))]), y1, (0 : Int))
    else none
  else none
  else none

noncomputable def F55C (fuel : Nat) : Cfg := cfg Tryz.prog 44 0 [F49_v2c fuel, F87c fuel, LparseUintc fuel] [] fuel

noncomputable def F55c (fuel : Nat) : CallE := { f := 55, A := ⟨1, [], [.str]⟩, R := ⟨3, [], [(.data 34), (.int .i64), (.int .i64)]⟩, F := fun x => F55 fuel x, dflt := (PV.bad, 0, 0) }

theorem F55k (fuel : Nat) : CallOk (F55C fuel) := cfg_callOk (callsC (F49_v2ok fuel) <| callsC (F87ok fuel) <| callsC (LparseUintok fuel) <| callsN)

theorem F55ok (fuel : Nat) : (F55c fuel).Ok Tryz.prog := fun x y h => meets_of (F55k fuel) (f := 55) (fn := Tryz.f55) (c := bodyOf Tryz.f55) (by kernel_rfl) (by kernel_rfl) (by kernel_rfl) (by kernel_rfl) (loops0 (by kernel_rfl)) (A := (F55c fuel).A) (R := (F55c fuel).R) (F := (F55c fuel).F) (fun x => by kernel_rfl) (fun x => by kernel_rfl) x y h

/-- wireschema/token.read -/
noncomputable def F26 (fuel : Nat) (a0 : List UInt8) : Option (PV × Int × Int) :=
  (F48 fuel a0).bind fun y1 =>
  bif (y1 == (3 : Int)) then
    (F54 fuel a0).bind fun y3 =>
    some (y3.1, y3.2.1, y3.2.2)
  else
    bif (y1 == (4 : Int)) then
      (F55 fuel a0).bind fun y8 =>
      some (y8.1, y8.2.1, y8.2.2)
    else
      bif (y1 == (5 : Int)) then
        (F56 fuel a0).bind fun y13 =>
        some ((PV.agg [(PV.int (3 : Int)), (PV.str y13.1), (PV.int (0 : Int)), (PV.int (0 : Int))]), y13.2.1, y13.2.2)
      else
        bif (y1 == (6 : Int)) then
          bif decide (0 ≤ (0 : Int) ∧ (0 : Int) ≤ (1 : Int) ∧ (1 : Int) ≤ (a0.length : Int)) then
          some ((PV.agg [(PV.int (4 : Int)), (PV.str ((a0.take (1 : Int).toNat).drop (0 : Int).toNat)), (PV.int (0 : Int)), (PV.int (0 : Int))]), (1 : Int), (0 : Int))
          else none
        else
          some ((PV.agg [(PV.int (0 : Int)), (PV.str ([] : List UInt8)), (PV.int (0 : Int)), (PV.int (0 : Int))]), (0 : Int), (2 : Int))

noncomputable def F26C (fuel : Nat) : Cfg := cfg Tryz.prog 42 0 [F48c fuel, F54c fuel, F55c fuel, F56c fuel] [] fuel

noncomputable def F26c (fuel : Nat) : CallE := { f := 26, A := ⟨1, [], [.str]⟩, R := ⟨3, [], [(.data 34), (.int .i64), (.int .i64)]⟩, F := fun x => F26 fuel x, dflt := (PV.bad, 0, 0) }

theorem F26k (fuel : Nat) : CallOk (F26C fuel) := cfg_callOk (callsC (F48ok fuel) <| callsC (F54ok fuel) <| callsC (F55ok fuel) <| callsC (F56ok fuel) <| callsN)

theorem F26ok (fuel : Nat) : (F26c fuel).Ok Tryz.prog := fun x y h => meets_of (F26k fuel) (f := 26) (fn := Tryz.f26) (c := bodyOf Tryz.f26) (by kernel_rfl) (by kernel_rfl) (by kernel_rfl) (by kernel_rfl) (loops0 (by kernel_rfl)) (A := (F26c fuel).A) (R := (F26c fuel).R) (F := (F26c fuel).F) (fun x => by kernel_rfl) (fun x => by kernel_rfl) x y h

noncomputable def S11_7 (fuel : Nat) (a3 : List UInt8) (a4 : List PV) (a5 : Int) (a6 : Int) : Option (((List UInt8) × (List PV) × Int × Int) ⊕ (((List PV)) ⊕ ((List PV) × Int × Int))) :=
  bif (decide (a6 < (a3.length : Int))) then
    bif decide (0 ≤ a6 ∧ a6 ≤ (a3.length : Int) ∧ (a3.length : Int) ≤ (a3.length : Int)) then
    (F24 fuel ((a3.take (a3.length : Int).toNat).drop a6.toNat)).bind fun y10 =>
    let x11 := IntKind.wrap .i64 (a6 + y10)
    bif decide (0 ≤ a6 ∧ a6 ≤ x11 ∧ x11 ≤ (a3.length : Int)) then
    (F25 fuel ((a3.take x11.toNat).drop a6.toNat) ([10] : List UInt8)).bind fun y13 =>
    let x14 := IntKind.wrap .i64 (a5 + y13)
    let x15 := IntKind.wrap .i64 (a6 + y10)
    bif (x15 == (a3.length : Int)) then
      some (.inr (.inl a4))
    else
      bif decide (0 ≤ x15 ∧ x15 ≤ (a3.length : Int) ∧ (a3.length : Int) ≤ (a3.length : Int)) then
      (F26 fuel ((a3.take (a3.length : Int).toNat).drop x15.toNat)).bind fun y19 =>
      let x20 := y19.1
      let x21 := y19.2.1
      let x22 := y19.2.2
      bif (x22 != (0 : Int)) then
        some (.inr (.inr ([], x14, x22)))
      else
        bif decide (a4.length + [(PV.agg [(PV.int ((x20.fld 0).asInt)), (PV.str ((x20.fld 1).asStr)), (PV.int ((x20.fld 2).asInt)), (PV.int x14)])].length ≤ accMax) then
        let x24 := a4 ++ [(PV.agg [(PV.int ((x20.fld 0).asInt)), (PV.str ((x20.fld 1).asStr)), (PV.int ((x20.fld 2).asInt)), (PV.int x14)])]
        let x25 := IntKind.wrap .i64 (x15 + x21)
        bif decide (0 ≤ x15 ∧ x15 ≤ x25 ∧ x25 ≤ (a3.length : Int)) then
        (F25 fuel ((a3.take x25.toNat).drop x15.toNat) ([10] : List UInt8)).bind fun y27 =>
        some (.inl (a3, x24, (IntKind.wrap .i64 (x14 + y27)), (IntKind.wrap .i64 (x15 + x21))))
        else none
        else none
      else none
    else none
    else none
  else
    some (.inr (.inl a4))

noncomputable def S11_7step (fuel : Nat) (x : (List UInt8) × (List PV) × Int × Int) : Option (((List UInt8) × (List PV) × Int × Int) ⊕ (((List PV)) ⊕ ((List PV) × Int × Int))) := S11_7 fuel x.1 x.2.1 x.2.2.1 x.2.2.2

/-- wireschema/token.Scan -/
noncomputable def F11 (fuel : Nat) (a0 : List UInt8) : Option ((List PV) × Int × Int) :=
  bif (decide ((a0.length : Int) > (16384 : Int))) then
    some ([], (0 : Int), (3 : Int))
  else
    (loopQ fuel (S11_7step fuel) (a0, [], (1 : Int), (0 : Int))).bind fun z => sumE (fun y30 =>
      some (y30, (0 : Int), (0 : Int))
    ) (fun y31 =>
      some (y31.1, y31.2.1, y31.2.2)
    ) z

noncomputable def S11_7l (fuel : Nat) : LoopE := { key := 7, H := ⟨[0, 5, 6, 7], [.acc], [.str, (.acc 0 34), (.int .i64), (.int .i64)]⟩, X := [(.exit 0, ⟨[5], [.acc], [(.acc 0 34)]⟩), (.ret, ⟨[2, 3, 4], [.acc], [(.slice 34), (.int .i64), (.int .i64)]⟩)], step := S11_7step fuel }

noncomputable def F11C (fuel : Nat) : Cfg := cfg Tryz.prog 69 0 [F24c fuel, F25c fuel, F26c fuel] [S11_7l fuel] fuel

noncomputable def F11c (fuel : Nat) : CallE := { f := 11, A := ⟨1, [], [.str]⟩, R := ⟨3, [], [(.slice 34), (.int .i64), (.int .i64)]⟩, F := fun x => F11 fuel x, dflt := ([], 0, 0) }

theorem F11k (fuel : Nat) : CallOk (F11C fuel) := cfg_callOk (callsC (F24ok fuel) <| callsC (F25ok fuel) <| callsC (F26ok fuel) <| callsN)

theorem S11_7ok (fuel : Nat) : LoopOk (F11C fuel) (lp (bodyOf Tryz.f11) 0) := loopOk_of (F11k fuel) fuel (S11_7l fuel) (loops0 (by kernel_rfl)) (by kernel_rfl) (fun x => by kernel_rfl) (fun R e st K => by kernel_rfl)

theorem F11ok (fuel : Nat) : (F11c fuel).Ok Tryz.prog := fun x y h => meets_of (F11k fuel) (f := 11) (fn := Tryz.f11) (c := bodyOf Tryz.f11) (by kernel_rfl) (by kernel_rfl) (by kernel_rfl) (by kernel_rfl) (loopsN 1 (by kernel_rfl) fun i hi => match i, hi with | 0, _ => S11_7ok fuel | n + 1, h => absurd h (by omega)) (A := (F11c fuel).A) (R := (F11c fuel).R) (F := (F11c fuel).F) (fun x => by kernel_rfl) (fun x => by kernel_rfl) x y h

noncomputable def S4_12 (fuel : Nat) (a30 : List PV) (a31 : List PV) (a32 : List PV) (a33 : List PV) (a34 : List PV) (a35 : Int) : Option (((List PV) × (List PV) × (List PV) × (List PV) × (List PV) × Int) ⊕ (((List PV) × (List PV) × (List PV) × (List PV) × (List PV)))) :=
  bif (decide (a35 < (a31.length : Int))) then
    bif inRange a35 a31.length then
    let x38 := a31.getD a35.toNat .bad
    bif decide (a34.length + [x38].length ≤ accMax) then
    some (.inl (a30, a31, a32, a33, (a34 ++ [x38]), (IntKind.wrap .i64 (a35 + (1 : Int)))))
    else none
    else none
  else
    some (.inr (a30, a31, a32, a33, a34))

noncomputable def S4_12step (fuel : Nat) (x : (List PV) × (List PV) × (List PV) × (List PV) × (List PV) × Int) : Option (((List PV) × (List PV) × (List PV) × (List PV) × (List PV) × Int) ⊕ (((List PV) × (List PV) × (List PV) × (List PV) × (List PV)))) := S4_12 fuel x.1 x.2.1 x.2.2.1 x.2.2.2.1 x.2.2.2.2.1 x.2.2.2.2.2

noncomputable def S4_16 (fuel : Nat) (a42 : List PV) (a43 : List PV) (a44 : List PV) (a45 : List PV) (a46 : List PV) (a47 : Int) : Option (((List PV) × (List PV) × (List PV) × (List PV) × (List PV) × Int) ⊕ (((List PV) × (List PV) × (List PV) × (List PV) × (List PV)))) :=
  bif (decide (a47 < (a45.length : Int))) then
    bif inRange a47 a45.length then
    let x50 := a45.getD a47.toNat .bad
    bif decide (a46.length + [x50].length ≤ accMax) then
    some (.inl (a42, a43, a44, a45, (a46 ++ [x50]), (IntKind.wrap .i64 (a47 + (1 : Int)))))
    else none
    else none
  else
    some (.inr (a42, a43, a44, a45, a46))

noncomputable def S4_16step (fuel : Nat) (x : (List PV) × (List PV) × (List PV) × (List PV) × (List PV) × Int) : Option (((List PV) × (List PV) × (List PV) × (List PV) × (List PV) × Int) ⊕ (((List PV) × (List PV) × (List PV) × (List PV) × (List PV)))) := S4_16 fuel x.1 x.2.1 x.2.2.1 x.2.2.2.1 x.2.2.2.2.1 x.2.2.2.2.2

noncomputable def S4_20 (fuel : Nat) (a54 : List PV) (a55 : List PV) (a56 : List PV) (a57 : List PV) (a58 : List PV) (a59 : Int) : Option (((List PV) × (List PV) × (List PV) × (List PV) × (List PV) × Int) ⊕ (((List PV) × (List PV) × (List PV) × (List PV)))) :=
  bif (decide (a59 < (a56.length : Int))) then
    bif inRange a59 a56.length then
    let x62 := a56.getD a59.toNat .bad
    bif decide (a58.length + [x62].length ≤ accMax) then
    some (.inl (a54, a55, a56, a57, (a58 ++ [x62]), (IntKind.wrap .i64 (a59 + (1 : Int)))))
    else none
    else none
  else
    some (.inr (a54, a55, a57, a58))

noncomputable def S4_20step (fuel : Nat) (x : (List PV) × (List PV) × (List PV) × (List PV) × (List PV) × Int) : Option (((List PV) × (List PV) × (List PV) × (List PV) × (List PV) × Int) ⊕ (((List PV) × (List PV) × (List PV) × (List PV)))) := S4_20 fuel x.1 x.2.1 x.2.2.1 x.2.2.2.1 x.2.2.2.2.1 x.2.2.2.2.2

/-- wireschema/wireschemalaw08.NoteRoundTrips -/
noncomputable def F4 (fuel : Nat) (a0 : List PV) (a1 : List PV) (a2 : List PV) : Option (Bool) :=
  bif (bif (bif (decide ((a0.length : Int) > (40 : Int))) then true else (decide ((a1.length : Int) > (50 : Int)))) then true else (decide ((a2.length : Int) > (50 : Int)))) then
    (Lawake fuel).bind fun y9 =>
    some y9
  else
    (F9 fuel a0).bind fun y10 =>
    (F10 fuel a0).bind fun y11 =>
    bif (bif (y11 == ([] : List UInt8)) then true else (decide ((y10.length : Int) > (16384 : Int)))) then
      (F10 fuel a0).bind fun y17 =>
      let x19 := (y10.length : Int) == (y17.length : Int)
      (bif x19 then Lawake fuel else some false).bind fun y20 =>
      some (bif x19 then y20 else false)
    else
      (F11 fuel y10).bind fun y22 =>
      let x23 := y22.1
      bif (bif (y22.2.2 != (0 : Int)) then true else ((x23.length : Int) == (0 : Int))) then
        some false
      else
        (loopQ fuel (S4_12step fuel) (a0, a1, a2, x23, [], (0 : Int))).bind fun y41 =>
        (loopQ fuel (S4_16step fuel) (y41.1, y41.2.1, y41.2.2.1, y41.2.2.2.1, y41.2.2.2.2, (0 : Int))).bind fun y53 =>
        (loopQ fuel (S4_20step fuel) (y53.1, y53.2.1, y53.2.2.1, y53.2.2.2.1, y53.2.2.2.2, (0 : Int))).bind fun y65 =>
        (F6 fuel y65.2.2.2 (y65.2.1.length : Int)).bind fun y69 =>
        let x80 := bif (y69.2.2 == (0 : Int)) then (y69.2.1 == (IntKind.wrap .i64 ((y65.2.1.length : Int) + (y65.2.2.1.length : Int)))) else false
        (bif x80 then F8 fuel y65.1 y69.1 else some false).bind fun y82 =>
        let x83 := bif x80 then y82 else false
        (bif x83 then Lawake fuel else some false).bind fun y84 =>
        some (bif x83 then y84 else false)

noncomputable def S4_12l (fuel : Nat) : LoopE := { key := 12, H := ⟨[0, 1, 2, 8, 11, 12], [.acc], [(.slice 44), (.slice 34), (.slice 34), (.slice 34), (.acc 0 34), (.int .i64)]⟩, X := [(.exit 0, ⟨[0, 1, 2, 8, 11], [.acc], [(.slice 44), (.slice 34), (.slice 34), (.slice 34), (.acc 0 34)]⟩)], step := S4_12step fuel }

noncomputable def S4_16l (fuel : Nat) : LoopE := { key := 16, H := ⟨[0, 1, 2, 8, 11, 13], [.acc], [(.slice 44), (.slice 34), (.slice 34), (.slice 34), (.acc 0 34), (.int .i64)]⟩, X := [(.exit 2, ⟨[0, 1, 2, 8, 11], [.acc], [(.slice 44), (.slice 34), (.slice 34), (.slice 34), (.acc 0 34)]⟩)], step := S4_16step fuel }

noncomputable def S4_20l (fuel : Nat) : LoopE := { key := 20, H := ⟨[0, 1, 2, 8, 11, 14], [.acc], [(.slice 44), (.slice 34), (.slice 34), (.slice 34), (.acc 0 34), (.int .i64)]⟩, X := [(.exit 4, ⟨[0, 1, 8, 11], [.acc], [(.slice 44), (.slice 34), (.slice 34), (.acc 0 34)]⟩)], step := S4_20step fuel }

noncomputable def F4C (fuel : Nat) : Cfg := cfg Tryz.prog 130 0 [Lawakec fuel, F9c fuel, F10c fuel, F11c fuel, F6c fuel, F8c fuel] [S4_12l fuel, S4_16l fuel, S4_20l fuel] fuel

noncomputable def F4c (fuel : Nat) : CallE := { f := 4, A := ⟨3, [], [(.slice 44), (.slice 34), (.slice 34)]⟩, R := ⟨1, [], [.bool]⟩, F := fun x => F4 fuel x.1 x.2.1 x.2.2, dflt := false }

theorem F4k (fuel : Nat) : CallOk (F4C fuel) := cfg_callOk (callsC (Lawakeok fuel) <| callsC (F9ok fuel) <| callsC (F10ok fuel) <| callsC (F11ok fuel) <| callsC (F6ok fuel) <| callsC (F8ok fuel) <| callsN)

theorem S4_12ok (fuel : Nat) : LoopOk (F4C fuel) (lp (bodyOf Tryz.f4) 0) := loopOk_of (F4k fuel) fuel (S4_12l fuel) (loops0 (by kernel_rfl)) (by kernel_rfl) (fun x => by kernel_rfl) (fun R e st K => by kernel_rfl)

theorem S4_16ok (fuel : Nat) : LoopOk (F4C fuel) (lp (bodyOf Tryz.f4) 1) := loopOk_of (F4k fuel) fuel (S4_16l fuel) (loops0 (by kernel_rfl)) (by kernel_rfl) (fun x => by kernel_rfl) (fun R e st K => by kernel_rfl)

theorem S4_20ok (fuel : Nat) : LoopOk (F4C fuel) (lp (bodyOf Tryz.f4) 2) := loopOk_of (F4k fuel) fuel (S4_20l fuel) (loops0 (by kernel_rfl)) (by kernel_rfl) (fun x => by kernel_rfl) (fun R e st K => by kernel_rfl)

theorem F4ok (fuel : Nat) : (F4c fuel).Ok Tryz.prog := fun x y h => meets_of (F4k fuel) (f := 4) (fn := Tryz.f4) (c := bodyOf Tryz.f4) (by kernel_rfl) (by kernel_rfl) (by kernel_rfl) (by kernel_rfl) (loopsN 3 (by kernel_rfl) fun i hi => match i, hi with | 0, _ => S4_12ok fuel | 1, _ => S4_16ok fuel | 2, _ => S4_20ok fuel | n + 3, h => absurd h (by omega)) (A := (F4c fuel).A) (R := (F4c fuel).R) (F := (F4c fuel).F) (fun x => by kernel_rfl) (fun x => by kernel_rfl) x y h

end Go.Ab
