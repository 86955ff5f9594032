/- A part of the proof: lemmas on how the program runs over plain data. -/
import Derived.Test.YthkagpefbelhoaaDoorAbFmtD
import Derived.KernelRfl
set_option linter.unusedVariables false
set_option linter.unusedSimpArgs false
set_option linter.unnecessarySimpa false
namespace Go.Ab
open Go Go.Proofs
set_option maxRecDepth 100000

/-- wireschema/note.known -/
noncomputable def F24 (fuel : Nat)  : Option ((List (PV × PV))) :=
  some (PV.mput (PV.mput (PV.mput (PV.mput (PV.mput (PV.mput (PV.mput (PV.mput (PV.mput (PV.mput (PV.mput (PV.mput (PV.mput [] (PV.str ([100, 101, 112, 114, 101, 99, 97, 116, 101, 100] : List UInt8)) (PV.agg [(PV.int (1 : Int)), (PV.int (126 : Int))])) (PV.str ([100, 111, 99] : List UInt8)) (PV.agg [(PV.int (7 : Int)), (PV.int (126 : Int))])) (PV.str ([97, 108, 105, 97, 115] : List UInt8)) (PV.agg [(PV.int (7 : Int)), (PV.int (84 : Int))])) (PV.str ([115, 105, 110, 99, 101] : List UInt8)) (PV.agg [(PV.int (4 : Int)), (PV.int (84 : Int))])) (PV.str ([117, 110, 116, 105, 108] : List UInt8)) (PV.agg [(PV.int (4 : Int)), (PV.int (84 : Int))])) (PV.str ([109, 105, 110] : List UInt8)) (PV.agg [(PV.int (3 : Int)), (PV.int (4 : Int))])) (PV.str ([109, 97, 120] : List UInt8)) (PV.agg [(PV.int (3 : Int)), (PV.int (4 : Int))])) (PV.str ([108, 101, 110, 103, 116, 104] : List UInt8)) (PV.agg [(PV.int (4 : Int)), (PV.int (4 : Int))])) (PV.str ([115, 101, 99, 114, 101, 116] : List UInt8)) (PV.agg [(PV.int (1 : Int)), (PV.int (4 : Int))])) (PV.str ([105, 100, 101, 109, 112, 111, 116, 101, 110, 116] : List UInt8)) (PV.agg [(PV.int (1 : Int)), (PV.int (64 : Int))])) (PV.str ([116, 105, 109, 101, 111, 117, 116] : List UInt8)) (PV.agg [(PV.int (4 : Int)), (PV.int (64 : Int))])) (PV.str ([114, 111, 117, 116, 101] : List UInt8)) (PV.agg [(PV.int (7 : Int)), (PV.int (64 : Int))])) (PV.str ([111, 119, 110, 101, 114] : List UInt8)) (PV.agg [(PV.int (7 : Int)), (PV.int (34 : Int))]))

noncomputable def F24C (fuel : Nat) : Cfg := cfg Tryd.prog 16 0 [] [] fuel

noncomputable def F24c (fuel : Nat) : CallE := { f := 24, A := ⟨0, [], []⟩, R := ⟨1, [], [(.map 9 49)]⟩, F := fun x => F24 fuel , dflt := [] }

theorem F24k (fuel : Nat) : CallOk (F24C fuel) := cfg_callOk (callsN)

theorem F24ok (fuel : Nat) : (F24c fuel).Ok Tryd.prog := fun x y h => meets_of (F24k fuel) (f := 24) (fn := Tryd.f24) (c := bodyOf Tryd.f24) (by kernel_rfl) (by kernel_rfl) (by kernel_rfl) (by kernel_rfl) (loops0 (by kernel_rfl)) (A := (F24c fuel).A) (R := (F24c fuel).R) (F := (F24c fuel).F) (fun x => by kernel_rfl) (fun x => by kernel_rfl) x y h

/-- wireschema/note.Kind -/
noncomputable def F8 (fuel : Nat) (a0 : List UInt8) : Option (Int) :=
  (F24 fuel).bind fun y1 =>
  let x2 := (PV.mget y1 (PV.str a0)).getD (PV.agg [(PV.int (0 : Int)), (PV.int (0 : Int))])
  some ((x2.fld 0).asInt)

noncomputable def F8C (fuel : Nat) : Cfg := cfg Tryd.prog 7 0 [F24c fuel] [] fuel

noncomputable def F8c (fuel : Nat) : CallE := { f := 8, A := ⟨1, [], [.str]⟩, R := ⟨1, [], [(.int .i64)]⟩, F := fun x => F8 fuel x, dflt := 0 }

theorem F8k (fuel : Nat) : CallOk (F8C fuel) := cfg_callOk (callsC (F24ok fuel) <| callsN)

theorem F8ok (fuel : Nat) : (F8c fuel).Ok Tryd.prog := fun x y h => meets_of (F8k fuel) (f := 8) (fn := Tryd.f8) (c := bodyOf Tryd.f8) (by kernel_rfl) (by kernel_rfl) (by kernel_rfl) (by kernel_rfl) (loops0 (by kernel_rfl)) (A := (F8c fuel).A) (R := (F8c fuel).R) (F := (F8c fuel).F) (fun x => by kernel_rfl) (fun x => by kernel_rfl) x y h

/-- wireschema/scalar.Is -/
noncomputable def F63 (fuel : Nat) (a0 : Int) : Option (Bool) :=
  some (bif (decide (a0 ≥ (1 : Int))) then (decide (a0 ≤ (9 : Int))) else false)

noncomputable def F63C (fuel : Nat) : Cfg := cfg Tryd.prog 9 0 [] [] fuel

noncomputable def F63c (fuel : Nat) : CallE := { f := 63, A := ⟨1, [], [(.int .i64)]⟩, R := ⟨1, [], [.bool]⟩, F := fun x => F63 fuel x, dflt := false }

theorem F63k (fuel : Nat) : CallOk (F63C fuel) := cfg_callOk (callsN)

theorem F63ok (fuel : Nat) : (F63c fuel).Ok Tryd.prog := fun x y h => meets_of (F63k fuel) (f := 63) (fn := Tryd.f63) (c := bodyOf Tryd.f63) (by kernel_rfl) (by kernel_rfl) (by kernel_rfl) (by kernel_rfl) (loops0 (by kernel_rfl)) (A := (F63c fuel).A) (R := (F63c fuel).R) (F := (F63c fuel).F) (fun x => by kernel_rfl) (fun x => by kernel_rfl) x y h

/-- wireschema/scalar.texty -/
noncomputable def F79 (fuel : Nat) (a0 : Int) : Option (Bool) :=
  some (bif (a0 == (7 : Int)) then true else (a0 == (8 : Int)))

noncomputable def F79C (fuel : Nat) : Cfg := cfg Tryd.prog 9 0 [] [] fuel

noncomputable def F79c (fuel : Nat) : CallE := { f := 79, A := ⟨1, [], [(.int .i64)]⟩, R := ⟨1, [], [.bool]⟩, F := fun x => F79 fuel x, dflt := false }

theorem F79k (fuel : Nat) : CallOk (F79C fuel) := cfg_callOk (callsN)

theorem F79ok (fuel : Nat) : (F79c fuel).Ok Tryd.prog := fun x y h => meets_of (F79k fuel) (f := 79) (fn := Tryd.f79) (c := bodyOf Tryd.f79) (by kernel_rfl) (by kernel_rfl) (by kernel_rfl) (by kernel_rfl) (loops0 (by kernel_rfl)) (A := (F79c fuel).A) (R := (F79c fuel).R) (F := (F79c fuel).F) (fun x => by kernel_rfl) (fun x => by kernel_rfl) x y h

/-- wireschema/scalar.lean -/
noncomputable def F64 (fuel : Nat) (a0 : PV) : Option (Bool) :=
  bif (decide ((IntKind.wrap .i64 ((IntKind.wrap .i64 ((IntKind.wrap .i64 ((((a0.fld 3).asList).length : Int) + (((a0.fld 4).asList).length : Int))) + (((a0.fld 5).asList).length : Int))) + (((a0.fld 6).asList).length : Int))) > (0 : Int))) then
    some false
  else
    (F79 fuel ((a0.fld 0).asInt)).bind fun y14 =>
    bif y14 then
      some (((a0.fld 1).asInt) == (0 : Int))
    else
      some (((a0.fld 2).asStr) == ([] : List UInt8))

noncomputable def F64C (fuel : Nat) : Cfg := cfg Tryd.prog 28 0 [F79c fuel] [] fuel

noncomputable def F64c (fuel : Nat) : CallE := { f := 64, A := ⟨1, [], [(.data 36)]⟩, R := ⟨1, [], [.bool]⟩, F := fun x => F64 fuel x, dflt := false }

theorem F64k (fuel : Nat) : CallOk (F64C fuel) := cfg_callOk (callsC (F79ok fuel) <| callsN)

theorem F64ok (fuel : Nat) : (F64c fuel).Ok Tryd.prog := fun x y h => meets_of (F64k fuel) (f := 64) (fn := Tryd.f64) (c := bodyOf Tryd.f64) (by kernel_rfl) (by kernel_rfl) (by kernel_rfl) (by kernel_rfl) (loops0 (by kernel_rfl)) (A := (F64c fuel).A) (R := (F64c fuel).R) (F := (F64c fuel).F) (fun x => by kernel_rfl) (fun x => by kernel_rfl) x y h

/-- wireschema/scalar.within -/
noncomputable def F65 (fuel : Nat) (a0 : Int) (a1 : Int) : Option (Bool) :=
  bif (a0 == (1 : Int)) then
    some (decide (a1 ≤ (1 : Int)))
  else
    bif (a0 == (2 : Int)) then
      some (bif (decide ((IntKind.wrap .i64 a1) ≥ (-2147483648 : Int))) then (decide ((IntKind.wrap .i64 a1) ≤ (2147483647 : Int))) else false)
    else
      bif (a0 == (9 : Int)) then
        some (decide (a1 ≤ (2147483647 : Int)))
      else
        bif (a0 == (4 : Int)) then
          some (decide (a1 ≤ (4294967295 : Int)))
        else
          some true

noncomputable def F65C (fuel : Nat) : Cfg := cfg Tryd.prog 28 0 [] [] fuel

noncomputable def F65c (fuel : Nat) : CallE := { f := 65, A := ⟨2, [], [(.int .i64), (.int .u64)]⟩, R := ⟨1, [], [.bool]⟩, F := fun x => F65 fuel x.1 x.2, dflt := false }

theorem F65k (fuel : Nat) : CallOk (F65C fuel) := cfg_callOk (callsN)

theorem F65ok (fuel : Nat) : (F65c fuel).Ok Tryd.prog := fun x y h => meets_of (F65k fuel) (f := 65) (fn := Tryd.f65) (c := bodyOf Tryd.f65) (by kernel_rfl) (by kernel_rfl) (by kernel_rfl) (by kernel_rfl) (loops0 (by kernel_rfl)) (A := (F65c fuel).A) (R := (F65c fuel).R) (F := (F65c fuel).F) (fun x => by kernel_rfl) (fun x => by kernel_rfl) x y h

/-- internal/stringslite.HasPrefix -/
noncomputable def F98 (fuel : Nat) (a0 : List UInt8) (a1 : List UInt8) : Option (Bool) :=
  let x3 := decide ((a0.length : Int) ≥ (a1.length : Int))
  let x4 := (a1.length : Int)
  bif imp x3 (decide (0 ≤ (0 : Int) ∧ (0 : Int) ≤ x4 ∧ x4 ≤ (a0.length : Int))) then
  some (bif x3 then (((a0.take x4.toNat).drop (0 : Int).toNat) == a1) else false)
  else none

noncomputable def F98C (fuel : Nat) : Cfg := cfg Tryd.prog 18 0 [] [] fuel

noncomputable def F98c (fuel : Nat) : CallE := { f := 98, A := ⟨2, [], [.str, .str]⟩, R := ⟨1, [], [.bool]⟩, F := fun x => F98 fuel x.1 x.2, dflt := false }

theorem F98k (fuel : Nat) : CallOk (F98C fuel) := cfg_callOk (callsN)

theorem F98ok (fuel : Nat) : (F98c fuel).Ok Tryd.prog := fun x y h => meets_of (F98k fuel) (f := 98) (fn := Tryd.f98) (c := bodyOf Tryd.f98) (by kernel_rfl) (by kernel_rfl) (by kernel_rfl) (by kernel_rfl) (loops0 (by kernel_rfl)) (A := (F98c fuel).A) (R := (F98c fuel).R) (F := (F98c fuel).F) (fun x => by kernel_rfl) (fun x => by kernel_rfl) x y h

/-- strings.HasPrefix -/
noncomputable def F83 (fuel : Nat) (a0 : List UInt8) (a1 : List UInt8) : Option (Bool) :=
  (F98 fuel a0 a1).bind fun y1 =>
  some y1

noncomputable def F83C (fuel : Nat) : Cfg := cfg Tryd.prog 8 0 [F98c fuel] [] fuel

noncomputable def F83c (fuel : Nat) : CallE := { f := 83, A := ⟨2, [], [.str, .str]⟩, R := ⟨1, [], [.bool]⟩, F := fun x => F83 fuel x.1 x.2, dflt := false }

theorem F83k (fuel : Nat) : CallOk (F83C fuel) := cfg_callOk (callsC (F98ok fuel) <| callsN)

theorem F83ok (fuel : Nat) : (F83c fuel).Ok Tryd.prog := fun x y h => meets_of (F83k fuel) (f := 83) (fn := Tryd.f83) (c := bodyOf Tryd.f83) (by kernel_rfl) (by kernel_rfl) (by kernel_rfl) (by kernel_rfl) (loops0 (by kernel_rfl)) (A := (F83c fuel).A) (R := (F83c fuel).R) (F := (F83c fuel).F) (fun x => by kernel_rfl) (fun x => by kernel_rfl) x y h

/-- wireschema/utf.wrong -/
noncomputable def F85 (fuel : Nat) (a0 : List UInt8) (a1 : Int) (a2 : Int) : Option (Bool) :=
  let x1 := a2 == (65533 : Int)
  bif imp x1 (decide (0 ≤ a1 ∧ a1 ≤ (a0.length : Int) ∧ (a0.length : Int) ≤ (a0.length : Int))) then
  (bif x1 then F83 fuel ((a0.take (a0.length : Int).toNat).drop a1.toNat) ([239, 191, 189] : List UInt8) else some false).bind fun y3 =>
  some (bif x1 then (!y3) else false)
  else none

noncomputable def F85C (fuel : Nat) : Cfg := cfg Tryd.prog 16 0 [F83c fuel] [] fuel

noncomputable def F85c (fuel : Nat) : CallE := { f := 85, A := ⟨3, [], [.str, (.int .i64), (.int .i32)]⟩, R := ⟨1, [], [.bool]⟩, F := fun x => F85 fuel x.1 x.2.1 x.2.2, dflt := false }

theorem F85k (fuel : Nat) : CallOk (F85C fuel) := cfg_callOk (callsC (F83ok fuel) <| callsN)

theorem F85ok (fuel : Nat) : (F85c fuel).Ok Tryd.prog := fun x y h => meets_of (F85k fuel) (f := 85) (fn := Tryd.f85) (c := bodyOf Tryd.f85) (by kernel_rfl) (by kernel_rfl) (by kernel_rfl) (by kernel_rfl) (loops0 (by kernel_rfl)) (A := (F85c fuel).A) (R := (F85c fuel).R) (F := (F85c fuel).F) (fun x => by kernel_rfl) (fun x => by kernel_rfl) x y h

noncomputable def S80_3 (fuel : Nat) (a1 : List UInt8) (a2 : Unit) (a3 : List UInt8) (a4 : Int) : Option (((List UInt8) × Unit × (List UInt8) × Int) ⊕ ((Int × (List UInt8) × Int) ⊕ ((List UInt8) × Int))) :=
  bif (decide (a4.toNat < a3.length)) then
    bif decide (a4.toNat < a3.length) then
    let x6 := (a4.toNat : Int)
    bif decide (a4.toNat < a3.length) then
    (F85 fuel a1 x6 ((Utf8.decode ⟨a3.toArray⟩ a4.toNat).1 : Int)).bind fun y8 =>
    bif y8 then
      some (.inr (.inl (x6, a3, ((bif decide (a4.toNat < a3.length) then a4.toNat + (Utf8.decode ⟨a3.toArray⟩ a4.toNat).2 else a4.toNat : Nat) : Int))))
    else
      some (.inl (a1, (), a3, ((bif decide (a4.toNat < a3.length) then a4.toNat + (Utf8.decode ⟨a3.toArray⟩ a4.toNat).2 else a4.toNat : Nat) : Int)))
    else none
    else none
  else
    some (.inr (.inr (a3, ((bif decide (a4.toNat < a3.length) then a4.toNat + (Utf8.decode ⟨a3.toArray⟩ a4.toNat).2 else a4.toNat : Nat) : Int))))

noncomputable def S80_3step (fuel : Nat) (x : (List UInt8) × Unit × (List UInt8) × Int) : Option (((List UInt8) × Unit × (List UInt8) × Int) ⊕ ((Int × (List UInt8) × Int) ⊕ ((List UInt8) × Int))) := S80_3 fuel x.1 x.2.1 x.2.2.1 x.2.2.2

/-- wireschema/utf.Bad -/
noncomputable def F80 (fuel : Nat) (a0 : List UInt8) : Option (Int) :=
  (loopQ fuel (S80_3step fuel) (a0, (), a0, ((0 : Nat) : Int))).bind fun z => sumE (fun y9 =>
    some y9.1
  ) (fun y10 =>
    some (-1 : Int)
  ) z

noncomputable def S80_3l (fuel : Nat) : LoopE := { key := 3, H := ⟨[0, 6], [.iter], [.str, (.con (.iref 0)), .str, (.int .i64)]⟩, X := [(.ret, ⟨[2], [.iter], [(.int .i64), .str, (.int .i64)]⟩), (.exit 0, ⟨[], [.iter], [.str, (.int .i64)]⟩)], step := S80_3step fuel }

noncomputable def F80C (fuel : Nat) : Cfg := cfg Tryd.prog 16 0 [F85c fuel] [S80_3l fuel] fuel

noncomputable def F80c (fuel : Nat) : CallE := { f := 80, A := ⟨1, [], [.str]⟩, R := ⟨1, [], [(.int .i64)]⟩, F := fun x => F80 fuel x, dflt := 0 }

theorem F80k (fuel : Nat) : CallOk (F80C fuel) := cfg_callOk (callsC (F85ok fuel) <| callsN)

theorem S80_3ok (fuel : Nat) : LoopOk (F80C fuel) (lp (bodyOf Tryd.f80) 0) := loopOk_of (F80k fuel) fuel (S80_3l fuel) (loops0 (by kernel_rfl)) (by kernel_rfl) (fun x => by kernel_rfl) (fun R e st K => by kernel_rfl)

theorem F80ok (fuel : Nat) : (F80c fuel).Ok Tryd.prog := fun x y h => meets_of (F80k fuel) (f := 80) (fn := Tryd.f80) (c := bodyOf Tryd.f80) (by kernel_rfl) (by kernel_rfl) (by kernel_rfl) (by kernel_rfl) (loopsN 1 (by kernel_rfl) fun i hi => match i, hi with | 0, _ => S80_3ok fuel | n + 1, h => absurd h (by omega)) (A := (F80c fuel).A) (R := (F80c fuel).R) (F := (F80c fuel).F) (fun x => by kernel_rfl) (fun x => by kernel_rfl) x y h

/-- wireschema/utf.Valid -/
noncomputable def F66 (fuel : Nat) (a0 : List UInt8) : Option (Bool) :=
  (F80 fuel a0).bind fun y1 =>
  some (decide (y1 < (0 : Int)))

noncomputable def F66C (fuel : Nat) : Cfg := cfg Tryd.prog 6 0 [F80c fuel] [] fuel

noncomputable def F66c (fuel : Nat) : CallE := { f := 66, A := ⟨1, [], [.str]⟩, R := ⟨1, [], [.bool]⟩, F := fun x => F66 fuel x, dflt := false }

theorem F66k (fuel : Nat) : CallOk (F66C fuel) := cfg_callOk (callsC (F80ok fuel) <| callsN)

theorem F66ok (fuel : Nat) : (F66c fuel).Ok Tryd.prog := fun x y h => meets_of (F66k fuel) (f := 66) (fn := Tryd.f66) (c := bodyOf Tryd.f66) (by kernel_rfl) (by kernel_rfl) (by kernel_rfl) (by kernel_rfl) (loops0 (by kernel_rfl)) (A := (F66c fuel).A) (R := (F66c fuel).R) (F := (F66c fuel).F) (fun x => by kernel_rfl) (fun x => by kernel_rfl) x y h

/-- wireschema/scalar.Fits -/
noncomputable def F41 (fuel : Nat) (a0 : Int) (a1 : PV) : Option (Bool) :=
  (F63 fuel a0).bind fun y1 =>
  let x5 := bif (!y1) then true else (((a1.fld 0).asInt) != a0)
  (bif !x5 then F64 fuel a1 else some false).bind fun y6 =>
  let x8 := bif x5 then true else (!y6)
  (bif !x8 then F65 fuel a0 ((a1.fld 1).asInt) else some false).bind fun y10 =>
  bif (bif (bif x8 then true else (!y10)) then true else (decide ((((a1.fld 2).asStr).length : Int) > (4096 : Int)))) then
    some false
  else
    let x17 := a0 != (7 : Int)
    (bif !x17 then F66 fuel ((a1.fld 2).asStr) else some false).bind fun y19 =>
    some (bif x17 then true else y19)

noncomputable def F41C (fuel : Nat) : Cfg := cfg Tryd.prog 39 0 [F63c fuel, F64c fuel, F65c fuel, F66c fuel] [] fuel

noncomputable def F41c (fuel : Nat) : CallE := { f := 41, A := ⟨2, [], [(.int .i64), (.data 36)]⟩, R := ⟨1, [], [.bool]⟩, F := fun x => F41 fuel x.1 x.2, dflt := false }

theorem F41k (fuel : Nat) : CallOk (F41C fuel) := cfg_callOk (callsC (F63ok fuel) <| callsC (F64ok fuel) <| callsC (F65ok fuel) <| callsC (F66ok fuel) <| callsN)

theorem F41ok (fuel : Nat) : (F41c fuel).Ok Tryd.prog := fun x y h => meets_of (F41k fuel) (f := 41) (fn := Tryd.f41) (c := bodyOf Tryd.f41) (by kernel_rfl) (by kernel_rfl) (by kernel_rfl) (by kernel_rfl) (loops0 (by kernel_rfl)) (A := (F41c fuel).A) (R := (F41c fuel).R) (F := (F41c fuel).F) (fun x => by kernel_rfl) (fun x => by kernel_rfl) x y h

/-- wireschema/note.right -/
noncomputable def F28 (fuel : Nat) (a0 : PV) : Option (Bool) :=
  (F8 fuel ((a0.fld 0).asStr)).bind fun y2 =>
  let x3 := y2 != (0 : Int)
  (bif x3 then F41 fuel y2 (a0.fld 1) else some false).bind fun y5 =>
  some (bif x3 then y5 else false)

noncomputable def F28C (fuel : Nat) : Cfg := cfg Tryd.prog 15 0 [F8c fuel, F41c fuel] [] fuel

noncomputable def F28c (fuel : Nat) : CallE := { f := 28, A := ⟨1, [], [(.data 44)]⟩, R := ⟨1, [], [.bool]⟩, F := fun x => F28 fuel x, dflt := false }

theorem F28k (fuel : Nat) : CallOk (F28C fuel) := cfg_callOk (callsC (F8ok fuel) <| callsC (F41ok fuel) <| callsN)

theorem F28ok (fuel : Nat) : (F28c fuel).Ok Tryd.prog := fun x y h => meets_of (F28k fuel) (f := 28) (fn := Tryd.f28) (c := bodyOf Tryd.f28) (by kernel_rfl) (by kernel_rfl) (by kernel_rfl) (by kernel_rfl) (loops0 (by kernel_rfl)) (A := (F28c fuel).A) (R := (F28c fuel).R) (F := (F28c fuel).F) (fun x => by kernel_rfl) (fun x => by kernel_rfl) x y h

/-- internal/strconv.FormatBool -/
noncomputable def F67 (fuel : Nat) (a0 : Bool) : Option ((List UInt8)) :=
  bif a0 then
    some ([116, 114, 117, 101] : List UInt8)
  else
    some ([102, 97, 108, 115, 101] : List UInt8)

noncomputable def F67C (fuel : Nat) : Cfg := cfg Tryd.prog 4 0 [] [] fuel

noncomputable def F67c (fuel : Nat) : CallE := { f := 67, A := ⟨1, [], [.bool]⟩, R := ⟨1, [], [.str]⟩, F := fun x => F67 fuel x, dflt := [] }

theorem F67k (fuel : Nat) : CallOk (F67C fuel) := cfg_callOk (callsN)

theorem F67ok (fuel : Nat) : (F67c fuel).Ok Tryd.prog := fun x y h => meets_of (F67k fuel) (f := 67) (fn := Tryd.f67) (c := bodyOf Tryd.f67) (by kernel_rfl) (by kernel_rfl) (by kernel_rfl) (by kernel_rfl) (loops0 (by kernel_rfl)) (A := (F67c fuel).A) (R := (F67c fuel).R) (F := (F67c fuel).F) (fun x => by kernel_rfl) (fun x => by kernel_rfl) x y h

/-- strconv.FormatBool -/
noncomputable def F42 (fuel : Nat) (a0 : Bool) : Option ((List UInt8)) :=
  (F67 fuel a0).bind fun y1 =>
  some y1

noncomputable def F42C (fuel : Nat) : Cfg := cfg Tryd.prog 5 0 [F67c fuel] [] fuel

noncomputable def F42c (fuel : Nat) : CallE := { f := 42, A := ⟨1, [], [.bool]⟩, R := ⟨1, [], [.str]⟩, F := fun x => F42 fuel x, dflt := [] }

theorem F42k (fuel : Nat) : CallOk (F42C fuel) := cfg_callOk (callsC (F67ok fuel) <| callsN)

theorem F42ok (fuel : Nat) : (F42c fuel).Ok Tryd.prog := fun x y h => meets_of (F42k fuel) (f := 42) (fn := Tryd.f42) (c := bodyOf Tryd.f42) (by kernel_rfl) (by kernel_rfl) (by kernel_rfl) (by kernel_rfl) (loops0 (by kernel_rfl)) (A := (F42c fuel).A) (R := (F42c fuel).R) (F := (F42c fuel).F) (fun x => by kernel_rfl) (fun x => by kernel_rfl) x y h

/-- wireschema/scalar.Class -/
noncomputable def F69 (fuel : Nat) (a0 : Int) : Option (Int) :=
  let x1 := bitsI .and .u64 a0 (9218868437227405312 : Int)
  let x2 := bitsI .and .u64 a0 (4503599627370495 : Int)
  bif (bif (x1 == (9218868437227405312 : Int)) then (x2 != (0 : Int)) else false) then
    some (0 : Int)
  else
    bif (x1 == (9218868437227405312 : Int)) then
      some (1 : Int)
    else
      bif (bif (x1 == (0 : Int)) then (x2 == (0 : Int)) else false) then
        some (2 : Int)
      else
        bif (x1 == (0 : Int)) then
          some (3 : Int)
        else
          some (4 : Int)

noncomputable def F69C (fuel : Nat) : Cfg := cfg Tryd.prog 29 0 [] [] fuel

noncomputable def F69c (fuel : Nat) : CallE := { f := 69, A := ⟨1, [], [(.int .u64)]⟩, R := ⟨1, [], [(.int .i64)]⟩, F := fun x => F69 fuel x, dflt := 0 }

theorem F69k (fuel : Nat) : CallOk (F69C fuel) := cfg_callOk (callsN)

theorem F69ok (fuel : Nat) : (F69c fuel).Ok Tryd.prog := fun x y h => meets_of (F69k fuel) (f := 69) (fn := Tryd.f69) (c := bodyOf Tryd.f69) (by kernel_rfl) (by kernel_rfl) (by kernel_rfl) (by kernel_rfl) (loops0 (by kernel_rfl)) (A := (F69c fuel).A) (R := (F69c fuel).R) (F := (F69c fuel).F) (fun x => by kernel_rfl) (fun x => by kernel_rfl) x y h

/-- strconv.FormatUint -/
noncomputable def F47 (fuel : Nat) (a0 : Int) (a1 : Int) : Option ((List UInt8)) :=
  (Lfmtu fuel a0 a1).bind fun y1 =>
  some y1

noncomputable def F47C (fuel : Nat) : Cfg := cfg Tryd.prog 8 0 [Lfmtuc fuel] [] fuel

noncomputable def F47c (fuel : Nat) : CallE := { f := 47, A := ⟨2, [], [(.int .u64), (.int .i64)]⟩, R := ⟨1, [], [.str]⟩, F := fun x => F47 fuel x.1 x.2, dflt := [] }

theorem F47k (fuel : Nat) : CallOk (F47C fuel) := cfg_callOk (callsC (Lfmtuok fuel) <| callsN)

theorem F47ok (fuel : Nat) : (F47c fuel).Ok Tryd.prog := fun x y h => meets_of (F47k fuel) (f := 47) (fn := Tryd.f47) (c := bodyOf Tryd.f47) (by kernel_rfl) (by kernel_rfl) (by kernel_rfl) (by kernel_rfl) (loops0 (by kernel_rfl)) (A := (F47c fuel).A) (R := (F47c fuel).R) (F := (F47c fuel).F) (fun x => by kernel_rfl) (fun x => by kernel_rfl) x y h

/-- wireschema/scalar.double -/
noncomputable def F44 (fuel : Nat) (a0 : Int) : Option ((List UInt8)) :=
  (F69 fuel a0).bind fun y1 =>
  bif (y1 == (0 : Int)) then
    some ([110, 97, 110] : List UInt8)
  else
    bif (bif (y1 == (1 : Int)) then ((bitsI .and .u64 a0 (9223372036854775808 : Int)) != (0 : Int)) else false) then
      some ([45, 105, 110, 102] : List UInt8)
    else
      bif (y1 == (1 : Int)) then
        some ([105, 110, 102] : List UInt8)
      else
        (F47 fuel a0 (16 : Int)).bind fun y8 =>
        (Lrepeat fuel ([48] : List UInt8) (IntKind.wrap .i64 ((16 : Int) - (y8.length : Int)))).bind fun y11 =>
        bif decide (([48, 120] : List UInt8).length + y11.length ≤ strMax) then
        bif decide ((([48, 120] : List UInt8) ++ y11).length + y8.length ≤ strMax) then
        some ((([48, 120] : List UInt8) ++ y11) ++ y8)
        else none
        else none

noncomputable def F44C (fuel : Nat) : Cfg := cfg Tryd.prog 30 0 [F69c fuel, F47c fuel, Lrepeatc fuel] [] fuel

noncomputable def F44c (fuel : Nat) : CallE := { f := 44, A := ⟨1, [], [(.int .u64)]⟩, R := ⟨1, [], [.str]⟩, F := fun x => F44 fuel x, dflt := [] }

theorem F44k (fuel : Nat) : CallOk (F44C fuel) := cfg_callOk (callsC (F69ok fuel) <| callsC (F47ok fuel) <| callsC (Lrepeatok fuel) <| callsN)

theorem F44ok (fuel : Nat) : (F44c fuel).Ok Tryd.prog := fun x y h => meets_of (F44k fuel) (f := 44) (fn := Tryd.f44) (c := bodyOf Tryd.f44) (by kernel_rfl) (by kernel_rfl) (by kernel_rfl) (by kernel_rfl) (loops0 (by kernel_rfl)) (A := (F44c fuel).A) (R := (F44c fuel).R) (F := (F44c fuel).F) (fun x => by kernel_rfl) (fun x => by kernel_rfl) x y h

/-- wireschema/utf.escape -/
noncomputable def F86 (fuel : Nat) (a0 : Int) : Option ((List UInt8)) :=
  let x1 := a0.fdiv (2 ^ (min (4 : Int).toNat (IntKind.bits .u8)))
  let x3 := IntKind.wrap .u8 ((a0.fdiv (2 ^ (min (4 : Int).toNat (IntKind.bits .u8)))) + (1 : Int))
  bif decide (0 ≤ x1 ∧ x1 ≤ x3 ∧ x3 ≤ (([48, 49, 50, 51, 52, 53, 54, 55, 56, 57, 97, 98, 99, 100, 101, 102] : List UInt8).length : Int)) then
  let x4 := (([48, 49, 50, 51, 52, 53, 54, 55, 56, 57, 97, 98, 99, 100, 101, 102] : List UInt8).take x3.toNat).drop x1.toNat
  bif decide (([92, 120] : List UInt8).length + x4.length ≤ strMax) then
  let x5 := bitsI .and .u8 a0 (15 : Int)
  let x7 := IntKind.wrap .u8 ((bitsI .and .u8 a0 (15 : Int)) + (1 : Int))
  bif decide (0 ≤ x5 ∧ x5 ≤ x7 ∧ x7 ≤ (([48, 49, 50, 51, 52, 53, 54, 55, 56, 57, 97, 98, 99, 100, 101, 102] : List UInt8).length : Int)) then
  let x8 := (([48, 49, 50, 51, 52, 53, 54, 55, 56, 57, 97, 98, 99, 100, 101, 102] : List UInt8).take x7.toNat).drop x5.toNat
  bif decide ((([92, 120] : List UInt8) ++ x4).length + x8.length ≤ strMax) then
  some ((([92, 120] : List UInt8) ++ x4) ++ x8)
  else none
  else none
  else none
  else none

noncomputable def F86C (fuel : Nat) : Cfg := cfg Tryd.prog 17 0 [] [] fuel

noncomputable def F86c (fuel : Nat) : CallE := { f := 86, A := ⟨1, [], [(.int .u8)]⟩, R := ⟨1, [], [.str]⟩, F := fun x => F86 fuel x, dflt := [] }

theorem F86k (fuel : Nat) : CallOk (F86C fuel) := cfg_callOk (callsN)

theorem F86ok (fuel : Nat) : (F86c fuel).Ok Tryd.prog := fun x y h => meets_of (F86k fuel) (f := 86) (fn := Tryd.f86) (c := bodyOf Tryd.f86) (by kernel_rfl) (by kernel_rfl) (by kernel_rfl) (by kernel_rfl) (loops0 (by kernel_rfl)) (A := (F86c fuel).A) (R := (F86c fuel).R) (F := (F86c fuel).F) (fun x => by kernel_rfl) (fun x => by kernel_rfl) x y h

/-- wireschema/utf.form -/
noncomputable def F71 (fuel : Nat) (a0 : List UInt8) (a1 : Int) (a2 : Int) : Option ((List UInt8)) :=
  bif (a2 == (34 : Int)) then
    some ([92, 34] : List UInt8)
  else
    bif (a2 == (92 : Int)) then
      some ([92, 92] : List UInt8)
    else
      bif (a2 == (10 : Int)) then
        some ([92, 110] : List UInt8)
      else
        bif (a2 == (9 : Int)) then
          some ([92, 116] : List UInt8)
        else
          bif (a2 == (13 : Int)) then
            some ([92, 114] : List UInt8)
          else
            let x8 := bif (decide (a2 < (32 : Int))) then true else (a2 == (127 : Int))
            (bif !x8 then F85 fuel a0 a1 a2 else some false).bind fun y9 =>
            bif (bif x8 then true else y9) then
              bif inRange a1 a0.length then
              (F86 fuel ((a0.getD a1.toNat 0).toNat : Int)).bind fun y12 =>
              some y12
              else none
            else
              some ((Utf8.encode a2).data.toList)

noncomputable def F71C (fuel : Nat) : Cfg := cfg Tryd.prog 41 0 [F85c fuel, F86c fuel] [] fuel

noncomputable def F71c (fuel : Nat) : CallE := { f := 71, A := ⟨3, [], [.str, (.int .i64), (.int .i32)]⟩, R := ⟨1, [], [.str]⟩, F := fun x => F71 fuel x.1 x.2.1 x.2.2, dflt := [] }

theorem F71k (fuel : Nat) : CallOk (F71C fuel) := cfg_callOk (callsC (F85ok fuel) <| callsC (F86ok fuel) <| callsN)

theorem F71ok (fuel : Nat) : (F71c fuel).Ok Tryd.prog := fun x y h => meets_of (F71k fuel) (f := 71) (fn := Tryd.f71) (c := bodyOf Tryd.f71) (by kernel_rfl) (by kernel_rfl) (by kernel_rfl) (by kernel_rfl) (loops0 (by kernel_rfl)) (A := (F71c fuel).A) (R := (F71c fuel).R) (F := (F71c fuel).F) (fun x => by kernel_rfl) (fun x => by kernel_rfl) x y h

noncomputable def S45_5 (fuel : Nat) (a2 : List UInt8) (a3 : Unit) (a4 : Unit) (a5 : List UInt8) (a6 : List UInt8) (a7 : Int) : Option (((List UInt8) × Unit × Unit × (List UInt8) × (List UInt8) × Int) ⊕ ((Unit × (List UInt8) × (List UInt8) × Int))) :=
  bif (decide (a7.toNat < a6.length)) then
    bif decide (a7.toNat < a6.length) then
    bif decide (a7.toNat < a6.length) then
    (F71 fuel a2 (a7.toNat : Int) ((Utf8.decode ⟨a6.toArray⟩ a7.toNat).1 : Int)).bind fun y11 =>
    (LwriteString fuel y11 a5).bind fun y12 =>
    some (.inl (a2, (), (), y12.2.2, a6, ((bif decide (a7.toNat < a6.length) then a7.toNat + (Utf8.decode ⟨a6.toArray⟩ a7.toNat).2 else a7.toNat : Nat) : Int)))
    else none
    else none
  else
    some (.inr ((), a5, a6, ((bif decide (a7.toNat < a6.length) then a7.toNat + (Utf8.decode ⟨a6.toArray⟩ a7.toNat).2 else a7.toNat : Nat) : Int)))

noncomputable def S45_5step (fuel : Nat) (x : (List UInt8) × Unit × Unit × (List UInt8) × (List UInt8) × Int) : Option (((List UInt8) × Unit × Unit × (List UInt8) × (List UInt8) × Int) ⊕ ((Unit × (List UInt8) × (List UInt8) × Int))) := S45_5 fuel x.1 x.2.1 x.2.2.1 x.2.2.2.1 x.2.2.2.2.1 x.2.2.2.2.2

/-- wireschema/utf.Quote -/
noncomputable def F45 (fuel : Nat) (a0 : List UInt8) : Option ((List UInt8)) :=
  (LwriteString fuel ([34] : List UInt8) []).bind fun y1 =>
  (loopQ fuel (S45_5step fuel) (a0, (), (), y1.2.2, a0, ((0 : Nat) : Int))).bind fun y13 =>
  (LwriteString fuel ([34] : List UInt8) y13.2.1).bind fun y14 =>
  (Lstring fuel y14.2.2).bind fun y15 =>
  some y15.1

noncomputable def S45_5l (fuel : Nat) : LoopE := { key := 5, H := ⟨[0, 3, 8], [.bld 74, .iter], [.str, (.con (.bref 0 74)), (.con (.iref 1)), .str, .str, (.int .i64)]⟩, X := [(.exit 0, ⟨[3], [.bld 74, .iter], [(.con (.bref 0 74)), .str, .str, (.int .i64)]⟩)], step := S45_5step fuel }

noncomputable def F45C (fuel : Nat) : Cfg := cfg Tryd.prog 20 0 [LwriteString_74c fuel, F71c fuel, Lstring_74c fuel] [S45_5l fuel] fuel

noncomputable def F45c (fuel : Nat) : CallE := { f := 45, A := ⟨1, [], [.str]⟩, R := ⟨1, [], [.str]⟩, F := fun x => F45 fuel x, dflt := [] }

theorem F45k (fuel : Nat) : CallOk (F45C fuel) := cfg_callOk (callsC (LwriteString_74ok fuel) <| callsC (F71ok fuel) <| callsC (Lstring_74ok fuel) <| callsN)

theorem S45_5ok (fuel : Nat) : LoopOk (F45C fuel) (lp (bodyOf Tryd.f45) 0) := loopOk_of (F45k fuel) fuel (S45_5l fuel) (loops0 (by kernel_rfl)) (by kernel_rfl) (fun x => by kernel_rfl) (fun R e st K => by kernel_rfl)

theorem F45ok (fuel : Nat) : (F45c fuel).Ok Tryd.prog := fun x y h => meets_of (F45k fuel) (f := 45) (fn := Tryd.f45) (c := bodyOf Tryd.f45) (by kernel_rfl) (by kernel_rfl) (by kernel_rfl) (by kernel_rfl) (loopsN 1 (by kernel_rfl) fun i hi => match i, hi with | 0, _ => S45_5ok fuel | n + 1, h => absurd h (by omega)) (A := (F45c fuel).A) (R := (F45c fuel).R) (F := (F45c fuel).F) (fun x => by kernel_rfl) (fun x => by kernel_rfl) x y h

/-- wireschema/scalar.Text -/
noncomputable def F29 (fuel : Nat) (a0 : PV) : Option ((List UInt8)) :=
  (F41 fuel ((a0.fld 0).asInt) a0).bind fun y2 =>
  bif (!y2) then
    some ([] : List UInt8)
  else
    let x4 := (a0.fld 0).asInt
    bif (x4 == (1 : Int)) then
      (F42 fuel (((a0.fld 1).asInt) == (1 : Int))).bind fun y8 =>
      some y8
    else
      bif (x4 == (2 : Int)) then
        (Litoa fuel (IntKind.wrap .i64 ((a0.fld 1).asInt))).bind fun y12 =>
        some y12
      else
        bif (x4 == (3 : Int)) then
          (Litoa fuel (IntKind.wrap .i64 ((a0.fld 1).asInt))).bind fun y16 =>
          some y16
        else
          bif (x4 == (6 : Int)) then
            (F44 fuel ((a0.fld 1).asInt)).bind fun y19 =>
            some y19
          else
            bif (x4 == (7 : Int)) then
              (F45 fuel ((a0.fld 2).asStr)).bind fun y22 =>
              some y22
            else
              bif (x4 == (8 : Int)) then
                none
              else
                (F47 fuel ((a0.fld 1).asInt) (10 : Int)).bind fun y26 =>
                some y26

noncomputable def F29C (fuel : Nat) : Cfg := cfg Tryd.prog 43 0 [F41c fuel, F42c fuel, Litoac fuel, F44c fuel, F45c fuel, F47c fuel] [] fuel

noncomputable def F29c (fuel : Nat) : CallE := { f := 29, A := ⟨1, [], [(.data 36)]⟩, R := ⟨1, [], [.str]⟩, F := fun x => F29 fuel x, dflt := [] }

theorem F29k (fuel : Nat) : CallOk (F29C fuel) := cfg_callOk (callsC (F41ok fuel) <| callsC (F42ok fuel) <| callsC (Litoaok fuel) <| callsC (F44ok fuel) <| callsC (F45ok fuel) <| callsC (F47ok fuel) <| callsN)

theorem F29ok (fuel : Nat) : (F29c fuel).Ok Tryd.prog := fun x y h => meets_of (F29k fuel) (f := 29) (fn := Tryd.f29) (c := bodyOf Tryd.f29) (by kernel_rfl) (by kernel_rfl) (by kernel_rfl) (by kernel_rfl) (loops0 (by kernel_rfl)) (A := (F29c fuel).A) (R := (F29c fuel).R) (F := (F29c fuel).F) (fun x => by kernel_rfl) (fun x => by kernel_rfl) x y h

noncomputable def S13_4 (fuel : Nat) (a2 : List PV) (a3 : List PV) (a4 : Int) (a5 : Int) : Option (((List PV) × (List PV) × Int × Int) ⊕ (((List UInt8)) ⊕ ((List PV)))) :=
  bif (decide (a5 < a4)) then
    bif inRange a5 a3.length then
    let x7 := a3.getD a5.toNat .bad
    (F28 fuel x7).bind fun y8 =>
    bif (!y8) then
      some (.inr (.inl ([] : List UInt8)))
    else
      let x10 := (x7.fld 0).asStr
      bif decide (x10.length + ([32, 61, 32] : List UInt8).length ≤ strMax) then
      let x11 := x10 ++ ([32, 61, 32] : List UInt8)
      (F29 fuel (x7.fld 1)).bind fun y13 =>
      bif decide (x11.length + y13.length ≤ strMax) then
      let x14 := x11 ++ y13
      bif decide (a2.length + [(PV.str x14)].length ≤ accMax) then
      some (.inl ((a2 ++ [(PV.str x14)]), a3, a4, (IntKind.wrap .i64 (a5 + (1 : Int)))))
      else none
      else none
      else none
    else none
  else
    some (.inr (.inr a2))

noncomputable def S13_4step (fuel : Nat) (x : (List PV) × (List PV) × Int × Int) : Option (((List PV) × (List PV) × Int × Int) ⊕ (((List UInt8)) ⊕ ((List PV)))) := S13_4 fuel x.1 x.2.1 x.2.2.1 x.2.2.2

/-- wireschema/note.Text -/
noncomputable def F13 (fuel : Nat) (a0 : List PV) : Option ((List UInt8)) :=
  (loopQ fuel (S13_4step fuel) ([], a0, (a0.length : Int), (0 : Int))).bind fun z => sumE (fun y17 =>
    some y17
  ) (fun y18 =>
    bif ((y18.length : Int) == (0 : Int)) then
      some ([] : List UInt8)
    else
      (Ljoin fuel y18 ([44, 32] : List UInt8)).bind fun y21 =>
      bif decide (([91] : List UInt8).length + y21.length ≤ strMax) then
      bif decide ((([91] : List UInt8) ++ y21).length + ([93] : List UInt8).length ≤ strMax) then
      some ((([91] : List UInt8) ++ y21) ++ ([93] : List UInt8))
      else none
      else none
  ) z

noncomputable def S13_4l (fuel : Nat) : LoopE := { key := 4, H := ⟨[3, 6, 7, 8], [.acc], [(.acc 0 9), (.slice 44), (.int .i64), (.int .i64)]⟩, X := [(.ret, ⟨[2], [.acc], [.str]⟩), (.exit 0, ⟨[3], [.acc], [(.acc 0 9)]⟩)], step := S13_4step fuel }

noncomputable def F13C (fuel : Nat) : Cfg := cfg Tryd.prog 33 0 [F28c fuel, F29c fuel, Ljoinc fuel] [S13_4l fuel] fuel

noncomputable def F13c (fuel : Nat) : CallE := { f := 13, A := ⟨1, [], [(.slice 44)]⟩, R := ⟨1, [], [.str]⟩, F := fun x => F13 fuel x, dflt := [] }

theorem F13k (fuel : Nat) : CallOk (F13C fuel) := cfg_callOk (callsC (F28ok fuel) <| callsC (F29ok fuel) <| callsC (Ljoinok fuel) <| callsN)

theorem S13_4ok (fuel : Nat) : LoopOk (F13C fuel) (lp (bodyOf Tryd.f13) 0) := loopOk_of (F13k fuel) fuel (S13_4l fuel) (loops0 (by kernel_rfl)) (by kernel_rfl) (fun x => by kernel_rfl) (fun R e st K => by kernel_rfl)

theorem F13ok (fuel : Nat) : (F13c fuel).Ok Tryd.prog := fun x y h => meets_of (F13k fuel) (f := 13) (fn := Tryd.f13) (c := bodyOf Tryd.f13) (by kernel_rfl) (by kernel_rfl) (by kernel_rfl) (by kernel_rfl) (loopsN 1 (by kernel_rfl) fun i hi => match i, hi with | 0, _ => S13_4ok fuel | n + 1, h => absurd h (by omega)) (A := (F13c fuel).A) (R := (F13c fuel).R) (F := (F13c fuel).F) (fun x => by kernel_rfl) (fun x => by kernel_rfl) x y h

/-- wireschema/note.one -/
noncomputable def F25 (fuel : Nat) (a0 : PV) (a1 : Int) (a2 : List UInt8) (a3 : Bool) : Option (Int) :=
  (F24 fuel).bind fun y1 =>
  let x2 := (a0.fld 0).asStr
  let x3 := (PV.mget y1 (PV.str x2)).getD (PV.agg [(PV.int (0 : Int)), (PV.int (0 : Int))])
  bif (!(PV.mhas y1 (PV.str x2))) then
    some (8 : Int)
  else
    let x8 := bif (decide (a1 < (1 : Int))) then true else (decide (a1 > (6 : Int)))
    bif imp (!x8) (decide (0 ≤ a1)) then
    bif (bif x8 then true else ((bitsI .and .i64 (((x3.fld 1).asInt).fdiv (2 ^ (min a1.toNat (IntKind.bits .i64)))) (1 : Int)) == (0 : Int))) then
      some (1 : Int)
    else
      (F28 fuel a0).bind fun y14 =>
      bif (!y14) then
        some (12 : Int)
      else
        bif (bif a3 then (Op.bytesLess ((a0.fld 0).asStr) a2) else false) then
          some (11 : Int)
        else
          bif (bif a3 then (((a0.fld 0).asStr) == a2) else false) then
            some (9 : Int)
          else
            some (0 : Int)
    else none

noncomputable def F25C (fuel : Nat) : Cfg := cfg Tryd.prog 56 0 [F24c fuel, F28c fuel] [] fuel

noncomputable def F25c (fuel : Nat) : CallE := { f := 25, A := ⟨4, [], [(.data 44), (.int .i64), .str, .bool]⟩, R := ⟨1, [], [(.int .i64)]⟩, F := fun x => F25 fuel x.1 x.2.1 x.2.2.1 x.2.2.2, dflt := 0 }

theorem F25k (fuel : Nat) : CallOk (F25C fuel) := cfg_callOk (callsC (F24ok fuel) <| callsC (F28ok fuel) <| callsN)

theorem F25ok (fuel : Nat) : (F25c fuel).Ok Tryd.prog := fun x y h => meets_of (F25k fuel) (f := 25) (fn := Tryd.f25) (c := bodyOf Tryd.f25) (by kernel_rfl) (by kernel_rfl) (by kernel_rfl) (by kernel_rfl) (loops0 (by kernel_rfl)) (A := (F25c fuel).A) (R := (F25c fuel).R) (F := (F25c fuel).F) (fun x => by kernel_rfl) (fun x => by kernel_rfl) x y h

noncomputable def S10_6 (fuel : Nat) (a4 : Int) (a5 : List UInt8) (a6 : List PV) (a7 : Int) (a8 : Int) : Option ((Int × (List UInt8) × (List PV) × Int × Int) ⊕ ((Int) ⊕ (Unit))) :=
  bif (decide (a8 < a7)) then
    bif inRange a8 a6.length then
    let x10 := a6.getD a8.toNat .bad
    (F25 fuel x10 a4 a5 (decide (a8 > (0 : Int)))).bind fun y12 =>
    bif (y12 != (0 : Int)) then
      some (.inr (.inl y12))
    else
      some (.inl (a4, ((x10.fld 0).asStr), a6, a7, (IntKind.wrap .i64 (a8 + (1 : Int)))))
    else none
  else
    some (.inr (.inr ()))

noncomputable def S10_6step (fuel : Nat) (x : Int × (List UInt8) × (List PV) × Int × Int) : Option ((Int × (List UInt8) × (List PV) × Int × Int) ⊕ ((Int) ⊕ (Unit))) := S10_6 fuel x.1 x.2.1 x.2.2.1 x.2.2.2.1 x.2.2.2.2

/-- wireschema/note.Check -/
noncomputable def F10 (fuel : Nat) (a0 : List PV) (a1 : Int) : Option (Int) :=
  bif (decide ((a0.length : Int) > (8 : Int))) then
    some (3 : Int)
  else
    (loopQ fuel (S10_6step fuel) (a1, ([] : List UInt8), a0, (a0.length : Int), (0 : Int))).bind fun z => sumE (fun y16 =>
      some y16
    ) (fun y17 =>
      some (0 : Int)
    ) z

noncomputable def S10_6l (fuel : Nat) : LoopE := { key := 6, H := ⟨[1, 5, 12, 13, 14], [], [(.int .i64), .str, (.slice 44), (.int .i64), (.int .i64)]⟩, X := [(.ret, ⟨[4], [], [(.int .i64)]⟩), (.exit 0, ⟨[], [], []⟩)], step := S10_6step fuel }

noncomputable def F10C (fuel : Nat) : Cfg := cfg Tryd.prog 31 0 [F25c fuel] [S10_6l fuel] fuel

noncomputable def F10c (fuel : Nat) : CallE := { f := 10, A := ⟨2, [], [(.slice 44), (.int .i64)]⟩, R := ⟨1, [], [(.int .i64)]⟩, F := fun x => F10 fuel x.1 x.2, dflt := 0 }

theorem F10k (fuel : Nat) : CallOk (F10C fuel) := cfg_callOk (callsC (F25ok fuel) <| callsN)

theorem S10_6ok (fuel : Nat) : LoopOk (F10C fuel) (lp (bodyOf Tryd.f10) 0) := loopOk_of (F10k fuel) fuel (S10_6l fuel) (loops0 (by kernel_rfl)) (by kernel_rfl) (fun x => by kernel_rfl) (fun R e st K => by kernel_rfl)

theorem F10ok (fuel : Nat) : (F10c fuel).Ok Tryd.prog := fun x y h => meets_of (F10k fuel) (f := 10) (fn := Tryd.f10) (c := bodyOf Tryd.f10) (by kernel_rfl) (by kernel_rfl) (by kernel_rfl) (by kernel_rfl) (loopsN 1 (by kernel_rfl) fun i hi => match i, hi with | 0, _ => S10_6ok fuel | n + 1, h => absurd h (by omega)) (A := (F10c fuel).A) (R := (F10c fuel).R) (F := (F10c fuel).F) (fun x => by kernel_rfl) (fun x => by kernel_rfl) x y h

/-- wireschema/wireschemalaw08.awake -/
noncomputable def F12 (fuel : Nat)  : Option (Bool) :=
  (F13 fuel [(PV.agg [(PV.str ([97, 108, 105, 97, 115] : List UInt8)), (PV.agg [(PV.int (7 : Int)), (PV.int (0 : Int)), (PV.str ([105, 100] : List UInt8)), (PV.slice []), (PV.slice []), (PV.slice []), (PV.slice [])])]), (PV.agg [(PV.str ([109, 105, 110] : List UInt8)), (PV.agg [(PV.int (3 : Int)), (PV.int (18446744073709551611 : Int)), (PV.str ([] : List UInt8)), (PV.slice []), (PV.slice []), (PV.slice []), (PV.slice [])])])]).bind fun y1 =>
  let x2 := y1 == ([91, 97, 108, 105, 97, 115, 32, 61, 32, 34, 105, 100, 34, 44, 32, 109, 105, 110, 32, 61, 32, 45, 53, 93] : List UInt8)
  (bif x2 then F10 fuel [(PV.agg [(PV.str ([97, 108, 105, 97, 115] : List UInt8)), (PV.agg [(PV.int (7 : Int)), (PV.int (0 : Int)), (PV.str ([105, 100] : List UInt8)), (PV.slice []), (PV.slice []), (PV.slice []), (PV.slice [])])]), (PV.agg [(PV.str ([109, 105, 110] : List UInt8)), (PV.agg [(PV.int (3 : Int)), (PV.int (18446744073709551611 : Int)), (PV.str ([] : List UInt8)), (PV.slice []), (PV.slice []), (PV.slice []), (PV.slice [])])])] (2 : Int) else some 0).bind fun y3 =>
  let x5 := bif x2 then (y3 == (0 : Int)) else false
  (bif x5 then F10 fuel [(PV.agg [(PV.str ([97, 108, 105, 97, 115] : List UInt8)), (PV.agg [(PV.int (7 : Int)), (PV.int (0 : Int)), (PV.str ([105, 100] : List UInt8)), (PV.slice []), (PV.slice []), (PV.slice []), (PV.slice [])])]), (PV.agg [(PV.str ([109, 105, 110] : List UInt8)), (PV.agg [(PV.int (3 : Int)), (PV.int (18446744073709551611 : Int)), (PV.str ([] : List UInt8)), (PV.slice []), (PV.slice []), (PV.slice []), (PV.slice [])])])] (4 : Int) else some 0).bind fun y6 =>
  let x8 := bif x5 then (y6 == (1 : Int)) else false
  (bif x8 then F8 fuel ([115, 101, 99, 114, 101, 116] : List UInt8) else some 0).bind fun y9 =>
  some (bif x8 then (y9 == (1 : Int)) else false)

noncomputable def F12C (fuel : Nat) : Cfg := cfg Tryd.prog 24 0 [F13c fuel, F10c fuel, F8c fuel] [] fuel

noncomputable def F12c (fuel : Nat) : CallE := { f := 12, A := ⟨0, [], []⟩, R := ⟨1, [], [.bool]⟩, F := fun x => F12 fuel , dflt := false }

theorem F12k (fuel : Nat) : CallOk (F12C fuel) := cfg_callOk (callsC (F13ok fuel) <| callsC (F10ok fuel) <| callsC (F8ok fuel) <| callsN)

theorem F12ok (fuel : Nat) : (F12c fuel).Ok Tryd.prog := fun x y h => meets_of (F12k fuel) (f := 12) (fn := Tryd.f12) (c := bodyOf Tryd.f12) (by kernel_rfl) (by kernel_rfl) (by kernel_rfl) (by kernel_rfl) (loops0 (by kernel_rfl)) (A := (F12c fuel).A) (R := (F12c fuel).R) (F := (F12c fuel).F) (fun x => by kernel_rfl) (fun x => by kernel_rfl) x y h


theorem awake_run : F12 1000 = some true := by kernel_rfl
def Lawake (fuel : Nat) : Option Bool := some true
def Lawakec (fuel : Nat) : CallE := { f := 12, A := ⟨0, [], []⟩, R := ⟨1, [], [.bool]⟩, F := fun x => Lawake fuel, dflt := false }
theorem Lawakeok (fuel : Nat) : (Lawakec fuel).Ok Tryd.prog := fun x y h => F12ok 1000 () y (awake_run.trans h)

/-- wireschema/wireschemaref08.Kind -/
noncomputable def F9 (fuel : Nat) (a0 : List UInt8) : Option (Int) :=
  let x1 := a0 == ([100, 101, 112, 114, 101, 99, 97, 116, 101, 100] : List UInt8)
  bif x1 then
    some (1 : Int)
  else
    bif (a0 == ([115, 101, 99, 114, 101, 116] : List UInt8)) then
      some (1 : Int)
    else
      let x3 := a0 == ([105, 100, 101, 109, 112, 111, 116, 101, 110, 116] : List UInt8)
      bif x3 then
        some (1 : Int)
      else
        bif (a0 == ([100, 111, 99] : List UInt8)) then
          some (7 : Int)
        else
          bif (a0 == ([97, 108, 105, 97, 115] : List UInt8)) then
            some (7 : Int)
          else
            bif (a0 == ([114, 111, 117, 116, 101] : List UInt8)) then
              some (7 : Int)
            else
              bif (a0 == ([111, 119, 110, 101, 114] : List UInt8)) then
                some (7 : Int)
              else
                bif (a0 == ([115, 105, 110, 99, 101] : List UInt8)) then
                  some (4 : Int)
                else
                  bif (a0 == ([117, 110, 116, 105, 108] : List UInt8)) then
                    some (4 : Int)
                  else
                    bif (a0 == ([108, 101, 110, 103, 116, 104] : List UInt8)) then
                      some (4 : Int)
                    else
                      bif (a0 == ([116, 105, 109, 101, 111, 117, 116] : List UInt8)) then
                        some (4 : Int)
                      else
                        bif (a0 == ([109, 105, 110] : List UInt8)) then
                          some (3 : Int)
                        else
                          bif (a0 == ([109, 97, 120] : List UInt8)) then
                            some (3 : Int)
                          else
                            some (0 : Int)

noncomputable def F9C (fuel : Nat) : Cfg := cfg Tryd.prog 21 0 [] [] fuel

noncomputable def F9c (fuel : Nat) : CallE := { f := 9, A := ⟨1, [], [.str]⟩, R := ⟨1, [], [(.int .i64)]⟩, F := fun x => F9 fuel x, dflt := 0 }

theorem F9k (fuel : Nat) : CallOk (F9C fuel) := cfg_callOk (callsN)

theorem F9ok (fuel : Nat) : (F9c fuel).Ok Tryd.prog := fun x y h => meets_of (F9k fuel) (f := 9) (fn := Tryd.f9) (c := bodyOf Tryd.f9) (by kernel_rfl) (by kernel_rfl) (by kernel_rfl) (by kernel_rfl) (loops0 (by kernel_rfl)) (A := (F9c fuel).A) (R := (F9c fuel).R) (F := (F9c fuel).F) (fun x => by kernel_rfl) (fun x => by kernel_rfl) x y h

/-- wireschema/wireschemaref08.fits -/
noncomputable def F26 (fuel : Nat) (a0 : List UInt8) (a1 : Int) : Option (Bool) :=
  let x1 := a0 == ([100, 101, 112, 114, 101, 99, 97, 116, 101, 100] : List UInt8)
  bif x1 then
    some (bif (decide (a1 ≥ (1 : Int))) then (decide (a1 ≤ (6 : Int))) else false)
  else
    bif (a0 == ([100, 111, 99] : List UInt8)) then
      some (bif (decide (a1 ≥ (1 : Int))) then (decide (a1 ≤ (6 : Int))) else false)
    else
      bif (a0 == ([97, 108, 105, 97, 115] : List UInt8)) then
        some (bif (bif (a1 == (2 : Int)) then true else (a1 == (4 : Int))) then true else (a1 == (6 : Int)))
      else
        bif (a0 == ([115, 105, 110, 99, 101] : List UInt8)) then
          some (bif (bif (a1 == (2 : Int)) then true else (a1 == (4 : Int))) then true else (a1 == (6 : Int)))
        else
          bif (a0 == ([117, 110, 116, 105, 108] : List UInt8)) then
            some (bif (bif (a1 == (2 : Int)) then true else (a1 == (4 : Int))) then true else (a1 == (6 : Int)))
          else
            bif (a0 == ([109, 105, 110] : List UInt8)) then
              some (a1 == (2 : Int))
            else
              bif (a0 == ([109, 97, 120] : List UInt8)) then
                some (a1 == (2 : Int))
              else
                bif (a0 == ([108, 101, 110, 103, 116, 104] : List UInt8)) then
                  some (a1 == (2 : Int))
                else
                  bif (a0 == ([115, 101, 99, 114, 101, 116] : List UInt8)) then
                    some (a1 == (2 : Int))
                  else
                    let x35 := a0 == ([105, 100, 101, 109, 112, 111, 116, 101, 110, 116] : List UInt8)
                    bif x35 then
                      some (a1 == (6 : Int))
                    else
                      bif (a0 == ([116, 105, 109, 101, 111, 117, 116] : List UInt8)) then
                        some (a1 == (6 : Int))
                      else
                        bif (a0 == ([114, 111, 117, 116, 101] : List UInt8)) then
                          some (a1 == (6 : Int))
                        else
                          some (bif (a1 == (1 : Int)) then true else (a1 == (5 : Int)))

noncomputable def F26C (fuel : Nat) : Cfg := cfg Tryd.prog 48 0 [] [] fuel

noncomputable def F26c (fuel : Nat) : CallE := { f := 26, A := ⟨2, [], [.str, (.int .i64)]⟩, R := ⟨1, [], [.bool]⟩, F := fun x => F26 fuel x.1 x.2, dflt := false }

theorem F26k (fuel : Nat) : CallOk (F26C fuel) := cfg_callOk (callsN)

theorem F26ok (fuel : Nat) : (F26c fuel).Ok Tryd.prog := fun x y h => meets_of (F26k fuel) (f := 26) (fn := Tryd.f26) (c := bodyOf Tryd.f26) (by kernel_rfl) (by kernel_rfl) (by kernel_rfl) (by kernel_rfl) (loops0 (by kernel_rfl)) (A := (F26c fuel).A) (R := (F26c fuel).R) (F := (F26c fuel).F) (fun x => by kernel_rfl) (fun x => by kernel_rfl) x y h

/-- wireschema/wireschemaref04.Is -/
noncomputable def F59 (fuel : Nat) (a0 : Int) : Option (Bool) :=
  some (bif (decide (a0 ≥ (1 : Int))) then (decide (a0 ≤ (9 : Int))) else false)

noncomputable def F59C (fuel : Nat) : Cfg := cfg Tryd.prog 9 0 [] [] fuel

noncomputable def F59c (fuel : Nat) : CallE := { f := 59, A := ⟨1, [], [(.int .i64)]⟩, R := ⟨1, [], [.bool]⟩, F := fun x => F59 fuel x, dflt := false }

theorem F59k (fuel : Nat) : CallOk (F59C fuel) := cfg_callOk (callsN)

theorem F59ok (fuel : Nat) : (F59c fuel).Ok Tryd.prog := fun x y h => meets_of (F59k fuel) (f := 59) (fn := Tryd.f59) (c := bodyOf Tryd.f59) (by kernel_rfl) (by kernel_rfl) (by kernel_rfl) (by kernel_rfl) (loops0 (by kernel_rfl)) (A := (F59c fuel).A) (R := (F59c fuel).R) (F := (F59c fuel).F) (fun x => by kernel_rfl) (fun x => by kernel_rfl) x y h

/-- wireschema/wireschemaref04.lone -/
noncomputable def F60 (fuel : Nat) (a0 : PV) : Option (Bool) :=
  some (bif (bif (bif ((((a0.fld 3).asList).length : Int) == (0 : Int)) then ((((a0.fld 4).asList).length : Int) == (0 : Int)) else false) then ((((a0.fld 5).asList).length : Int) == (0 : Int)) else false) then ((((a0.fld 6).asList).length : Int) == (0 : Int)) else false)

noncomputable def F60C (fuel : Nat) : Cfg := cfg Tryd.prog 25 0 [] [] fuel

noncomputable def F60c (fuel : Nat) : CallE := { f := 60, A := ⟨1, [], [(.data 36)]⟩, R := ⟨1, [], [.bool]⟩, F := fun x => F60 fuel x, dflt := false }

theorem F60k (fuel : Nat) : CallOk (F60C fuel) := cfg_callOk (callsN)

theorem F60ok (fuel : Nat) : (F60c fuel).Ok Tryd.prog := fun x y h => meets_of (F60k fuel) (f := 60) (fn := Tryd.f60) (c := bodyOf Tryd.f60) (by kernel_rfl) (by kernel_rfl) (by kernel_rfl) (by kernel_rfl) (loops0 (by kernel_rfl)) (A := (F60c fuel).A) (R := (F60c fuel).R) (F := (F60c fuel).F) (fun x => by kernel_rfl) (fun x => by kernel_rfl) x y h

/-- wireschema/wireschemaref04.texts -/
noncomputable def F61 (fuel : Nat) (a0 : Int) : Option (Bool) :=
  some (bif (a0 == (7 : Int)) then true else (a0 == (8 : Int)))

noncomputable def F61C (fuel : Nat) : Cfg := cfg Tryd.prog 9 0 [] [] fuel

noncomputable def F61c (fuel : Nat) : CallE := { f := 61, A := ⟨1, [], [(.int .i64)]⟩, R := ⟨1, [], [.bool]⟩, F := fun x => F61 fuel x, dflt := false }

theorem F61k (fuel : Nat) : CallOk (F61C fuel) := cfg_callOk (callsN)

theorem F61ok (fuel : Nat) : (F61c fuel).Ok Tryd.prog := fun x y h => meets_of (F61k fuel) (f := 61) (fn := Tryd.f61) (c := bodyOf Tryd.f61) (by kernel_rfl) (by kernel_rfl) (by kernel_rfl) (by kernel_rfl) (loops0 (by kernel_rfl)) (A := (F61c fuel).A) (R := (F61c fuel).R) (F := (F61c fuel).F) (fun x => by kernel_rfl) (fun x => by kernel_rfl) x y h

/-- wireschema/wireschemaref03.between -/
noncomputable def F94 (fuel : Nat) (a0 : List UInt8) (a1 : Int) (a2 : Int) (a3 : Int) : Option (Bool) :=
  let x2 := decide (a1 < (a0.length : Int))
  bif imp x2 (inRange a1 a0.length) then
  let x5 := bif x2 then (decide (((a0.getD a1.toNat 0).toNat : Int) ≥ a2)) else false
  bif imp x5 (inRange a1 a0.length) then
  some (bif x5 then (decide (((a0.getD a1.toNat 0).toNat : Int) ≤ a3)) else false)
  else none
  else none

noncomputable def F94C (fuel : Nat) : Cfg := cfg Tryd.prog 27 0 [] [] fuel

noncomputable def F94c (fuel : Nat) : CallE := { f := 94, A := ⟨4, [], [.str, (.int .i64), (.int .u8), (.int .u8)]⟩, R := ⟨1, [], [.bool]⟩, F := fun x => F94 fuel x.1 x.2.1 x.2.2.1 x.2.2.2, dflt := false }

theorem F94k (fuel : Nat) : CallOk (F94C fuel) := cfg_callOk (callsN)

theorem F94ok (fuel : Nat) : (F94c fuel).Ok Tryd.prog := fun x y h => meets_of (F94k fuel) (f := 94) (fn := Tryd.f94) (c := bodyOf Tryd.f94) (by kernel_rfl) (by kernel_rfl) (by kernel_rfl) (by kernel_rfl) (loops0 (by kernel_rfl)) (A := (F94c fuel).A) (R := (F94c fuel).R) (F := (F94c fuel).F) (fun x => by kernel_rfl) (fun x => by kernel_rfl) x y h

noncomputable def S93_3 (fuel : Nat) (a1 : List UInt8) (a2 : Int) (a3 : Int) (a4 : Int) : Option (((List UInt8) × Int × Int × Int) ⊕ ((Bool) ⊕ (Unit))) :=
  bif (decide (a4 < a3)) then
    (F94 fuel a1 (IntKind.wrap .i64 (a2 + a4)) (128 : Int) (191 : Int)).bind fun y7 =>
    bif (!y7) then
      some (.inr (.inl false))
    else
      some (.inl (a1, a2, a3, (IntKind.wrap .i64 (a4 + (1 : Int)))))
  else
    some (.inr (.inr ()))

noncomputable def S93_3step (fuel : Nat) (x : (List UInt8) × Int × Int × Int) : Option (((List UInt8) × Int × Int × Int) ⊕ ((Bool) ⊕ (Unit))) := S93_3 fuel x.1 x.2.1 x.2.2.1 x.2.2.2

/-- wireschema/wireschemaref03.tail -/
noncomputable def F93 (fuel : Nat) (a0 : List UInt8) (a1 : Int) (a2 : Int) : Option (Bool) :=
  (loopQ fuel (S93_3step fuel) (a0, a1, a2, (0 : Int))).bind fun z => sumE (fun y10 =>
    some y10
  ) (fun y11 =>
    some true
  ) z

noncomputable def S93_3l (fuel : Nat) : LoopE := { key := 3, H := ⟨[0, 1, 2, 7], [], [.str, (.int .i64), (.int .i64), (.int .i64)]⟩, X := [(.ret, ⟨[6], [], [.bool]⟩), (.exit 0, ⟨[], [], []⟩)], step := S93_3step fuel }

noncomputable def F93C (fuel : Nat) : Cfg := cfg Tryd.prog 19 0 [F94c fuel] [S93_3l fuel] fuel

noncomputable def F93c (fuel : Nat) : CallE := { f := 93, A := ⟨3, [], [.str, (.int .i64), (.int .i64)]⟩, R := ⟨1, [], [.bool]⟩, F := fun x => F93 fuel x.1 x.2.1 x.2.2, dflt := false }

theorem F93k (fuel : Nat) : CallOk (F93C fuel) := cfg_callOk (callsC (F94ok fuel) <| callsN)

theorem S93_3ok (fuel : Nat) : LoopOk (F93C fuel) (lp (bodyOf Tryd.f93) 0) := loopOk_of (F93k fuel) fuel (S93_3l fuel) (loops0 (by kernel_rfl)) (by kernel_rfl) (fun x => by kernel_rfl) (fun R e st K => by kernel_rfl)

theorem F93ok (fuel : Nat) : (F93c fuel).Ok Tryd.prog := fun x y h => meets_of (F93k fuel) (f := 93) (fn := Tryd.f93) (c := bodyOf Tryd.f93) (by kernel_rfl) (by kernel_rfl) (by kernel_rfl) (by kernel_rfl) (loopsN 1 (by kernel_rfl) fun i hi => match i, hi with | 0, _ => S93_3ok fuel | n + 1, h => absurd h (by omega)) (A := (F93c fuel).A) (R := (F93c fuel).R) (F := (F93c fuel).F) (fun x => by kernel_rfl) (fun x => by kernel_rfl) x y h

/-- wireschema/wireschemaref03.Size -/
noncomputable def F75 (fuel : Nat) (a0 : List UInt8) (a1 : Int) : Option (Int) :=
  bif inRange a1 a0.length then
  let x1 := ((a0.getD a1.toNat 0).toNat : Int)
  bif (decide (x1 < (128 : Int))) then
    some (1 : Int)
  else
    let x5 := bif (decide (x1 ≥ (194 : Int))) then (decide (x1 ≤ (223 : Int))) else false
    (bif x5 then F93 fuel a0 (IntKind.wrap .i64 (a1 + (1 : Int))) (1 : Int) else some false).bind fun y7 =>
    bif (bif x5 then y7 else false) then
      some (2 : Int)
    else
      let x9 := x1 == (224 : Int)
      (bif x9 then F94 fuel a0 (IntKind.wrap .i64 (a1 + (1 : Int))) (160 : Int) (191 : Int) else some false).bind fun y11 =>
      let x12 := bif x9 then y11 else false
      (bif x12 then F93 fuel a0 (IntKind.wrap .i64 (a1 + (2 : Int))) (1 : Int) else some false).bind fun y14 =>
      bif (bif x12 then y14 else false) then
        some (3 : Int)
      else
        let x16 := x1 == (237 : Int)
        (bif x16 then F94 fuel a0 (IntKind.wrap .i64 (a1 + (1 : Int))) (128 : Int) (159 : Int) else some false).bind fun y18 =>
        let x19 := bif x16 then y18 else false
        (bif x19 then F93 fuel a0 (IntKind.wrap .i64 (a1 + (2 : Int))) (1 : Int) else some false).bind fun y21 =>
        bif (bif x19 then y21 else false) then
          some (3 : Int)
        else
          let x27 := bif (bif (decide (x1 ≥ (225 : Int))) then (decide (x1 ≤ (239 : Int))) else false) then (x1 != (237 : Int)) else false
          (bif x27 then F93 fuel a0 (IntKind.wrap .i64 (a1 + (1 : Int))) (2 : Int) else some false).bind fun y29 =>
          bif (bif x27 then y29 else false) then
            some (3 : Int)
          else
            let x31 := x1 == (240 : Int)
            (bif x31 then F94 fuel a0 (IntKind.wrap .i64 (a1 + (1 : Int))) (144 : Int) (191 : Int) else some false).bind fun y33 =>
            let x34 := bif x31 then y33 else false
            (bif x34 then F93 fuel a0 (IntKind.wrap .i64 (a1 + (2 : Int))) (2 : Int) else some false).bind fun y36 =>
            bif (bif x34 then y36 else false) then
              some (4 : Int)
            else
              let x40 := bif (decide (x1 ≥ (241 : Int))) then (decide (x1 ≤ (243 : Int))) else false
              (bif x40 then F93 fuel a0 (IntKind.wrap .i64 (a1 + (1 : Int))) (3 : Int) else some false).bind fun y42 =>
              bif (bif x40 then y42 else false) then
                some (4 : Int)
              else
                let x44 := x1 == (244 : Int)
                (bif x44 then F94 fuel a0 (IntKind.wrap .i64 (a1 + (1 : Int))) (128 : Int) (143 : Int) else some false).bind fun y46 =>
                let x47 := bif x44 then y46 else false
                (bif x47 then F93 fuel a0 (IntKind.wrap .i64 (a1 + (2 : Int))) (2 : Int) else some false).bind fun y49 =>
                bif (bif x47 then y49 else false) then
                  some (4 : Int)
                else
                  some (0 : Int)
  else none

noncomputable def F75C (fuel : Nat) : Cfg := cfg Tryd.prog 115 0 [F93c fuel, F94c fuel] [] fuel

noncomputable def F75c (fuel : Nat) : CallE := { f := 75, A := ⟨2, [], [.str, (.int .i64)]⟩, R := ⟨1, [], [(.int .i64)]⟩, F := fun x => F75 fuel x.1 x.2, dflt := 0 }

theorem F75k (fuel : Nat) : CallOk (F75C fuel) := cfg_callOk (callsC (F93ok fuel) <| callsC (F94ok fuel) <| callsN)

theorem F75ok (fuel : Nat) : (F75c fuel).Ok Tryd.prog := fun x y h => meets_of (F75k fuel) (f := 75) (fn := Tryd.f75) (c := bodyOf Tryd.f75) (by kernel_rfl) (by kernel_rfl) (by kernel_rfl) (by kernel_rfl) (loops0 (by kernel_rfl)) (A := (F75c fuel).A) (R := (F75c fuel).R) (F := (F75c fuel).F) (fun x => by kernel_rfl) (fun x => by kernel_rfl) x y h

noncomputable def S78_3 (fuel : Nat) (a1 : List UInt8) (a2 : Int) : Option (((List UInt8) × Int) ⊕ ((Int) ⊕ (Unit))) :=
  bif (decide (a2 < (a1.length : Int))) then
    (F75 fuel a1 a2).bind fun y5 =>
    bif (y5 == (0 : Int)) then
      some (.inr (.inl a2))
    else
      some (.inl (a1, (IntKind.wrap .i64 (a2 + y5))))
  else
    some (.inr (.inr ()))

noncomputable def S78_3step (fuel : Nat) (x : (List UInt8) × Int) : Option (((List UInt8) × Int) ⊕ ((Int) ⊕ (Unit))) := S78_3 fuel x.1 x.2

/-- wireschema/wireschemaref03.Bad -/
noncomputable def F78 (fuel : Nat) (a0 : List UInt8) : Option (Int) :=
  (loopQ fuel (S78_3step fuel) (a0, (0 : Int))).bind fun z => sumE (fun y8 =>
    some y8
  ) (fun y9 =>
    some (-1 : Int)
  ) z

noncomputable def S78_3l (fuel : Nat) : LoopE := { key := 3, H := ⟨[0, 3], [], [.str, (.int .i64)]⟩, X := [(.ret, ⟨[2], [], [(.int .i64)]⟩), (.exit 0, ⟨[], [], []⟩)], step := S78_3step fuel }

noncomputable def F78C (fuel : Nat) : Cfg := cfg Tryd.prog 18 0 [F75c fuel] [S78_3l fuel] fuel

noncomputable def F78c (fuel : Nat) : CallE := { f := 78, A := ⟨1, [], [.str]⟩, R := ⟨1, [], [(.int .i64)]⟩, F := fun x => F78 fuel x, dflt := 0 }

theorem F78k (fuel : Nat) : CallOk (F78C fuel) := cfg_callOk (callsC (F75ok fuel) <| callsN)

theorem S78_3ok (fuel : Nat) : LoopOk (F78C fuel) (lp (bodyOf Tryd.f78) 0) := loopOk_of (F78k fuel) fuel (S78_3l fuel) (loops0 (by kernel_rfl)) (by kernel_rfl) (fun x => by kernel_rfl) (fun R e st K => by kernel_rfl)

theorem F78ok (fuel : Nat) : (F78c fuel).Ok Tryd.prog := fun x y h => meets_of (F78k fuel) (f := 78) (fn := Tryd.f78) (c := bodyOf Tryd.f78) (by kernel_rfl) (by kernel_rfl) (by kernel_rfl) (by kernel_rfl) (loopsN 1 (by kernel_rfl) fun i hi => match i, hi with | 0, _ => S78_3ok fuel | n + 1, h => absurd h (by omega)) (A := (F78c fuel).A) (R := (F78c fuel).R) (F := (F78c fuel).F) (fun x => by kernel_rfl) (fun x => by kernel_rfl) x y h

/-- wireschema/wireschemaref03.Valid -/
noncomputable def F62 (fuel : Nat) (a0 : List UInt8) : Option (Bool) :=
  (F78 fuel a0).bind fun y1 =>
  some (decide (y1 < (0 : Int)))

noncomputable def F62C (fuel : Nat) : Cfg := cfg Tryd.prog 6 0 [F78c fuel] [] fuel

noncomputable def F62c (fuel : Nat) : CallE := { f := 62, A := ⟨1, [], [.str]⟩, R := ⟨1, [], [.bool]⟩, F := fun x => F62 fuel x, dflt := false }

theorem F62k (fuel : Nat) : CallOk (F62C fuel) := cfg_callOk (callsC (F78ok fuel) <| callsN)

theorem F62ok (fuel : Nat) : (F62c fuel).Ok Tryd.prog := fun x y h => meets_of (F62k fuel) (f := 62) (fn := Tryd.f62) (c := bodyOf Tryd.f62) (by kernel_rfl) (by kernel_rfl) (by kernel_rfl) (by kernel_rfl) (loops0 (by kernel_rfl)) (A := (F62c fuel).A) (R := (F62c fuel).R) (F := (F62c fuel).F) (fun x => by kernel_rfl) (fun x => by kernel_rfl) x y h

/-- wireschema/wireschemaref04.Fits -/
noncomputable def F40 (fuel : Nat) (a0 : Int) (a1 : PV) : Option (Bool) :=
  (F59 fuel a0).bind fun y1 =>
  let x5 := bif (!y1) then true else (((a1.fld 0).asInt) != a0)
  (bif !x5 then F60 fuel a1 else some false).bind fun y6 =>
  bif (bif x5 then true else (!y6)) then
    some false
  else
    (F61 fuel a0).bind fun y9 =>
    bif y9 then
      let x15 := bif (((a1.fld 1).asInt) == (0 : Int)) then (decide ((((a1.fld 2).asStr).length : Int) ≤ (4096 : Int))) else false
      let x16 := a0 == (8 : Int)
      (bif bif !x16 then x15 else false then F62 fuel ((a1.fld 2).asStr) else some false).bind fun y18 =>
      some (bif x15 then (bif x16 then true else y18) else false)
    else
      bif (!(((a1.fld 2).asStr) == ([] : List UInt8))) then
        some false
      else
        bif (a0 == (1 : Int)) then
          some (decide (((a1.fld 1).asInt) ≤ (1 : Int)))
        else
          bif (a0 == (2 : Int)) then
            let x28 := IntKind.wrap .i64 ((a1.fld 1).asInt)
            some (bif (decide (x28 ≥ (-2147483648 : Int))) then (decide (x28 ≤ (2147483647 : Int))) else false)
          else
            bif (a0 == (4 : Int)) then
              some (decide (((a1.fld 1).asInt) < (4294967296 : Int)))
            else
              bif (a0 == (9 : Int)) then
                some (decide (((a1.fld 1).asInt) < (2147483648 : Int)))
              else
                some true

noncomputable def F40C (fuel : Nat) : Cfg := cfg Tryd.prog 70 0 [F59c fuel, F60c fuel, F61c fuel, F62c fuel] [] fuel

noncomputable def F40c (fuel : Nat) : CallE := { f := 40, A := ⟨2, [], [(.int .i64), (.data 36)]⟩, R := ⟨1, [], [.bool]⟩, F := fun x => F40 fuel x.1 x.2, dflt := false }

theorem F40k (fuel : Nat) : CallOk (F40C fuel) := cfg_callOk (callsC (F59ok fuel) <| callsC (F60ok fuel) <| callsC (F61ok fuel) <| callsC (F62ok fuel) <| callsN)

theorem F40ok (fuel : Nat) : (F40c fuel).Ok Tryd.prog := fun x y h => meets_of (F40k fuel) (f := 40) (fn := Tryd.f40) (c := bodyOf Tryd.f40) (by kernel_rfl) (by kernel_rfl) (by kernel_rfl) (by kernel_rfl) (loops0 (by kernel_rfl)) (A := (F40c fuel).A) (R := (F40c fuel).R) (F := (F40c fuel).F) (fun x => by kernel_rfl) (fun x => by kernel_rfl) x y h

/-- wireschema/wireschemaref08.Right -/
noncomputable def F27 (fuel : Nat) (a0 : PV) : Option (Bool) :=
  (F9 fuel ((a0.fld 0).asStr)).bind fun y2 =>
  let x6 := bif (y2 != (0 : Int)) then ((((a0.fld 1).fld 0).asInt) == y2) else false
  (bif x6 then F40 fuel y2 (a0.fld 1) else some false).bind fun y8 =>
  some (bif x6 then y8 else false)

noncomputable def F27C (fuel : Nat) : Cfg := cfg Tryd.prog 22 0 [F9c fuel, F40c fuel] [] fuel

noncomputable def F27c (fuel : Nat) : CallE := { f := 27, A := ⟨1, [], [(.data 44)]⟩, R := ⟨1, [], [.bool]⟩, F := fun x => F27 fuel x, dflt := false }

theorem F27k (fuel : Nat) : CallOk (F27C fuel) := cfg_callOk (callsC (F9ok fuel) <| callsC (F40ok fuel) <| callsN)

theorem F27ok (fuel : Nat) : (F27c fuel).Ok Tryd.prog := fun x y h => meets_of (F27k fuel) (f := 27) (fn := Tryd.f27) (c := bodyOf Tryd.f27) (by kernel_rfl) (by kernel_rfl) (by kernel_rfl) (by kernel_rfl) (loops0 (by kernel_rfl)) (A := (F27c fuel).A) (R := (F27c fuel).R) (F := (F27c fuel).F) (fun x => by kernel_rfl) (fun x => by kernel_rfl) x y h

noncomputable def S11_5 (fuel : Nat) (a3 : List PV) (a4 : Int) (a5 : Int) : Option (((List PV) × Int × Int) ⊕ ((Int) ⊕ (Unit))) :=
  bif (decide (a5 < (a3.length : Int))) then
    bif inRange a5 a3.length then
    (F9 fuel ((a3.getD a5.toNat .bad).fld 0).asStr).bind fun y11 =>
    bif (y11 == (0 : Int)) then
      some (.inr (.inl (8 : Int)))
    else
      bif inRange a5 a3.length then
      (F26 fuel ((a3.getD a5.toNat .bad).fld 0).asStr a4).bind fun y16 =>
      bif (!y16) then
        some (.inr (.inl (1 : Int)))
      else
        bif inRange a5 a3.length then
        (F27 fuel (a3.getD a5.toNat .bad)).bind fun y19 =>
        bif (!y19) then
          some (.inr (.inl (12 : Int)))
        else
          let x21 := decide (a5 > (0 : Int))
          bif imp x21 (inRange a5 a3.length) then
          let x25 := IntKind.wrap .i64 (a5 - (1 : Int))
          bif imp x21 (inRange x25 a3.length) then
          bif (bif x21 then (Op.bytesLess ((a3.getD a5.toNat .bad).fld 0).asStr ((a3.getD x25.toNat .bad).fld 0).asStr) else false) then
            some (.inr (.inl (11 : Int)))
          else
            let x31 := decide (a5 > (0 : Int))
            bif imp x31 (inRange a5 a3.length) then
            let x35 := IntKind.wrap .i64 (a5 - (1 : Int))
            bif imp x31 (inRange x35 a3.length) then
            bif (bif x31 then (((a3.getD a5.toNat .bad).fld 0).asStr == ((a3.getD x35.toNat .bad).fld 0).asStr) else false) then
              some (.inr (.inl (9 : Int)))
            else
              some (.inl (a3, a4, (IntKind.wrap .i64 (a5 + (1 : Int)))))
            else none
            else none
          else none
          else none
        else none
      else none
    else none
  else
    some (.inr (.inr ()))

noncomputable def S11_5step (fuel : Nat) (x : (List PV) × Int × Int) : Option (((List PV) × Int × Int) ⊕ ((Int) ⊕ (Unit))) := S11_5 fuel x.1 x.2.1 x.2.2

/-- wireschema/wireschemaref08.Check -/
noncomputable def F11 (fuel : Nat) (a0 : List PV) (a1 : Int) : Option (Int) :=
  bif (decide ((a0.length : Int) > (8 : Int))) then
    some (3 : Int)
  else
    (loopQ fuel (S11_5step fuel) (a0, a1, (0 : Int))).bind fun z => sumE (fun y42 =>
      some y42
    ) (fun y43 =>
      some (0 : Int)
    ) z

noncomputable def S11_5l (fuel : Nat) : LoopE := { key := 5, H := ⟨[0, 1, 5], [], [(.slice 44), (.int .i64), (.int .i64)]⟩, X := [(.ret, ⟨[4], [], [(.int .i64)]⟩), (.exit 0, ⟨[], [], []⟩)], step := S11_5step fuel }

noncomputable def F11C (fuel : Nat) : Cfg := cfg Tryd.prog 68 0 [F9c fuel, F26c fuel, F27c fuel] [S11_5l fuel] fuel

noncomputable def F11c (fuel : Nat) : CallE := { f := 11, A := ⟨2, [], [(.slice 44), (.int .i64)]⟩, R := ⟨1, [], [(.int .i64)]⟩, F := fun x => F11 fuel x.1 x.2, dflt := 0 }

theorem F11k (fuel : Nat) : CallOk (F11C fuel) := cfg_callOk (callsC (F9ok fuel) <| callsC (F26ok fuel) <| callsC (F27ok fuel) <| callsN)

theorem S11_5ok (fuel : Nat) : LoopOk (F11C fuel) (lp (bodyOf Tryd.f11) 0) := loopOk_of (F11k fuel) fuel (S11_5l fuel) (loops0 (by kernel_rfl)) (by kernel_rfl) (fun x => by kernel_rfl) (fun R e st K => by kernel_rfl)

theorem F11ok (fuel : Nat) : (F11c fuel).Ok Tryd.prog := fun x y h => meets_of (F11k fuel) (f := 11) (fn := Tryd.f11) (c := bodyOf Tryd.f11) (by kernel_rfl) (by kernel_rfl) (by kernel_rfl) (by kernel_rfl) (loopsN 1 (by kernel_rfl) fun i hi => match i, hi with | 0, _ => S11_5ok fuel | n + 1, h => absurd h (by omega)) (A := (F11c fuel).A) (R := (F11c fuel).R) (F := (F11c fuel).F) (fun x => by kernel_rfl) (fun x => by kernel_rfl) x y h

/-- wireschema/wireschemalaw08.NoteChecks -/
noncomputable def F3 (fuel : Nat) (a0 : List PV) (a1 : Int) (a2 : List UInt8) : Option (Bool) :=
  (F8 fuel a2).bind fun y1 =>
  (F9 fuel a2).bind fun y2 =>
  let x3 := y1 == y2
  (bif x3 then F10 fuel a0 a1 else some 0).bind fun y4 =>
  (bif x3 then F11 fuel a0 a1 else some 0).bind fun y5 =>
  let x7 := bif x3 then (y4 == y5) else false
  (bif x7 then Lawake fuel else some false).bind fun y8 =>
  some (bif x7 then y8 else false)

noncomputable def F3C (fuel : Nat) : Cfg := cfg Tryd.prog 24 0 [F8c fuel, F9c fuel, F10c fuel, F11c fuel, Lawakec fuel] [] fuel

noncomputable def F3c (fuel : Nat) : CallE := { f := 3, A := ⟨3, [], [(.slice 44), (.int .i64), .str]⟩, R := ⟨1, [], [.bool]⟩, F := fun x => F3 fuel x.1 x.2.1 x.2.2, dflt := false }

theorem F3k (fuel : Nat) : CallOk (F3C fuel) := cfg_callOk (callsC (F8ok fuel) <| callsC (F9ok fuel) <| callsC (F10ok fuel) <| callsC (F11ok fuel) <| callsC (Lawakeok fuel) <| callsN)

theorem F3ok (fuel : Nat) : (F3c fuel).Ok Tryd.prog := fun x y h => meets_of (F3k fuel) (f := 3) (fn := Tryd.f3) (c := bodyOf Tryd.f3) (by kernel_rfl) (by kernel_rfl) (by kernel_rfl) (by kernel_rfl) (loops0 (by kernel_rfl)) (A := (F3c fuel).A) (R := (F3c fuel).R) (F := (F3c fuel).F) (fun x => by kernel_rfl) (fun x => by kernel_rfl) x y h

noncomputable def S51_3 (fuel : Nat) (a4 : Int) (a5 : List UInt8) : Option ((Int × (List UInt8)) ⊕ (((List UInt8)))) :=
  bif (decide (a4 ≥ (10 : Int))) then
    let x7 := IntKind.wrap .u64 (a4.tdiv (10 : Int))
    let x10 := IntKind.wrap .u8 (IntKind.wrap .u64 ((48 : Int) + (x7.tmod (10 : Int))))
    bif decide (([(PV.int x10)].map byteOfPV).length + a5.length ≤ strMax) then
    some (.inl (x7, ([(PV.int x10)].map byteOfPV) ++ a5))
    else none
  else
    some (.inr a5)

noncomputable def S51_3step (fuel : Nat) (x : Int × (List UInt8)) : Option ((Int × (List UInt8)) ⊕ (((List UInt8)))) := S51_3 fuel x.1 x.2

/-- wireschema/wireschemaref04.decimal -/
noncomputable def F51 (fuel : Nat) (a0 : Int) : Option ((List UInt8)) :=
  (loopQ fuel (S51_3step fuel) (a0, [(PV.int (IntKind.wrap .u8 (IntKind.wrap .u64 ((48 : Int) + (a0.tmod (10 : Int))))))].map byteOfPV)).bind fun y11 =>
  some y11

noncomputable def S51_3l (fuel : Nat) : LoopE := { key := 3, H := ⟨[0, 3], [], [(.int .u64), .str]⟩, X := [(.exit 0, ⟨[3], [], [.str]⟩)], step := S51_3step fuel }

noncomputable def F51C (fuel : Nat) : Cfg := cfg Tryd.prog 23 0 [] [S51_3l fuel] fuel

noncomputable def F51c (fuel : Nat) : CallE := { f := 51, A := ⟨1, [], [(.int .u64)]⟩, R := ⟨1, [], [.str]⟩, F := fun x => F51 fuel x, dflt := [] }

theorem F51k (fuel : Nat) : CallOk (F51C fuel) := cfg_callOk (callsN)

theorem S51_3ok (fuel : Nat) : LoopOk (F51C fuel) (lp (bodyOf Tryd.f51) 0) := loopOk_of (F51k fuel) fuel (S51_3l fuel) (loops0 (by kernel_rfl)) (by kernel_rfl) (fun x => by kernel_rfl) (fun R e st K => by kernel_rfl)

theorem F51ok (fuel : Nat) : (F51c fuel).Ok Tryd.prog := fun x y h => meets_of (F51k fuel) (f := 51) (fn := Tryd.f51) (c := bodyOf Tryd.f51) (by kernel_rfl) (by kernel_rfl) (by kernel_rfl) (by kernel_rfl) (loopsN 1 (by kernel_rfl) fun i hi => match i, hi with | 0, _ => S51_3ok fuel | n + 1, h => absurd h (by omega)) (A := (F51c fuel).A) (R := (F51c fuel).R) (F := (F51c fuel).F) (fun x => by kernel_rfl) (fun x => by kernel_rfl) x y h

/-- wireschema/wireschemaref04.Class -/
noncomputable def F52 (fuel : Nat) (a0 : Int) : Option (Int) :=
  let x1 := a0.tmod (9223372036854775808 : Int)
  bif (decide (x1 > (9218868437227405312 : Int))) then
    some (0 : Int)
  else
    bif (x1 == (9218868437227405312 : Int)) then
      some (1 : Int)
    else
      bif (x1 == (0 : Int)) then
        some (2 : Int)
      else
        bif (decide (x1 < (4503599627370496 : Int))) then
          some (3 : Int)
        else
          some (4 : Int)

noncomputable def F52C (fuel : Nat) : Cfg := cfg Tryd.prog 18 0 [] [] fuel

noncomputable def F52c (fuel : Nat) : CallE := { f := 52, A := ⟨1, [], [(.int .u64)]⟩, R := ⟨1, [], [(.int .i64)]⟩, F := fun x => F52 fuel x, dflt := 0 }

theorem F52k (fuel : Nat) : CallOk (F52C fuel) := cfg_callOk (callsN)

theorem F52ok (fuel : Nat) : (F52c fuel).Ok Tryd.prog := fun x y h => meets_of (F52k fuel) (f := 52) (fn := Tryd.f52) (c := bodyOf Tryd.f52) (by kernel_rfl) (by kernel_rfl) (by kernel_rfl) (by kernel_rfl) (loops0 (by kernel_rfl)) (A := (F52c fuel).A) (R := (F52c fuel).R) (F := (F52c fuel).F) (fun x => by kernel_rfl) (fun x => by kernel_rfl) x y h

/-- wireschema/wireschemaref03.pair -/
noncomputable def F76 (fuel : Nat) (a0 : Int) : Option ((List UInt8)) :=
  let x1 := IntKind.wrap .u8 (a0.tdiv (16 : Int))
  let x3 := IntKind.wrap .u8 ((IntKind.wrap .u8 (a0.tdiv (16 : Int))) + (1 : Int))
  bif decide (0 ≤ x1 ∧ x1 ≤ x3 ∧ x3 ≤ (([48, 49, 50, 51, 52, 53, 54, 55, 56, 57, 97, 98, 99, 100, 101, 102] : List UInt8).length : Int)) then
  let x4 := (([48, 49, 50, 51, 52, 53, 54, 55, 56, 57, 97, 98, 99, 100, 101, 102] : List UInt8).take x3.toNat).drop x1.toNat
  let x5 := a0.tmod (16 : Int)
  let x7 := IntKind.wrap .u8 ((a0.tmod (16 : Int)) + (1 : Int))
  bif decide (0 ≤ x5 ∧ x5 ≤ x7 ∧ x7 ≤ (([48, 49, 50, 51, 52, 53, 54, 55, 56, 57, 97, 98, 99, 100, 101, 102] : List UInt8).length : Int)) then
  let x8 := (([48, 49, 50, 51, 52, 53, 54, 55, 56, 57, 97, 98, 99, 100, 101, 102] : List UInt8).take x7.toNat).drop x5.toNat
  bif decide (x4.length + x8.length ≤ strMax) then
  some (x4 ++ x8)
  else none
  else none
  else none

noncomputable def F76C (fuel : Nat) : Cfg := cfg Tryd.prog 16 0 [] [] fuel

noncomputable def F76c (fuel : Nat) : CallE := { f := 76, A := ⟨1, [], [(.int .u8)]⟩, R := ⟨1, [], [.str]⟩, F := fun x => F76 fuel x, dflt := [] }

theorem F76k (fuel : Nat) : CallOk (F76C fuel) := cfg_callOk (callsN)

theorem F76ok (fuel : Nat) : (F76c fuel).Ok Tryd.prog := fun x y h => meets_of (F76k fuel) (f := 76) (fn := Tryd.f76) (c := bodyOf Tryd.f76) (by kernel_rfl) (by kernel_rfl) (by kernel_rfl) (by kernel_rfl) (loops0 (by kernel_rfl)) (A := (F76c fuel).A) (R := (F76c fuel).R) (F := (F76c fuel).F) (fun x => by kernel_rfl) (fun x => by kernel_rfl) x y h

noncomputable def S55_4 (fuel : Nat) (a1 : List UInt8) (a2 : List UInt8) (a3 : Int) : Option (((List UInt8) × (List UInt8) × Int) ⊕ (((List UInt8)))) :=
  bif (decide (a3 < (a1.length : Int))) then
    bif inRange a3 a1.length then
    (F76 fuel ((a1.getD a3.toNat 0).toNat : Int)).bind fun y7 =>
    bif decide (a2.length + y7.length ≤ strMax) then
    some (.inl (a1, (a2 ++ y7), (IntKind.wrap .i64 (a3 + (1 : Int)))))
    else none
    else none
  else
    some (.inr a2)

noncomputable def S55_4step (fuel : Nat) (x : (List UInt8) × (List UInt8) × Int) : Option (((List UInt8) × (List UInt8) × Int) ⊕ (((List UInt8)))) := S55_4 fuel x.1 x.2.1 x.2.2

/-- wireschema/wireschemaref03.Hex -/
noncomputable def F55 (fuel : Nat) (a0 : List UInt8) : Option ((List UInt8)) :=
  (loopQ fuel (S55_4step fuel) (a0, ([] : List UInt8), (0 : Int))).bind fun y10 =>
  some y10

noncomputable def S55_4l (fuel : Nat) : LoopE := { key := 4, H := ⟨[0, 3, 4], [], [.str, .str, (.int .i64)]⟩, X := [(.exit 0, ⟨[3], [], [.str]⟩)], step := S55_4step fuel }

noncomputable def F55C (fuel : Nat) : Cfg := cfg Tryd.prog 18 0 [F76c fuel] [S55_4l fuel] fuel

noncomputable def F55c (fuel : Nat) : CallE := { f := 55, A := ⟨1, [], [.str]⟩, R := ⟨1, [], [.str]⟩, F := fun x => F55 fuel x, dflt := [] }

theorem F55k (fuel : Nat) : CallOk (F55C fuel) := cfg_callOk (callsC (F76ok fuel) <| callsN)

theorem S55_4ok (fuel : Nat) : LoopOk (F55C fuel) (lp (bodyOf Tryd.f55) 0) := loopOk_of (F55k fuel) fuel (S55_4l fuel) (loops0 (by kernel_rfl)) (by kernel_rfl) (fun x => by kernel_rfl) (fun R e st K => by kernel_rfl)

theorem F55ok (fuel : Nat) : (F55c fuel).Ok Tryd.prog := fun x y h => meets_of (F55k fuel) (f := 55) (fn := Tryd.f55) (c := bodyOf Tryd.f55) (by kernel_rfl) (by kernel_rfl) (by kernel_rfl) (by kernel_rfl) (loopsN 1 (by kernel_rfl) fun i hi => match i, hi with | 0, _ => S55_4ok fuel | n + 1, h => absurd h (by omega)) (A := (F55c fuel).A) (R := (F55c fuel).R) (F := (F55c fuel).F) (fun x => by kernel_rfl) (fun x => by kernel_rfl) x y h

noncomputable def S53_4 (fuel : Nat) (a1 : Int) (a2 : List PV) (a3 : Int) : Option ((Int × (List PV) × Int) ⊕ (((List PV)))) :=
  bif (decide (a3 < (8 : Int))) then
    none
  else
    some (.inr a2)

noncomputable def S53_4step (fuel : Nat) (x : Int × (List PV) × Int) : Option ((Int × (List PV) × Int) ⊕ (((List PV)))) := S53_4 fuel x.1 x.2.1 x.2.2

/-- wireschema/wireschemaref04.hex -/
noncomputable def F53 (fuel : Nat) (a0 : Int) : Option ((List UInt8)) :=
  (loopQ fuel (S53_4step fuel) (a0, [], (0 : Int))).bind fun y7 =>
  (F55 fuel (y7.map byteOfPV)).bind fun y9 =>
  some y9

noncomputable def S53_4l (fuel : Nat) : LoopE := { key := 4, H := ⟨[0, 3, 4], [.acc], [(.int .u64), (.acc 0 5), (.int .i64)]⟩, X := [(.exit 0, ⟨[3], [.acc], [(.acc 0 5)]⟩)], step := S53_4step fuel }

noncomputable def F53C (fuel : Nat) : Cfg := cfg Tryd.prog 20 0 [F55c fuel] [S53_4l fuel] fuel

noncomputable def F53c (fuel : Nat) : CallE := { f := 53, A := ⟨1, [], [(.int .u64)]⟩, R := ⟨1, [], [.str]⟩, F := fun x => F53 fuel x, dflt := [] }

theorem F53k (fuel : Nat) : CallOk (F53C fuel) := cfg_callOk (callsC (F55ok fuel) <| callsN)

theorem S53_4ok (fuel : Nat) : LoopOk (F53C fuel) (lp (bodyOf Tryd.f53) 0) := loopOk_of (F53k fuel) fuel (S53_4l fuel) (loops0 (by kernel_rfl)) (by kernel_rfl) (fun x => by kernel_rfl) (fun R e st K => by kernel_rfl)

theorem F53ok (fuel : Nat) : (F53c fuel).Ok Tryd.prog := fun x y h => meets_of (F53k fuel) (f := 53) (fn := Tryd.f53) (c := bodyOf Tryd.f53) (by kernel_rfl) (by kernel_rfl) (by kernel_rfl) (by kernel_rfl) (loopsN 1 (by kernel_rfl) fun i hi => match i, hi with | 0, _ => S53_4ok fuel | n + 1, h => absurd h (by omega)) (A := (F53c fuel).A) (R := (F53c fuel).R) (F := (F53c fuel).F) (fun x => by kernel_rfl) (fun x => by kernel_rfl) x y h

noncomputable def S54_4 (fuel : Nat) (a1 : List UInt8) (a2 : List UInt8) (a3 : Int) : Option (((List UInt8) × (List UInt8) × Int) ⊕ (((List UInt8)))) :=
  bif (decide (a3 < (a1.length : Int))) then
    (F75 fuel a1 a3).bind fun y6 =>
    bif inRange a3 a1.length then
    let x7 := ((a1.getD a3.toNat 0).toNat : Int)
    bif (x7 == (34 : Int)) then
      bif decide (a2.length + ([92, 34] : List UInt8).length ≤ strMax) then
      let x9 := a2 ++ ([92, 34] : List UInt8)
      bif (y6 == (0 : Int)) then
        some (.inl (a1, x9, (IntKind.wrap .i64 (a3 + (1 : Int)))))
      else
        some (.inl (a1, x9, (IntKind.wrap .i64 (a3 + y6))))
      else none
    else
      bif (x7 == (92 : Int)) then
        bif decide (a2.length + ([92, 92] : List UInt8).length ≤ strMax) then
        let x14 := a2 ++ ([92, 92] : List UInt8)
        bif (y6 == (0 : Int)) then
          some (.inl (a1, x14, (IntKind.wrap .i64 (a3 + (1 : Int)))))
        else
          some (.inl (a1, x14, (IntKind.wrap .i64 (a3 + y6))))
        else none
      else
        bif (x7 == (10 : Int)) then
          bif decide (a2.length + ([92, 110] : List UInt8).length ≤ strMax) then
          let x19 := a2 ++ ([92, 110] : List UInt8)
          bif (y6 == (0 : Int)) then
            some (.inl (a1, x19, (IntKind.wrap .i64 (a3 + (1 : Int)))))
          else
            some (.inl (a1, x19, (IntKind.wrap .i64 (a3 + y6))))
          else none
        else
          bif (x7 == (9 : Int)) then
            bif decide (a2.length + ([92, 116] : List UInt8).length ≤ strMax) then
            let x24 := a2 ++ ([92, 116] : List UInt8)
            bif (y6 == (0 : Int)) then
              some (.inl (a1, x24, (IntKind.wrap .i64 (a3 + (1 : Int)))))
            else
              some (.inl (a1, x24, (IntKind.wrap .i64 (a3 + y6))))
            else none
          else
            bif (x7 == (13 : Int)) then
              bif decide (a2.length + ([92, 114] : List UInt8).length ≤ strMax) then
              let x29 := a2 ++ ([92, 114] : List UInt8)
              bif (y6 == (0 : Int)) then
                some (.inl (a1, x29, (IntKind.wrap .i64 (a3 + (1 : Int)))))
              else
                some (.inl (a1, x29, (IntKind.wrap .i64 (a3 + y6))))
              else none
            else
              bif (bif (bif (decide (x7 < (32 : Int))) then true else (x7 == (127 : Int))) then true else (y6 == (0 : Int))) then
                bif decide (a2.length + ([92, 120] : List UInt8).length ≤ strMax) then
                let x38 := a2 ++ ([92, 120] : List UInt8)
                (F76 fuel x7).bind fun y39 =>
                bif decide (x38.length + y39.length ≤ strMax) then
                let x40 := x38 ++ y39
                bif (y6 == (0 : Int)) then
                  some (.inl (a1, x40, (IntKind.wrap .i64 (a3 + (1 : Int)))))
                else
                  some (.inl (a1, x40, (IntKind.wrap .i64 (a3 + y6))))
                else none
                else none
              else
                let x44 := IntKind.wrap .i64 (a3 + y6)
                bif decide (0 ≤ a3 ∧ a3 ≤ x44 ∧ x44 ≤ (a1.length : Int)) then
                let x45 := (a1.take x44.toNat).drop a3.toNat
                bif decide (a2.length + x45.length ≤ strMax) then
                let x46 := a2 ++ x45
                bif (y6 == (0 : Int)) then
                  some (.inl (a1, x46, (IntKind.wrap .i64 (a3 + (1 : Int)))))
                else
                  some (.inl (a1, x46, (IntKind.wrap .i64 (a3 + y6))))
                else none
                else none
    else none
  else
    some (.inr a2)

noncomputable def S54_4step (fuel : Nat) (x : (List UInt8) × (List UInt8) × Int) : Option (((List UInt8) × (List UInt8) × Int) ⊕ (((List UInt8)))) := S54_4 fuel x.1 x.2.1 x.2.2

/-- wireschema/wireschemaref03.Quote -/
noncomputable def F54 (fuel : Nat) (a0 : List UInt8) : Option ((List UInt8)) :=
  (loopQ fuel (S54_4step fuel) (a0, ([34] : List UInt8), (0 : Int))).bind fun y50 =>
  bif decide (y50.length + ([34] : List UInt8).length ≤ strMax) then
  some (y50 ++ ([34] : List UInt8))
  else none

noncomputable def S54_4l (fuel : Nat) : LoopE := { key := 4, H := ⟨[0, 3, 4], [], [.str, .str, (.int .i64)]⟩, X := [(.exit 0, ⟨[3], [], [.str]⟩)], step := S54_4step fuel }

noncomputable def F54C (fuel : Nat) : Cfg := cfg Tryd.prog 73 0 [F75c fuel, F76c fuel] [S54_4l fuel] fuel

noncomputable def F54c (fuel : Nat) : CallE := { f := 54, A := ⟨1, [], [.str]⟩, R := ⟨1, [], [.str]⟩, F := fun x => F54 fuel x, dflt := [] }

theorem F54k (fuel : Nat) : CallOk (F54C fuel) := cfg_callOk (callsC (F75ok fuel) <| callsC (F76ok fuel) <| callsN)

theorem S54_4ok (fuel : Nat) : LoopOk (F54C fuel) (lp (bodyOf Tryd.f54) 0) := loopOk_of (F54k fuel) fuel (S54_4l fuel) (loops0 (by kernel_rfl)) (by kernel_rfl) (fun x => by kernel_rfl) (fun R e st K => by kernel_rfl)

theorem F54ok (fuel : Nat) : (F54c fuel).Ok Tryd.prog := fun x y h => meets_of (F54k fuel) (f := 54) (fn := Tryd.f54) (c := bodyOf Tryd.f54) (by kernel_rfl) (by kernel_rfl) (by kernel_rfl) (by kernel_rfl) (loopsN 1 (by kernel_rfl) fun i hi => match i, hi with | 0, _ => S54_4ok fuel | n + 1, h => absurd h (by omega)) (A := (F54c fuel).A) (R := (F54c fuel).R) (F := (F54c fuel).F) (fun x => by kernel_rfl) (fun x => by kernel_rfl) x y h

/-- wireschema/wireschemaref04.Text -/
noncomputable def F31 (fuel : Nat) (a0 : PV) : Option ((List UInt8)) :=
  (F40 fuel ((a0.fld 0).asInt) a0).bind fun y2 =>
  bif (!y2) then
    some ([] : List UInt8)
  else
    let x4 := (a0.fld 0).asInt
    bif (x4 == (1 : Int)) then
      bif (((a0.fld 1).asInt) == (1 : Int)) then
        some ([116, 114, 117, 101] : List UInt8)
      else
        some ([102, 97, 108, 115, 101] : List UInt8)
    else
      bif (x4 == (2 : Int)) then
        bif (decide (((a0.fld 1).asInt) ≥ (9223372036854775808 : Int))) then
          (F51 fuel (IntKind.wrap .u64 (0 - ((a0.fld 1).asInt)))).bind fun y13 =>
          bif decide (([45] : List UInt8).length + y13.length ≤ strMax) then
          some (([45] : List UInt8) ++ y13)
          else none
        else
          (F51 fuel ((a0.fld 1).asInt)).bind fun y15 =>
          some y15
      else
        bif (x4 == (3 : Int)) then
          bif (decide (((a0.fld 1).asInt) ≥ (9223372036854775808 : Int))) then
            (F51 fuel (IntKind.wrap .u64 (0 - ((a0.fld 1).asInt)))).bind fun y21 =>
            bif decide (([45] : List UInt8).length + y21.length ≤ strMax) then
            some (([45] : List UInt8) ++ y21)
            else none
          else
            (F51 fuel ((a0.fld 1).asInt)).bind fun y23 =>
            some y23
        else
          bif (x4 == (6 : Int)) then
            (F52 fuel ((a0.fld 1).asInt)).bind fun y26 =>
            bif (y26 == (0 : Int)) then
              some ([110, 97, 110] : List UInt8)
            else
              bif (y26 == (1 : Int)) then
                bif (decide (((a0.fld 1).asInt) ≥ (9223372036854775808 : Int))) then
                  some ([45, 105, 110, 102] : List UInt8)
                else
                  some ([105, 110, 102] : List UInt8)
              else
                (F53 fuel ((a0.fld 1).asInt)).bind fun y32 =>
                bif decide (([48, 120] : List UInt8).length + y32.length ≤ strMax) then
                some (([48, 120] : List UInt8) ++ y32)
                else none
          else
            bif (x4 == (7 : Int)) then
              (F54 fuel ((a0.fld 2).asStr)).bind fun y35 =>
              some y35
            else
              bif (x4 == (8 : Int)) then
                (F55 fuel ((a0.fld 2).asStr)).bind fun y38 =>
                (F54 fuel y38).bind fun y39 =>
                bif decide (([120] : List UInt8).length + y39.length ≤ strMax) then
                some (([120] : List UInt8) ++ y39)
                else none
              else
                (F51 fuel ((a0.fld 1).asInt)).bind fun y41 =>
                some y41

noncomputable def F31C (fuel : Nat) : Cfg := cfg Tryd.prog 60 0 [F40c fuel, F51c fuel, F52c fuel, F53c fuel, F54c fuel, F55c fuel] [] fuel

noncomputable def F31c (fuel : Nat) : CallE := { f := 31, A := ⟨1, [], [(.data 36)]⟩, R := ⟨1, [], [.str]⟩, F := fun x => F31 fuel x, dflt := [] }

theorem F31k (fuel : Nat) : CallOk (F31C fuel) := cfg_callOk (callsC (F40ok fuel) <| callsC (F51ok fuel) <| callsC (F52ok fuel) <| callsC (F53ok fuel) <| callsC (F54ok fuel) <| callsC (F55ok fuel) <| callsN)

theorem F31ok (fuel : Nat) : (F31c fuel).Ok Tryd.prog := fun x y h => meets_of (F31k fuel) (f := 31) (fn := Tryd.f31) (c := bodyOf Tryd.f31) (by kernel_rfl) (by kernel_rfl) (by kernel_rfl) (by kernel_rfl) (loops0 (by kernel_rfl)) (A := (F31c fuel).A) (R := (F31c fuel).R) (F := (F31c fuel).F) (fun x => by kernel_rfl) (fun x => by kernel_rfl) x y h

noncomputable def S14_6 (fuel : Nat) (a3 : List PV) (a4 : List UInt8) (a5 : Int) : Option (((List PV) × (List UInt8) × Int) ⊕ (((List UInt8)) ⊕ ((List UInt8)))) :=
  bif (decide (a5 < (a3.length : Int))) then
    bif inRange a5 a3.length then
    (F27 fuel (a3.getD a5.toNat .bad)).bind fun y9 =>
    bif (!y9) then
      some (.inr (.inl ([] : List UInt8)))
    else
      bif (decide (a5 > (0 : Int))) then
        bif decide (a4.length + ([44, 32] : List UInt8).length ≤ strMax) then
        let x12 := a4 ++ ([44, 32] : List UInt8)
        bif inRange a5 a3.length then
        let x15 := ((a3.getD a5.toNat .bad).fld 0).asStr
        bif decide (x15.length + ([32, 61, 32] : List UInt8).length ≤ strMax) then
        let x16 := x15 ++ ([32, 61, 32] : List UInt8)
        bif inRange a5 a3.length then
        (F31 fuel ((a3.getD a5.toNat .bad).fld 1)).bind fun y19 =>
        bif decide (x16.length + y19.length ≤ strMax) then
        let x20 := x16 ++ y19
        bif decide (x12.length + x20.length ≤ strMax) then
        some (.inl (a3, (x12 ++ x20), (IntKind.wrap .i64 (a5 + (1 : Int)))))
        else none
        else none
        else none
        else none
        else none
        else none
      else
        bif inRange a5 a3.length then
        let x25 := ((a3.getD a5.toNat .bad).fld 0).asStr
        bif decide (x25.length + ([32, 61, 32] : List UInt8).length ≤ strMax) then
        let x26 := x25 ++ ([32, 61, 32] : List UInt8)
        bif inRange a5 a3.length then
        (F31 fuel ((a3.getD a5.toNat .bad).fld 1)).bind fun y29 =>
        bif decide (x26.length + y29.length ≤ strMax) then
        let x30 := x26 ++ y29
        bif decide (a4.length + x30.length ≤ strMax) then
        some (.inl (a3, (a4 ++ x30), (IntKind.wrap .i64 (a5 + (1 : Int)))))
        else none
        else none
        else none
        else none
        else none
    else none
  else
    some (.inr (.inr a4))

noncomputable def S14_6step (fuel : Nat) (x : (List PV) × (List UInt8) × Int) : Option (((List PV) × (List UInt8) × Int) ⊕ (((List UInt8)) ⊕ ((List UInt8)))) := S14_6 fuel x.1 x.2.1 x.2.2

/-- wireschema/wireschemaref08.Text -/
noncomputable def F14 (fuel : Nat) (a0 : List PV) : Option ((List UInt8)) :=
  bif ((a0.length : Int) == (0 : Int)) then
    some ([] : List UInt8)
  else
    (loopQ fuel (S14_6step fuel) (a0, ([91] : List UInt8), (0 : Int))).bind fun z => sumE (fun y33 =>
      some y33
    ) (fun y34 =>
      bif decide (y34.length + ([93] : List UInt8).length ≤ strMax) then
      some (y34 ++ ([93] : List UInt8))
      else none
    ) z

noncomputable def S14_6l (fuel : Nat) : LoopE := { key := 6, H := ⟨[0, 3, 4], [], [(.slice 44), .str, (.int .i64)]⟩, X := [(.ret, ⟨[2], [], [.str]⟩), (.exit 0, ⟨[3], [], [.str]⟩)], step := S14_6step fuel }

noncomputable def F14C (fuel : Nat) : Cfg := cfg Tryd.prog 41 0 [F27c fuel, F31c fuel] [S14_6l fuel] fuel

noncomputable def F14c (fuel : Nat) : CallE := { f := 14, A := ⟨1, [], [(.slice 44)]⟩, R := ⟨1, [], [.str]⟩, F := fun x => F14 fuel x, dflt := [] }

theorem F14k (fuel : Nat) : CallOk (F14C fuel) := cfg_callOk (callsC (F27ok fuel) <| callsC (F31ok fuel) <| callsN)

theorem S14_6ok (fuel : Nat) : LoopOk (F14C fuel) (lp (bodyOf Tryd.f14) 0) := loopOk_of (F14k fuel) fuel (S14_6l fuel) (loops0 (by kernel_rfl)) (by kernel_rfl) (fun x => by kernel_rfl) (fun R e st K => by kernel_rfl)

theorem F14ok (fuel : Nat) : (F14c fuel).Ok Tryd.prog := fun x y h => meets_of (F14k fuel) (f := 14) (fn := Tryd.f14) (c := bodyOf Tryd.f14) (by kernel_rfl) (by kernel_rfl) (by kernel_rfl) (by kernel_rfl) (loopsN 1 (by kernel_rfl) fun i hi => match i, hi with | 0, _ => S14_6ok fuel | n + 1, h => absurd h (by omega)) (A := (F14c fuel).A) (R := (F14c fuel).R) (F := (F14c fuel).F) (fun x => by kernel_rfl) (fun x => by kernel_rfl) x y h

/-- wireschema/wireschemalaw08.NoteTexts -/
noncomputable def F4 (fuel : Nat) (a0 : List PV) : Option (Bool) :=
  bif (decide ((a0.length : Int) > (40 : Int))) then
    (Lawake fuel).bind fun y3 =>
    some y3
  else
    (F13 fuel a0).bind fun y4 =>
    (F14 fuel a0).bind fun y5 =>
    let x6 := y4 == y5
    (bif x6 then Lawake fuel else some false).bind fun y7 =>
    some (bif x6 then y7 else false)

noncomputable def F4C (fuel : Nat) : Cfg := cfg Tryd.prog 15 0 [Lawakec fuel, F13c fuel, F14c fuel] [] fuel

noncomputable def F4c (fuel : Nat) : CallE := { f := 4, A := ⟨1, [], [(.slice 44)]⟩, R := ⟨1, [], [.bool]⟩, F := fun x => F4 fuel x, dflt := false }

theorem F4k (fuel : Nat) : CallOk (F4C fuel) := cfg_callOk (callsC (Lawakeok fuel) <| callsC (F13ok fuel) <| callsC (F14ok fuel) <| callsN)

theorem F4ok (fuel : Nat) : (F4c fuel).Ok Tryd.prog := fun x y h => meets_of (F4k fuel) (f := 4) (fn := Tryd.f4) (c := bodyOf Tryd.f4) (by kernel_rfl) (by kernel_rfl) (by kernel_rfl) (by kernel_rfl) (loops0 (by kernel_rfl)) (A := (F4c fuel).A) (R := (F4c fuel).R) (F := (F4c fuel).F) (fun x => by kernel_rfl) (fun x => by kernel_rfl) x y h

/-- wireschema/note.index$1 -/
noncomputable def F56 (fuel : Nat) (a0 : PV) (a1 : Unit) (a2 : List UInt8) : Option (Bool × (List UInt8)) :=
  some ((((a0.fld 0).asStr) == a2), a2)

noncomputable def F56C (fuel : Nat) : Cfg := cfg Tryd.prog 8 1 [] [] fuel

noncomputable def F56c (fuel : Nat) : CallE := { f := 56, A := ⟨2, [.box 9], [(.data 44), (.con (.ref 0 [] 9)), .str]⟩, R := ⟨1, [.box 9], [.bool, .str]⟩, F := fun x => F56 fuel x.1 x.2.1 x.2.2, dflt := (false, []) }

theorem F56k (fuel : Nat) : CallOk (F56C fuel) := cfg_callOk (callsN)

theorem F56ok (fuel : Nat) : (F56c fuel).Ok Tryd.prog := fun x y h => meets_of (F56k fuel) (f := 56) (fn := Tryd.f56) (c := bodyOf Tryd.f56) (by kernel_rfl) (by kernel_rfl) (by kernel_rfl) (by kernel_rfl) (loops0 (by kernel_rfl)) (A := (F56c fuel).A) (R := (F56c fuel).R) (F := (F56c fuel).F) (fun x => by kernel_rfl) (fun x => by kernel_rfl) x y h

noncomputable def S37_3 (fuel : Nat) (a2 : List PV) (a3 : Unit) (a4 : Int) (a5 : Int) (a6 : List UInt8) : Option (((List PV) × Unit × Int × Int × (List UInt8)) ⊕ ((Int × (List UInt8)) ⊕ ((List UInt8)))) :=
  bif (decide (a5 < a4)) then
    bif inRange a5 a2.length then
    (F56 fuel (a2.getD a5.toNat .bad) () a6).bind fun y9 =>
    bif y9.1 then
      some (.inr (.inl (a5, y9.2)))
    else
      some (.inl (a2, (), a4, (IntKind.wrap .i64 (a5 + (1 : Int))), y9.2))
    else none
  else
    some (.inr (.inr a6))

noncomputable def S37_3step (fuel : Nat) (x : (List PV) × Unit × Int × Int × (List UInt8)) : Option (((List PV) × Unit × Int × Int × (List UInt8)) ⊕ ((Int × (List UInt8)) ⊕ ((List UInt8)))) := S37_3 fuel x.1 x.2.1 x.2.2.1 x.2.2.2.1 x.2.2.2.2

/-- slices.IndexFunc[[]wireschema/api.Note,wireschema/api.Note] -/
noncomputable def F37 (fuel : Nat) (a0 : List PV) (a1 : Unit) (a2 : List UInt8) : Option (Int × (List UInt8)) :=
  (loopQ fuel (S37_3step fuel) (a0, (), (a0.length : Int), (0 : Int), a2)).bind fun z => sumE (fun y11 =>
    some (y11.1, y11.2)
  ) (fun y12 =>
    some ((-1 : Int), y12)
  ) z

noncomputable def S37_3l (fuel : Nat) : LoopE := { key := 3, H := ⟨[0, 1, 7, 8], [.box 9], [(.slice 44), (.con (.fn 56 [(.ref 0 [] 9)])), (.int .i64), (.int .i64), .str]⟩, X := [(.ret, ⟨[4], [.box 9], [(.int .i64), .str]⟩), (.exit 0, ⟨[], [.box 9], [.str]⟩)], step := S37_3step fuel }

noncomputable def F37C (fuel : Nat) : Cfg := cfg Tryd.prog 19 1 [F56c fuel] [S37_3l fuel] fuel

noncomputable def F37c (fuel : Nat) : CallE := { f := 37, A := ⟨2, [.box 9], [(.slice 44), (.con (.fn 56 [(.ref 0 [] 9)])), .str]⟩, R := ⟨1, [.box 9], [(.int .i64), .str]⟩, F := fun x => F37 fuel x.1 x.2.1 x.2.2, dflt := (0, []) }

theorem F37k (fuel : Nat) : CallOk (F37C fuel) := cfg_callOk (callsC (F56ok fuel) <| callsN)

theorem S37_3ok (fuel : Nat) : LoopOk (F37C fuel) (lp (bodyOf Tryd.f37) 0) := loopOk_of (F37k fuel) fuel (S37_3l fuel) (loops0 (by kernel_rfl)) (by kernel_rfl) (fun x => by kernel_rfl) (fun R e st K => by kernel_rfl)

theorem F37ok (fuel : Nat) : (F37c fuel).Ok Tryd.prog := fun x y h => meets_of (F37k fuel) (f := 37) (fn := Tryd.f37) (c := bodyOf Tryd.f37) (by kernel_rfl) (by kernel_rfl) (by kernel_rfl) (by kernel_rfl) (loopsN 1 (by kernel_rfl) fun i hi => match i, hi with | 0, _ => S37_3ok fuel | n + 1, h => absurd h (by omega)) (A := (F37c fuel).A) (R := (F37c fuel).R) (F := (F37c fuel).F) (fun x => by kernel_rfl) (fun x => by kernel_rfl) x y h

/-- wireschema/note.index -/
noncomputable def F32 (fuel : Nat) (a0 : List PV) (a1 : List UInt8) : Option (Int) :=
  (F37 fuel a0 () a1).bind fun y1 =>
  some y1.1

noncomputable def F32C (fuel : Nat) : Cfg := cfg Tryd.prog 8 0 [F37c fuel] [] fuel

noncomputable def F32c (fuel : Nat) : CallE := { f := 32, A := ⟨2, [], [(.slice 44), .str]⟩, R := ⟨1, [], [(.int .i64)]⟩, F := fun x => F32 fuel x.1 x.2, dflt := 0 }

theorem F32k (fuel : Nat) : CallOk (F32C fuel) := cfg_callOk (callsC (F37ok fuel) <| callsN)

theorem F32ok (fuel : Nat) : (F32c fuel).Ok Tryd.prog := fun x y h => meets_of (F32k fuel) (f := 32) (fn := Tryd.f32) (c := bodyOf Tryd.f32) (by kernel_rfl) (by kernel_rfl) (by kernel_rfl) (by kernel_rfl) (loops0 (by kernel_rfl)) (A := (F32c fuel).A) (R := (F32c fuel).R) (F := (F32c fuel).F) (fun x => by kernel_rfl) (fun x => by kernel_rfl) x y h

/-- wireschema/note.Find -/
noncomputable def F15 (fuel : Nat) (a0 : List PV) (a1 : List UInt8) : Option (PV × Bool) :=
  (F32 fuel a0 a1).bind fun y1 =>
  bif (decide (y1 < (0 : Int))) then
    some ((PV.agg [(PV.int (0 : Int)), (PV.int (0 : Int)), (PV.str ([] : List UInt8)), (PV.slice []), (PV.slice []), (PV.slice []), (PV.slice [])]), false)
  else
    bif inRange y1 a0.length then
    some (((a0.getD y1.toNat .bad).fld 1), true)
    else none

noncomputable def F15C (fuel : Nat) : Cfg := cfg Tryd.prog 18 0 [F32c fuel] [] fuel

noncomputable def F15c (fuel : Nat) : CallE := { f := 15, A := ⟨2, [], [(.slice 44), .str]⟩, R := ⟨2, [], [(.data 36), .bool]⟩, F := fun x => F15 fuel x.1 x.2, dflt := (PV.bad, false) }

theorem F15k (fuel : Nat) : CallOk (F15C fuel) := cfg_callOk (callsC (F32ok fuel) <| callsN)

theorem F15ok (fuel : Nat) : (F15c fuel).Ok Tryd.prog := fun x y h => meets_of (F15k fuel) (f := 15) (fn := Tryd.f15) (c := bodyOf Tryd.f15) (by kernel_rfl) (by kernel_rfl) (by kernel_rfl) (by kernel_rfl) (loops0 (by kernel_rfl)) (A := (F15c fuel).A) (R := (F15c fuel).R) (F := (F15c fuel).F) (fun x => by kernel_rfl) (fun x => by kernel_rfl) x y h

noncomputable def S33_3 (fuel : Nat) (a1 : List PV) (a2 : List UInt8) (a3 : Int) : Option (((List PV) × (List UInt8) × Int) ⊕ ((Int) ⊕ (Unit))) :=
  bif (decide (a3 < (a1.length : Int))) then
    bif inRange a3 a1.length then
    bif (((a1.getD a3.toNat .bad).fld 0).asStr == a2) then
      some (.inr (.inl a3))
    else
      some (.inl (a1, a2, (IntKind.wrap .i64 (a3 + (1 : Int)))))
    else none
  else
    some (.inr (.inr ()))

noncomputable def S33_3step (fuel : Nat) (x : (List PV) × (List UInt8) × Int) : Option (((List PV) × (List UInt8) × Int) ⊕ ((Int) ⊕ (Unit))) := S33_3 fuel x.1 x.2.1 x.2.2

/-- wireschema/wireschemaref08.index -/
noncomputable def F33 (fuel : Nat) (a0 : List PV) (a1 : List UInt8) : Option (Int) :=
  (loopQ fuel (S33_3step fuel) (a0, a1, (0 : Int))).bind fun z => sumE (fun y11 =>
    some y11
  ) (fun y12 =>
    some (-1 : Int)
  ) z

noncomputable def S33_3l (fuel : Nat) : LoopE := { key := 3, H := ⟨[0, 1, 5], [], [(.slice 44), .str, (.int .i64)]⟩, X := [(.ret, ⟨[4], [], [(.int .i64)]⟩), (.exit 0, ⟨[], [], []⟩)], step := S33_3step fuel }

noncomputable def F33C (fuel : Nat) : Cfg := cfg Tryd.prog 20 0 [] [S33_3l fuel] fuel

noncomputable def F33c (fuel : Nat) : CallE := { f := 33, A := ⟨2, [], [(.slice 44), .str]⟩, R := ⟨1, [], [(.int .i64)]⟩, F := fun x => F33 fuel x.1 x.2, dflt := 0 }

theorem F33k (fuel : Nat) : CallOk (F33C fuel) := cfg_callOk (callsN)

theorem S33_3ok (fuel : Nat) : LoopOk (F33C fuel) (lp (bodyOf Tryd.f33) 0) := loopOk_of (F33k fuel) fuel (S33_3l fuel) (loops0 (by kernel_rfl)) (by kernel_rfl) (fun x => by kernel_rfl) (fun R e st K => by kernel_rfl)

theorem F33ok (fuel : Nat) : (F33c fuel).Ok Tryd.prog := fun x y h => meets_of (F33k fuel) (f := 33) (fn := Tryd.f33) (c := bodyOf Tryd.f33) (by kernel_rfl) (by kernel_rfl) (by kernel_rfl) (by kernel_rfl) (loopsN 1 (by kernel_rfl) fun i hi => match i, hi with | 0, _ => S33_3ok fuel | n + 1, h => absurd h (by omega)) (A := (F33c fuel).A) (R := (F33c fuel).R) (F := (F33c fuel).F) (fun x => by kernel_rfl) (fun x => by kernel_rfl) x y h

/-- wireschema/wireschemaref08.Find -/
noncomputable def F16 (fuel : Nat) (a0 : List PV) (a1 : List UInt8) : Option (PV × Bool) :=
  (F33 fuel a0 a1).bind fun y1 =>
  bif (decide (y1 < (0 : Int))) then
    some ((PV.agg [(PV.int (0 : Int)), (PV.int (0 : Int)), (PV.str ([] : List UInt8)), (PV.slice []), (PV.slice []), (PV.slice []), (PV.slice [])]), false)
  else
    bif inRange y1 a0.length then
    some (((a0.getD y1.toNat .bad).fld 1), true)
    else none

noncomputable def F16C (fuel : Nat) : Cfg := cfg Tryd.prog 18 0 [F33c fuel] [] fuel

noncomputable def F16c (fuel : Nat) : CallE := { f := 16, A := ⟨2, [], [(.slice 44), .str]⟩, R := ⟨2, [], [(.data 36), .bool]⟩, F := fun x => F16 fuel x.1 x.2, dflt := (PV.bad, false) }

theorem F16k (fuel : Nat) : CallOk (F16C fuel) := cfg_callOk (callsC (F33ok fuel) <| callsN)

theorem F16ok (fuel : Nat) : (F16c fuel).Ok Tryd.prog := fun x y h => meets_of (F16k fuel) (f := 16) (fn := Tryd.f16) (c := bodyOf Tryd.f16) (by kernel_rfl) (by kernel_rfl) (by kernel_rfl) (by kernel_rfl) (loops0 (by kernel_rfl)) (A := (F16c fuel).A) (R := (F16c fuel).R) (F := (F16c fuel).F) (fun x => by kernel_rfl) (fun x => by kernel_rfl) x y h

/-- wireschema/wireschemalaw08.same -/
noncomputable def F17 (fuel : Nat) (a0 : PV) (a1 : PV) : Option (Bool) :=
  some (bif (bif (bif (bif (bif (bif (((a0.fld 0).asInt) == ((a1.fld 0).asInt)) then (((a0.fld 1).asInt) == ((a1.fld 1).asInt)) else false) then (((a0.fld 2).asStr) == ((a1.fld 2).asStr)) else false) then ((((a0.fld 3).asList).length : Int) == (((a1.fld 3).asList).length : Int)) else false) then ((((a0.fld 4).asList).length : Int) == (((a1.fld 4).asList).length : Int)) else false) then ((((a0.fld 5).asList).length : Int) == (((a1.fld 5).asList).length : Int)) else false) then ((((a0.fld 6).asList).length : Int) == (((a1.fld 6).asList).length : Int)) else false)

noncomputable def F17C (fuel : Nat) : Cfg := cfg Tryd.prog 60 0 [] [] fuel

noncomputable def F17c (fuel : Nat) : CallE := { f := 17, A := ⟨2, [], [(.data 36), (.data 36)]⟩, R := ⟨1, [], [.bool]⟩, F := fun x => F17 fuel x.1 x.2, dflt := false }

theorem F17k (fuel : Nat) : CallOk (F17C fuel) := cfg_callOk (callsN)

theorem F17ok (fuel : Nat) : (F17c fuel).Ok Tryd.prog := fun x y h => meets_of (F17k fuel) (f := 17) (fn := Tryd.f17) (c := bodyOf Tryd.f17) (by kernel_rfl) (by kernel_rfl) (by kernel_rfl) (by kernel_rfl) (loops0 (by kernel_rfl)) (A := (F17c fuel).A) (R := (F17c fuel).R) (F := (F17c fuel).F) (fun x => by kernel_rfl) (fun x => by kernel_rfl) x y h

/-- wireschema/note.Flag -/
noncomputable def F18 (fuel : Nat) (a0 : List PV) (a1 : List UInt8) : Option (Bool) :=
  (F15 fuel a0 a1).bind fun y1 =>
  let x2 := y1.1
  some (bif (bif y1.2 then (((x2.fld 0).asInt) == (1 : Int)) else false) then (((x2.fld 1).asInt) == (1 : Int)) else false)

noncomputable def F18C (fuel : Nat) : Cfg := cfg Tryd.prog 24 0 [F15c fuel] [] fuel

noncomputable def F18c (fuel : Nat) : CallE := { f := 18, A := ⟨2, [], [(.slice 44), .str]⟩, R := ⟨1, [], [.bool]⟩, F := fun x => F18 fuel x.1 x.2, dflt := false }

theorem F18k (fuel : Nat) : CallOk (F18C fuel) := cfg_callOk (callsC (F15ok fuel) <| callsN)

theorem F18ok (fuel : Nat) : (F18c fuel).Ok Tryd.prog := fun x y h => meets_of (F18k fuel) (f := 18) (fn := Tryd.f18) (c := bodyOf Tryd.f18) (by kernel_rfl) (by kernel_rfl) (by kernel_rfl) (by kernel_rfl) (loops0 (by kernel_rfl)) (A := (F18c fuel).A) (R := (F18c fuel).R) (F := (F18c fuel).F) (fun x => by kernel_rfl) (fun x => by kernel_rfl) x y h

/-- wireschema/wireschemaref08.Flag -/
noncomputable def F19 (fuel : Nat) (a0 : List PV) (a1 : List UInt8) : Option (Bool) :=
  (F16 fuel a0 a1).bind fun y1 =>
  let x2 := y1.1
  some (bif (bif y1.2 then (((x2.fld 0).asInt) == (1 : Int)) else false) then (((x2.fld 1).asInt) == (1 : Int)) else false)

noncomputable def F19C (fuel : Nat) : Cfg := cfg Tryd.prog 24 0 [F16c fuel] [] fuel

noncomputable def F19c (fuel : Nat) : CallE := { f := 19, A := ⟨2, [], [(.slice 44), .str]⟩, R := ⟨1, [], [.bool]⟩, F := fun x => F19 fuel x.1 x.2, dflt := false }

theorem F19k (fuel : Nat) : CallOk (F19C fuel) := cfg_callOk (callsC (F16ok fuel) <| callsN)

theorem F19ok (fuel : Nat) : (F19c fuel).Ok Tryd.prog := fun x y h => meets_of (F19k fuel) (f := 19) (fn := Tryd.f19) (c := bodyOf Tryd.f19) (by kernel_rfl) (by kernel_rfl) (by kernel_rfl) (by kernel_rfl) (loops0 (by kernel_rfl)) (A := (F19c fuel).A) (R := (F19c fuel).R) (F := (F19c fuel).F) (fun x => by kernel_rfl) (fun x => by kernel_rfl) x y h

/-- wireschema/note.Same$1 -/
noncomputable def F35 (fuel : Nat) (a0 : PV) (a1 : PV) : Option (Bool) :=
  some (bif (bif (bif (((a0.fld 0).asStr) == ((a1.fld 0).asStr)) then ((((a0.fld 1).fld 0).asInt) == (((a1.fld 1).fld 0).asInt)) else false) then ((((a0.fld 1).fld 1).asInt) == (((a1.fld 1).fld 1).asInt)) else false) then ((((a0.fld 1).fld 2).asStr) == (((a1.fld 1).fld 2).asStr)) else false)

noncomputable def F35C (fuel : Nat) : Cfg := cfg Tryd.prog 37 0 [] [] fuel

noncomputable def F35c (fuel : Nat) : CallE := { f := 35, A := ⟨2, [], [(.data 44), (.data 44)]⟩, R := ⟨1, [], [.bool]⟩, F := fun x => F35 fuel x.1 x.2, dflt := false }

theorem F35k (fuel : Nat) : CallOk (F35C fuel) := cfg_callOk (callsN)

theorem F35ok (fuel : Nat) : (F35c fuel).Ok Tryd.prog := fun x y h => meets_of (F35k fuel) (f := 35) (fn := Tryd.f35) (c := bodyOf Tryd.f35) (by kernel_rfl) (by kernel_rfl) (by kernel_rfl) (by kernel_rfl) (loops0 (by kernel_rfl)) (A := (F35c fuel).A) (R := (F35c fuel).R) (F := (F35c fuel).F) (fun x => by kernel_rfl) (fun x => by kernel_rfl) x y h

noncomputable def S34_5 (fuel : Nat) (a5 : List PV) (a6 : Unit) (a7 : List PV) (a8 : Int) (a9 : Int) : Option (((List PV) × Unit × (List PV) × Int × Int) ⊕ ((Bool) ⊕ (Unit))) :=
  bif (decide (a9 < a8)) then
    bif inRange a9 a7.length then
    bif inRange a9 a5.length then
    (F35 fuel (a7.getD a9.toNat .bad) (a5.getD a9.toNat .bad)).bind fun y13 =>
    bif (!y13) then
      some (.inr (.inl false))
    else
      some (.inl (a5, (), a7, a8, (IntKind.wrap .i64 (a9 + (1 : Int)))))
    else none
    else none
  else
    some (.inr (.inr ()))

noncomputable def S34_5step (fuel : Nat) (x : (List PV) × Unit × (List PV) × Int × Int) : Option (((List PV) × Unit × (List PV) × Int × Int) ⊕ ((Bool) ⊕ (Unit))) := S34_5 fuel x.1 x.2.1 x.2.2.1 x.2.2.2.1 x.2.2.2.2

/-- slices.EqualFunc[[]wireschema/api.Note,[]wireschema/api.Note,wireschema/api.Note,wireschema/api.Note] -/
noncomputable def F34 (fuel : Nat) (a0 : List PV) (a1 : List PV) (a2 : Unit) : Option (Bool) :=
  bif ((a0.length : Int) != (a1.length : Int)) then
    some false
  else
    (loopQ fuel (S34_5step fuel) (a1, (), a0, (a0.length : Int), (0 : Int))).bind fun z => sumE (fun y16 =>
      some y16
    ) (fun y17 =>
      some true
    ) z

noncomputable def S34_5l (fuel : Nat) : LoopE := { key := 5, H := ⟨[1, 2, 15, 16, 17], [], [(.slice 44), (.con (.fn 35 [])), (.slice 44), (.int .i64), (.int .i64)]⟩, X := [(.ret, ⟨[6], [], [.bool]⟩), (.exit 0, ⟨[], [], []⟩)], step := S34_5step fuel }

noncomputable def F34C (fuel : Nat) : Cfg := cfg Tryd.prog 32 0 [F35c fuel] [S34_5l fuel] fuel

noncomputable def F34c (fuel : Nat) : CallE := { f := 34, A := ⟨3, [], [(.slice 44), (.slice 44), (.con (.fn 35 []))]⟩, R := ⟨1, [], [.bool]⟩, F := fun x => F34 fuel x.1 x.2.1 x.2.2, dflt := false }

theorem F34k (fuel : Nat) : CallOk (F34C fuel) := cfg_callOk (callsC (F35ok fuel) <| callsN)

theorem S34_5ok (fuel : Nat) : LoopOk (F34C fuel) (lp (bodyOf Tryd.f34) 0) := loopOk_of (F34k fuel) fuel (S34_5l fuel) (loops0 (by kernel_rfl)) (by kernel_rfl) (fun x => by kernel_rfl) (fun R e st K => by kernel_rfl)

theorem F34ok (fuel : Nat) : (F34c fuel).Ok Tryd.prog := fun x y h => meets_of (F34k fuel) (f := 34) (fn := Tryd.f34) (c := bodyOf Tryd.f34) (by kernel_rfl) (by kernel_rfl) (by kernel_rfl) (by kernel_rfl) (loopsN 1 (by kernel_rfl) fun i hi => match i, hi with | 0, _ => S34_5ok fuel | n + 1, h => absurd h (by omega)) (A := (F34c fuel).A) (R := (F34c fuel).R) (F := (F34c fuel).F) (fun x => by kernel_rfl) (fun x => by kernel_rfl) x y h

/-- wireschema/note.Same -/
noncomputable def F20 (fuel : Nat) (a0 : List PV) (a1 : List PV) : Option (Bool) :=
  (F34 fuel a0 a1 ()).bind fun y1 =>
  some y1

noncomputable def F20C (fuel : Nat) : Cfg := cfg Tryd.prog 8 0 [F34c fuel] [] fuel

noncomputable def F20c (fuel : Nat) : CallE := { f := 20, A := ⟨2, [], [(.slice 44), (.slice 44)]⟩, R := ⟨1, [], [.bool]⟩, F := fun x => F20 fuel x.1 x.2, dflt := false }

theorem F20k (fuel : Nat) : CallOk (F20C fuel) := cfg_callOk (callsC (F34ok fuel) <| callsN)

theorem F20ok (fuel : Nat) : (F20c fuel).Ok Tryd.prog := fun x y h => meets_of (F20k fuel) (f := 20) (fn := Tryd.f20) (c := bodyOf Tryd.f20) (by kernel_rfl) (by kernel_rfl) (by kernel_rfl) (by kernel_rfl) (loops0 (by kernel_rfl)) (A := (F20c fuel).A) (R := (F20c fuel).R) (F := (F20c fuel).F) (fun x => by kernel_rfl) (fun x => by kernel_rfl) x y h

noncomputable def S21_5 (fuel : Nat) (a4 : List PV) (a5 : List PV) (a6 : Int) : Option (((List PV) × (List PV) × Int) ⊕ ((Bool) ⊕ (Unit))) :=
  bif (decide (a6 < (a4.length : Int))) then
    bif inRange a6 a4.length then
    bif inRange a6 a5.length then
    let x15 := !(((a4.getD a6.toNat .bad).fld 0).asStr == ((a5.getD a6.toNat .bad).fld 0).asStr)
    bif imp (!x15) (inRange a6 a4.length) then
    bif imp (!x15) (inRange a6 a5.length) then
    let x25 := bif x15 then true else ((((a4.getD a6.toNat .bad).fld 1).fld 0).asInt != (((a5.getD a6.toNat .bad).fld 1).fld 0).asInt)
    bif imp (!x25) (inRange a6 a4.length) then
    bif imp (!x25) (inRange a6 a5.length) then
    let x35 := bif x25 then true else ((((a4.getD a6.toNat .bad).fld 1).fld 1).asInt != (((a5.getD a6.toNat .bad).fld 1).fld 1).asInt)
    bif imp (!x35) (inRange a6 a4.length) then
    bif imp (!x35) (inRange a6 a5.length) then
    bif (bif x35 then true else (!((((a4.getD a6.toNat .bad).fld 1).fld 2).asStr == (((a5.getD a6.toNat .bad).fld 1).fld 2).asStr))) then
      some (.inr (.inl false))
    else
      some (.inl (a4, a5, (IntKind.wrap .i64 (a6 + (1 : Int)))))
    else none
    else none
    else none
    else none
    else none
    else none
    else none
    else none
  else
    some (.inr (.inr ()))

noncomputable def S21_5step (fuel : Nat) (x : (List PV) × (List PV) × Int) : Option (((List PV) × (List PV) × Int) ⊕ ((Bool) ⊕ (Unit))) := S21_5 fuel x.1 x.2.1 x.2.2

/-- wireschema/wireschemaref08.Same -/
noncomputable def F21 (fuel : Nat) (a0 : List PV) (a1 : List PV) : Option (Bool) :=
  bif ((a0.length : Int) != (a1.length : Int)) then
    some false
  else
    (loopQ fuel (S21_5step fuel) (a0, a1, (0 : Int))).bind fun z => sumE (fun y47 =>
      some y47
    ) (fun y48 =>
      some true
    ) z

noncomputable def S21_5l (fuel : Nat) : LoopE := { key := 5, H := ⟨[0, 1, 5], [], [(.slice 44), (.slice 44), (.int .i64)]⟩, X := [(.ret, ⟨[4], [], [.bool]⟩), (.exit 0, ⟨[], [], []⟩)], step := S21_5step fuel }

noncomputable def F21C (fuel : Nat) : Cfg := cfg Tryd.prog 73 0 [] [S21_5l fuel] fuel

noncomputable def F21c (fuel : Nat) : CallE := { f := 21, A := ⟨2, [], [(.slice 44), (.slice 44)]⟩, R := ⟨1, [], [.bool]⟩, F := fun x => F21 fuel x.1 x.2, dflt := false }

theorem F21k (fuel : Nat) : CallOk (F21C fuel) := cfg_callOk (callsN)

theorem S21_5ok (fuel : Nat) : LoopOk (F21C fuel) (lp (bodyOf Tryd.f21) 0) := loopOk_of (F21k fuel) fuel (S21_5l fuel) (loops0 (by kernel_rfl)) (by kernel_rfl) (fun x => by kernel_rfl) (fun R e st K => by kernel_rfl)

theorem F21ok (fuel : Nat) : (F21c fuel).Ok Tryd.prog := fun x y h => meets_of (F21k fuel) (f := 21) (fn := Tryd.f21) (c := bodyOf Tryd.f21) (by kernel_rfl) (by kernel_rfl) (by kernel_rfl) (by kernel_rfl) (loopsN 1 (by kernel_rfl) fun i hi => match i, hi with | 0, _ => S21_5ok fuel | n + 1, h => absurd h (by omega)) (A := (F21c fuel).A) (R := (F21c fuel).R) (F := (F21c fuel).F) (fun x => by kernel_rfl) (fun x => by kernel_rfl) x y h

/-- wireschema/wireschemalaw08.NoteFinds -/
noncomputable def F5 (fuel : Nat) (a0 : List PV) (a1 : List PV) (a2 : List UInt8) : Option (Bool) :=
  (F15 fuel a0 a2).bind fun y1 =>
  (F16 fuel a0 a2).bind fun y4 =>
  let x7 := y1.2 == y4.2
  (bif x7 then F17 fuel y1.1 y4.1 else some false).bind fun y8 =>
  let x9 := bif x7 then y8 else false
  (bif x9 then F18 fuel a0 a2 else some false).bind fun y10 =>
  (bif x9 then F19 fuel a0 a2 else some false).bind fun y11 =>
  let x13 := bif x9 then (y10 == y11) else false
  (bif x13 then F20 fuel a0 a1 else some false).bind fun y14 =>
  (bif x13 then F21 fuel a0 a1 else some false).bind fun y15 =>
  let x17 := bif x13 then (y14 == y15) else false
  (bif x17 then F20 fuel a0 a0 else some false).bind fun y18 =>
  let x19 := bif x17 then y18 else false
  (bif x19 then Lawake fuel else some false).bind fun y20 =>
  some (bif x19 then y20 else false)

noncomputable def F5C (fuel : Nat) : Cfg := cfg Tryd.prog 57 0 [F15c fuel, F16c fuel, F17c fuel, F18c fuel, F19c fuel, F20c fuel, F21c fuel, Lawakec fuel] [] fuel

noncomputable def F5c (fuel : Nat) : CallE := { f := 5, A := ⟨3, [], [(.slice 44), (.slice 44), .str]⟩, R := ⟨1, [], [.bool]⟩, F := fun x => F5 fuel x.1 x.2.1 x.2.2, dflt := false }

theorem F5k (fuel : Nat) : CallOk (F5C fuel) := cfg_callOk (callsC (F15ok fuel) <| callsC (F16ok fuel) <| callsC (F17ok fuel) <| callsC (F18ok fuel) <| callsC (F19ok fuel) <| callsC (F20ok fuel) <| callsC (F21ok fuel) <| callsC (Lawakeok fuel) <| callsN)

theorem F5ok (fuel : Nat) : (F5c fuel).Ok Tryd.prog := fun x y h => meets_of (F5k fuel) (f := 5) (fn := Tryd.f5) (c := bodyOf Tryd.f5) (by kernel_rfl) (by kernel_rfl) (by kernel_rfl) (by kernel_rfl) (loops0 (by kernel_rfl)) (A := (F5c fuel).A) (R := (F5c fuel).R) (F := (F5c fuel).F) (fun x => by kernel_rfl) (fun x => by kernel_rfl) x y h

end Go.Ab
