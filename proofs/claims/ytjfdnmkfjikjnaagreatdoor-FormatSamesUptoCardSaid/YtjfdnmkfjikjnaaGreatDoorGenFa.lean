/- A part of the proof: lemmas on how the program runs over plain data. -/
import Derived.Test.YtjfdnmkfjikjnaaGreatDoorAbFmtF
import Derived.KernelRfl
set_option linter.unusedVariables false
set_option linter.unusedSimpArgs false
set_option linter.unnecessarySimpa false
namespace Go.Ab
open Go Go.Proofs
set_option maxRecDepth 100000

/-- wireschema/ident.class -/
noncomputable def F262 (fuel : Nat) (a0 : Int) : Option (Int) :=
  bif (bif (decide (a0 ≥ (97 : Int))) then (decide (a0 ≤ (122 : Int))) else false) then
    some (1 : Int)
  else
    bif (bif (decide (a0 ≥ (65 : Int))) then (decide (a0 ≤ (90 : Int))) else false) then
      some (2 : Int)
    else
      bif (bif (decide (a0 ≥ (48 : Int))) then (decide (a0 ≤ (57 : Int))) else false) then
        some (3 : Int)
      else
        bif (a0 == (95 : Int)) then
          some (4 : Int)
        else
          some (0 : Int)

noncomputable def F262C (fuel : Nat) : Cfg := cfg Tryz.prog 27 0 [] [] fuel

noncomputable def F262c (fuel : Nat) : CallE := { f := 262, A := ⟨1, [], [(.int .i32)]⟩, R := ⟨1, [], [(.int .i64)]⟩, F := fun x => F262 fuel x, dflt := 0 }

theorem F262k (fuel : Nat) : CallOk (F262C fuel) := cfg_callOk (callsN)

theorem F262ok (fuel : Nat) : (F262c fuel).Ok Tryz.prog := fun x y h => meets_of (F262k fuel) (f := 262) (fn := Tryz.f262) (c := bodyOf Tryz.f262) (by kernel_rfl) (by kernel_rfl) (by kernel_rfl) (by kernel_rfl) (loops0 (by kernel_rfl)) (A := (F262c fuel).A) (R := (F262c fuel).R) (F := (F262c fuel).F) (fun x => by kernel_rfl) (fun x => by kernel_rfl) x y h

noncomputable def S187_3 (fuel : Nat) (a1 : List UInt8) (a2 : Unit) (a3 : List UInt8) (a4 : Int) : Option (((List UInt8) × Unit × (List UInt8) × Int) ⊕ ((Bool × (List UInt8) × Int) ⊕ ((List UInt8) × (List UInt8) × Int))) :=
  bif (decide (a4.toNat < a3.length)) then
    bif decide (a4.toNat < a3.length) then
    bif decide (a4.toNat < a3.length) then
    (F262 fuel ((Utf8.decode ⟨a3.toArray⟩ a4.toNat).1 : Int)).bind fun y8 =>
    bif (bif (y8 == (0 : Int)) then true else (bif (bif ((a4.toNat : Int) == (0 : Int)) then (y8 != (1 : Int)) else false) then (y8 != (2 : Int)) else false)) then
      some (.inr (.inl (false, a3, ((bif decide (a4.toNat < a3.length) then a4.toNat + (Utf8.decode ⟨a3.toArray⟩ a4.toNat).2 else a4.toNat : Nat) : Int))))
    else
      some (.inl (a1, (), a3, ((bif decide (a4.toNat < a3.length) then a4.toNat + (Utf8.decode ⟨a3.toArray⟩ a4.toNat).2 else a4.toNat : Nat) : Int)))
    else none
    else none
  else
    some (.inr (.inr (a1, a3, ((bif decide (a4.toNat < a3.length) then a4.toNat + (Utf8.decode ⟨a3.toArray⟩ a4.toNat).2 else a4.toNat : Nat) : Int))))

noncomputable def S187_3step (fuel : Nat) (x : (List UInt8) × Unit × (List UInt8) × Int) : Option (((List UInt8) × Unit × (List UInt8) × Int) ⊕ ((Bool × (List UInt8) × Int) ⊕ ((List UInt8) × (List UInt8) × Int))) := S187_3 fuel x.1 x.2.1 x.2.2.1 x.2.2.2

/-- wireschema/ident.IsPart -/
noncomputable def F187 (fuel : Nat) (a0 : List UInt8) : Option (Bool) :=
  (loopQ fuel (S187_3step fuel) (a0, (), a0, ((0 : Nat) : Int))).bind fun z => sumE (fun y16 =>
    some y16.1
  ) (fun y17 =>
    some (bif (decide ((y17.1.length : Int) ≥ (1 : Int))) then (decide ((y17.1.length : Int) ≤ (40 : Int))) else false)
  ) z

noncomputable def S187_3l (fuel : Nat) : LoopE := { key := 3, H := ⟨[0, 7], [.iter], [.str, (.con (.iref 0)), .str, (.int .i64)]⟩, X := [(.ret, ⟨[2], [.iter], [.bool, .str, (.int .i64)]⟩), (.exit 0, ⟨[0], [.iter], [.str, .str, (.int .i64)]⟩)], step := S187_3step fuel }

noncomputable def F187C (fuel : Nat) : Cfg := cfg Tryz.prog 36 0 [F262c fuel] [S187_3l fuel] fuel

noncomputable def F187c (fuel : Nat) : CallE := { f := 187, A := ⟨1, [], [.str]⟩, R := ⟨1, [], [.bool]⟩, F := fun x => F187 fuel x, dflt := false }

theorem F187k (fuel : Nat) : CallOk (F187C fuel) := cfg_callOk (callsC (F262ok fuel) <| callsN)

theorem S187_3ok (fuel : Nat) : LoopOk (F187C fuel) (lp (bodyOf Tryz.f187) 0) := loopOk_of (F187k fuel) fuel (S187_3l fuel) (loops0 (by kernel_rfl)) (by kernel_rfl) (fun x => by kernel_rfl) (fun R e st K => by kernel_rfl)

theorem F187ok (fuel : Nat) : (F187c fuel).Ok Tryz.prog := fun x y h => meets_of (F187k fuel) (f := 187) (fn := Tryz.f187) (c := bodyOf Tryz.f187) (by kernel_rfl) (by kernel_rfl) (by kernel_rfl) (by kernel_rfl) (loopsN 1 (by kernel_rfl) fun i hi => match i, hi with | 0, _ => S187_3ok fuel | n + 1, h => absurd h (by omega)) (A := (F187c fuel).A) (R := (F187c fuel).R) (F := (F187c fuel).F) (fun x => by kernel_rfl) (fun x => by kernel_rfl) x y h

noncomputable def S127_3 (fuel : Nat) (a3 : List UInt8) (a4 : List PV) (a5 : Int) (a6 : Int) : Option (((List UInt8) × (List PV) × Int × Int) ⊕ ((Bool) ⊕ ((List UInt8)))) :=
  bif (decide (a6 < a5)) then
    bif inRange a6 a4.length then
    (F187 fuel (a4.getD a6.toNat .bad).asStr).bind fun y10 =>
    bif (!y10) then
      some (.inr (.inl false))
    else
      some (.inl (a3, a4, a5, (IntKind.wrap .i64 (a6 + (1 : Int)))))
    else none
  else
    some (.inr (.inr a3))

noncomputable def S127_3step (fuel : Nat) (x : (List UInt8) × (List PV) × Int × Int) : Option (((List UInt8) × (List PV) × Int × Int) ⊕ ((Bool) ⊕ ((List UInt8)))) := S127_3 fuel x.1 x.2.1 x.2.2.1 x.2.2.2

/-- wireschema/ident.IsFull -/
noncomputable def F127 (fuel : Nat) (a0 : List UInt8) : Option (Bool) :=
  (Lsplit fuel a0 ([46] : List UInt8)).bind fun y1 =>
  (loopQ fuel (S127_3step fuel) (a0, y1, (y1.length : Int), (0 : Int))).bind fun z => sumE (fun y13 =>
    some y13
  ) (fun y14 =>
    some (decide ((y14.length : Int) ≤ (120 : Int)))
  ) z

noncomputable def S127_3l (fuel : Nat) : LoopE := { key := 3, H := ⟨[0, 6, 7, 8], [], [.str, (.slice 9), (.int .i64), (.int .i64)]⟩, X := [(.ret, ⟨[2], [], [.bool]⟩), (.exit 0, ⟨[0], [], [.str]⟩)], step := S127_3step fuel }

noncomputable def F127C (fuel : Nat) : Cfg := cfg Tryz.prog 19 0 [Lsplitc fuel, F187c fuel] [S127_3l fuel] fuel

noncomputable def F127c (fuel : Nat) : CallE := { f := 127, A := ⟨1, [], [.str]⟩, R := ⟨1, [], [.bool]⟩, F := fun x => F127 fuel x, dflt := false }

theorem F127k (fuel : Nat) : CallOk (F127C fuel) := cfg_callOk (callsC (Lsplitok fuel) <| callsC (F187ok fuel) <| callsN)

theorem S127_3ok (fuel : Nat) : LoopOk (F127C fuel) (lp (bodyOf Tryz.f127) 0) := loopOk_of (F127k fuel) fuel (S127_3l fuel) (loops0 (by kernel_rfl)) (by kernel_rfl) (fun x => by kernel_rfl) (fun R e st K => by kernel_rfl)

theorem F127ok (fuel : Nat) : (F127c fuel).Ok Tryz.prog := fun x y h => meets_of (F127k fuel) (f := 127) (fn := Tryz.f127) (c := bodyOf Tryz.f127) (by kernel_rfl) (by kernel_rfl) (by kernel_rfl) (by kernel_rfl) (loopsN 1 (by kernel_rfl) fun i hi => match i, hi with | 0, _ => S127_3ok fuel | n + 1, h => absurd h (by omega)) (A := (F127c fuel).A) (R := (F127c fuel).R) (F := (F127c fuel).F) (fun x => by kernel_rfl) (fun x => by kernel_rfl) x y h

/-- wireschema/ident.IsWord -/
noncomputable def F182 (fuel : Nat) (a0 : List UInt8) : Option (Bool) :=
  bif (a0 == ([109, 101, 115, 115, 97, 103, 101] : List UInt8)) then
    some true
  else
    bif (a0 == ([101, 110, 117, 109] : List UInt8)) then
      some true
    else
      bif (a0 == ([115, 101, 114, 118, 105, 99, 101] : List UInt8)) then
        some true
      else
        bif (a0 == ([117, 110, 105, 111, 110] : List UInt8)) then
          some true
        else
          bif (a0 == ([109, 97, 112] : List UInt8)) then
            some true
          else
            bif (a0 == ([108, 105, 115, 116] : List UInt8)) then
              some true
            else
              let x7 := a0 == ([114, 101, 113, 117, 105, 114, 101, 100] : List UInt8)
              bif x7 then
                some true
              else
                let x8 := a0 == ([111, 112, 116, 105, 111, 110, 97, 108] : List UInt8)
                bif x8 then
                  some true
                else
                  bif (a0 == ([112, 108, 97, 105, 110] : List UInt8)) then
                    some true
                  else
                    bif (a0 == ([100, 101, 102, 97, 117, 108, 116] : List UInt8)) then
                      some true
                    else
                      let x11 := a0 == ([114, 101, 115, 101, 114, 118, 101, 100] : List UInt8)
                      bif x11 then
                        some true
                      else
                        bif (a0 == ([105, 109, 112, 111, 114, 116] : List UInt8)) then
                          some true
                        else
                          bif (a0 == ([115, 112, 97, 99, 101] : List UInt8)) then
                            some true
                          else
                            bif (a0 == ([114, 112, 99] : List UInt8)) then
                              some true
                            else
                              bif (a0 == ([115, 116, 114, 101, 97, 109] : List UInt8)) then
                                some true
                              else
                                bif (a0 == ([114, 101, 116, 117, 114, 110, 115] : List UInt8)) then
                                  some true
                                else
                                  bif (a0 == ([111, 112, 101, 110] : List UInt8)) then
                                    some true
                                  else
                                    bif (a0 == ([116, 114, 117, 101] : List UInt8)) then
                                      some true
                                    else
                                      bif (a0 == ([102, 97, 108, 115, 101] : List UInt8)) then
                                        some true
                                      else
                                        bif (a0 == ([110, 97, 110] : List UInt8)) then
                                          some true
                                        else
                                          bif (a0 == ([105, 110, 102] : List UInt8)) then
                                            some true
                                          else
                                            some false

noncomputable def F182C (fuel : Nat) : Cfg := cfg Tryz.prog 27 0 [] [] fuel

noncomputable def F182c (fuel : Nat) : CallE := { f := 182, A := ⟨1, [], [.str]⟩, R := ⟨1, [], [.bool]⟩, F := fun x => F182 fuel x, dflt := false }

theorem F182k (fuel : Nat) : CallOk (F182C fuel) := cfg_callOk (callsN)

theorem F182ok (fuel : Nat) : (F182c fuel).Ok Tryz.prog := fun x y h => meets_of (F182k fuel) (f := 182) (fn := Tryz.f182) (c := bodyOf Tryz.f182) (by kernel_rfl) (by kernel_rfl) (by kernel_rfl) (by kernel_rfl) (loops0 (by kernel_rfl)) (A := (F182c fuel).A) (R := (F182c fuel).R) (F := (F182c fuel).F) (fun x => by kernel_rfl) (fun x => by kernel_rfl) x y h

noncomputable def S258_3 (fuel : Nat) (a2 : List PV) (a3 : Unit) (a4 : Int) (a5 : Int) : Option (((List PV) × Unit × Int × Int) ⊕ ((Int) ⊕ (Unit))) :=
  bif (decide (a5 < a4)) then
    bif inRange a5 a2.length then
    (F182 fuel (a2.getD a5.toNat .bad).asStr).bind fun y9 =>
    bif y9 then
      some (.inr (.inl a5))
    else
      some (.inl (a2, (), a4, (IntKind.wrap .i64 (a5 + (1 : Int)))))
    else none
  else
    some (.inr (.inr ()))

noncomputable def S258_3step (fuel : Nat) (x : (List PV) × Unit × Int × Int) : Option (((List PV) × Unit × Int × Int) ⊕ ((Int) ⊕ (Unit))) := S258_3 fuel x.1 x.2.1 x.2.2.1 x.2.2.2

/-- slices.IndexFunc[[]string,string] -/
noncomputable def F258 (fuel : Nat) (a0 : List PV) (a1 : Unit) : Option (Int) :=
  (loopQ fuel (S258_3step fuel) (a0, (), (a0.length : Int), (0 : Int))).bind fun z => sumE (fun y11 =>
    some y11
  ) (fun y12 =>
    some (-1 : Int)
  ) z

noncomputable def S258_3l (fuel : Nat) : LoopE := { key := 3, H := ⟨[0, 1, 7, 8], [], [(.slice 9), (.con (.fn 182 0 [])), (.int .i64), (.int .i64)]⟩, X := [(.ret, ⟨[4], [], [(.int .i64)]⟩), (.exit 0, ⟨[], [], []⟩)], step := S258_3step fuel }

noncomputable def F258C (fuel : Nat) : Cfg := cfg Tryz.prog 19 0 [F182c fuel] [S258_3l fuel] fuel

noncomputable def F258c (fuel : Nat) : CallE := { f := 258, A := ⟨2, [], [(.slice 9), (.con (.fn 182 0 []))]⟩, R := ⟨1, [], [(.int .i64)]⟩, F := fun x => F258 fuel x.1 x.2, dflt := 0 }

theorem F258k (fuel : Nat) : CallOk (F258C fuel) := cfg_callOk (callsC (F182ok fuel) <| callsN)

theorem S258_3ok (fuel : Nat) : LoopOk (F258C fuel) (lp (bodyOf Tryz.f258) 0) := loopOk_of (F258k fuel) fuel (S258_3l fuel) (loops0 (by kernel_rfl)) (by kernel_rfl) (fun x => by kernel_rfl) (fun R e st K => by kernel_rfl)

theorem F258ok (fuel : Nat) : (F258c fuel).Ok Tryz.prog := fun x y h => meets_of (F258k fuel) (f := 258) (fn := Tryz.f258) (c := bodyOf Tryz.f258) (by kernel_rfl) (by kernel_rfl) (by kernel_rfl) (by kernel_rfl) (loopsN 1 (by kernel_rfl) fun i hi => match i, hi with | 0, _ => S258_3ok fuel | n + 1, h => absurd h (by omega)) (A := (F258c fuel).A) (R := (F258c fuel).R) (F := (F258c fuel).F) (fun x => by kernel_rfl) (fun x => by kernel_rfl) x y h

/-- slices.ContainsFunc[[]string,string] -/
noncomputable def F180 (fuel : Nat) (a0 : List PV) (a1 : Unit) : Option (Bool) :=
  (F258 fuel a0 ()).bind fun y1 =>
  some (decide (y1 ≥ (0 : Int)))

noncomputable def F180C (fuel : Nat) : Cfg := cfg Tryz.prog 9 0 [F258c fuel] [] fuel

noncomputable def F180c (fuel : Nat) : CallE := { f := 180, A := ⟨2, [], [(.slice 9), (.con (.fn 182 0 []))]⟩, R := ⟨1, [], [.bool]⟩, F := fun x => F180 fuel x.1 x.2, dflt := false }

theorem F180k (fuel : Nat) : CallOk (F180C fuel) := cfg_callOk (callsC (F258ok fuel) <| callsN)

theorem F180ok (fuel : Nat) : (F180c fuel).Ok Tryz.prog := fun x y h => meets_of (F180k fuel) (f := 180) (fn := Tryz.f180) (c := bodyOf Tryz.f180) (by kernel_rfl) (by kernel_rfl) (by kernel_rfl) (by kernel_rfl) (loops0 (by kernel_rfl)) (A := (F180c fuel).A) (R := (F180c fuel).R) (F := (F180c fuel).F) (fun x => by kernel_rfl) (fun x => by kernel_rfl) x y h

/-- wireschema/format.isDef -/
noncomputable def F72 (fuel : Nat) (a0 : List UInt8) : Option (Bool) :=
  (F127 fuel a0).bind fun y1 =>
  (bif y1 then Lsplit fuel a0 ([46] : List UInt8) else some []).bind fun y2 =>
  (bif y1 then F180 fuel y2 () else some false).bind fun y3 =>
  some (bif y1 then (!y3) else false)

noncomputable def F72C (fuel : Nat) : Cfg := cfg Tryz.prog 11 0 [F127c fuel, Lsplitc fuel, F180c fuel] [] fuel

noncomputable def F72c (fuel : Nat) : CallE := { f := 72, A := ⟨1, [], [.str]⟩, R := ⟨1, [], [.bool]⟩, F := fun x => F72 fuel x, dflt := false }

theorem F72k (fuel : Nat) : CallOk (F72C fuel) := cfg_callOk (callsC (F127ok fuel) <| callsC (Lsplitok fuel) <| callsC (F180ok fuel) <| callsN)

theorem F72ok (fuel : Nat) : (F72c fuel).Ok Tryz.prog := fun x y h => meets_of (F72k fuel) (f := 72) (fn := Tryz.f72) (c := bodyOf Tryz.f72) (by kernel_rfl) (by kernel_rfl) (by kernel_rfl) (by kernel_rfl) (loops0 (by kernel_rfl)) (A := (F72c fuel).A) (R := (F72c fuel).R) (F := (F72c fuel).F) (fun x => by kernel_rfl) (fun x => by kernel_rfl) x y h

/-- wireschema/format.isPart -/
noncomputable def F77 (fuel : Nat) (a0 : List UInt8) : Option (Bool) :=
  (F187 fuel a0).bind fun y1 =>
  (bif y1 then F182 fuel a0 else some false).bind fun y2 =>
  some (bif y1 then (!y2) else false)

noncomputable def F77C (fuel : Nat) : Cfg := cfg Tryz.prog 10 0 [F187c fuel, F182c fuel] [] fuel

noncomputable def F77c (fuel : Nat) : CallE := { f := 77, A := ⟨1, [], [.str]⟩, R := ⟨1, [], [.bool]⟩, F := fun x => F77 fuel x, dflt := false }

theorem F77k (fuel : Nat) : CallOk (F77C fuel) := cfg_callOk (callsC (F187ok fuel) <| callsC (F182ok fuel) <| callsN)

theorem F77ok (fuel : Nat) : (F77c fuel).Ok Tryz.prog := fun x y h => meets_of (F77k fuel) (f := 77) (fn := Tryz.f77) (c := bodyOf Tryz.f77) (by kernel_rfl) (by kernel_rfl) (by kernel_rfl) (by kernel_rfl) (loops0 (by kernel_rfl)) (A := (F77c fuel).A) (R := (F77c fuel).R) (F := (F77c fuel).F) (fun x => by kernel_rfl) (fun x => by kernel_rfl) x y h

/-- wireschema/format.plain -/
noncomputable def F45 (fuel : Nat) (a0 : Int) : Option (Bool) :=
  some (bif (decide (a0 ≥ (1 : Int))) then (decide (a0 ≤ (8 : Int))) else false)

noncomputable def F45C (fuel : Nat) : Cfg := cfg Tryz.prog 9 0 [] [] fuel

noncomputable def F45c (fuel : Nat) : CallE := { f := 45, A := ⟨1, [], [(.int .i64)]⟩, R := ⟨1, [], [.bool]⟩, F := fun x => F45 fuel x, dflt := false }

theorem F45k (fuel : Nat) : CallOk (F45C fuel) := cfg_callOk (callsN)

theorem F45ok (fuel : Nat) : (F45c fuel).Ok Tryz.prog := fun x y h => meets_of (F45k fuel) (f := 45) (fn := Tryz.f45) (c := bodyOf Tryz.f45) (by kernel_rfl) (by kernel_rfl) (by kernel_rfl) (by kernel_rfl) (loops0 (by kernel_rfl)) (A := (F45c fuel).A) (R := (F45c fuel).R) (F := (F45c fuel).F) (fun x => by kernel_rfl) (fun x => by kernel_rfl) x y h

/-- internal/stringslite.HasPrefix -/
noncomputable def F277 (fuel : Nat) (a0 : List UInt8) (a1 : List UInt8) : Option (Bool) :=
  let x3 := decide ((a0.length : Int) ≥ (a1.length : Int))
  let x4 := (a1.length : Int)
  bif imp x3 (decide (0 ≤ (0 : Int) ∧ (0 : Int) ≤ x4 ∧ x4 ≤ (a0.length : Int))) then
  some (bif x3 then (((a0.take x4.toNat).drop (0 : Int).toNat) == a1) else false)
  else none

noncomputable def F277C (fuel : Nat) : Cfg := cfg Tryz.prog 18 0 [] [] fuel

noncomputable def F277c (fuel : Nat) : CallE := { f := 277, A := ⟨2, [], [.str, .str]⟩, R := ⟨1, [], [.bool]⟩, F := fun x => F277 fuel x.1 x.2, dflt := false }

theorem F277k (fuel : Nat) : CallOk (F277C fuel) := cfg_callOk (callsN)

theorem F277ok (fuel : Nat) : (F277c fuel).Ok Tryz.prog := fun x y h => meets_of (F277k fuel) (f := 277) (fn := Tryz.f277) (c := bodyOf Tryz.f277) (by kernel_rfl) (by kernel_rfl) (by kernel_rfl) (by kernel_rfl) (loops0 (by kernel_rfl)) (A := (F277c fuel).A) (R := (F277c fuel).R) (F := (F277c fuel).F) (fun x => by kernel_rfl) (fun x => by kernel_rfl) x y h

/-- internal/stringslite.TrimPrefix -/
noncomputable def F220 (fuel : Nat) (a0 : List UInt8) (a1 : List UInt8) : Option ((List UInt8)) :=
  (F277 fuel a0 a1).bind fun y1 =>
  bif y1 then
    let x2 := (a1.length : Int)
    bif decide (0 ≤ x2 ∧ x2 ≤ (a0.length : Int) ∧ (a0.length : Int) ≤ (a0.length : Int)) then
    some ((a0.take (a0.length : Int).toNat).drop x2.toNat)
    else none
  else
    some a0

noncomputable def F220C (fuel : Nat) : Cfg := cfg Tryz.prog 13 0 [F277c fuel] [] fuel

noncomputable def F220c (fuel : Nat) : CallE := { f := 220, A := ⟨2, [], [.str, .str]⟩, R := ⟨1, [], [.str]⟩, F := fun x => F220 fuel x.1 x.2, dflt := [] }

theorem F220k (fuel : Nat) : CallOk (F220C fuel) := cfg_callOk (callsC (F277ok fuel) <| callsN)

theorem F220ok (fuel : Nat) : (F220c fuel).Ok Tryz.prog := fun x y h => meets_of (F220k fuel) (f := 220) (fn := Tryz.f220) (c := bodyOf Tryz.f220) (by kernel_rfl) (by kernel_rfl) (by kernel_rfl) (by kernel_rfl) (loops0 (by kernel_rfl)) (A := (F220c fuel).A) (R := (F220c fuel).R) (F := (F220c fuel).F) (fun x => by kernel_rfl) (fun x => by kernel_rfl) x y h

/-- strings.TrimPrefix -/
noncomputable def F128 (fuel : Nat) (a0 : List UInt8) (a1 : List UInt8) : Option ((List UInt8)) :=
  (F220 fuel a0 a1).bind fun y1 =>
  some y1

noncomputable def F128C (fuel : Nat) : Cfg := cfg Tryz.prog 8 0 [F220c fuel] [] fuel

noncomputable def F128c (fuel : Nat) : CallE := { f := 128, A := ⟨2, [], [.str, .str]⟩, R := ⟨1, [], [.str]⟩, F := fun x => F128 fuel x.1 x.2, dflt := [] }

theorem F128k (fuel : Nat) : CallOk (F128C fuel) := cfg_callOk (callsC (F220ok fuel) <| callsN)

theorem F128ok (fuel : Nat) : (F128c fuel).Ok Tryz.prog := fun x y h => meets_of (F128k fuel) (f := 128) (fn := Tryz.f128) (c := bodyOf Tryz.f128) (by kernel_rfl) (by kernel_rfl) (by kernel_rfl) (by kernel_rfl) (loops0 (by kernel_rfl)) (A := (F128c fuel).A) (R := (F128c fuel).R) (F := (F128c fuel).F) (fun x => by kernel_rfl) (fun x => by kernel_rfl) x y h

/-- wireschema/format.isType -/
noncomputable def F47 (fuel : Nat) (a0 : List UInt8) : Option (Bool) :=
  (F128 fuel a0 ([46] : List UInt8)).bind fun y1 =>
  (F127 fuel y1).bind fun y2 =>
  some y2

noncomputable def F47C (fuel : Nat) : Cfg := cfg Tryz.prog 6 0 [F128c fuel, F127c fuel] [] fuel

noncomputable def F47c (fuel : Nat) : CallE := { f := 47, A := ⟨1, [], [.str]⟩, R := ⟨1, [], [.bool]⟩, F := fun x => F47 fuel x, dflt := false }

theorem F47k (fuel : Nat) : CallOk (F47C fuel) := cfg_callOk (callsC (F128ok fuel) <| callsC (F127ok fuel) <| callsN)

theorem F47ok (fuel : Nat) : (F47c fuel).Ok Tryz.prog := fun x y h => meets_of (F47k fuel) (f := 47) (fn := Tryz.f47) (c := bodyOf Tryz.f47) (by kernel_rfl) (by kernel_rfl) (by kernel_rfl) (by kernel_rfl) (loops0 (by kernel_rfl)) (A := (F47c fuel).A) (R := (F47c fuel).R) (F := (F47c fuel).F) (fun x => by kernel_rfl) (fun x => by kernel_rfl) x y h

/-- wireschema/parse.words -/
noncomputable def F126 (fuel : Nat)  : Option (PV) :=
  let x1 := (PV.agg [(PV.str ([98, 111, 111, 108] : List UInt8)), (PV.str ([105, 51, 50] : List UInt8)), (PV.str ([105, 54, 52] : List UInt8)), (PV.str ([117, 51, 50] : List UInt8)), (PV.str ([117, 54, 52] : List UInt8)), (PV.str ([100, 111, 117, 98, 108, 101] : List UInt8)), (PV.str ([116, 101, 120, 116] : List UInt8)), (PV.str ([98, 121, 116, 101, 115] : List UInt8))])
  some x1

noncomputable def F126C (fuel : Nat) : Cfg := cfg Tryz.prog 2 0 [] [] fuel

noncomputable def F126c (fuel : Nat) : CallE := { f := 126, A := ⟨0, [], []⟩, R := ⟨1, [], [(.data 144)]⟩, F := fun x => F126 fuel , dflt := PV.bad }

theorem F126k (fuel : Nat) : CallOk (F126C fuel) := cfg_callOk (callsN)

theorem F126ok (fuel : Nat) : (F126c fuel).Ok Tryz.prog := fun x y h => meets_of (F126k fuel) (f := 126) (fn := Tryz.f126) (c := bodyOf Tryz.f126) (by kernel_rfl) (by kernel_rfl) (by kernel_rfl) (by kernel_rfl) (loops0 (by kernel_rfl)) (A := (F126c fuel).A) (R := (F126c fuel).R) (F := (F126c fuel).F) (fun x => by kernel_rfl) (fun x => by kernel_rfl) x y h

noncomputable def S188_3 (fuel : Nat) (a2 : List UInt8) (a3 : PV) (a4 : Int) : Option (((List UInt8) × PV × Int) ⊕ ((Int) ⊕ (Unit))) :=
  bif (decide (a4 < (8 : Int))) then
    bif inRange a4 8 then
    bif (((a3.fld a4.toNat).asStr) == a2) then
      some (.inr (.inl (IntKind.wrap .i64 (a4 + (1 : Int)))))
    else
      some (.inl (a2, a3, (IntKind.wrap .i64 (a4 + (1 : Int)))))
    else none
  else
    some (.inr (.inr ()))

noncomputable def S188_3step (fuel : Nat) (x : (List UInt8) × PV × Int) : Option (((List UInt8) × PV × Int) ⊕ ((Int) ⊕ (Unit))) := S188_3 fuel x.1 x.2.1 x.2.2

/-- wireschema/parse.Kind -/
noncomputable def F188 (fuel : Nat) (a0 : List UInt8) : Option (Int) :=
  (F126 fuel).bind fun y1 =>
  (loopQ fuel (S188_3step fuel) (a0, y1, (0 : Int))).bind fun z => sumE (fun y10 =>
    some y10
  ) (fun y11 =>
    some (0 : Int)
  ) z

noncomputable def S188_3l (fuel : Nat) : LoopE := { key := 3, H := ⟨[0, 5, 6], [], [.str, (.data 144), (.int .i64)]⟩, X := [(.ret, ⟨[2], [], [(.int .i64)]⟩), (.exit 0, ⟨[], [], []⟩)], step := S188_3step fuel }

noncomputable def F188C (fuel : Nat) : Cfg := cfg Tryz.prog 16 0 [F126c fuel] [S188_3l fuel] fuel

noncomputable def F188c (fuel : Nat) : CallE := { f := 188, A := ⟨1, [], [.str]⟩, R := ⟨1, [], [(.int .i64)]⟩, F := fun x => F188 fuel x, dflt := 0 }

theorem F188k (fuel : Nat) : CallOk (F188C fuel) := cfg_callOk (callsC (F126ok fuel) <| callsN)

theorem S188_3ok (fuel : Nat) : LoopOk (F188C fuel) (lp (bodyOf Tryz.f188) 0) := loopOk_of (F188k fuel) fuel (S188_3l fuel) (loops0 (by kernel_rfl)) (by kernel_rfl) (fun x => by kernel_rfl) (fun R e st K => by kernel_rfl)

theorem F188ok (fuel : Nat) : (F188c fuel).Ok Tryz.prog := fun x y h => meets_of (F188k fuel) (f := 188) (fn := Tryz.f188) (c := bodyOf Tryz.f188) (by kernel_rfl) (by kernel_rfl) (by kernel_rfl) (by kernel_rfl) (loopsN 1 (by kernel_rfl) fun i hi => match i, hi with | 0, _ => S188_3ok fuel | n + 1, h => absurd h (by omega)) (A := (F188c fuel).A) (R := (F188c fuel).R) (F := (F188c fuel).F) (fun x => by kernel_rfl) (fun x => by kernel_rfl) x y h

/-- wireschema/format.typeName -/
noncomputable def F78 (fuel : Nat) (a0 : PV) : Option (Bool) :=
  (F45 fuel ((a0.fld 0).asInt)).bind fun y2 =>
  bif y2 then
    some (((a0.fld 1).asStr) == ([] : List UInt8))
  else
    (F47 fuel ((a0.fld 1).asStr)).bind fun y6 =>
    (bif y6 then F188 fuel ((a0.fld 1).asStr) else some 0).bind fun y8 =>
    some (bif y6 then (y8 == (0 : Int)) else false)

noncomputable def F78C (fuel : Nat) : Cfg := cfg Tryz.prog 18 0 [F45c fuel, F47c fuel, F188c fuel] [] fuel

noncomputable def F78c (fuel : Nat) : CallE := { f := 78, A := ⟨1, [], [(.data 35)]⟩, R := ⟨1, [], [.bool]⟩, F := fun x => F78 fuel x, dflt := false }

theorem F78k (fuel : Nat) : CallOk (F78C fuel) := cfg_callOk (callsC (F45ok fuel) <| callsC (F47ok fuel) <| callsC (F188ok fuel) <| callsN)

theorem F78ok (fuel : Nat) : (F78c fuel).Ok Tryz.prog := fun x y h => meets_of (F78k fuel) (f := 78) (fn := Tryz.f78) (c := bodyOf Tryz.f78) (by kernel_rfl) (by kernel_rfl) (by kernel_rfl) (by kernel_rfl) (loops0 (by kernel_rfl)) (A := (F78c fuel).A) (R := (F78c fuel).R) (F := (F78c fuel).F) (fun x => by kernel_rfl) (fun x => by kernel_rfl) x y h

/-- wireschema/format.names$1$1 -/
noncomputable def F76 (fuel : Nat) (a0 : PV) : Option (Bool) :=
  (F77 fuel ((a0.fld 1).asStr)).bind fun y2 =>
  let x4 := ((a0.fld 5).asStr) == ([] : List UInt8)
  (bif bif !x4 then y2 else false then F77 fuel ((a0.fld 5).asStr) else some false).bind fun y6 =>
  let x8 := bif y2 then (bif x4 then true else y6) else false
  (bif x8 then F78 fuel (a0.fld 4) else some false).bind fun y10 =>
  some (bif x8 then y10 else false)

noncomputable def F76C (fuel : Nat) : Cfg := cfg Tryz.prog 21 0 [F77c fuel, F78c fuel] [] fuel

noncomputable def F76c (fuel : Nat) : CallE := { f := 76, A := ⟨1, [], [(.data 45)]⟩, R := ⟨1, [], [.bool]⟩, F := fun x => F76 fuel x, dflt := false }

theorem F76k (fuel : Nat) : CallOk (F76C fuel) := cfg_callOk (callsC (F77ok fuel) <| callsC (F78ok fuel) <| callsN)

theorem F76ok (fuel : Nat) : (F76c fuel).Ok Tryz.prog := fun x y h => meets_of (F76k fuel) (f := 76) (fn := Tryz.f76) (c := bodyOf Tryz.f76) (by kernel_rfl) (by kernel_rfl) (by kernel_rfl) (by kernel_rfl) (loops0 (by kernel_rfl)) (A := (F76c fuel).A) (R := (F76c fuel).R) (F := (F76c fuel).F) (fun x => by kernel_rfl) (fun x => by kernel_rfl) x y h

/-- wireschema/format.every[wireschema/api.Field]$1 -/
noncomputable def F186 (fuel : Nat) (a0 : PV) (a1 : Unit) (a2 : Unit) : Option (Bool × Unit) :=
  (F76 fuel a0).bind fun y1 =>
  some ((!y1), ())

noncomputable def F186C (fuel : Nat) : Cfg := cfg Tryz.prog 8 1 [F76c fuel] [] fuel

noncomputable def F186c (fuel : Nat) : CallE := { f := 186, A := ⟨2, [.box 101 .leaf], [(.data 45), (.con (.ref 0 [] 101)), (.con (.fn 76 0 []))]⟩, R := ⟨1, [.box 101 .leaf], [.bool, (.con (.fn 76 0 []))]⟩, F := fun x => F186 fuel x.1 x.2.1 x.2.2, dflt := (false, ()) }

theorem F186k (fuel : Nat) : CallOk (F186C fuel) := cfg_callOk (callsC (F76ok fuel) <| callsN)

theorem F186ok (fuel : Nat) : (F186c fuel).Ok Tryz.prog := fun x y h => meets_of (F186k fuel) (f := 186) (fn := Tryz.f186) (c := bodyOf Tryz.f186) (by kernel_rfl) (by kernel_rfl) (by kernel_rfl) (by kernel_rfl) (loops0 (by kernel_rfl)) (A := (F186c fuel).A) (R := (F186c fuel).R) (F := (F186c fuel).F) (fun x => by kernel_rfl) (fun x => by kernel_rfl) x y h

noncomputable def S261_3 (fuel : Nat) (a2 : List PV) (a3 : Unit) (a4 : Int) (a5 : Int) (a6 : Unit) : Option (((List PV) × Unit × Int × Int × Unit) ⊕ ((Int × Unit) ⊕ (Unit))) :=
  bif (decide (a5 < a4)) then
    bif inRange a5 a2.length then
    (F186 fuel (a2.getD a5.toNat .bad) () ()).bind fun y9 =>
    bif y9.1 then
      some (.inr (.inl (a5, ())))
    else
      some (.inl (a2, (), a4, (IntKind.wrap .i64 (a5 + (1 : Int))), ()))
    else none
  else
    some (.inr (.inr ()))

noncomputable def S261_3step (fuel : Nat) (x : (List PV) × Unit × Int × Int × Unit) : Option (((List PV) × Unit × Int × Int × Unit) ⊕ ((Int × Unit) ⊕ (Unit))) := S261_3 fuel x.1 x.2.1 x.2.2.1 x.2.2.2.1 x.2.2.2.2

/-- slices.IndexFunc[[]wireschema/api.Field,wireschema/api.Field] -/
noncomputable def F261 (fuel : Nat) (a0 : List PV) (a1 : Unit) (a2 : Unit) : Option (Int × Unit) :=
  (loopQ fuel (S261_3step fuel) (a0, (), (a0.length : Int), (0 : Int), ())).bind fun z => sumE (fun y11 =>
    some (y11.1, ())
  ) (fun y12 =>
    some ((-1 : Int), ())
  ) z

noncomputable def S261_3l (fuel : Nat) : LoopE := { key := 3, H := ⟨[0, 1, 7, 8], [.box 101 .leaf], [(.slice 45), (.con (.fn 186 0 [(.ref 0 [] 101)])), (.int .i64), (.int .i64), (.con (.fn 76 0 []))]⟩, X := [(.ret, ⟨[4], [.box 101 .leaf], [(.int .i64), (.con (.fn 76 0 []))]⟩), (.exit 0, ⟨[], [.box 101 .leaf], [(.con (.fn 76 0 []))]⟩)], step := S261_3step fuel }

noncomputable def F261C (fuel : Nat) : Cfg := cfg Tryz.prog 19 1 [F186c fuel] [S261_3l fuel] fuel

noncomputable def F261c (fuel : Nat) : CallE := { f := 261, A := ⟨2, [.box 101 .leaf], [(.slice 45), (.con (.fn 186 0 [(.ref 0 [] 101)])), (.con (.fn 76 0 []))]⟩, R := ⟨1, [.box 101 .leaf], [(.int .i64), (.con (.fn 76 0 []))]⟩, F := fun x => F261 fuel x.1 x.2.1 x.2.2, dflt := (0, ()) }

theorem F261k (fuel : Nat) : CallOk (F261C fuel) := cfg_callOk (callsC (F186ok fuel) <| callsN)

theorem S261_3ok (fuel : Nat) : LoopOk (F261C fuel) (lp (bodyOf Tryz.f261) 0) := loopOk_of (F261k fuel) fuel (S261_3l fuel) (loops0 (by kernel_rfl)) (by kernel_rfl) (fun x => by kernel_rfl) (fun R e st K => by kernel_rfl)

theorem F261ok (fuel : Nat) : (F261c fuel).Ok Tryz.prog := fun x y h => meets_of (F261k fuel) (f := 261) (fn := Tryz.f261) (c := bodyOf Tryz.f261) (by kernel_rfl) (by kernel_rfl) (by kernel_rfl) (by kernel_rfl) (loopsN 1 (by kernel_rfl) fun i hi => match i, hi with | 0, _ => S261_3ok fuel | n + 1, h => absurd h (by omega)) (A := (F261c fuel).A) (R := (F261c fuel).R) (F := (F261c fuel).F) (fun x => by kernel_rfl) (fun x => by kernel_rfl) x y h

/-- slices.ContainsFunc[[]wireschema/api.Field,wireschema/api.Field] -/
noncomputable def F185 (fuel : Nat) (a0 : List PV) (a1 : Unit) (a2 : Unit) : Option (Bool × Unit) :=
  (F261 fuel a0 () ()).bind fun y1 =>
  some ((decide (y1.1 ≥ (0 : Int))), ())

noncomputable def F185C (fuel : Nat) : Cfg := cfg Tryz.prog 9 1 [F261c fuel] [] fuel

noncomputable def F185c (fuel : Nat) : CallE := { f := 185, A := ⟨2, [.box 101 .leaf], [(.slice 45), (.con (.fn 186 0 [(.ref 0 [] 101)])), (.con (.fn 76 0 []))]⟩, R := ⟨1, [.box 101 .leaf], [.bool, (.con (.fn 76 0 []))]⟩, F := fun x => F185 fuel x.1 x.2.1 x.2.2, dflt := (false, ()) }

theorem F185k (fuel : Nat) : CallOk (F185C fuel) := cfg_callOk (callsC (F261ok fuel) <| callsN)

theorem F185ok (fuel : Nat) : (F185c fuel).Ok Tryz.prog := fun x y h => meets_of (F185k fuel) (f := 185) (fn := Tryz.f185) (c := bodyOf Tryz.f185) (by kernel_rfl) (by kernel_rfl) (by kernel_rfl) (by kernel_rfl) (loops0 (by kernel_rfl)) (A := (F185c fuel).A) (R := (F185c fuel).R) (F := (F185c fuel).F) (fun x => by kernel_rfl) (fun x => by kernel_rfl) x y h

/-- wireschema/format.every[wireschema/api.Field] -/
noncomputable def F75 (fuel : Nat) (a0 : List PV) (a1 : Unit) : Option (Bool) :=
  (F185 fuel a0 () ()).bind fun y1 =>
  some (!y1.1)

noncomputable def F75C (fuel : Nat) : Cfg := cfg Tryz.prog 9 0 [F185c fuel] [] fuel

noncomputable def F75c (fuel : Nat) : CallE := { f := 75, A := ⟨2, [], [(.slice 45), (.con (.fn 76 0 []))]⟩, R := ⟨1, [], [.bool]⟩, F := fun x => F75 fuel x.1 x.2, dflt := false }

theorem F75k (fuel : Nat) : CallOk (F75C fuel) := cfg_callOk (callsC (F185ok fuel) <| callsN)

theorem F75ok (fuel : Nat) : (F75c fuel).Ok Tryz.prog := fun x y h => meets_of (F75k fuel) (f := 75) (fn := Tryz.f75) (c := bodyOf Tryz.f75) (by kernel_rfl) (by kernel_rfl) (by kernel_rfl) (by kernel_rfl) (loops0 (by kernel_rfl)) (A := (F75c fuel).A) (R := (F75c fuel).R) (F := (F75c fuel).F) (fun x => by kernel_rfl) (fun x => by kernel_rfl) x y h

/-- wireschema/format.names$1 -/
noncomputable def F74 (fuel : Nat) (a0 : PV) : Option (Bool) :=
  (F72 fuel ((a0.fld 0).asStr)).bind fun y2 =>
  (bif y2 then F75 fuel ((a0.fld 1).asList) () else some false).bind fun y4 =>
  some (bif y2 then y4 else false)

noncomputable def F74C (fuel : Nat) : Cfg := cfg Tryz.prog 11 0 [F72c fuel, F75c fuel] [] fuel

noncomputable def F74c (fuel : Nat) : CallE := { f := 74, A := ⟨1, [], [(.data 61)]⟩, R := ⟨1, [], [.bool]⟩, F := fun x => F74 fuel x, dflt := false }

theorem F74k (fuel : Nat) : CallOk (F74C fuel) := cfg_callOk (callsC (F72ok fuel) <| callsC (F75ok fuel) <| callsN)

theorem F74ok (fuel : Nat) : (F74c fuel).Ok Tryz.prog := fun x y h => meets_of (F74k fuel) (f := 74) (fn := Tryz.f74) (c := bodyOf Tryz.f74) (by kernel_rfl) (by kernel_rfl) (by kernel_rfl) (by kernel_rfl) (loops0 (by kernel_rfl)) (A := (F74c fuel).A) (R := (F74c fuel).R) (F := (F74c fuel).F) (fun x => by kernel_rfl) (fun x => by kernel_rfl) x y h

/-- wireschema/format.every[wireschema/api.Message]$1 -/
noncomputable def F184 (fuel : Nat) (a0 : PV) (a1 : Unit) (a2 : Unit) : Option (Bool × Unit) :=
  (F74 fuel a0).bind fun y1 =>
  some ((!y1), ())

noncomputable def F184C (fuel : Nat) : Cfg := cfg Tryz.prog 8 1 [F74c fuel] [] fuel

noncomputable def F184c (fuel : Nat) : CallE := { f := 184, A := ⟨2, [.box 102 .leaf], [(.data 61), (.con (.ref 0 [] 102)), (.con (.fn 74 0 []))]⟩, R := ⟨1, [.box 102 .leaf], [.bool, (.con (.fn 74 0 []))]⟩, F := fun x => F184 fuel x.1 x.2.1 x.2.2, dflt := (false, ()) }

theorem F184k (fuel : Nat) : CallOk (F184C fuel) := cfg_callOk (callsC (F74ok fuel) <| callsN)

theorem F184ok (fuel : Nat) : (F184c fuel).Ok Tryz.prog := fun x y h => meets_of (F184k fuel) (f := 184) (fn := Tryz.f184) (c := bodyOf Tryz.f184) (by kernel_rfl) (by kernel_rfl) (by kernel_rfl) (by kernel_rfl) (loops0 (by kernel_rfl)) (A := (F184c fuel).A) (R := (F184c fuel).R) (F := (F184c fuel).F) (fun x => by kernel_rfl) (fun x => by kernel_rfl) x y h

noncomputable def S260_3 (fuel : Nat) (a2 : List PV) (a3 : Unit) (a4 : Int) (a5 : Int) (a6 : Unit) : Option (((List PV) × Unit × Int × Int × Unit) ⊕ ((Int × Unit) ⊕ (Unit))) :=
  bif (decide (a5 < a4)) then
    bif inRange a5 a2.length then
    (F184 fuel (a2.getD a5.toNat .bad) () ()).bind fun y9 =>
    bif y9.1 then
      some (.inr (.inl (a5, ())))
    else
      some (.inl (a2, (), a4, (IntKind.wrap .i64 (a5 + (1 : Int))), ()))
    else none
  else
    some (.inr (.inr ()))

noncomputable def S260_3step (fuel : Nat) (x : (List PV) × Unit × Int × Int × Unit) : Option (((List PV) × Unit × Int × Int × Unit) ⊕ ((Int × Unit) ⊕ (Unit))) := S260_3 fuel x.1 x.2.1 x.2.2.1 x.2.2.2.1 x.2.2.2.2

/-- slices.IndexFunc[[]wireschema/api.Message,wireschema/api.Message] -/
noncomputable def F260 (fuel : Nat) (a0 : List PV) (a1 : Unit) (a2 : Unit) : Option (Int × Unit) :=
  (loopQ fuel (S260_3step fuel) (a0, (), (a0.length : Int), (0 : Int), ())).bind fun z => sumE (fun y11 =>
    some (y11.1, ())
  ) (fun y12 =>
    some ((-1 : Int), ())
  ) z

noncomputable def S260_3l (fuel : Nat) : LoopE := { key := 3, H := ⟨[0, 1, 7, 8], [.box 102 .leaf], [(.slice 61), (.con (.fn 184 0 [(.ref 0 [] 102)])), (.int .i64), (.int .i64), (.con (.fn 74 0 []))]⟩, X := [(.ret, ⟨[4], [.box 102 .leaf], [(.int .i64), (.con (.fn 74 0 []))]⟩), (.exit 0, ⟨[], [.box 102 .leaf], [(.con (.fn 74 0 []))]⟩)], step := S260_3step fuel }

noncomputable def F260C (fuel : Nat) : Cfg := cfg Tryz.prog 19 1 [F184c fuel] [S260_3l fuel] fuel

noncomputable def F260c (fuel : Nat) : CallE := { f := 260, A := ⟨2, [.box 102 .leaf], [(.slice 61), (.con (.fn 184 0 [(.ref 0 [] 102)])), (.con (.fn 74 0 []))]⟩, R := ⟨1, [.box 102 .leaf], [(.int .i64), (.con (.fn 74 0 []))]⟩, F := fun x => F260 fuel x.1 x.2.1 x.2.2, dflt := (0, ()) }

theorem F260k (fuel : Nat) : CallOk (F260C fuel) := cfg_callOk (callsC (F184ok fuel) <| callsN)

theorem S260_3ok (fuel : Nat) : LoopOk (F260C fuel) (lp (bodyOf Tryz.f260) 0) := loopOk_of (F260k fuel) fuel (S260_3l fuel) (loops0 (by kernel_rfl)) (by kernel_rfl) (fun x => by kernel_rfl) (fun R e st K => by kernel_rfl)

theorem F260ok (fuel : Nat) : (F260c fuel).Ok Tryz.prog := fun x y h => meets_of (F260k fuel) (f := 260) (fn := Tryz.f260) (c := bodyOf Tryz.f260) (by kernel_rfl) (by kernel_rfl) (by kernel_rfl) (by kernel_rfl) (loopsN 1 (by kernel_rfl) fun i hi => match i, hi with | 0, _ => S260_3ok fuel | n + 1, h => absurd h (by omega)) (A := (F260c fuel).A) (R := (F260c fuel).R) (F := (F260c fuel).F) (fun x => by kernel_rfl) (fun x => by kernel_rfl) x y h

/-- slices.ContainsFunc[[]wireschema/api.Message,wireschema/api.Message] -/
noncomputable def F183 (fuel : Nat) (a0 : List PV) (a1 : Unit) (a2 : Unit) : Option (Bool × Unit) :=
  (F260 fuel a0 () ()).bind fun y1 =>
  some ((decide (y1.1 ≥ (0 : Int))), ())

noncomputable def F183C (fuel : Nat) : Cfg := cfg Tryz.prog 9 1 [F260c fuel] [] fuel

noncomputable def F183c (fuel : Nat) : CallE := { f := 183, A := ⟨2, [.box 102 .leaf], [(.slice 61), (.con (.fn 184 0 [(.ref 0 [] 102)])), (.con (.fn 74 0 []))]⟩, R := ⟨1, [.box 102 .leaf], [.bool, (.con (.fn 74 0 []))]⟩, F := fun x => F183 fuel x.1 x.2.1 x.2.2, dflt := (false, ()) }

theorem F183k (fuel : Nat) : CallOk (F183C fuel) := cfg_callOk (callsC (F260ok fuel) <| callsN)

theorem F183ok (fuel : Nat) : (F183c fuel).Ok Tryz.prog := fun x y h => meets_of (F183k fuel) (f := 183) (fn := Tryz.f183) (c := bodyOf Tryz.f183) (by kernel_rfl) (by kernel_rfl) (by kernel_rfl) (by kernel_rfl) (loops0 (by kernel_rfl)) (A := (F183c fuel).A) (R := (F183c fuel).R) (F := (F183c fuel).F) (fun x => by kernel_rfl) (fun x => by kernel_rfl) x y h

/-- wireschema/format.every[wireschema/api.Message] -/
noncomputable def F73 (fuel : Nat) (a0 : List PV) (a1 : Unit) : Option (Bool) :=
  (F183 fuel a0 () ()).bind fun y1 =>
  some (!y1.1)

noncomputable def F73C (fuel : Nat) : Cfg := cfg Tryz.prog 9 0 [F183c fuel] [] fuel

noncomputable def F73c (fuel : Nat) : CallE := { f := 73, A := ⟨2, [], [(.slice 61), (.con (.fn 74 0 []))]⟩, R := ⟨1, [], [.bool]⟩, F := fun x => F73 fuel x.1 x.2, dflt := false }

theorem F73k (fuel : Nat) : CallOk (F73C fuel) := cfg_callOk (callsC (F183ok fuel) <| callsN)

theorem F73ok (fuel : Nat) : (F73c fuel).Ok Tryz.prog := fun x y h => meets_of (F73k fuel) (f := 73) (fn := Tryz.f73) (c := bodyOf Tryz.f73) (by kernel_rfl) (by kernel_rfl) (by kernel_rfl) (by kernel_rfl) (loops0 (by kernel_rfl)) (A := (F73c fuel).A) (R := (F73c fuel).R) (F := (F73c fuel).F) (fun x => by kernel_rfl) (fun x => by kernel_rfl) x y h

/-- wireschema/format.names$2$1 -/
noncomputable def F82 (fuel : Nat) (a0 : PV) : Option (Bool) :=
  (F77 fuel ((a0.fld 0).asStr)).bind fun y2 =>
  some y2

noncomputable def F82C (fuel : Nat) : Cfg := cfg Tryz.prog 6 0 [F77c fuel] [] fuel

noncomputable def F82c (fuel : Nat) : CallE := { f := 82, A := ⟨1, [], [(.data 106)]⟩, R := ⟨1, [], [.bool]⟩, F := fun x => F82 fuel x, dflt := false }

theorem F82k (fuel : Nat) : CallOk (F82C fuel) := cfg_callOk (callsC (F77ok fuel) <| callsN)

theorem F82ok (fuel : Nat) : (F82c fuel).Ok Tryz.prog := fun x y h => meets_of (F82k fuel) (f := 82) (fn := Tryz.f82) (c := bodyOf Tryz.f82) (by kernel_rfl) (by kernel_rfl) (by kernel_rfl) (by kernel_rfl) (loops0 (by kernel_rfl)) (A := (F82c fuel).A) (R := (F82c fuel).R) (F := (F82c fuel).F) (fun x => by kernel_rfl) (fun x => by kernel_rfl) x y h

/-- wireschema/format.every[wireschema/api.Item]$1 -/
noncomputable def F192 (fuel : Nat) (a0 : PV) (a1 : Unit) (a2 : Unit) : Option (Bool × Unit) :=
  (F82 fuel a0).bind fun y1 =>
  some ((!y1), ())

noncomputable def F192C (fuel : Nat) : Cfg := cfg Tryz.prog 8 1 [F82c fuel] [] fuel

noncomputable def F192c (fuel : Nat) : CallE := { f := 192, A := ⟨2, [.box 107 .leaf], [(.data 106), (.con (.ref 0 [] 107)), (.con (.fn 82 0 []))]⟩, R := ⟨1, [.box 107 .leaf], [.bool, (.con (.fn 82 0 []))]⟩, F := fun x => F192 fuel x.1 x.2.1 x.2.2, dflt := (false, ()) }

theorem F192k (fuel : Nat) : CallOk (F192C fuel) := cfg_callOk (callsC (F82ok fuel) <| callsN)

theorem F192ok (fuel : Nat) : (F192c fuel).Ok Tryz.prog := fun x y h => meets_of (F192k fuel) (f := 192) (fn := Tryz.f192) (c := bodyOf Tryz.f192) (by kernel_rfl) (by kernel_rfl) (by kernel_rfl) (by kernel_rfl) (loops0 (by kernel_rfl)) (A := (F192c fuel).A) (R := (F192c fuel).R) (F := (F192c fuel).F) (fun x => by kernel_rfl) (fun x => by kernel_rfl) x y h

noncomputable def S264_3 (fuel : Nat) (a2 : List PV) (a3 : Unit) (a4 : Int) (a5 : Int) (a6 : Unit) : Option (((List PV) × Unit × Int × Int × Unit) ⊕ ((Int × Unit) ⊕ (Unit))) :=
  bif (decide (a5 < a4)) then
    bif inRange a5 a2.length then
    (F192 fuel (a2.getD a5.toNat .bad) () ()).bind fun y9 =>
    bif y9.1 then
      some (.inr (.inl (a5, ())))
    else
      some (.inl (a2, (), a4, (IntKind.wrap .i64 (a5 + (1 : Int))), ()))
    else none
  else
    some (.inr (.inr ()))

noncomputable def S264_3step (fuel : Nat) (x : (List PV) × Unit × Int × Int × Unit) : Option (((List PV) × Unit × Int × Int × Unit) ⊕ ((Int × Unit) ⊕ (Unit))) := S264_3 fuel x.1 x.2.1 x.2.2.1 x.2.2.2.1 x.2.2.2.2

/-- slices.IndexFunc[[]wireschema/api.Item,wireschema/api.Item] -/
noncomputable def F264 (fuel : Nat) (a0 : List PV) (a1 : Unit) (a2 : Unit) : Option (Int × Unit) :=
  (loopQ fuel (S264_3step fuel) (a0, (), (a0.length : Int), (0 : Int), ())).bind fun z => sumE (fun y11 =>
    some (y11.1, ())
  ) (fun y12 =>
    some ((-1 : Int), ())
  ) z

noncomputable def S264_3l (fuel : Nat) : LoopE := { key := 3, H := ⟨[0, 1, 7, 8], [.box 107 .leaf], [(.slice 106), (.con (.fn 192 0 [(.ref 0 [] 107)])), (.int .i64), (.int .i64), (.con (.fn 82 0 []))]⟩, X := [(.ret, ⟨[4], [.box 107 .leaf], [(.int .i64), (.con (.fn 82 0 []))]⟩), (.exit 0, ⟨[], [.box 107 .leaf], [(.con (.fn 82 0 []))]⟩)], step := S264_3step fuel }

noncomputable def F264C (fuel : Nat) : Cfg := cfg Tryz.prog 19 1 [F192c fuel] [S264_3l fuel] fuel

noncomputable def F264c (fuel : Nat) : CallE := { f := 264, A := ⟨2, [.box 107 .leaf], [(.slice 106), (.con (.fn 192 0 [(.ref 0 [] 107)])), (.con (.fn 82 0 []))]⟩, R := ⟨1, [.box 107 .leaf], [(.int .i64), (.con (.fn 82 0 []))]⟩, F := fun x => F264 fuel x.1 x.2.1 x.2.2, dflt := (0, ()) }

theorem F264k (fuel : Nat) : CallOk (F264C fuel) := cfg_callOk (callsC (F192ok fuel) <| callsN)

theorem S264_3ok (fuel : Nat) : LoopOk (F264C fuel) (lp (bodyOf Tryz.f264) 0) := loopOk_of (F264k fuel) fuel (S264_3l fuel) (loops0 (by kernel_rfl)) (by kernel_rfl) (fun x => by kernel_rfl) (fun R e st K => by kernel_rfl)

theorem F264ok (fuel : Nat) : (F264c fuel).Ok Tryz.prog := fun x y h => meets_of (F264k fuel) (f := 264) (fn := Tryz.f264) (c := bodyOf Tryz.f264) (by kernel_rfl) (by kernel_rfl) (by kernel_rfl) (by kernel_rfl) (loopsN 1 (by kernel_rfl) fun i hi => match i, hi with | 0, _ => S264_3ok fuel | n + 1, h => absurd h (by omega)) (A := (F264c fuel).A) (R := (F264c fuel).R) (F := (F264c fuel).F) (fun x => by kernel_rfl) (fun x => by kernel_rfl) x y h

/-- slices.ContainsFunc[[]wireschema/api.Item,wireschema/api.Item] -/
noncomputable def F191 (fuel : Nat) (a0 : List PV) (a1 : Unit) (a2 : Unit) : Option (Bool × Unit) :=
  (F264 fuel a0 () ()).bind fun y1 =>
  some ((decide (y1.1 ≥ (0 : Int))), ())

noncomputable def F191C (fuel : Nat) : Cfg := cfg Tryz.prog 9 1 [F264c fuel] [] fuel

noncomputable def F191c (fuel : Nat) : CallE := { f := 191, A := ⟨2, [.box 107 .leaf], [(.slice 106), (.con (.fn 192 0 [(.ref 0 [] 107)])), (.con (.fn 82 0 []))]⟩, R := ⟨1, [.box 107 .leaf], [.bool, (.con (.fn 82 0 []))]⟩, F := fun x => F191 fuel x.1 x.2.1 x.2.2, dflt := (false, ()) }

theorem F191k (fuel : Nat) : CallOk (F191C fuel) := cfg_callOk (callsC (F264ok fuel) <| callsN)

theorem F191ok (fuel : Nat) : (F191c fuel).Ok Tryz.prog := fun x y h => meets_of (F191k fuel) (f := 191) (fn := Tryz.f191) (c := bodyOf Tryz.f191) (by kernel_rfl) (by kernel_rfl) (by kernel_rfl) (by kernel_rfl) (loops0 (by kernel_rfl)) (A := (F191c fuel).A) (R := (F191c fuel).R) (F := (F191c fuel).F) (fun x => by kernel_rfl) (fun x => by kernel_rfl) x y h

/-- wireschema/format.every[wireschema/api.Item] -/
noncomputable def F81 (fuel : Nat) (a0 : List PV) (a1 : Unit) : Option (Bool) :=
  (F191 fuel a0 () ()).bind fun y1 =>
  some (!y1.1)

noncomputable def F81C (fuel : Nat) : Cfg := cfg Tryz.prog 9 0 [F191c fuel] [] fuel

noncomputable def F81c (fuel : Nat) : CallE := { f := 81, A := ⟨2, [], [(.slice 106), (.con (.fn 82 0 []))]⟩, R := ⟨1, [], [.bool]⟩, F := fun x => F81 fuel x.1 x.2, dflt := false }

theorem F81k (fuel : Nat) : CallOk (F81C fuel) := cfg_callOk (callsC (F191ok fuel) <| callsN)

theorem F81ok (fuel : Nat) : (F81c fuel).Ok Tryz.prog := fun x y h => meets_of (F81k fuel) (f := 81) (fn := Tryz.f81) (c := bodyOf Tryz.f81) (by kernel_rfl) (by kernel_rfl) (by kernel_rfl) (by kernel_rfl) (loops0 (by kernel_rfl)) (A := (F81c fuel).A) (R := (F81c fuel).R) (F := (F81c fuel).F) (fun x => by kernel_rfl) (fun x => by kernel_rfl) x y h

/-- wireschema/format.names$2 -/
noncomputable def F80 (fuel : Nat) (a0 : PV) : Option (Bool) :=
  (F72 fuel ((a0.fld 0).asStr)).bind fun y2 =>
  (bif y2 then F81 fuel ((a0.fld 2).asList) () else some false).bind fun y4 =>
  some (bif y2 then y4 else false)

noncomputable def F80C (fuel : Nat) : Cfg := cfg Tryz.prog 11 0 [F72c fuel, F81c fuel] [] fuel

noncomputable def F80c (fuel : Nat) : CallE := { f := 80, A := ⟨1, [], [(.data 64)]⟩, R := ⟨1, [], [.bool]⟩, F := fun x => F80 fuel x, dflt := false }

theorem F80k (fuel : Nat) : CallOk (F80C fuel) := cfg_callOk (callsC (F72ok fuel) <| callsC (F81ok fuel) <| callsN)

theorem F80ok (fuel : Nat) : (F80c fuel).Ok Tryz.prog := fun x y h => meets_of (F80k fuel) (f := 80) (fn := Tryz.f80) (c := bodyOf Tryz.f80) (by kernel_rfl) (by kernel_rfl) (by kernel_rfl) (by kernel_rfl) (loops0 (by kernel_rfl)) (A := (F80c fuel).A) (R := (F80c fuel).R) (F := (F80c fuel).F) (fun x => by kernel_rfl) (fun x => by kernel_rfl) x y h

/-- wireschema/format.every[wireschema/api.Enum]$1 -/
noncomputable def F190 (fuel : Nat) (a0 : PV) (a1 : Unit) (a2 : Unit) : Option (Bool × Unit) :=
  (F80 fuel a0).bind fun y1 =>
  some ((!y1), ())

noncomputable def F190C (fuel : Nat) : Cfg := cfg Tryz.prog 8 1 [F80c fuel] [] fuel

noncomputable def F190c (fuel : Nat) : CallE := { f := 190, A := ⟨2, [.box 108 .leaf], [(.data 64), (.con (.ref 0 [] 108)), (.con (.fn 80 0 []))]⟩, R := ⟨1, [.box 108 .leaf], [.bool, (.con (.fn 80 0 []))]⟩, F := fun x => F190 fuel x.1 x.2.1 x.2.2, dflt := (false, ()) }

theorem F190k (fuel : Nat) : CallOk (F190C fuel) := cfg_callOk (callsC (F80ok fuel) <| callsN)

theorem F190ok (fuel : Nat) : (F190c fuel).Ok Tryz.prog := fun x y h => meets_of (F190k fuel) (f := 190) (fn := Tryz.f190) (c := bodyOf Tryz.f190) (by kernel_rfl) (by kernel_rfl) (by kernel_rfl) (by kernel_rfl) (loops0 (by kernel_rfl)) (A := (F190c fuel).A) (R := (F190c fuel).R) (F := (F190c fuel).F) (fun x => by kernel_rfl) (fun x => by kernel_rfl) x y h

noncomputable def S263_3 (fuel : Nat) (a2 : List PV) (a3 : Unit) (a4 : Int) (a5 : Int) (a6 : Unit) : Option (((List PV) × Unit × Int × Int × Unit) ⊕ ((Int × Unit) ⊕ (Unit))) :=
  bif (decide (a5 < a4)) then
    bif inRange a5 a2.length then
    (F190 fuel (a2.getD a5.toNat .bad) () ()).bind fun y9 =>
    bif y9.1 then
      some (.inr (.inl (a5, ())))
    else
      some (.inl (a2, (), a4, (IntKind.wrap .i64 (a5 + (1 : Int))), ()))
    else none
  else
    some (.inr (.inr ()))

noncomputable def S263_3step (fuel : Nat) (x : (List PV) × Unit × Int × Int × Unit) : Option (((List PV) × Unit × Int × Int × Unit) ⊕ ((Int × Unit) ⊕ (Unit))) := S263_3 fuel x.1 x.2.1 x.2.2.1 x.2.2.2.1 x.2.2.2.2

/-- slices.IndexFunc[[]wireschema/api.Enum,wireschema/api.Enum] -/
noncomputable def F263 (fuel : Nat) (a0 : List PV) (a1 : Unit) (a2 : Unit) : Option (Int × Unit) :=
  (loopQ fuel (S263_3step fuel) (a0, (), (a0.length : Int), (0 : Int), ())).bind fun z => sumE (fun y11 =>
    some (y11.1, ())
  ) (fun y12 =>
    some ((-1 : Int), ())
  ) z

noncomputable def S263_3l (fuel : Nat) : LoopE := { key := 3, H := ⟨[0, 1, 7, 8], [.box 108 .leaf], [(.slice 64), (.con (.fn 190 0 [(.ref 0 [] 108)])), (.int .i64), (.int .i64), (.con (.fn 80 0 []))]⟩, X := [(.ret, ⟨[4], [.box 108 .leaf], [(.int .i64), (.con (.fn 80 0 []))]⟩), (.exit 0, ⟨[], [.box 108 .leaf], [(.con (.fn 80 0 []))]⟩)], step := S263_3step fuel }

noncomputable def F263C (fuel : Nat) : Cfg := cfg Tryz.prog 19 1 [F190c fuel] [S263_3l fuel] fuel

noncomputable def F263c (fuel : Nat) : CallE := { f := 263, A := ⟨2, [.box 108 .leaf], [(.slice 64), (.con (.fn 190 0 [(.ref 0 [] 108)])), (.con (.fn 80 0 []))]⟩, R := ⟨1, [.box 108 .leaf], [(.int .i64), (.con (.fn 80 0 []))]⟩, F := fun x => F263 fuel x.1 x.2.1 x.2.2, dflt := (0, ()) }

theorem F263k (fuel : Nat) : CallOk (F263C fuel) := cfg_callOk (callsC (F190ok fuel) <| callsN)

theorem S263_3ok (fuel : Nat) : LoopOk (F263C fuel) (lp (bodyOf Tryz.f263) 0) := loopOk_of (F263k fuel) fuel (S263_3l fuel) (loops0 (by kernel_rfl)) (by kernel_rfl) (fun x => by kernel_rfl) (fun R e st K => by kernel_rfl)

theorem F263ok (fuel : Nat) : (F263c fuel).Ok Tryz.prog := fun x y h => meets_of (F263k fuel) (f := 263) (fn := Tryz.f263) (c := bodyOf Tryz.f263) (by kernel_rfl) (by kernel_rfl) (by kernel_rfl) (by kernel_rfl) (loopsN 1 (by kernel_rfl) fun i hi => match i, hi with | 0, _ => S263_3ok fuel | n + 1, h => absurd h (by omega)) (A := (F263c fuel).A) (R := (F263c fuel).R) (F := (F263c fuel).F) (fun x => by kernel_rfl) (fun x => by kernel_rfl) x y h

/-- slices.ContainsFunc[[]wireschema/api.Enum,wireschema/api.Enum] -/
noncomputable def F189 (fuel : Nat) (a0 : List PV) (a1 : Unit) (a2 : Unit) : Option (Bool × Unit) :=
  (F263 fuel a0 () ()).bind fun y1 =>
  some ((decide (y1.1 ≥ (0 : Int))), ())

noncomputable def F189C (fuel : Nat) : Cfg := cfg Tryz.prog 9 1 [F263c fuel] [] fuel

noncomputable def F189c (fuel : Nat) : CallE := { f := 189, A := ⟨2, [.box 108 .leaf], [(.slice 64), (.con (.fn 190 0 [(.ref 0 [] 108)])), (.con (.fn 80 0 []))]⟩, R := ⟨1, [.box 108 .leaf], [.bool, (.con (.fn 80 0 []))]⟩, F := fun x => F189 fuel x.1 x.2.1 x.2.2, dflt := (false, ()) }

theorem F189k (fuel : Nat) : CallOk (F189C fuel) := cfg_callOk (callsC (F263ok fuel) <| callsN)

theorem F189ok (fuel : Nat) : (F189c fuel).Ok Tryz.prog := fun x y h => meets_of (F189k fuel) (f := 189) (fn := Tryz.f189) (c := bodyOf Tryz.f189) (by kernel_rfl) (by kernel_rfl) (by kernel_rfl) (by kernel_rfl) (loops0 (by kernel_rfl)) (A := (F189c fuel).A) (R := (F189c fuel).R) (F := (F189c fuel).F) (fun x => by kernel_rfl) (fun x => by kernel_rfl) x y h

/-- wireschema/format.every[wireschema/api.Enum] -/
noncomputable def F79 (fuel : Nat) (a0 : List PV) (a1 : Unit) : Option (Bool) :=
  (F189 fuel a0 () ()).bind fun y1 =>
  some (!y1.1)

noncomputable def F79C (fuel : Nat) : Cfg := cfg Tryz.prog 9 0 [F189c fuel] [] fuel

noncomputable def F79c (fuel : Nat) : CallE := { f := 79, A := ⟨2, [], [(.slice 64), (.con (.fn 80 0 []))]⟩, R := ⟨1, [], [.bool]⟩, F := fun x => F79 fuel x.1 x.2, dflt := false }

theorem F79k (fuel : Nat) : CallOk (F79C fuel) := cfg_callOk (callsC (F189ok fuel) <| callsN)

theorem F79ok (fuel : Nat) : (F79c fuel).Ok Tryz.prog := fun x y h => meets_of (F79k fuel) (f := 79) (fn := Tryz.f79) (c := bodyOf Tryz.f79) (by kernel_rfl) (by kernel_rfl) (by kernel_rfl) (by kernel_rfl) (loops0 (by kernel_rfl)) (A := (F79c fuel).A) (R := (F79c fuel).R) (F := (F79c fuel).F) (fun x => by kernel_rfl) (fun x => by kernel_rfl) x y h

/-- wireschema/format.names$3$1 -/
noncomputable def F86 (fuel : Nat) (a0 : PV) : Option (Bool) :=
  (F77 fuel ((a0.fld 0).asStr)).bind fun y2 =>
  (bif y2 then F47 fuel ((a0.fld 1).asStr) else some false).bind fun y4 =>
  let x5 := bif y2 then y4 else false
  (bif x5 then F47 fuel ((a0.fld 2).asStr) else some false).bind fun y7 =>
  some (bif (bif (bif x5 then y7 else false) then (!(((a0.fld 1).asStr) == ([115, 116, 114, 101, 97, 109] : List UInt8))) else false) then (!(((a0.fld 2).asStr) == ([115, 116, 114, 101, 97, 109] : List UInt8))) else false)

noncomputable def F86C (fuel : Nat) : Cfg := cfg Tryz.prog 26 0 [F77c fuel, F47c fuel] [] fuel

noncomputable def F86c (fuel : Nat) : CallE := { f := 86, A := ⟨1, [], [(.data 112)]⟩, R := ⟨1, [], [.bool]⟩, F := fun x => F86 fuel x, dflt := false }

theorem F86k (fuel : Nat) : CallOk (F86C fuel) := cfg_callOk (callsC (F77ok fuel) <| callsC (F47ok fuel) <| callsN)

theorem F86ok (fuel : Nat) : (F86c fuel).Ok Tryz.prog := fun x y h => meets_of (F86k fuel) (f := 86) (fn := Tryz.f86) (c := bodyOf Tryz.f86) (by kernel_rfl) (by kernel_rfl) (by kernel_rfl) (by kernel_rfl) (loops0 (by kernel_rfl)) (A := (F86c fuel).A) (R := (F86c fuel).R) (F := (F86c fuel).F) (fun x => by kernel_rfl) (fun x => by kernel_rfl) x y h

/-- wireschema/format.every[wireschema/api.Method]$1 -/
noncomputable def F196 (fuel : Nat) (a0 : PV) (a1 : Unit) (a2 : Unit) : Option (Bool × Unit) :=
  (F86 fuel a0).bind fun y1 =>
  some ((!y1), ())

noncomputable def F196C (fuel : Nat) : Cfg := cfg Tryz.prog 8 1 [F86c fuel] [] fuel

noncomputable def F196c (fuel : Nat) : CallE := { f := 196, A := ⟨2, [.box 113 .leaf], [(.data 112), (.con (.ref 0 [] 113)), (.con (.fn 86 0 []))]⟩, R := ⟨1, [.box 113 .leaf], [.bool, (.con (.fn 86 0 []))]⟩, F := fun x => F196 fuel x.1 x.2.1 x.2.2, dflt := (false, ()) }

theorem F196k (fuel : Nat) : CallOk (F196C fuel) := cfg_callOk (callsC (F86ok fuel) <| callsN)

theorem F196ok (fuel : Nat) : (F196c fuel).Ok Tryz.prog := fun x y h => meets_of (F196k fuel) (f := 196) (fn := Tryz.f196) (c := bodyOf Tryz.f196) (by kernel_rfl) (by kernel_rfl) (by kernel_rfl) (by kernel_rfl) (loops0 (by kernel_rfl)) (A := (F196c fuel).A) (R := (F196c fuel).R) (F := (F196c fuel).F) (fun x => by kernel_rfl) (fun x => by kernel_rfl) x y h

noncomputable def S266_3 (fuel : Nat) (a2 : List PV) (a3 : Unit) (a4 : Int) (a5 : Int) (a6 : Unit) : Option (((List PV) × Unit × Int × Int × Unit) ⊕ ((Int × Unit) ⊕ (Unit))) :=
  bif (decide (a5 < a4)) then
    bif inRange a5 a2.length then
    (F196 fuel (a2.getD a5.toNat .bad) () ()).bind fun y9 =>
    bif y9.1 then
      some (.inr (.inl (a5, ())))
    else
      some (.inl (a2, (), a4, (IntKind.wrap .i64 (a5 + (1 : Int))), ()))
    else none
  else
    some (.inr (.inr ()))

noncomputable def S266_3step (fuel : Nat) (x : (List PV) × Unit × Int × Int × Unit) : Option (((List PV) × Unit × Int × Int × Unit) ⊕ ((Int × Unit) ⊕ (Unit))) := S266_3 fuel x.1 x.2.1 x.2.2.1 x.2.2.2.1 x.2.2.2.2

/-- slices.IndexFunc[[]wireschema/api.Method,wireschema/api.Method] -/
noncomputable def F266 (fuel : Nat) (a0 : List PV) (a1 : Unit) (a2 : Unit) : Option (Int × Unit) :=
  (loopQ fuel (S266_3step fuel) (a0, (), (a0.length : Int), (0 : Int), ())).bind fun z => sumE (fun y11 =>
    some (y11.1, ())
  ) (fun y12 =>
    some ((-1 : Int), ())
  ) z

noncomputable def S266_3l (fuel : Nat) : LoopE := { key := 3, H := ⟨[0, 1, 7, 8], [.box 113 .leaf], [(.slice 112), (.con (.fn 196 0 [(.ref 0 [] 113)])), (.int .i64), (.int .i64), (.con (.fn 86 0 []))]⟩, X := [(.ret, ⟨[4], [.box 113 .leaf], [(.int .i64), (.con (.fn 86 0 []))]⟩), (.exit 0, ⟨[], [.box 113 .leaf], [(.con (.fn 86 0 []))]⟩)], step := S266_3step fuel }

noncomputable def F266C (fuel : Nat) : Cfg := cfg Tryz.prog 19 1 [F196c fuel] [S266_3l fuel] fuel

noncomputable def F266c (fuel : Nat) : CallE := { f := 266, A := ⟨2, [.box 113 .leaf], [(.slice 112), (.con (.fn 196 0 [(.ref 0 [] 113)])), (.con (.fn 86 0 []))]⟩, R := ⟨1, [.box 113 .leaf], [(.int .i64), (.con (.fn 86 0 []))]⟩, F := fun x => F266 fuel x.1 x.2.1 x.2.2, dflt := (0, ()) }

theorem F266k (fuel : Nat) : CallOk (F266C fuel) := cfg_callOk (callsC (F196ok fuel) <| callsN)

theorem S266_3ok (fuel : Nat) : LoopOk (F266C fuel) (lp (bodyOf Tryz.f266) 0) := loopOk_of (F266k fuel) fuel (S266_3l fuel) (loops0 (by kernel_rfl)) (by kernel_rfl) (fun x => by kernel_rfl) (fun R e st K => by kernel_rfl)

theorem F266ok (fuel : Nat) : (F266c fuel).Ok Tryz.prog := fun x y h => meets_of (F266k fuel) (f := 266) (fn := Tryz.f266) (c := bodyOf Tryz.f266) (by kernel_rfl) (by kernel_rfl) (by kernel_rfl) (by kernel_rfl) (loopsN 1 (by kernel_rfl) fun i hi => match i, hi with | 0, _ => S266_3ok fuel | n + 1, h => absurd h (by omega)) (A := (F266c fuel).A) (R := (F266c fuel).R) (F := (F266c fuel).F) (fun x => by kernel_rfl) (fun x => by kernel_rfl) x y h

/-- slices.ContainsFunc[[]wireschema/api.Method,wireschema/api.Method] -/
noncomputable def F195 (fuel : Nat) (a0 : List PV) (a1 : Unit) (a2 : Unit) : Option (Bool × Unit) :=
  (F266 fuel a0 () ()).bind fun y1 =>
  some ((decide (y1.1 ≥ (0 : Int))), ())

noncomputable def F195C (fuel : Nat) : Cfg := cfg Tryz.prog 9 1 [F266c fuel] [] fuel

noncomputable def F195c (fuel : Nat) : CallE := { f := 195, A := ⟨2, [.box 113 .leaf], [(.slice 112), (.con (.fn 196 0 [(.ref 0 [] 113)])), (.con (.fn 86 0 []))]⟩, R := ⟨1, [.box 113 .leaf], [.bool, (.con (.fn 86 0 []))]⟩, F := fun x => F195 fuel x.1 x.2.1 x.2.2, dflt := (false, ()) }

theorem F195k (fuel : Nat) : CallOk (F195C fuel) := cfg_callOk (callsC (F266ok fuel) <| callsN)

theorem F195ok (fuel : Nat) : (F195c fuel).Ok Tryz.prog := fun x y h => meets_of (F195k fuel) (f := 195) (fn := Tryz.f195) (c := bodyOf Tryz.f195) (by kernel_rfl) (by kernel_rfl) (by kernel_rfl) (by kernel_rfl) (loops0 (by kernel_rfl)) (A := (F195c fuel).A) (R := (F195c fuel).R) (F := (F195c fuel).F) (fun x => by kernel_rfl) (fun x => by kernel_rfl) x y h

/-- wireschema/format.every[wireschema/api.Method] -/
noncomputable def F85 (fuel : Nat) (a0 : List PV) (a1 : Unit) : Option (Bool) :=
  (F195 fuel a0 () ()).bind fun y1 =>
  some (!y1.1)

noncomputable def F85C (fuel : Nat) : Cfg := cfg Tryz.prog 9 0 [F195c fuel] [] fuel

noncomputable def F85c (fuel : Nat) : CallE := { f := 85, A := ⟨2, [], [(.slice 112), (.con (.fn 86 0 []))]⟩, R := ⟨1, [], [.bool]⟩, F := fun x => F85 fuel x.1 x.2, dflt := false }

theorem F85k (fuel : Nat) : CallOk (F85C fuel) := cfg_callOk (callsC (F195ok fuel) <| callsN)

theorem F85ok (fuel : Nat) : (F85c fuel).Ok Tryz.prog := fun x y h => meets_of (F85k fuel) (f := 85) (fn := Tryz.f85) (c := bodyOf Tryz.f85) (by kernel_rfl) (by kernel_rfl) (by kernel_rfl) (by kernel_rfl) (loops0 (by kernel_rfl)) (A := (F85c fuel).A) (R := (F85c fuel).R) (F := (F85c fuel).F) (fun x => by kernel_rfl) (fun x => by kernel_rfl) x y h

/-- wireschema/format.names$3 -/
noncomputable def F84 (fuel : Nat) (a0 : PV) : Option (Bool) :=
  (F72 fuel ((a0.fld 0).asStr)).bind fun y2 =>
  (bif y2 then F85 fuel ((a0.fld 1).asList) () else some false).bind fun y4 =>
  some (bif y2 then y4 else false)

noncomputable def F84C (fuel : Nat) : Cfg := cfg Tryz.prog 11 0 [F72c fuel, F85c fuel] [] fuel

noncomputable def F84c (fuel : Nat) : CallE := { f := 84, A := ⟨1, [], [(.data 67)]⟩, R := ⟨1, [], [.bool]⟩, F := fun x => F84 fuel x, dflt := false }

theorem F84k (fuel : Nat) : CallOk (F84C fuel) := cfg_callOk (callsC (F72ok fuel) <| callsC (F85ok fuel) <| callsN)

theorem F84ok (fuel : Nat) : (F84c fuel).Ok Tryz.prog := fun x y h => meets_of (F84k fuel) (f := 84) (fn := Tryz.f84) (c := bodyOf Tryz.f84) (by kernel_rfl) (by kernel_rfl) (by kernel_rfl) (by kernel_rfl) (loops0 (by kernel_rfl)) (A := (F84c fuel).A) (R := (F84c fuel).R) (F := (F84c fuel).F) (fun x => by kernel_rfl) (fun x => by kernel_rfl) x y h

/-- wireschema/format.every[wireschema/api.Service]$1 -/
noncomputable def F194 (fuel : Nat) (a0 : PV) (a1 : Unit) (a2 : Unit) : Option (Bool × Unit) :=
  (F84 fuel a0).bind fun y1 =>
  some ((!y1), ())

noncomputable def F194C (fuel : Nat) : Cfg := cfg Tryz.prog 8 1 [F84c fuel] [] fuel

noncomputable def F194c (fuel : Nat) : CallE := { f := 194, A := ⟨2, [.box 114 .leaf], [(.data 67), (.con (.ref 0 [] 114)), (.con (.fn 84 0 []))]⟩, R := ⟨1, [.box 114 .leaf], [.bool, (.con (.fn 84 0 []))]⟩, F := fun x => F194 fuel x.1 x.2.1 x.2.2, dflt := (false, ()) }

theorem F194k (fuel : Nat) : CallOk (F194C fuel) := cfg_callOk (callsC (F84ok fuel) <| callsN)

theorem F194ok (fuel : Nat) : (F194c fuel).Ok Tryz.prog := fun x y h => meets_of (F194k fuel) (f := 194) (fn := Tryz.f194) (c := bodyOf Tryz.f194) (by kernel_rfl) (by kernel_rfl) (by kernel_rfl) (by kernel_rfl) (loops0 (by kernel_rfl)) (A := (F194c fuel).A) (R := (F194c fuel).R) (F := (F194c fuel).F) (fun x => by kernel_rfl) (fun x => by kernel_rfl) x y h

noncomputable def S265_3 (fuel : Nat) (a2 : List PV) (a3 : Unit) (a4 : Int) (a5 : Int) (a6 : Unit) : Option (((List PV) × Unit × Int × Int × Unit) ⊕ ((Int × Unit) ⊕ (Unit))) :=
  bif (decide (a5 < a4)) then
    bif inRange a5 a2.length then
    (F194 fuel (a2.getD a5.toNat .bad) () ()).bind fun y9 =>
    bif y9.1 then
      some (.inr (.inl (a5, ())))
    else
      some (.inl (a2, (), a4, (IntKind.wrap .i64 (a5 + (1 : Int))), ()))
    else none
  else
    some (.inr (.inr ()))

noncomputable def S265_3step (fuel : Nat) (x : (List PV) × Unit × Int × Int × Unit) : Option (((List PV) × Unit × Int × Int × Unit) ⊕ ((Int × Unit) ⊕ (Unit))) := S265_3 fuel x.1 x.2.1 x.2.2.1 x.2.2.2.1 x.2.2.2.2

/-- slices.IndexFunc[[]wireschema/api.Service,wireschema/api.Service] -/
noncomputable def F265 (fuel : Nat) (a0 : List PV) (a1 : Unit) (a2 : Unit) : Option (Int × Unit) :=
  (loopQ fuel (S265_3step fuel) (a0, (), (a0.length : Int), (0 : Int), ())).bind fun z => sumE (fun y11 =>
    some (y11.1, ())
  ) (fun y12 =>
    some ((-1 : Int), ())
  ) z

noncomputable def S265_3l (fuel : Nat) : LoopE := { key := 3, H := ⟨[0, 1, 7, 8], [.box 114 .leaf], [(.slice 67), (.con (.fn 194 0 [(.ref 0 [] 114)])), (.int .i64), (.int .i64), (.con (.fn 84 0 []))]⟩, X := [(.ret, ⟨[4], [.box 114 .leaf], [(.int .i64), (.con (.fn 84 0 []))]⟩), (.exit 0, ⟨[], [.box 114 .leaf], [(.con (.fn 84 0 []))]⟩)], step := S265_3step fuel }

noncomputable def F265C (fuel : Nat) : Cfg := cfg Tryz.prog 19 1 [F194c fuel] [S265_3l fuel] fuel

noncomputable def F265c (fuel : Nat) : CallE := { f := 265, A := ⟨2, [.box 114 .leaf], [(.slice 67), (.con (.fn 194 0 [(.ref 0 [] 114)])), (.con (.fn 84 0 []))]⟩, R := ⟨1, [.box 114 .leaf], [(.int .i64), (.con (.fn 84 0 []))]⟩, F := fun x => F265 fuel x.1 x.2.1 x.2.2, dflt := (0, ()) }

theorem F265k (fuel : Nat) : CallOk (F265C fuel) := cfg_callOk (callsC (F194ok fuel) <| callsN)

theorem S265_3ok (fuel : Nat) : LoopOk (F265C fuel) (lp (bodyOf Tryz.f265) 0) := loopOk_of (F265k fuel) fuel (S265_3l fuel) (loops0 (by kernel_rfl)) (by kernel_rfl) (fun x => by kernel_rfl) (fun R e st K => by kernel_rfl)

theorem F265ok (fuel : Nat) : (F265c fuel).Ok Tryz.prog := fun x y h => meets_of (F265k fuel) (f := 265) (fn := Tryz.f265) (c := bodyOf Tryz.f265) (by kernel_rfl) (by kernel_rfl) (by kernel_rfl) (by kernel_rfl) (loopsN 1 (by kernel_rfl) fun i hi => match i, hi with | 0, _ => S265_3ok fuel | n + 1, h => absurd h (by omega)) (A := (F265c fuel).A) (R := (F265c fuel).R) (F := (F265c fuel).F) (fun x => by kernel_rfl) (fun x => by kernel_rfl) x y h

/-- slices.ContainsFunc[[]wireschema/api.Service,wireschema/api.Service] -/
noncomputable def F193 (fuel : Nat) (a0 : List PV) (a1 : Unit) (a2 : Unit) : Option (Bool × Unit) :=
  (F265 fuel a0 () ()).bind fun y1 =>
  some ((decide (y1.1 ≥ (0 : Int))), ())

noncomputable def F193C (fuel : Nat) : Cfg := cfg Tryz.prog 9 1 [F265c fuel] [] fuel

noncomputable def F193c (fuel : Nat) : CallE := { f := 193, A := ⟨2, [.box 114 .leaf], [(.slice 67), (.con (.fn 194 0 [(.ref 0 [] 114)])), (.con (.fn 84 0 []))]⟩, R := ⟨1, [.box 114 .leaf], [.bool, (.con (.fn 84 0 []))]⟩, F := fun x => F193 fuel x.1 x.2.1 x.2.2, dflt := (false, ()) }

theorem F193k (fuel : Nat) : CallOk (F193C fuel) := cfg_callOk (callsC (F265ok fuel) <| callsN)

theorem F193ok (fuel : Nat) : (F193c fuel).Ok Tryz.prog := fun x y h => meets_of (F193k fuel) (f := 193) (fn := Tryz.f193) (c := bodyOf Tryz.f193) (by kernel_rfl) (by kernel_rfl) (by kernel_rfl) (by kernel_rfl) (loops0 (by kernel_rfl)) (A := (F193c fuel).A) (R := (F193c fuel).R) (F := (F193c fuel).F) (fun x => by kernel_rfl) (fun x => by kernel_rfl) x y h

/-- wireschema/format.every[wireschema/api.Service] -/
noncomputable def F83 (fuel : Nat) (a0 : List PV) (a1 : Unit) : Option (Bool) :=
  (F193 fuel a0 () ()).bind fun y1 =>
  some (!y1.1)

noncomputable def F83C (fuel : Nat) : Cfg := cfg Tryz.prog 9 0 [F193c fuel] [] fuel

noncomputable def F83c (fuel : Nat) : CallE := { f := 83, A := ⟨2, [], [(.slice 67), (.con (.fn 84 0 []))]⟩, R := ⟨1, [], [.bool]⟩, F := fun x => F83 fuel x.1 x.2, dflt := false }

theorem F83k (fuel : Nat) : CallOk (F83C fuel) := cfg_callOk (callsC (F193ok fuel) <| callsN)

theorem F83ok (fuel : Nat) : (F83c fuel).Ok Tryz.prog := fun x y h => meets_of (F83k fuel) (f := 83) (fn := Tryz.f83) (c := bodyOf Tryz.f83) (by kernel_rfl) (by kernel_rfl) (by kernel_rfl) (by kernel_rfl) (loops0 (by kernel_rfl)) (A := (F83c fuel).A) (R := (F83c fuel).R) (F := (F83c fuel).F) (fun x => by kernel_rfl) (fun x => by kernel_rfl) x y h

/-- wireschema/format.names -/
noncomputable def F28 (fuel : Nat) (a0 : PV) : Option (Bool) :=
  let x2 := !(((a0.fld 1).asStr) == ([] : List UInt8))
  (bif x2 then F72 fuel ((a0.fld 1).asStr) else some false).bind fun y4 =>
  bif (bif x2 then (!y4) else false) then
    some false
  else
    (F73 fuel ((a0.fld 3).asList) ()).bind fun y8 =>
    (bif y8 then F79 fuel ((a0.fld 4).asList) () else some false).bind fun y10 =>
    let x11 := bif y8 then y10 else false
    (bif x11 then F83 fuel ((a0.fld 5).asList) () else some false).bind fun y13 =>
    some (bif x11 then y13 else false)

noncomputable def F28C (fuel : Nat) : Cfg := cfg Tryz.prog 25 0 [F72c fuel, F73c fuel, F79c fuel, F83c fuel] [] fuel

noncomputable def F28c (fuel : Nat) : CallE := { f := 28, A := ⟨1, [], [(.data 27)]⟩, R := ⟨1, [], [.bool]⟩, F := fun x => F28 fuel x, dflt := false }

theorem F28k (fuel : Nat) : CallOk (F28C fuel) := cfg_callOk (callsC (F72ok fuel) <| callsC (F73ok fuel) <| callsC (F79ok fuel) <| callsC (F83ok fuel) <| callsN)

theorem F28ok (fuel : Nat) : (F28c fuel).Ok Tryz.prog := fun x y h => meets_of (F28k fuel) (f := 28) (fn := Tryz.f28) (c := bodyOf Tryz.f28) (by kernel_rfl) (by kernel_rfl) (by kernel_rfl) (by kernel_rfl) (loops0 (by kernel_rfl)) (A := (F28c fuel).A) (R := (F28c fuel).R) (F := (F28c fuel).F) (fun x => by kernel_rfl) (fun x => by kernel_rfl) x y h

/-- wireschema/format.key -/
noncomputable def F197 (fuel : Nat) (a0 : Int) (a1 : Int) : Option (Bool) :=
  bif (a0 != (5 : Int)) then
    some (a1 == (0 : Int))
  else
    some (bif (bif (decide (a1 ≥ (1 : Int))) then (decide (a1 ≤ (7 : Int))) else false) then (a1 != (6 : Int)) else false)

noncomputable def F197C (fuel : Nat) : Cfg := cfg Tryz.prog 19 0 [] [] fuel

noncomputable def F197c (fuel : Nat) : CallE := { f := 197, A := ⟨2, [], [(.int .i64), (.int .i64)]⟩, R := ⟨1, [], [.bool]⟩, F := fun x => F197 fuel x.1 x.2, dflt := false }

theorem F197k (fuel : Nat) : CallOk (F197C fuel) := cfg_callOk (callsN)

theorem F197ok (fuel : Nat) : (F197c fuel).Ok Tryz.prog := fun x y h => meets_of (F197k fuel) (f := 197) (fn := Tryz.f197) (c := bodyOf Tryz.f197) (by kernel_rfl) (by kernel_rfl) (by kernel_rfl) (by kernel_rfl) (loops0 (by kernel_rfl)) (A := (F197c fuel).A) (R := (F197c fuel).R) (F := (F197c fuel).F) (fun x => by kernel_rfl) (fun x => by kernel_rfl) x y h

/-- wireschema/format.isZero -/
noncomputable def F267 (fuel : Nat) (a0 : PV) : Option (Bool) :=
  some (bif (bif (bif (((a0.fld 0).asInt) == (0 : Int)) then (((a0.fld 1).asInt) == (0 : Int)) else false) then (((a0.fld 2).asStr) == ([] : List UInt8)) else false) then ((IntKind.wrap .i64 ((IntKind.wrap .i64 ((IntKind.wrap .i64 ((((a0.fld 3).asList).length : Int) + (((a0.fld 4).asList).length : Int))) + (((a0.fld 5).asList).length : Int))) + (((a0.fld 6).asList).length : Int))) == (0 : Int)) else false)

noncomputable def F267C (fuel : Nat) : Cfg := cfg Tryz.prog 34 0 [] [] fuel

noncomputable def F267c (fuel : Nat) : CallE := { f := 267, A := ⟨1, [], [(.data 42)]⟩, R := ⟨1, [], [.bool]⟩, F := fun x => F267 fuel x, dflt := false }

theorem F267k (fuel : Nat) : CallOk (F267C fuel) := cfg_callOk (callsN)

theorem F267ok (fuel : Nat) : (F267c fuel).Ok Tryz.prog := fun x y h => meets_of (F267k fuel) (f := 267) (fn := Tryz.f267) (c := bodyOf Tryz.f267) (by kernel_rfl) (by kernel_rfl) (by kernel_rfl) (by kernel_rfl) (loops0 (by kernel_rfl)) (A := (F267c fuel).A) (R := (F267c fuel).R) (F := (F267c fuel).F) (fun x => by kernel_rfl) (fun x => by kernel_rfl) x y h

/-- wireschema/format.named -/
noncomputable def F50 (fuel : Nat) (a0 : PV) : Option (Bool) :=
  let x2 := ((a0.fld 0).asInt) == (9 : Int)
  (bif x2 then F77 fuel ((a0.fld 2).asStr) else some false).bind fun y4 =>
  some (bif (bif (bif x2 then y4 else false) then (((a0.fld 1).asInt) == (0 : Int)) else false) then ((IntKind.wrap .i64 ((IntKind.wrap .i64 ((IntKind.wrap .i64 ((((a0.fld 3).asList).length : Int) + (((a0.fld 4).asList).length : Int))) + (((a0.fld 5).asList).length : Int))) + (((a0.fld 6).asList).length : Int))) == (0 : Int)) else false)

noncomputable def F50C (fuel : Nat) : Cfg := cfg Tryz.prog 34 0 [F77c fuel] [] fuel

noncomputable def F50c (fuel : Nat) : CallE := { f := 50, A := ⟨1, [], [(.data 42)]⟩, R := ⟨1, [], [.bool]⟩, F := fun x => F50 fuel x, dflt := false }

theorem F50k (fuel : Nat) : CallOk (F50C fuel) := cfg_callOk (callsC (F77ok fuel) <| callsN)

theorem F50ok (fuel : Nat) : (F50c fuel).Ok Tryz.prog := fun x y h => meets_of (F50k fuel) (f := 50) (fn := Tryz.f50) (c := bodyOf Tryz.f50) (by kernel_rfl) (by kernel_rfl) (by kernel_rfl) (by kernel_rfl) (loops0 (by kernel_rfl)) (A := (F50c fuel).A) (R := (F50c fuel).R) (F := (F50c fuel).F) (fun x => by kernel_rfl) (fun x => by kernel_rfl) x y h

/-- wireschema/scalar.Class -/
noncomputable def F227 (fuel : Nat) (a0 : Int) : Option (Int) :=
  let x1 := bitsI .and .u64 a0 (9218868437227405312 : Int)
  let x2 := bitsI .and .u64 a0 (4503599627370495 : Int)
  bif (bif (x1 == (9218868437227405312 : Int)) then (x2 != (0 : Int)) else false) then
    some (0 : Int)
  else
    bif (x1 == (9218868437227405312 : Int)) then
      some (1 : Int)
    else
      bif (bif (x1 == (0 : Int)) then (x2 == (0 : Int)) else false) then
        some (2 : Int)
      else
        bif (x1 == (0 : Int)) then
          some (3 : Int)
        else
          some (4 : Int)

noncomputable def F227C (fuel : Nat) : Cfg := cfg Tryz.prog 29 0 [] [] fuel

noncomputable def F227c (fuel : Nat) : CallE := { f := 227, A := ⟨1, [], [(.int .u64)]⟩, R := ⟨1, [], [(.int .i64)]⟩, F := fun x => F227 fuel x, dflt := 0 }

theorem F227k (fuel : Nat) : CallOk (F227C fuel) := cfg_callOk (callsN)

theorem F227ok (fuel : Nat) : (F227c fuel).Ok Tryz.prog := fun x y h => meets_of (F227k fuel) (f := 227) (fn := Tryz.f227) (c := bodyOf Tryz.f227) (by kernel_rfl) (by kernel_rfl) (by kernel_rfl) (by kernel_rfl) (loops0 (by kernel_rfl)) (A := (F227c fuel).A) (R := (F227c fuel).R) (F := (F227c fuel).F) (fun x => by kernel_rfl) (fun x => by kernel_rfl) x y h

/-- wireschema/scalar.Norm -/
noncomputable def F268 (fuel : Nat) (a0 : PV) : Option (PV) :=
  let x2 := ((a0.fld 0).asInt) == (6 : Int)
  (bif x2 then F227 fuel ((a0.fld 1).asInt) else some 0).bind fun y4 =>
  bif (bif x2 then (y4 == (0 : Int)) else false) then
    some (PV.agg [(PV.int ((a0.fld 0).asInt)), (PV.int (9221120237041090560 : Int)), (PV.str ((a0.fld 2).asStr)), (PV.slice ((a0.fld 3).asList)), (PV.slice ((a0.fld 4).asList)), (PV.slice ((a0.fld 5).asList)), (PV.slice ((a0.fld 6).asList))])
  else
    some a0

noncomputable def F268C (fuel : Nat) : Cfg := cfg Tryz.prog 14 0 [F227c fuel] [] fuel

noncomputable def F268c (fuel : Nat) : CallE := { f := 268, A := ⟨1, [], [(.data 42)]⟩, R := ⟨1, [], [(.data 42)]⟩, F := fun x => F268 fuel x, dflt := PV.bad }

theorem F268k (fuel : Nat) : CallOk (F268C fuel) := cfg_callOk (callsC (F227ok fuel) <| callsN)

theorem F268ok (fuel : Nat) : (F268c fuel).Ok Tryz.prog := fun x y h => meets_of (F268k fuel) (f := 268) (fn := Tryz.f268) (c := bodyOf Tryz.f268) (by kernel_rfl) (by kernel_rfl) (by kernel_rfl) (by kernel_rfl) (loops0 (by kernel_rfl)) (A := (F268c fuel).A) (R := (F268c fuel).R) (F := (F268c fuel).F) (fun x => by kernel_rfl) (fun x => by kernel_rfl) x y h

/-- wireschema/scalar.Is -/
noncomputable def F130 (fuel : Nat) (a0 : Int) : Option (Bool) :=
  some (bif (decide (a0 ≥ (1 : Int))) then (decide (a0 ≤ (9 : Int))) else false)

noncomputable def F130C (fuel : Nat) : Cfg := cfg Tryz.prog 9 0 [] [] fuel

noncomputable def F130c (fuel : Nat) : CallE := { f := 130, A := ⟨1, [], [(.int .i64)]⟩, R := ⟨1, [], [.bool]⟩, F := fun x => F130 fuel x, dflt := false }

theorem F130k (fuel : Nat) : CallOk (F130C fuel) := cfg_callOk (callsN)

theorem F130ok (fuel : Nat) : (F130c fuel).Ok Tryz.prog := fun x y h => meets_of (F130k fuel) (f := 130) (fn := Tryz.f130) (c := bodyOf Tryz.f130) (by kernel_rfl) (by kernel_rfl) (by kernel_rfl) (by kernel_rfl) (loops0 (by kernel_rfl)) (A := (F130c fuel).A) (R := (F130c fuel).R) (F := (F130c fuel).F) (fun x => by kernel_rfl) (fun x => by kernel_rfl) x y h

/-- wireschema/scalar.texty -/
noncomputable def F221 (fuel : Nat) (a0 : Int) : Option (Bool) :=
  some (bif (a0 == (7 : Int)) then true else (a0 == (8 : Int)))

noncomputable def F221C (fuel : Nat) : Cfg := cfg Tryz.prog 9 0 [] [] fuel

noncomputable def F221c (fuel : Nat) : CallE := { f := 221, A := ⟨1, [], [(.int .i64)]⟩, R := ⟨1, [], [.bool]⟩, F := fun x => F221 fuel x, dflt := false }

theorem F221k (fuel : Nat) : CallOk (F221C fuel) := cfg_callOk (callsN)

theorem F221ok (fuel : Nat) : (F221c fuel).Ok Tryz.prog := fun x y h => meets_of (F221k fuel) (f := 221) (fn := Tryz.f221) (c := bodyOf Tryz.f221) (by kernel_rfl) (by kernel_rfl) (by kernel_rfl) (by kernel_rfl) (loops0 (by kernel_rfl)) (A := (F221c fuel).A) (R := (F221c fuel).R) (F := (F221c fuel).F) (fun x => by kernel_rfl) (fun x => by kernel_rfl) x y h

/-- wireschema/scalar.lean -/
noncomputable def F131 (fuel : Nat) (a0 : PV) : Option (Bool) :=
  bif (decide ((IntKind.wrap .i64 ((IntKind.wrap .i64 ((IntKind.wrap .i64 ((((a0.fld 3).asList).length : Int) + (((a0.fld 4).asList).length : Int))) + (((a0.fld 5).asList).length : Int))) + (((a0.fld 6).asList).length : Int))) > (0 : Int))) then
    some false
  else
    (F221 fuel ((a0.fld 0).asInt)).bind fun y14 =>
    bif y14 then
      some (((a0.fld 1).asInt) == (0 : Int))
    else
      some (((a0.fld 2).asStr) == ([] : List UInt8))

noncomputable def F131C (fuel : Nat) : Cfg := cfg Tryz.prog 28 0 [F221c fuel] [] fuel

noncomputable def F131c (fuel : Nat) : CallE := { f := 131, A := ⟨1, [], [(.data 42)]⟩, R := ⟨1, [], [.bool]⟩, F := fun x => F131 fuel x, dflt := false }

theorem F131k (fuel : Nat) : CallOk (F131C fuel) := cfg_callOk (callsC (F221ok fuel) <| callsN)

theorem F131ok (fuel : Nat) : (F131c fuel).Ok Tryz.prog := fun x y h => meets_of (F131k fuel) (f := 131) (fn := Tryz.f131) (c := bodyOf Tryz.f131) (by kernel_rfl) (by kernel_rfl) (by kernel_rfl) (by kernel_rfl) (loops0 (by kernel_rfl)) (A := (F131c fuel).A) (R := (F131c fuel).R) (F := (F131c fuel).F) (fun x => by kernel_rfl) (fun x => by kernel_rfl) x y h

/-- wireschema/scalar.within -/
noncomputable def F132 (fuel : Nat) (a0 : Int) (a1 : Int) : Option (Bool) :=
  bif (a0 == (1 : Int)) then
    some (decide (a1 ≤ (1 : Int)))
  else
    bif (a0 == (2 : Int)) then
      some (bif (decide ((IntKind.wrap .i64 a1) ≥ (-2147483648 : Int))) then (decide ((IntKind.wrap .i64 a1) ≤ (2147483647 : Int))) else false)
    else
      bif (a0 == (9 : Int)) then
        some (decide (a1 ≤ (2147483647 : Int)))
      else
        bif (a0 == (4 : Int)) then
          some (decide (a1 ≤ (4294967295 : Int)))
        else
          some true

noncomputable def F132C (fuel : Nat) : Cfg := cfg Tryz.prog 28 0 [] [] fuel

noncomputable def F132c (fuel : Nat) : CallE := { f := 132, A := ⟨2, [], [(.int .i64), (.int .u64)]⟩, R := ⟨1, [], [.bool]⟩, F := fun x => F132 fuel x.1 x.2, dflt := false }

theorem F132k (fuel : Nat) : CallOk (F132C fuel) := cfg_callOk (callsN)

theorem F132ok (fuel : Nat) : (F132c fuel).Ok Tryz.prog := fun x y h => meets_of (F132k fuel) (f := 132) (fn := Tryz.f132) (c := bodyOf Tryz.f132) (by kernel_rfl) (by kernel_rfl) (by kernel_rfl) (by kernel_rfl) (loops0 (by kernel_rfl)) (A := (F132c fuel).A) (R := (F132c fuel).R) (F := (F132c fuel).F) (fun x => by kernel_rfl) (fun x => by kernel_rfl) x y h

/-- strings.HasPrefix -/
noncomputable def F236 (fuel : Nat) (a0 : List UInt8) (a1 : List UInt8) : Option (Bool) :=
  (F277 fuel a0 a1).bind fun y1 =>
  some y1

noncomputable def F236C (fuel : Nat) : Cfg := cfg Tryz.prog 8 0 [F277c fuel] [] fuel

noncomputable def F236c (fuel : Nat) : CallE := { f := 236, A := ⟨2, [], [.str, .str]⟩, R := ⟨1, [], [.bool]⟩, F := fun x => F236 fuel x.1 x.2, dflt := false }

theorem F236k (fuel : Nat) : CallOk (F236C fuel) := cfg_callOk (callsC (F277ok fuel) <| callsN)

theorem F236ok (fuel : Nat) : (F236c fuel).Ok Tryz.prog := fun x y h => meets_of (F236k fuel) (f := 236) (fn := Tryz.f236) (c := bodyOf Tryz.f236) (by kernel_rfl) (by kernel_rfl) (by kernel_rfl) (by kernel_rfl) (loops0 (by kernel_rfl)) (A := (F236c fuel).A) (R := (F236c fuel).R) (F := (F236c fuel).F) (fun x => by kernel_rfl) (fun x => by kernel_rfl) x y h

/-- wireschema/utf.wrong -/
noncomputable def F223 (fuel : Nat) (a0 : List UInt8) (a1 : Int) (a2 : Int) : Option (Bool) :=
  let x1 := a2 == (65533 : Int)
  bif imp x1 (decide (0 ≤ a1 ∧ a1 ≤ (a0.length : Int) ∧ (a0.length : Int) ≤ (a0.length : Int))) then
  (bif x1 then F236 fuel ((a0.take (a0.length : Int).toNat).drop a1.toNat) ([239, 191, 189] : List UInt8) else some false).bind fun y3 =>
  some (bif x1 then (!y3) else false)
  else none

noncomputable def F223C (fuel : Nat) : Cfg := cfg Tryz.prog 16 0 [F236c fuel] [] fuel

noncomputable def F223c (fuel : Nat) : CallE := { f := 223, A := ⟨3, [], [.str, (.int .i64), (.int .i32)]⟩, R := ⟨1, [], [.bool]⟩, F := fun x => F223 fuel x.1 x.2.1 x.2.2, dflt := false }

theorem F223k (fuel : Nat) : CallOk (F223C fuel) := cfg_callOk (callsC (F236ok fuel) <| callsN)

theorem F223ok (fuel : Nat) : (F223c fuel).Ok Tryz.prog := fun x y h => meets_of (F223k fuel) (f := 223) (fn := Tryz.f223) (c := bodyOf Tryz.f223) (by kernel_rfl) (by kernel_rfl) (by kernel_rfl) (by kernel_rfl) (loops0 (by kernel_rfl)) (A := (F223c fuel).A) (R := (F223c fuel).R) (F := (F223c fuel).F) (fun x => by kernel_rfl) (fun x => by kernel_rfl) x y h

noncomputable def S202_3 (fuel : Nat) (a1 : List UInt8) (a2 : Unit) (a3 : List UInt8) (a4 : Int) : Option (((List UInt8) × Unit × (List UInt8) × Int) ⊕ ((Int × (List UInt8) × Int) ⊕ ((List UInt8) × Int))) :=
  bif (decide (a4.toNat < a3.length)) then
    bif decide (a4.toNat < a3.length) then
    let x6 := (a4.toNat : Int)
    bif decide (a4.toNat < a3.length) then
    (F223 fuel a1 x6 ((Utf8.decode ⟨a3.toArray⟩ a4.toNat).1 : Int)).bind fun y8 =>
    bif y8 then
      some (.inr (.inl (x6, a3, ((bif decide (a4.toNat < a3.length) then a4.toNat + (Utf8.decode ⟨a3.toArray⟩ a4.toNat).2 else a4.toNat : Nat) : Int))))
    else
      some (.inl (a1, (), a3, ((bif decide (a4.toNat < a3.length) then a4.toNat + (Utf8.decode ⟨a3.toArray⟩ a4.toNat).2 else a4.toNat : Nat) : Int)))
    else none
    else none
  else
    some (.inr (.inr (a3, ((bif decide (a4.toNat < a3.length) then a4.toNat + (Utf8.decode ⟨a3.toArray⟩ a4.toNat).2 else a4.toNat : Nat) : Int))))

noncomputable def S202_3step (fuel : Nat) (x : (List UInt8) × Unit × (List UInt8) × Int) : Option (((List UInt8) × Unit × (List UInt8) × Int) ⊕ ((Int × (List UInt8) × Int) ⊕ ((List UInt8) × Int))) := S202_3 fuel x.1 x.2.1 x.2.2.1 x.2.2.2

/-- wireschema/utf.Bad -/
noncomputable def F202 (fuel : Nat) (a0 : List UInt8) : Option (Int) :=
  (loopQ fuel (S202_3step fuel) (a0, (), a0, ((0 : Nat) : Int))).bind fun z => sumE (fun y9 =>
    some y9.1
  ) (fun y10 =>
    some (-1 : Int)
  ) z

noncomputable def S202_3l (fuel : Nat) : LoopE := { key := 3, H := ⟨[0, 6], [.iter], [.str, (.con (.iref 0)), .str, (.int .i64)]⟩, X := [(.ret, ⟨[2], [.iter], [(.int .i64), .str, (.int .i64)]⟩), (.exit 0, ⟨[], [.iter], [.str, (.int .i64)]⟩)], step := S202_3step fuel }

noncomputable def F202C (fuel : Nat) : Cfg := cfg Tryz.prog 16 0 [F223c fuel] [S202_3l fuel] fuel

noncomputable def F202c (fuel : Nat) : CallE := { f := 202, A := ⟨1, [], [.str]⟩, R := ⟨1, [], [(.int .i64)]⟩, F := fun x => F202 fuel x, dflt := 0 }

theorem F202k (fuel : Nat) : CallOk (F202C fuel) := cfg_callOk (callsC (F223ok fuel) <| callsN)

theorem S202_3ok (fuel : Nat) : LoopOk (F202C fuel) (lp (bodyOf Tryz.f202) 0) := loopOk_of (F202k fuel) fuel (S202_3l fuel) (loops0 (by kernel_rfl)) (by kernel_rfl) (fun x => by kernel_rfl) (fun R e st K => by kernel_rfl)

theorem F202ok (fuel : Nat) : (F202c fuel).Ok Tryz.prog := fun x y h => meets_of (F202k fuel) (f := 202) (fn := Tryz.f202) (c := bodyOf Tryz.f202) (by kernel_rfl) (by kernel_rfl) (by kernel_rfl) (by kernel_rfl) (loopsN 1 (by kernel_rfl) fun i hi => match i, hi with | 0, _ => S202_3ok fuel | n + 1, h => absurd h (by omega)) (A := (F202c fuel).A) (R := (F202c fuel).R) (F := (F202c fuel).F) (fun x => by kernel_rfl) (fun x => by kernel_rfl) x y h

/-- wireschema/utf.Valid -/
noncomputable def F96 (fuel : Nat) (a0 : List UInt8) : Option (Bool) :=
  (F202 fuel a0).bind fun y1 =>
  some (decide (y1 < (0 : Int)))

noncomputable def F96C (fuel : Nat) : Cfg := cfg Tryz.prog 6 0 [F202c fuel] [] fuel

noncomputable def F96c (fuel : Nat) : CallE := { f := 96, A := ⟨1, [], [.str]⟩, R := ⟨1, [], [.bool]⟩, F := fun x => F96 fuel x, dflt := false }

theorem F96k (fuel : Nat) : CallOk (F96C fuel) := cfg_callOk (callsC (F202ok fuel) <| callsN)

theorem F96ok (fuel : Nat) : (F96c fuel).Ok Tryz.prog := fun x y h => meets_of (F96k fuel) (f := 96) (fn := Tryz.f96) (c := bodyOf Tryz.f96) (by kernel_rfl) (by kernel_rfl) (by kernel_rfl) (by kernel_rfl) (loops0 (by kernel_rfl)) (A := (F96c fuel).A) (R := (F96c fuel).R) (F := (F96c fuel).F) (fun x => by kernel_rfl) (fun x => by kernel_rfl) x y h

/-- wireschema/scalar.Fits -/
noncomputable def F51 (fuel : Nat) (a0 : Int) (a1 : PV) : Option (Bool) :=
  (F130 fuel a0).bind fun y1 =>
  let x5 := bif (!y1) then true else (((a1.fld 0).asInt) != a0)
  (bif !x5 then F131 fuel a1 else some false).bind fun y6 =>
  let x8 := bif x5 then true else (!y6)
  (bif !x8 then F132 fuel a0 ((a1.fld 1).asInt) else some false).bind fun y10 =>
  bif (bif (bif x8 then true else (!y10)) then true else (decide ((((a1.fld 2).asStr).length : Int) > (4096 : Int)))) then
    some false
  else
    let x17 := a0 != (7 : Int)
    (bif !x17 then F96 fuel ((a1.fld 2).asStr) else some false).bind fun y19 =>
    some (bif x17 then true else y19)

noncomputable def F51C (fuel : Nat) : Cfg := cfg Tryz.prog 39 0 [F130c fuel, F131c fuel, F132c fuel, F96c fuel] [] fuel

noncomputable def F51c (fuel : Nat) : CallE := { f := 51, A := ⟨2, [], [(.int .i64), (.data 42)]⟩, R := ⟨1, [], [.bool]⟩, F := fun x => F51 fuel x.1 x.2, dflt := false }

theorem F51k (fuel : Nat) : CallOk (F51C fuel) := cfg_callOk (callsC (F130ok fuel) <| callsC (F131ok fuel) <| callsC (F132ok fuel) <| callsC (F96ok fuel) <| callsN)

theorem F51ok (fuel : Nat) : (F51c fuel).Ok Tryz.prog := fun x y h => meets_of (F51k fuel) (f := 51) (fn := Tryz.f51) (c := bodyOf Tryz.f51) (by kernel_rfl) (by kernel_rfl) (by kernel_rfl) (by kernel_rfl) (loops0 (by kernel_rfl)) (A := (F51c fuel).A) (R := (F51c fuel).R) (F := (F51c fuel).F) (fun x => by kernel_rfl) (fun x => by kernel_rfl) x y h

/-- wireschema/format.right -/
noncomputable def F198 (fuel : Nat) (a0 : PV) : Option (Bool) :=
  bif (!((a0.fld 6).asBool)) then
    (F267 fuel (a0.fld 7)).bind fun y4 =>
    some y4
  else
    bif (((a0.fld 2).asInt) == (5 : Int)) then
      some false
    else
      bif ((((a0.fld 4).fld 0).asInt) == (0 : Int)) then
        (F50 fuel (a0.fld 7)).bind fun y10 =>
        some y10
      else
        (F268 fuel (a0.fld 7)).bind fun y12 =>
        (F51 fuel (((a0.fld 4).fld 0).asInt) (a0.fld 7)).bind fun y15 =>
        some (bif y15 then (((y12.fld 1).asInt) == (((a0.fld 7).fld 1).asInt)) else false)

noncomputable def F198C (fuel : Nat) : Cfg := cfg Tryz.prog 40 0 [F267c fuel, F50c fuel, F268c fuel, F51c fuel] [] fuel

noncomputable def F198c (fuel : Nat) : CallE := { f := 198, A := ⟨1, [], [(.data 45)]⟩, R := ⟨1, [], [.bool]⟩, F := fun x => F198 fuel x, dflt := false }

theorem F198k (fuel : Nat) : CallOk (F198C fuel) := cfg_callOk (callsC (F267ok fuel) <| callsC (F50ok fuel) <| callsC (F268ok fuel) <| callsC (F51ok fuel) <| callsN)

theorem F198ok (fuel : Nat) : (F198c fuel).Ok Tryz.prog := fun x y h => meets_of (F198k fuel) (f := 198) (fn := Tryz.f198) (c := bodyOf Tryz.f198) (by kernel_rfl) (by kernel_rfl) (by kernel_rfl) (by kernel_rfl) (loops0 (by kernel_rfl)) (A := (F198c fuel).A) (R := (F198c fuel).R) (F := (F198c fuel).F) (fun x => by kernel_rfl) (fun x => by kernel_rfl) x y h

/-- wireschema/format.field -/
noncomputable def F88 (fuel : Nat) (a0 : PV) : Option (Bool) :=
  let x11 := bif (bif (bif (decide (((a0.fld 0).asInt) ≥ (0 : Int))) then (decide (((a0.fld 0).asInt) ≤ (65535 : Int))) else false) then (decide (((a0.fld 2).asInt) ≥ (1 : Int))) else false) then (decide (((a0.fld 2).asInt) ≤ (5 : Int))) else false
  (bif x11 then F197 fuel ((a0.fld 2).asInt) ((a0.fld 3).asInt) else some false).bind fun y14 =>
  let x15 := bif x11 then y14 else false
  let x17 := (((a0.fld 4).fld 0).asInt) == (0 : Int)
  (bif bif !x17 then x15 else false then F45 fuel (((a0.fld 4).fld 0).asInt) else some false).bind fun y19 =>
  let x30 := bif (bif x15 then (bif x17 then true else y19) else false) then (bif (((a0.fld 5).asStr) == ([] : List UInt8)) then true else (bif (((a0.fld 2).asInt) == (2 : Int)) then (!((a0.fld 6).asBool)) else false)) else false
  (bif x30 then F198 fuel a0 else some false).bind fun y31 =>
  some (bif x30 then y31 else false)

noncomputable def F88C (fuel : Nat) : Cfg := cfg Tryz.prog 59 0 [F197c fuel, F45c fuel, F198c fuel] [] fuel

noncomputable def F88c (fuel : Nat) : CallE := { f := 88, A := ⟨1, [], [(.data 45)]⟩, R := ⟨1, [], [.bool]⟩, F := fun x => F88 fuel x, dflt := false }

theorem F88k (fuel : Nat) : CallOk (F88C fuel) := cfg_callOk (callsC (F197ok fuel) <| callsC (F45ok fuel) <| callsC (F198ok fuel) <| callsN)

theorem F88ok (fuel : Nat) : (F88c fuel).Ok Tryz.prog := fun x y h => meets_of (F88k fuel) (f := 88) (fn := Tryz.f88) (c := bodyOf Tryz.f88) (by kernel_rfl) (by kernel_rfl) (by kernel_rfl) (by kernel_rfl) (loops0 (by kernel_rfl)) (A := (F88c fuel).A) (R := (F88c fuel).R) (F := (F88c fuel).F) (fun x => by kernel_rfl) (fun x => by kernel_rfl) x y h

/-- wireschema/format.every[wireschema/api.Field]$1 -/
noncomputable def F186_v1 (fuel : Nat) (a0 : PV) (a1 : Unit) (a2 : Unit) : Option (Bool × Unit) :=
  (F88 fuel a0).bind fun y1 =>
  some ((!y1), ())

noncomputable def F186_v1C (fuel : Nat) : Cfg := cfg Tryz.prog 8 1 [F88c fuel] [] fuel

noncomputable def F186_v1c (fuel : Nat) : CallE := { f := 186, A := ⟨2, [.box 101 .leaf], [(.data 45), (.con (.ref 0 [] 101)), (.con (.fn 88 0 []))]⟩, R := ⟨1, [.box 101 .leaf], [.bool, (.con (.fn 88 0 []))]⟩, F := fun x => F186_v1 fuel x.1 x.2.1 x.2.2, dflt := (false, ()) }

theorem F186_v1k (fuel : Nat) : CallOk (F186_v1C fuel) := cfg_callOk (callsC (F88ok fuel) <| callsN)

theorem F186_v1ok (fuel : Nat) : (F186_v1c fuel).Ok Tryz.prog := fun x y h => meets_of (F186_v1k fuel) (f := 186) (fn := Tryz.f186) (c := bodyOf Tryz.f186) (by kernel_rfl) (by kernel_rfl) (by kernel_rfl) (by kernel_rfl) (loops0 (by kernel_rfl)) (A := (F186_v1c fuel).A) (R := (F186_v1c fuel).R) (F := (F186_v1c fuel).F) (fun x => by kernel_rfl) (fun x => by kernel_rfl) x y h

noncomputable def S261_v1_3 (fuel : Nat) (a2 : List PV) (a3 : Unit) (a4 : Int) (a5 : Int) (a6 : Unit) : Option (((List PV) × Unit × Int × Int × Unit) ⊕ ((Int × Unit) ⊕ (Unit))) :=
  bif (decide (a5 < a4)) then
    bif inRange a5 a2.length then
    (F186_v1 fuel (a2.getD a5.toNat .bad) () ()).bind fun y9 =>
    bif y9.1 then
      some (.inr (.inl (a5, ())))
    else
      some (.inl (a2, (), a4, (IntKind.wrap .i64 (a5 + (1 : Int))), ()))
    else none
  else
    some (.inr (.inr ()))

noncomputable def S261_v1_3step (fuel : Nat) (x : (List PV) × Unit × Int × Int × Unit) : Option (((List PV) × Unit × Int × Int × Unit) ⊕ ((Int × Unit) ⊕ (Unit))) := S261_v1_3 fuel x.1 x.2.1 x.2.2.1 x.2.2.2.1 x.2.2.2.2

/-- slices.IndexFunc[[]wireschema/api.Field,wireschema/api.Field] -/
noncomputable def F261_v1 (fuel : Nat) (a0 : List PV) (a1 : Unit) (a2 : Unit) : Option (Int × Unit) :=
  (loopQ fuel (S261_v1_3step fuel) (a0, (), (a0.length : Int), (0 : Int), ())).bind fun z => sumE (fun y11 =>
    some (y11.1, ())
  ) (fun y12 =>
    some ((-1 : Int), ())
  ) z

noncomputable def S261_v1_3l (fuel : Nat) : LoopE := { key := 3, H := ⟨[0, 1, 7, 8], [.box 101 .leaf], [(.slice 45), (.con (.fn 186 0 [(.ref 0 [] 101)])), (.int .i64), (.int .i64), (.con (.fn 88 0 []))]⟩, X := [(.ret, ⟨[4], [.box 101 .leaf], [(.int .i64), (.con (.fn 88 0 []))]⟩), (.exit 0, ⟨[], [.box 101 .leaf], [(.con (.fn 88 0 []))]⟩)], step := S261_v1_3step fuel }

noncomputable def F261_v1C (fuel : Nat) : Cfg := cfg Tryz.prog 19 1 [F186_v1c fuel] [S261_v1_3l fuel] fuel

noncomputable def F261_v1c (fuel : Nat) : CallE := { f := 261, A := ⟨2, [.box 101 .leaf], [(.slice 45), (.con (.fn 186 0 [(.ref 0 [] 101)])), (.con (.fn 88 0 []))]⟩, R := ⟨1, [.box 101 .leaf], [(.int .i64), (.con (.fn 88 0 []))]⟩, F := fun x => F261_v1 fuel x.1 x.2.1 x.2.2, dflt := (0, ()) }

theorem F261_v1k (fuel : Nat) : CallOk (F261_v1C fuel) := cfg_callOk (callsC (F186_v1ok fuel) <| callsN)

theorem S261_v1_3ok (fuel : Nat) : LoopOk (F261_v1C fuel) (lp (bodyOf Tryz.f261) 0) := loopOk_of (F261_v1k fuel) fuel (S261_v1_3l fuel) (loops0 (by kernel_rfl)) (by kernel_rfl) (fun x => by kernel_rfl) (fun R e st K => by kernel_rfl)

theorem F261_v1ok (fuel : Nat) : (F261_v1c fuel).Ok Tryz.prog := fun x y h => meets_of (F261_v1k fuel) (f := 261) (fn := Tryz.f261) (c := bodyOf Tryz.f261) (by kernel_rfl) (by kernel_rfl) (by kernel_rfl) (by kernel_rfl) (loopsN 1 (by kernel_rfl) fun i hi => match i, hi with | 0, _ => S261_v1_3ok fuel | n + 1, h => absurd h (by omega)) (A := (F261_v1c fuel).A) (R := (F261_v1c fuel).R) (F := (F261_v1c fuel).F) (fun x => by kernel_rfl) (fun x => by kernel_rfl) x y h

/-- slices.ContainsFunc[[]wireschema/api.Field,wireschema/api.Field] -/
noncomputable def F185_v1 (fuel : Nat) (a0 : List PV) (a1 : Unit) (a2 : Unit) : Option (Bool × Unit) :=
  (F261_v1 fuel a0 () ()).bind fun y1 =>
  some ((decide (y1.1 ≥ (0 : Int))), ())

noncomputable def F185_v1C (fuel : Nat) : Cfg := cfg Tryz.prog 9 1 [F261_v1c fuel] [] fuel

noncomputable def F185_v1c (fuel : Nat) : CallE := { f := 185, A := ⟨2, [.box 101 .leaf], [(.slice 45), (.con (.fn 186 0 [(.ref 0 [] 101)])), (.con (.fn 88 0 []))]⟩, R := ⟨1, [.box 101 .leaf], [.bool, (.con (.fn 88 0 []))]⟩, F := fun x => F185_v1 fuel x.1 x.2.1 x.2.2, dflt := (false, ()) }

theorem F185_v1k (fuel : Nat) : CallOk (F185_v1C fuel) := cfg_callOk (callsC (F261_v1ok fuel) <| callsN)

theorem F185_v1ok (fuel : Nat) : (F185_v1c fuel).Ok Tryz.prog := fun x y h => meets_of (F185_v1k fuel) (f := 185) (fn := Tryz.f185) (c := bodyOf Tryz.f185) (by kernel_rfl) (by kernel_rfl) (by kernel_rfl) (by kernel_rfl) (loops0 (by kernel_rfl)) (A := (F185_v1c fuel).A) (R := (F185_v1c fuel).R) (F := (F185_v1c fuel).F) (fun x => by kernel_rfl) (fun x => by kernel_rfl) x y h

/-- wireschema/format.every[wireschema/api.Field] -/
noncomputable def F75_v1 (fuel : Nat) (a0 : List PV) (a1 : Unit) : Option (Bool) :=
  (F185_v1 fuel a0 () ()).bind fun y1 =>
  some (!y1.1)

noncomputable def F75_v1C (fuel : Nat) : Cfg := cfg Tryz.prog 9 0 [F185_v1c fuel] [] fuel

noncomputable def F75_v1c (fuel : Nat) : CallE := { f := 75, A := ⟨2, [], [(.slice 45), (.con (.fn 88 0 []))]⟩, R := ⟨1, [], [.bool]⟩, F := fun x => F75_v1 fuel x.1 x.2, dflt := false }

theorem F75_v1k (fuel : Nat) : CallOk (F75_v1C fuel) := cfg_callOk (callsC (F185_v1ok fuel) <| callsN)

theorem F75_v1ok (fuel : Nat) : (F75_v1c fuel).Ok Tryz.prog := fun x y h => meets_of (F75_v1k fuel) (f := 75) (fn := Tryz.f75) (c := bodyOf Tryz.f75) (by kernel_rfl) (by kernel_rfl) (by kernel_rfl) (by kernel_rfl) (loops0 (by kernel_rfl)) (A := (F75_v1c fuel).A) (R := (F75_v1c fuel).R) (F := (F75_v1c fuel).F) (fun x => by kernel_rfl) (fun x => by kernel_rfl) x y h

noncomputable def S89_6 (fuel : Nat) (a6 : List PV) (a7 : Int) (a8 : Int) (a9 : Int) (a10 : Int) (a11 : Int) : Option (((List PV) × Int × Int × Int × Int × Int) ⊕ ((Bool) ⊕ ((List PV) × Int × Int))) :=
  bif (decide (a11 < a10)) then
    bif inRange a11 a6.length then
    bif inRange a7 a6.length then
    let x19 := ((a6.getD a11.toNat .bad).fld 5).asStr == ((a6.getD a7.toNat .bad).fld 5).asStr
    bif imp x19 (inRange a7 a6.length) then
    let x24 := bif x19 then (!(((a6.getD a7.toNat .bad).fld 5).asStr == ([] : List UInt8))) else false
    let x25 := IntKind.wrap .i64 (a7 - (1 : Int))
    bif imp x24 (inRange x25 a6.length) then
    bif imp x24 (inRange a7 a6.length) then
    bif (bif x24 then (!(((a6.getD x25.toNat .bad).fld 5).asStr == ((a6.getD a7.toNat .bad).fld 5).asStr)) else false) then
      some (.inr (.inl false))
    else
      some (.inl (a6, a7, a8, a9, a10, (IntKind.wrap .i64 (a11 + (1 : Int)))))
    else none
    else none
    else none
    else none
    else none
  else
    some (.inr (.inr (a6, a8, a9)))

noncomputable def S89_6step (fuel : Nat) (x : (List PV) × Int × Int × Int × Int × Int) : Option (((List PV) × Int × Int × Int × Int × Int) ⊕ ((Bool) ⊕ ((List PV) × Int × Int))) := S89_6 fuel x.1 x.2.1 x.2.2.1 x.2.2.2.1 x.2.2.2.2.1 x.2.2.2.2.2

noncomputable def S89_3 (fuel : Nat) (a2 : List PV) (a3 : Int) (a4 : Int) : Option (((List PV) × Int × Int) ⊕ ((Bool) ⊕ (Unit))) :=
  bif (decide (a4 < a3)) then
    (loopQ fuel (S89_6step fuel) (a2, a4, a3, a4, a4, (0 : Int))).bind fun z => sumE (fun y35 =>
      some (.inr (.inl y35))
    ) (fun y36 =>
      some (.inl (y36.1, y36.2.1, (IntKind.wrap .i64 (y36.2.2 + (1 : Int)))))
    ) z
  else
    some (.inr (.inr ()))

noncomputable def S89_3step (fuel : Nat) (x : (List PV) × Int × Int) : Option (((List PV) × Int × Int) ⊕ ((Bool) ⊕ (Unit))) := S89_3 fuel x.1 x.2.1 x.2.2

/-- wireschema/format.adjacent -/
noncomputable def F89 (fuel : Nat) (a0 : List PV) : Option (Bool) :=
  (loopQ fuel (S89_3step fuel) (a0, (a0.length : Int), (0 : Int))).bind fun z => sumE (fun y38 =>
    some y38
  ) (fun y39 =>
    some true
  ) z

noncomputable def S89_6l (fuel : Nat) : LoopE := { key := 6, H := ⟨[0, 3, 6, 7, 10, 11], [], [(.slice 45), (.int .i64), (.int .i64), (.int .i64), (.int .i64), (.int .i64)]⟩, X := [(.ret, ⟨[2], [], [.bool]⟩), (.exit 2, ⟨[0, 6, 7], [], [(.slice 45), (.int .i64), (.int .i64)]⟩)], step := S89_6step fuel }

noncomputable def S89_3l (fuel : Nat) : LoopE := { key := 3, H := ⟨[0, 6, 7], [], [(.slice 45), (.int .i64), (.int .i64)]⟩, X := [(.ret, ⟨[2], [], [.bool]⟩), (.exit 0, ⟨[], [], []⟩)], step := S89_3step fuel }

noncomputable def F89C (fuel : Nat) : Cfg := cfg Tryz.prog 49 0 [] [S89_6l fuel, S89_3l fuel] fuel

noncomputable def F89c (fuel : Nat) : CallE := { f := 89, A := ⟨1, [], [(.slice 45)]⟩, R := ⟨1, [], [.bool]⟩, F := fun x => F89 fuel x, dflt := false }

theorem F89k (fuel : Nat) : CallOk (F89C fuel) := cfg_callOk (callsN)

theorem S89_6ok (fuel : Nat) : LoopOk (F89C fuel) (lp (lp (bodyOf Tryz.f89) 0) 0) := loopOk_of (F89k fuel) fuel (S89_6l fuel) (loops0 (by kernel_rfl)) (by kernel_rfl) (fun x => by kernel_rfl) (fun R e st K => by kernel_rfl)

theorem S89_3ok (fuel : Nat) : LoopOk (F89C fuel) (lp (bodyOf Tryz.f89) 0) := loopOk_of (F89k fuel) fuel (S89_3l fuel) (loopsN 1 (by kernel_rfl) fun i hi => match i, hi with | 0, _ => S89_6ok fuel | n + 1, h => absurd h (by omega)) (by kernel_rfl) (fun x => by kernel_rfl) (fun R e st K => by kernel_rfl)

theorem F89ok (fuel : Nat) : (F89c fuel).Ok Tryz.prog := fun x y h => meets_of (F89k fuel) (f := 89) (fn := Tryz.f89) (c := bodyOf Tryz.f89) (by kernel_rfl) (by kernel_rfl) (by kernel_rfl) (by kernel_rfl) (loopsN 1 (by kernel_rfl) fun i hi => match i, hi with | 0, _ => S89_3ok fuel | n + 1, h => absurd h (by omega)) (A := (F89c fuel).A) (R := (F89c fuel).R) (F := (F89c fuel).F) (fun x => by kernel_rfl) (fun x => by kernel_rfl) x y h

/-- wireschema/format.spans$1 -/
noncomputable def F200 (fuel : Nat) (a0 : PV) (a1 : Unit) (a2 : Int) : Option (Bool × Int) :=
  let x1 := (a0.fld 0).asInt
  let x2 := (a0.fld 1).asInt
  let x5 := (a0.fld 0).asInt
  let x6 := (a0.fld 1).asInt
  some ((bif (decide ((if x2 < x1 then x2 else x1) ≥ (0 : Int))) then (decide ((if x6 > x5 then x6 else x5) ≤ a2)) else false), a2)

noncomputable def F200C (fuel : Nat) : Cfg := cfg Tryz.prog 19 1 [] [] fuel

noncomputable def F200c (fuel : Nat) : CallE := { f := 200, A := ⟨2, [.box 3 .leaf], [(.data 163), (.con (.ref 0 [] 3)), (.int .i64)]⟩, R := ⟨1, [.box 3 .leaf], [.bool, (.int .i64)]⟩, F := fun x => F200 fuel x.1 x.2.1 x.2.2, dflt := (false, 0) }

theorem F200k (fuel : Nat) : CallOk (F200C fuel) := cfg_callOk (callsN)

theorem F200ok (fuel : Nat) : (F200c fuel).Ok Tryz.prog := fun x y h => meets_of (F200k fuel) (f := 200) (fn := Tryz.f200) (c := bodyOf Tryz.f200) (by kernel_rfl) (by kernel_rfl) (by kernel_rfl) (by kernel_rfl) (loops0 (by kernel_rfl)) (A := (F200c fuel).A) (R := (F200c fuel).R) (F := (F200c fuel).F) (fun x => by kernel_rfl) (fun x => by kernel_rfl) x y h

/-- wireschema/format.every[wireschema/api.Span]$1 -/
noncomputable def F270 (fuel : Nat) (a0 : PV) (a1 : Unit) (a2 : Unit) (a3 : Int) : Option (Bool × Unit × Int) :=
  (F200 fuel a0 () a3).bind fun y1 =>
  some ((!y1.1), (), y1.2)

noncomputable def F270C (fuel : Nat) : Cfg := cfg Tryz.prog 8 2 [F200c fuel] [] fuel

noncomputable def F270c (fuel : Nat) : CallE := { f := 270, A := ⟨2, [.box 179 .leaf, .box 3 .leaf], [(.data 163), (.con (.ref 0 [] 179)), (.con (.fn 200 0 [(.ref 1 [] 3)])), (.int .i64)]⟩, R := ⟨1, [.box 179 .leaf, .box 3 .leaf], [.bool, (.con (.fn 200 0 [(.ref 1 [] 3)])), (.int .i64)]⟩, F := fun x => F270 fuel x.1 x.2.1 x.2.2.1 x.2.2.2, dflt := (false, (), 0) }

theorem F270k (fuel : Nat) : CallOk (F270C fuel) := cfg_callOk (callsC (F200ok fuel) <| callsN)

theorem F270ok (fuel : Nat) : (F270c fuel).Ok Tryz.prog := fun x y h => meets_of (F270k fuel) (f := 270) (fn := Tryz.f270) (c := bodyOf Tryz.f270) (by kernel_rfl) (by kernel_rfl) (by kernel_rfl) (by kernel_rfl) (loops0 (by kernel_rfl)) (A := (F270c fuel).A) (R := (F270c fuel).R) (F := (F270c fuel).F) (fun x => by kernel_rfl) (fun x => by kernel_rfl) x y h

noncomputable def S303_3 (fuel : Nat) (a2 : List PV) (a3 : Unit) (a4 : Int) (a5 : Int) (a6 : Unit) (a7 : Int) : Option (((List PV) × Unit × Int × Int × Unit × Int) ⊕ ((Int × Unit × Int) ⊕ (Unit × Int))) :=
  bif (decide (a5 < a4)) then
    bif inRange a5 a2.length then
    (F270 fuel (a2.getD a5.toNat .bad) () () a7).bind fun y10 =>
    bif y10.1 then
      some (.inr (.inl (a5, (), y10.2.2)))
    else
      some (.inl (a2, (), a4, (IntKind.wrap .i64 (a5 + (1 : Int))), (), y10.2.2))
    else none
  else
    some (.inr (.inr ((), a7)))

noncomputable def S303_3step (fuel : Nat) (x : (List PV) × Unit × Int × Int × Unit × Int) : Option (((List PV) × Unit × Int × Int × Unit × Int) ⊕ ((Int × Unit × Int) ⊕ (Unit × Int))) := S303_3 fuel x.1 x.2.1 x.2.2.1 x.2.2.2.1 x.2.2.2.2.1 x.2.2.2.2.2

/-- slices.IndexFunc[[]wireschema/api.Span,wireschema/api.Span] -/
noncomputable def F303 (fuel : Nat) (a0 : List PV) (a1 : Unit) (a2 : Unit) (a3 : Int) : Option (Int × Unit × Int) :=
  (loopQ fuel (S303_3step fuel) (a0, (), (a0.length : Int), (0 : Int), (), a3)).bind fun z => sumE (fun y12 =>
    some (y12.1, (), y12.2.2)
  ) (fun y13 =>
    some ((-1 : Int), (), y13.2)
  ) z

noncomputable def S303_3l (fuel : Nat) : LoopE := { key := 3, H := ⟨[0, 1, 7, 8], [.box 179 .leaf, .box 3 .leaf], [(.slice 163), (.con (.fn 270 0 [(.ref 0 [] 179)])), (.int .i64), (.int .i64), (.con (.fn 200 0 [(.ref 1 [] 3)])), (.int .i64)]⟩, X := [(.ret, ⟨[4], [.box 179 .leaf, .box 3 .leaf], [(.int .i64), (.con (.fn 200 0 [(.ref 1 [] 3)])), (.int .i64)]⟩), (.exit 0, ⟨[], [.box 179 .leaf, .box 3 .leaf], [(.con (.fn 200 0 [(.ref 1 [] 3)])), (.int .i64)]⟩)], step := S303_3step fuel }

noncomputable def F303C (fuel : Nat) : Cfg := cfg Tryz.prog 19 2 [F270c fuel] [S303_3l fuel] fuel

noncomputable def F303c (fuel : Nat) : CallE := { f := 303, A := ⟨2, [.box 179 .leaf, .box 3 .leaf], [(.slice 163), (.con (.fn 270 0 [(.ref 0 [] 179)])), (.con (.fn 200 0 [(.ref 1 [] 3)])), (.int .i64)]⟩, R := ⟨1, [.box 179 .leaf, .box 3 .leaf], [(.int .i64), (.con (.fn 200 0 [(.ref 1 [] 3)])), (.int .i64)]⟩, F := fun x => F303 fuel x.1 x.2.1 x.2.2.1 x.2.2.2, dflt := (0, (), 0) }

theorem F303k (fuel : Nat) : CallOk (F303C fuel) := cfg_callOk (callsC (F270ok fuel) <| callsN)

theorem S303_3ok (fuel : Nat) : LoopOk (F303C fuel) (lp (bodyOf Tryz.f303) 0) := loopOk_of (F303k fuel) fuel (S303_3l fuel) (loops0 (by kernel_rfl)) (by kernel_rfl) (fun x => by kernel_rfl) (fun R e st K => by kernel_rfl)

theorem F303ok (fuel : Nat) : (F303c fuel).Ok Tryz.prog := fun x y h => meets_of (F303k fuel) (f := 303) (fn := Tryz.f303) (c := bodyOf Tryz.f303) (by kernel_rfl) (by kernel_rfl) (by kernel_rfl) (by kernel_rfl) (loopsN 1 (by kernel_rfl) fun i hi => match i, hi with | 0, _ => S303_3ok fuel | n + 1, h => absurd h (by omega)) (A := (F303c fuel).A) (R := (F303c fuel).R) (F := (F303c fuel).F) (fun x => by kernel_rfl) (fun x => by kernel_rfl) x y h

/-- slices.ContainsFunc[[]wireschema/api.Span,wireschema/api.Span] -/
noncomputable def F269 (fuel : Nat) (a0 : List PV) (a1 : Unit) (a2 : Unit) (a3 : Int) : Option (Bool × Unit × Int) :=
  (F303 fuel a0 () () a3).bind fun y1 =>
  some ((decide (y1.1 ≥ (0 : Int))), (), y1.2.2)

noncomputable def F269C (fuel : Nat) : Cfg := cfg Tryz.prog 9 2 [F303c fuel] [] fuel

noncomputable def F269c (fuel : Nat) : CallE := { f := 269, A := ⟨2, [.box 179 .leaf, .box 3 .leaf], [(.slice 163), (.con (.fn 270 0 [(.ref 0 [] 179)])), (.con (.fn 200 0 [(.ref 1 [] 3)])), (.int .i64)]⟩, R := ⟨1, [.box 179 .leaf, .box 3 .leaf], [.bool, (.con (.fn 200 0 [(.ref 1 [] 3)])), (.int .i64)]⟩, F := fun x => F269 fuel x.1 x.2.1 x.2.2.1 x.2.2.2, dflt := (false, (), 0) }

theorem F269k (fuel : Nat) : CallOk (F269C fuel) := cfg_callOk (callsC (F303ok fuel) <| callsN)

theorem F269ok (fuel : Nat) : (F269c fuel).Ok Tryz.prog := fun x y h => meets_of (F269k fuel) (f := 269) (fn := Tryz.f269) (c := bodyOf Tryz.f269) (by kernel_rfl) (by kernel_rfl) (by kernel_rfl) (by kernel_rfl) (loops0 (by kernel_rfl)) (A := (F269c fuel).A) (R := (F269c fuel).R) (F := (F269c fuel).F) (fun x => by kernel_rfl) (fun x => by kernel_rfl) x y h

/-- wireschema/format.every[wireschema/api.Span] -/
noncomputable def F199 (fuel : Nat) (a0 : List PV) (a1 : Unit) (a2 : Int) : Option (Bool × Int) :=
  (F269 fuel a0 () () a2).bind fun y1 =>
  some ((!y1.1), y1.2.2)

noncomputable def F199C (fuel : Nat) : Cfg := cfg Tryz.prog 9 1 [F269c fuel] [] fuel

noncomputable def F199c (fuel : Nat) : CallE := { f := 199, A := ⟨2, [.box 3 .leaf], [(.slice 163), (.con (.fn 200 0 [(.ref 0 [] 3)])), (.int .i64)]⟩, R := ⟨1, [.box 3 .leaf], [.bool, (.int .i64)]⟩, F := fun x => F199 fuel x.1 x.2.1 x.2.2, dflt := (false, 0) }

theorem F199k (fuel : Nat) : CallOk (F199C fuel) := cfg_callOk (callsC (F269ok fuel) <| callsN)

theorem F199ok (fuel : Nat) : (F199c fuel).Ok Tryz.prog := fun x y h => meets_of (F199k fuel) (f := 199) (fn := Tryz.f199) (c := bodyOf Tryz.f199) (by kernel_rfl) (by kernel_rfl) (by kernel_rfl) (by kernel_rfl) (loops0 (by kernel_rfl)) (A := (F199c fuel).A) (R := (F199c fuel).R) (F := (F199c fuel).F) (fun x => by kernel_rfl) (fun x => by kernel_rfl) x y h

/-- wireschema/format.spans -/
noncomputable def F90 (fuel : Nat) (a0 : List PV) (a1 : Int) : Option (Bool) :=
  (F199 fuel a0 () a1).bind fun y1 =>
  some y1.1

noncomputable def F90C (fuel : Nat) : Cfg := cfg Tryz.prog 8 0 [F199c fuel] [] fuel

noncomputable def F90c (fuel : Nat) : CallE := { f := 90, A := ⟨2, [], [(.slice 163), (.int .i64)]⟩, R := ⟨1, [], [.bool]⟩, F := fun x => F90 fuel x.1 x.2, dflt := false }

theorem F90k (fuel : Nat) : CallOk (F90C fuel) := cfg_callOk (callsC (F199ok fuel) <| callsN)

theorem F90ok (fuel : Nat) : (F90c fuel).Ok Tryz.prog := fun x y h => meets_of (F90k fuel) (f := 90) (fn := Tryz.f90) (c := bodyOf Tryz.f90) (by kernel_rfl) (by kernel_rfl) (by kernel_rfl) (by kernel_rfl) (loops0 (by kernel_rfl)) (A := (F90c fuel).A) (R := (F90c fuel).R) (F := (F90c fuel).F) (fun x => by kernel_rfl) (fun x => by kernel_rfl) x y h

/-- wireschema/format.numbers$1 -/
noncomputable def F87 (fuel : Nat) (a0 : PV) : Option (Bool) :=
  (F75_v1 fuel ((a0.fld 1).asList) ()).bind fun y2 =>
  (bif y2 then F89 fuel ((a0.fld 1).asList) else some false).bind fun y4 =>
  let x5 := bif y2 then y4 else false
  (bif x5 then F90 fuel ((a0.fld 2).asList) (65535 : Int) else some false).bind fun y7 =>
  some (bif x5 then y7 else false)

noncomputable def F87C (fuel : Nat) : Cfg := cfg Tryz.prog 16 0 [F75_v1c fuel, F89c fuel, F90c fuel] [] fuel

noncomputable def F87c (fuel : Nat) : CallE := { f := 87, A := ⟨1, [], [(.data 61)]⟩, R := ⟨1, [], [.bool]⟩, F := fun x => F87 fuel x, dflt := false }

theorem F87k (fuel : Nat) : CallOk (F87C fuel) := cfg_callOk (callsC (F75_v1ok fuel) <| callsC (F89ok fuel) <| callsC (F90ok fuel) <| callsN)

theorem F87ok (fuel : Nat) : (F87c fuel).Ok Tryz.prog := fun x y h => meets_of (F87k fuel) (f := 87) (fn := Tryz.f87) (c := bodyOf Tryz.f87) (by kernel_rfl) (by kernel_rfl) (by kernel_rfl) (by kernel_rfl) (loops0 (by kernel_rfl)) (A := (F87c fuel).A) (R := (F87c fuel).R) (F := (F87c fuel).F) (fun x => by kernel_rfl) (fun x => by kernel_rfl) x y h

/-- wireschema/format.every[wireschema/api.Message]$1 -/
noncomputable def F184_v1 (fuel : Nat) (a0 : PV) (a1 : Unit) (a2 : Unit) : Option (Bool × Unit) :=
  (F87 fuel a0).bind fun y1 =>
  some ((!y1), ())

noncomputable def F184_v1C (fuel : Nat) : Cfg := cfg Tryz.prog 8 1 [F87c fuel] [] fuel

noncomputable def F184_v1c (fuel : Nat) : CallE := { f := 184, A := ⟨2, [.box 102 .leaf], [(.data 61), (.con (.ref 0 [] 102)), (.con (.fn 87 0 []))]⟩, R := ⟨1, [.box 102 .leaf], [.bool, (.con (.fn 87 0 []))]⟩, F := fun x => F184_v1 fuel x.1 x.2.1 x.2.2, dflt := (false, ()) }

theorem F184_v1k (fuel : Nat) : CallOk (F184_v1C fuel) := cfg_callOk (callsC (F87ok fuel) <| callsN)

theorem F184_v1ok (fuel : Nat) : (F184_v1c fuel).Ok Tryz.prog := fun x y h => meets_of (F184_v1k fuel) (f := 184) (fn := Tryz.f184) (c := bodyOf Tryz.f184) (by kernel_rfl) (by kernel_rfl) (by kernel_rfl) (by kernel_rfl) (loops0 (by kernel_rfl)) (A := (F184_v1c fuel).A) (R := (F184_v1c fuel).R) (F := (F184_v1c fuel).F) (fun x => by kernel_rfl) (fun x => by kernel_rfl) x y h

noncomputable def S260_v1_3 (fuel : Nat) (a2 : List PV) (a3 : Unit) (a4 : Int) (a5 : Int) (a6 : Unit) : Option (((List PV) × Unit × Int × Int × Unit) ⊕ ((Int × Unit) ⊕ (Unit))) :=
  bif (decide (a5 < a4)) then
    bif inRange a5 a2.length then
    (F184_v1 fuel (a2.getD a5.toNat .bad) () ()).bind fun y9 =>
    bif y9.1 then
      some (.inr (.inl (a5, ())))
    else
      some (.inl (a2, (), a4, (IntKind.wrap .i64 (a5 + (1 : Int))), ()))
    else none
  else
    some (.inr (.inr ()))

noncomputable def S260_v1_3step (fuel : Nat) (x : (List PV) × Unit × Int × Int × Unit) : Option (((List PV) × Unit × Int × Int × Unit) ⊕ ((Int × Unit) ⊕ (Unit))) := S260_v1_3 fuel x.1 x.2.1 x.2.2.1 x.2.2.2.1 x.2.2.2.2

/-- slices.IndexFunc[[]wireschema/api.Message,wireschema/api.Message] -/
noncomputable def F260_v1 (fuel : Nat) (a0 : List PV) (a1 : Unit) (a2 : Unit) : Option (Int × Unit) :=
  (loopQ fuel (S260_v1_3step fuel) (a0, (), (a0.length : Int), (0 : Int), ())).bind fun z => sumE (fun y11 =>
    some (y11.1, ())
  ) (fun y12 =>
    some ((-1 : Int), ())
  ) z

noncomputable def S260_v1_3l (fuel : Nat) : LoopE := { key := 3, H := ⟨[0, 1, 7, 8], [.box 102 .leaf], [(.slice 61), (.con (.fn 184 0 [(.ref 0 [] 102)])), (.int .i64), (.int .i64), (.con (.fn 87 0 []))]⟩, X := [(.ret, ⟨[4], [.box 102 .leaf], [(.int .i64), (.con (.fn 87 0 []))]⟩), (.exit 0, ⟨[], [.box 102 .leaf], [(.con (.fn 87 0 []))]⟩)], step := S260_v1_3step fuel }

noncomputable def F260_v1C (fuel : Nat) : Cfg := cfg Tryz.prog 19 1 [F184_v1c fuel] [S260_v1_3l fuel] fuel

noncomputable def F260_v1c (fuel : Nat) : CallE := { f := 260, A := ⟨2, [.box 102 .leaf], [(.slice 61), (.con (.fn 184 0 [(.ref 0 [] 102)])), (.con (.fn 87 0 []))]⟩, R := ⟨1, [.box 102 .leaf], [(.int .i64), (.con (.fn 87 0 []))]⟩, F := fun x => F260_v1 fuel x.1 x.2.1 x.2.2, dflt := (0, ()) }

theorem F260_v1k (fuel : Nat) : CallOk (F260_v1C fuel) := cfg_callOk (callsC (F184_v1ok fuel) <| callsN)

theorem S260_v1_3ok (fuel : Nat) : LoopOk (F260_v1C fuel) (lp (bodyOf Tryz.f260) 0) := loopOk_of (F260_v1k fuel) fuel (S260_v1_3l fuel) (loops0 (by kernel_rfl)) (by kernel_rfl) (fun x => by kernel_rfl) (fun R e st K => by kernel_rfl)

theorem F260_v1ok (fuel : Nat) : (F260_v1c fuel).Ok Tryz.prog := fun x y h => meets_of (F260_v1k fuel) (f := 260) (fn := Tryz.f260) (c := bodyOf Tryz.f260) (by kernel_rfl) (by kernel_rfl) (by kernel_rfl) (by kernel_rfl) (loopsN 1 (by kernel_rfl) fun i hi => match i, hi with | 0, _ => S260_v1_3ok fuel | n + 1, h => absurd h (by omega)) (A := (F260_v1c fuel).A) (R := (F260_v1c fuel).R) (F := (F260_v1c fuel).F) (fun x => by kernel_rfl) (fun x => by kernel_rfl) x y h

/-- slices.ContainsFunc[[]wireschema/api.Message,wireschema/api.Message] -/
noncomputable def F183_v1 (fuel : Nat) (a0 : List PV) (a1 : Unit) (a2 : Unit) : Option (Bool × Unit) :=
  (F260_v1 fuel a0 () ()).bind fun y1 =>
  some ((decide (y1.1 ≥ (0 : Int))), ())

noncomputable def F183_v1C (fuel : Nat) : Cfg := cfg Tryz.prog 9 1 [F260_v1c fuel] [] fuel

noncomputable def F183_v1c (fuel : Nat) : CallE := { f := 183, A := ⟨2, [.box 102 .leaf], [(.slice 61), (.con (.fn 184 0 [(.ref 0 [] 102)])), (.con (.fn 87 0 []))]⟩, R := ⟨1, [.box 102 .leaf], [.bool, (.con (.fn 87 0 []))]⟩, F := fun x => F183_v1 fuel x.1 x.2.1 x.2.2, dflt := (false, ()) }

theorem F183_v1k (fuel : Nat) : CallOk (F183_v1C fuel) := cfg_callOk (callsC (F260_v1ok fuel) <| callsN)

theorem F183_v1ok (fuel : Nat) : (F183_v1c fuel).Ok Tryz.prog := fun x y h => meets_of (F183_v1k fuel) (f := 183) (fn := Tryz.f183) (c := bodyOf Tryz.f183) (by kernel_rfl) (by kernel_rfl) (by kernel_rfl) (by kernel_rfl) (loops0 (by kernel_rfl)) (A := (F183_v1c fuel).A) (R := (F183_v1c fuel).R) (F := (F183_v1c fuel).F) (fun x => by kernel_rfl) (fun x => by kernel_rfl) x y h

/-- wireschema/format.every[wireschema/api.Message] -/
noncomputable def F73_v1 (fuel : Nat) (a0 : List PV) (a1 : Unit) : Option (Bool) :=
  (F183_v1 fuel a0 () ()).bind fun y1 =>
  some (!y1.1)

noncomputable def F73_v1C (fuel : Nat) : Cfg := cfg Tryz.prog 9 0 [F183_v1c fuel] [] fuel

noncomputable def F73_v1c (fuel : Nat) : CallE := { f := 73, A := ⟨2, [], [(.slice 61), (.con (.fn 87 0 []))]⟩, R := ⟨1, [], [.bool]⟩, F := fun x => F73_v1 fuel x.1 x.2, dflt := false }

theorem F73_v1k (fuel : Nat) : CallOk (F73_v1C fuel) := cfg_callOk (callsC (F183_v1ok fuel) <| callsN)

theorem F73_v1ok (fuel : Nat) : (F73_v1c fuel).Ok Tryz.prog := fun x y h => meets_of (F73_v1k fuel) (f := 73) (fn := Tryz.f73) (c := bodyOf Tryz.f73) (by kernel_rfl) (by kernel_rfl) (by kernel_rfl) (by kernel_rfl) (loops0 (by kernel_rfl)) (A := (F73_v1c fuel).A) (R := (F73_v1c fuel).R) (F := (F73_v1c fuel).F) (fun x => by kernel_rfl) (fun x => by kernel_rfl) x y h

/-- wireschema/format.numbers$2$1 -/
noncomputable def F92 (fuel : Nat) (a0 : PV) : Option (Bool) :=
  some (bif (decide (((a0.fld 1).asInt) ≥ (0 : Int))) then (decide (((a0.fld 1).asInt) ≤ (2147483647 : Int))) else false)

noncomputable def F92C (fuel : Nat) : Cfg := cfg Tryz.prog 11 0 [] [] fuel

noncomputable def F92c (fuel : Nat) : CallE := { f := 92, A := ⟨1, [], [(.data 106)]⟩, R := ⟨1, [], [.bool]⟩, F := fun x => F92 fuel x, dflt := false }

theorem F92k (fuel : Nat) : CallOk (F92C fuel) := cfg_callOk (callsN)

theorem F92ok (fuel : Nat) : (F92c fuel).Ok Tryz.prog := fun x y h => meets_of (F92k fuel) (f := 92) (fn := Tryz.f92) (c := bodyOf Tryz.f92) (by kernel_rfl) (by kernel_rfl) (by kernel_rfl) (by kernel_rfl) (loops0 (by kernel_rfl)) (A := (F92c fuel).A) (R := (F92c fuel).R) (F := (F92c fuel).F) (fun x => by kernel_rfl) (fun x => by kernel_rfl) x y h

/-- wireschema/format.every[wireschema/api.Item]$1 -/
noncomputable def F192_v1 (fuel : Nat) (a0 : PV) (a1 : Unit) (a2 : Unit) : Option (Bool × Unit) :=
  (F92 fuel a0).bind fun y1 =>
  some ((!y1), ())

noncomputable def F192_v1C (fuel : Nat) : Cfg := cfg Tryz.prog 8 1 [F92c fuel] [] fuel

noncomputable def F192_v1c (fuel : Nat) : CallE := { f := 192, A := ⟨2, [.box 107 .leaf], [(.data 106), (.con (.ref 0 [] 107)), (.con (.fn 92 0 []))]⟩, R := ⟨1, [.box 107 .leaf], [.bool, (.con (.fn 92 0 []))]⟩, F := fun x => F192_v1 fuel x.1 x.2.1 x.2.2, dflt := (false, ()) }

theorem F192_v1k (fuel : Nat) : CallOk (F192_v1C fuel) := cfg_callOk (callsC (F92ok fuel) <| callsN)

theorem F192_v1ok (fuel : Nat) : (F192_v1c fuel).Ok Tryz.prog := fun x y h => meets_of (F192_v1k fuel) (f := 192) (fn := Tryz.f192) (c := bodyOf Tryz.f192) (by kernel_rfl) (by kernel_rfl) (by kernel_rfl) (by kernel_rfl) (loops0 (by kernel_rfl)) (A := (F192_v1c fuel).A) (R := (F192_v1c fuel).R) (F := (F192_v1c fuel).F) (fun x => by kernel_rfl) (fun x => by kernel_rfl) x y h

noncomputable def S264_v1_3 (fuel : Nat) (a2 : List PV) (a3 : Unit) (a4 : Int) (a5 : Int) (a6 : Unit) : Option (((List PV) × Unit × Int × Int × Unit) ⊕ ((Int × Unit) ⊕ (Unit))) :=
  bif (decide (a5 < a4)) then
    bif inRange a5 a2.length then
    (F192_v1 fuel (a2.getD a5.toNat .bad) () ()).bind fun y9 =>
    bif y9.1 then
      some (.inr (.inl (a5, ())))
    else
      some (.inl (a2, (), a4, (IntKind.wrap .i64 (a5 + (1 : Int))), ()))
    else none
  else
    some (.inr (.inr ()))

noncomputable def S264_v1_3step (fuel : Nat) (x : (List PV) × Unit × Int × Int × Unit) : Option (((List PV) × Unit × Int × Int × Unit) ⊕ ((Int × Unit) ⊕ (Unit))) := S264_v1_3 fuel x.1 x.2.1 x.2.2.1 x.2.2.2.1 x.2.2.2.2

/-- slices.IndexFunc[[]wireschema/api.Item,wireschema/api.Item] -/
noncomputable def F264_v1 (fuel : Nat) (a0 : List PV) (a1 : Unit) (a2 : Unit) : Option (Int × Unit) :=
  (loopQ fuel (S264_v1_3step fuel) (a0, (), (a0.length : Int), (0 : Int), ())).bind fun z => sumE (fun y11 =>
    some (y11.1, ())
  ) (fun y12 =>
    some ((-1 : Int), ())
  ) z

noncomputable def S264_v1_3l (fuel : Nat) : LoopE := { key := 3, H := ⟨[0, 1, 7, 8], [.box 107 .leaf], [(.slice 106), (.con (.fn 192 0 [(.ref 0 [] 107)])), (.int .i64), (.int .i64), (.con (.fn 92 0 []))]⟩, X := [(.ret, ⟨[4], [.box 107 .leaf], [(.int .i64), (.con (.fn 92 0 []))]⟩), (.exit 0, ⟨[], [.box 107 .leaf], [(.con (.fn 92 0 []))]⟩)], step := S264_v1_3step fuel }

noncomputable def F264_v1C (fuel : Nat) : Cfg := cfg Tryz.prog 19 1 [F192_v1c fuel] [S264_v1_3l fuel] fuel

noncomputable def F264_v1c (fuel : Nat) : CallE := { f := 264, A := ⟨2, [.box 107 .leaf], [(.slice 106), (.con (.fn 192 0 [(.ref 0 [] 107)])), (.con (.fn 92 0 []))]⟩, R := ⟨1, [.box 107 .leaf], [(.int .i64), (.con (.fn 92 0 []))]⟩, F := fun x => F264_v1 fuel x.1 x.2.1 x.2.2, dflt := (0, ()) }

theorem F264_v1k (fuel : Nat) : CallOk (F264_v1C fuel) := cfg_callOk (callsC (F192_v1ok fuel) <| callsN)

theorem S264_v1_3ok (fuel : Nat) : LoopOk (F264_v1C fuel) (lp (bodyOf Tryz.f264) 0) := loopOk_of (F264_v1k fuel) fuel (S264_v1_3l fuel) (loops0 (by kernel_rfl)) (by kernel_rfl) (fun x => by kernel_rfl) (fun R e st K => by kernel_rfl)

theorem F264_v1ok (fuel : Nat) : (F264_v1c fuel).Ok Tryz.prog := fun x y h => meets_of (F264_v1k fuel) (f := 264) (fn := Tryz.f264) (c := bodyOf Tryz.f264) (by kernel_rfl) (by kernel_rfl) (by kernel_rfl) (by kernel_rfl) (loopsN 1 (by kernel_rfl) fun i hi => match i, hi with | 0, _ => S264_v1_3ok fuel | n + 1, h => absurd h (by omega)) (A := (F264_v1c fuel).A) (R := (F264_v1c fuel).R) (F := (F264_v1c fuel).F) (fun x => by kernel_rfl) (fun x => by kernel_rfl) x y h

/-- slices.ContainsFunc[[]wireschema/api.Item,wireschema/api.Item] -/
noncomputable def F191_v1 (fuel : Nat) (a0 : List PV) (a1 : Unit) (a2 : Unit) : Option (Bool × Unit) :=
  (F264_v1 fuel a0 () ()).bind fun y1 =>
  some ((decide (y1.1 ≥ (0 : Int))), ())

noncomputable def F191_v1C (fuel : Nat) : Cfg := cfg Tryz.prog 9 1 [F264_v1c fuel] [] fuel

noncomputable def F191_v1c (fuel : Nat) : CallE := { f := 191, A := ⟨2, [.box 107 .leaf], [(.slice 106), (.con (.fn 192 0 [(.ref 0 [] 107)])), (.con (.fn 92 0 []))]⟩, R := ⟨1, [.box 107 .leaf], [.bool, (.con (.fn 92 0 []))]⟩, F := fun x => F191_v1 fuel x.1 x.2.1 x.2.2, dflt := (false, ()) }

theorem F191_v1k (fuel : Nat) : CallOk (F191_v1C fuel) := cfg_callOk (callsC (F264_v1ok fuel) <| callsN)

theorem F191_v1ok (fuel : Nat) : (F191_v1c fuel).Ok Tryz.prog := fun x y h => meets_of (F191_v1k fuel) (f := 191) (fn := Tryz.f191) (c := bodyOf Tryz.f191) (by kernel_rfl) (by kernel_rfl) (by kernel_rfl) (by kernel_rfl) (loops0 (by kernel_rfl)) (A := (F191_v1c fuel).A) (R := (F191_v1c fuel).R) (F := (F191_v1c fuel).F) (fun x => by kernel_rfl) (fun x => by kernel_rfl) x y h

/-- wireschema/format.every[wireschema/api.Item] -/
noncomputable def F81_v1 (fuel : Nat) (a0 : List PV) (a1 : Unit) : Option (Bool) :=
  (F191_v1 fuel a0 () ()).bind fun y1 =>
  some (!y1.1)

noncomputable def F81_v1C (fuel : Nat) : Cfg := cfg Tryz.prog 9 0 [F191_v1c fuel] [] fuel

noncomputable def F81_v1c (fuel : Nat) : CallE := { f := 81, A := ⟨2, [], [(.slice 106), (.con (.fn 92 0 []))]⟩, R := ⟨1, [], [.bool]⟩, F := fun x => F81_v1 fuel x.1 x.2, dflt := false }

theorem F81_v1k (fuel : Nat) : CallOk (F81_v1C fuel) := cfg_callOk (callsC (F191_v1ok fuel) <| callsN)

theorem F81_v1ok (fuel : Nat) : (F81_v1c fuel).Ok Tryz.prog := fun x y h => meets_of (F81_v1k fuel) (f := 81) (fn := Tryz.f81) (c := bodyOf Tryz.f81) (by kernel_rfl) (by kernel_rfl) (by kernel_rfl) (by kernel_rfl) (loops0 (by kernel_rfl)) (A := (F81_v1c fuel).A) (R := (F81_v1c fuel).R) (F := (F81_v1c fuel).F) (fun x => by kernel_rfl) (fun x => by kernel_rfl) x y h

/-- wireschema/format.numbers$2 -/
noncomputable def F91 (fuel : Nat) (a0 : PV) : Option (Bool) :=
  (F90 fuel ((a0.fld 3).asList) (2147483647 : Int)).bind fun y2 =>
  (bif y2 then F81_v1 fuel ((a0.fld 2).asList) () else some false).bind fun y4 =>
  some (bif y2 then y4 else false)

noncomputable def F91C (fuel : Nat) : Cfg := cfg Tryz.prog 11 0 [F90c fuel, F81_v1c fuel] [] fuel

noncomputable def F91c (fuel : Nat) : CallE := { f := 91, A := ⟨1, [], [(.data 64)]⟩, R := ⟨1, [], [.bool]⟩, F := fun x => F91 fuel x, dflt := false }

theorem F91k (fuel : Nat) : CallOk (F91C fuel) := cfg_callOk (callsC (F90ok fuel) <| callsC (F81_v1ok fuel) <| callsN)

theorem F91ok (fuel : Nat) : (F91c fuel).Ok Tryz.prog := fun x y h => meets_of (F91k fuel) (f := 91) (fn := Tryz.f91) (c := bodyOf Tryz.f91) (by kernel_rfl) (by kernel_rfl) (by kernel_rfl) (by kernel_rfl) (loops0 (by kernel_rfl)) (A := (F91c fuel).A) (R := (F91c fuel).R) (F := (F91c fuel).F) (fun x => by kernel_rfl) (fun x => by kernel_rfl) x y h

/-- wireschema/format.every[wireschema/api.Enum]$1 -/
noncomputable def F190_v1 (fuel : Nat) (a0 : PV) (a1 : Unit) (a2 : Unit) : Option (Bool × Unit) :=
  (F91 fuel a0).bind fun y1 =>
  some ((!y1), ())

noncomputable def F190_v1C (fuel : Nat) : Cfg := cfg Tryz.prog 8 1 [F91c fuel] [] fuel

noncomputable def F190_v1c (fuel : Nat) : CallE := { f := 190, A := ⟨2, [.box 108 .leaf], [(.data 64), (.con (.ref 0 [] 108)), (.con (.fn 91 0 []))]⟩, R := ⟨1, [.box 108 .leaf], [.bool, (.con (.fn 91 0 []))]⟩, F := fun x => F190_v1 fuel x.1 x.2.1 x.2.2, dflt := (false, ()) }

theorem F190_v1k (fuel : Nat) : CallOk (F190_v1C fuel) := cfg_callOk (callsC (F91ok fuel) <| callsN)

theorem F190_v1ok (fuel : Nat) : (F190_v1c fuel).Ok Tryz.prog := fun x y h => meets_of (F190_v1k fuel) (f := 190) (fn := Tryz.f190) (c := bodyOf Tryz.f190) (by kernel_rfl) (by kernel_rfl) (by kernel_rfl) (by kernel_rfl) (loops0 (by kernel_rfl)) (A := (F190_v1c fuel).A) (R := (F190_v1c fuel).R) (F := (F190_v1c fuel).F) (fun x => by kernel_rfl) (fun x => by kernel_rfl) x y h

noncomputable def S263_v1_3 (fuel : Nat) (a2 : List PV) (a3 : Unit) (a4 : Int) (a5 : Int) (a6 : Unit) : Option (((List PV) × Unit × Int × Int × Unit) ⊕ ((Int × Unit) ⊕ (Unit))) :=
  bif (decide (a5 < a4)) then
    bif inRange a5 a2.length then
    (F190_v1 fuel (a2.getD a5.toNat .bad) () ()).bind fun y9 =>
    bif y9.1 then
      some (.inr (.inl (a5, ())))
    else
      some (.inl (a2, (), a4, (IntKind.wrap .i64 (a5 + (1 : Int))), ()))
    else none
  else
    some (.inr (.inr ()))

noncomputable def S263_v1_3step (fuel : Nat) (x : (List PV) × Unit × Int × Int × Unit) : Option (((List PV) × Unit × Int × Int × Unit) ⊕ ((Int × Unit) ⊕ (Unit))) := S263_v1_3 fuel x.1 x.2.1 x.2.2.1 x.2.2.2.1 x.2.2.2.2

/-- slices.IndexFunc[[]wireschema/api.Enum,wireschema/api.Enum] -/
noncomputable def F263_v1 (fuel : Nat) (a0 : List PV) (a1 : Unit) (a2 : Unit) : Option (Int × Unit) :=
  (loopQ fuel (S263_v1_3step fuel) (a0, (), (a0.length : Int), (0 : Int), ())).bind fun z => sumE (fun y11 =>
    some (y11.1, ())
  ) (fun y12 =>
    some ((-1 : Int), ())
  ) z

noncomputable def S263_v1_3l (fuel : Nat) : LoopE := { key := 3, H := ⟨[0, 1, 7, 8], [.box 108 .leaf], [(.slice 64), (.con (.fn 190 0 [(.ref 0 [] 108)])), (.int .i64), (.int .i64), (.con (.fn 91 0 []))]⟩, X := [(.ret, ⟨[4], [.box 108 .leaf], [(.int .i64), (.con (.fn 91 0 []))]⟩), (.exit 0, ⟨[], [.box 108 .leaf], [(.con (.fn 91 0 []))]⟩)], step := S263_v1_3step fuel }

noncomputable def F263_v1C (fuel : Nat) : Cfg := cfg Tryz.prog 19 1 [F190_v1c fuel] [S263_v1_3l fuel] fuel

noncomputable def F263_v1c (fuel : Nat) : CallE := { f := 263, A := ⟨2, [.box 108 .leaf], [(.slice 64), (.con (.fn 190 0 [(.ref 0 [] 108)])), (.con (.fn 91 0 []))]⟩, R := ⟨1, [.box 108 .leaf], [(.int .i64), (.con (.fn 91 0 []))]⟩, F := fun x => F263_v1 fuel x.1 x.2.1 x.2.2, dflt := (0, ()) }

theorem F263_v1k (fuel : Nat) : CallOk (F263_v1C fuel) := cfg_callOk (callsC (F190_v1ok fuel) <| callsN)

theorem S263_v1_3ok (fuel : Nat) : LoopOk (F263_v1C fuel) (lp (bodyOf Tryz.f263) 0) := loopOk_of (F263_v1k fuel) fuel (S263_v1_3l fuel) (loops0 (by kernel_rfl)) (by kernel_rfl) (fun x => by kernel_rfl) (fun R e st K => by kernel_rfl)

theorem F263_v1ok (fuel : Nat) : (F263_v1c fuel).Ok Tryz.prog := fun x y h => meets_of (F263_v1k fuel) (f := 263) (fn := Tryz.f263) (c := bodyOf Tryz.f263) (by kernel_rfl) (by kernel_rfl) (by kernel_rfl) (by kernel_rfl) (loopsN 1 (by kernel_rfl) fun i hi => match i, hi with | 0, _ => S263_v1_3ok fuel | n + 1, h => absurd h (by omega)) (A := (F263_v1c fuel).A) (R := (F263_v1c fuel).R) (F := (F263_v1c fuel).F) (fun x => by kernel_rfl) (fun x => by kernel_rfl) x y h

/-- slices.ContainsFunc[[]wireschema/api.Enum,wireschema/api.Enum] -/
noncomputable def F189_v1 (fuel : Nat) (a0 : List PV) (a1 : Unit) (a2 : Unit) : Option (Bool × Unit) :=
  (F263_v1 fuel a0 () ()).bind fun y1 =>
  some ((decide (y1.1 ≥ (0 : Int))), ())

noncomputable def F189_v1C (fuel : Nat) : Cfg := cfg Tryz.prog 9 1 [F263_v1c fuel] [] fuel

noncomputable def F189_v1c (fuel : Nat) : CallE := { f := 189, A := ⟨2, [.box 108 .leaf], [(.slice 64), (.con (.fn 190 0 [(.ref 0 [] 108)])), (.con (.fn 91 0 []))]⟩, R := ⟨1, [.box 108 .leaf], [.bool, (.con (.fn 91 0 []))]⟩, F := fun x => F189_v1 fuel x.1 x.2.1 x.2.2, dflt := (false, ()) }

theorem F189_v1k (fuel : Nat) : CallOk (F189_v1C fuel) := cfg_callOk (callsC (F263_v1ok fuel) <| callsN)

theorem F189_v1ok (fuel : Nat) : (F189_v1c fuel).Ok Tryz.prog := fun x y h => meets_of (F189_v1k fuel) (f := 189) (fn := Tryz.f189) (c := bodyOf Tryz.f189) (by kernel_rfl) (by kernel_rfl) (by kernel_rfl) (by kernel_rfl) (loops0 (by kernel_rfl)) (A := (F189_v1c fuel).A) (R := (F189_v1c fuel).R) (F := (F189_v1c fuel).F) (fun x => by kernel_rfl) (fun x => by kernel_rfl) x y h

/-- wireschema/format.every[wireschema/api.Enum] -/
noncomputable def F79_v1 (fuel : Nat) (a0 : List PV) (a1 : Unit) : Option (Bool) :=
  (F189_v1 fuel a0 () ()).bind fun y1 =>
  some (!y1.1)

noncomputable def F79_v1C (fuel : Nat) : Cfg := cfg Tryz.prog 9 0 [F189_v1c fuel] [] fuel

noncomputable def F79_v1c (fuel : Nat) : CallE := { f := 79, A := ⟨2, [], [(.slice 64), (.con (.fn 91 0 []))]⟩, R := ⟨1, [], [.bool]⟩, F := fun x => F79_v1 fuel x.1 x.2, dflt := false }

theorem F79_v1k (fuel : Nat) : CallOk (F79_v1C fuel) := cfg_callOk (callsC (F189_v1ok fuel) <| callsN)

theorem F79_v1ok (fuel : Nat) : (F79_v1c fuel).Ok Tryz.prog := fun x y h => meets_of (F79_v1k fuel) (f := 79) (fn := Tryz.f79) (c := bodyOf Tryz.f79) (by kernel_rfl) (by kernel_rfl) (by kernel_rfl) (by kernel_rfl) (loops0 (by kernel_rfl)) (A := (F79_v1c fuel).A) (R := (F79_v1c fuel).R) (F := (F79_v1c fuel).F) (fun x => by kernel_rfl) (fun x => by kernel_rfl) x y h

/-- wireschema/format.numbers$3$1 -/
noncomputable def F94 (fuel : Nat) (a0 : PV) : Option (Bool) :=
  some (bif (decide (((a0.fld 3).asInt) ≥ (1 : Int))) then (decide (((a0.fld 3).asInt) ≤ (4 : Int))) else false)

noncomputable def F94C (fuel : Nat) : Cfg := cfg Tryz.prog 11 0 [] [] fuel

noncomputable def F94c (fuel : Nat) : CallE := { f := 94, A := ⟨1, [], [(.data 112)]⟩, R := ⟨1, [], [.bool]⟩, F := fun x => F94 fuel x, dflt := false }

theorem F94k (fuel : Nat) : CallOk (F94C fuel) := cfg_callOk (callsN)

theorem F94ok (fuel : Nat) : (F94c fuel).Ok Tryz.prog := fun x y h => meets_of (F94k fuel) (f := 94) (fn := Tryz.f94) (c := bodyOf Tryz.f94) (by kernel_rfl) (by kernel_rfl) (by kernel_rfl) (by kernel_rfl) (loops0 (by kernel_rfl)) (A := (F94c fuel).A) (R := (F94c fuel).R) (F := (F94c fuel).F) (fun x => by kernel_rfl) (fun x => by kernel_rfl) x y h

/-- wireschema/format.every[wireschema/api.Method]$1 -/
noncomputable def F196_v1 (fuel : Nat) (a0 : PV) (a1 : Unit) (a2 : Unit) : Option (Bool × Unit) :=
  (F94 fuel a0).bind fun y1 =>
  some ((!y1), ())

noncomputable def F196_v1C (fuel : Nat) : Cfg := cfg Tryz.prog 8 1 [F94c fuel] [] fuel

noncomputable def F196_v1c (fuel : Nat) : CallE := { f := 196, A := ⟨2, [.box 113 .leaf], [(.data 112), (.con (.ref 0 [] 113)), (.con (.fn 94 0 []))]⟩, R := ⟨1, [.box 113 .leaf], [.bool, (.con (.fn 94 0 []))]⟩, F := fun x => F196_v1 fuel x.1 x.2.1 x.2.2, dflt := (false, ()) }

theorem F196_v1k (fuel : Nat) : CallOk (F196_v1C fuel) := cfg_callOk (callsC (F94ok fuel) <| callsN)

theorem F196_v1ok (fuel : Nat) : (F196_v1c fuel).Ok Tryz.prog := fun x y h => meets_of (F196_v1k fuel) (f := 196) (fn := Tryz.f196) (c := bodyOf Tryz.f196) (by kernel_rfl) (by kernel_rfl) (by kernel_rfl) (by kernel_rfl) (loops0 (by kernel_rfl)) (A := (F196_v1c fuel).A) (R := (F196_v1c fuel).R) (F := (F196_v1c fuel).F) (fun x => by kernel_rfl) (fun x => by kernel_rfl) x y h

noncomputable def S266_v1_3 (fuel : Nat) (a2 : List PV) (a3 : Unit) (a4 : Int) (a5 : Int) (a6 : Unit) : Option (((List PV) × Unit × Int × Int × Unit) ⊕ ((Int × Unit) ⊕ (Unit))) :=
  bif (decide (a5 < a4)) then
    bif inRange a5 a2.length then
    (F196_v1 fuel (a2.getD a5.toNat .bad) () ()).bind fun y9 =>
    bif y9.1 then
      some (.inr (.inl (a5, ())))
    else
      some (.inl (a2, (), a4, (IntKind.wrap .i64 (a5 + (1 : Int))), ()))
    else none
  else
    some (.inr (.inr ()))

noncomputable def S266_v1_3step (fuel : Nat) (x : (List PV) × Unit × Int × Int × Unit) : Option (((List PV) × Unit × Int × Int × Unit) ⊕ ((Int × Unit) ⊕ (Unit))) := S266_v1_3 fuel x.1 x.2.1 x.2.2.1 x.2.2.2.1 x.2.2.2.2

/-- slices.IndexFunc[[]wireschema/api.Method,wireschema/api.Method] -/
noncomputable def F266_v1 (fuel : Nat) (a0 : List PV) (a1 : Unit) (a2 : Unit) : Option (Int × Unit) :=
  (loopQ fuel (S266_v1_3step fuel) (a0, (), (a0.length : Int), (0 : Int), ())).bind fun z => sumE (fun y11 =>
    some (y11.1, ())
  ) (fun y12 =>
    some ((-1 : Int), ())
  ) z

noncomputable def S266_v1_3l (fuel : Nat) : LoopE := { key := 3, H := ⟨[0, 1, 7, 8], [.box 113 .leaf], [(.slice 112), (.con (.fn 196 0 [(.ref 0 [] 113)])), (.int .i64), (.int .i64), (.con (.fn 94 0 []))]⟩, X := [(.ret, ⟨[4], [.box 113 .leaf], [(.int .i64), (.con (.fn 94 0 []))]⟩), (.exit 0, ⟨[], [.box 113 .leaf], [(.con (.fn 94 0 []))]⟩)], step := S266_v1_3step fuel }

noncomputable def F266_v1C (fuel : Nat) : Cfg := cfg Tryz.prog 19 1 [F196_v1c fuel] [S266_v1_3l fuel] fuel

noncomputable def F266_v1c (fuel : Nat) : CallE := { f := 266, A := ⟨2, [.box 113 .leaf], [(.slice 112), (.con (.fn 196 0 [(.ref 0 [] 113)])), (.con (.fn 94 0 []))]⟩, R := ⟨1, [.box 113 .leaf], [(.int .i64), (.con (.fn 94 0 []))]⟩, F := fun x => F266_v1 fuel x.1 x.2.1 x.2.2, dflt := (0, ()) }

theorem F266_v1k (fuel : Nat) : CallOk (F266_v1C fuel) := cfg_callOk (callsC (F196_v1ok fuel) <| callsN)

theorem S266_v1_3ok (fuel : Nat) : LoopOk (F266_v1C fuel) (lp (bodyOf Tryz.f266) 0) := loopOk_of (F266_v1k fuel) fuel (S266_v1_3l fuel) (loops0 (by kernel_rfl)) (by kernel_rfl) (fun x => by kernel_rfl) (fun R e st K => by kernel_rfl)

theorem F266_v1ok (fuel : Nat) : (F266_v1c fuel).Ok Tryz.prog := fun x y h => meets_of (F266_v1k fuel) (f := 266) (fn := Tryz.f266) (c := bodyOf Tryz.f266) (by kernel_rfl) (by kernel_rfl) (by kernel_rfl) (by kernel_rfl) (loopsN 1 (by kernel_rfl) fun i hi => match i, hi with | 0, _ => S266_v1_3ok fuel | n + 1, h => absurd h (by omega)) (A := (F266_v1c fuel).A) (R := (F266_v1c fuel).R) (F := (F266_v1c fuel).F) (fun x => by kernel_rfl) (fun x => by kernel_rfl) x y h

/-- slices.ContainsFunc[[]wireschema/api.Method,wireschema/api.Method] -/
noncomputable def F195_v1 (fuel : Nat) (a0 : List PV) (a1 : Unit) (a2 : Unit) : Option (Bool × Unit) :=
  (F266_v1 fuel a0 () ()).bind fun y1 =>
  some ((decide (y1.1 ≥ (0 : Int))), ())

noncomputable def F195_v1C (fuel : Nat) : Cfg := cfg Tryz.prog 9 1 [F266_v1c fuel] [] fuel

noncomputable def F195_v1c (fuel : Nat) : CallE := { f := 195, A := ⟨2, [.box 113 .leaf], [(.slice 112), (.con (.fn 196 0 [(.ref 0 [] 113)])), (.con (.fn 94 0 []))]⟩, R := ⟨1, [.box 113 .leaf], [.bool, (.con (.fn 94 0 []))]⟩, F := fun x => F195_v1 fuel x.1 x.2.1 x.2.2, dflt := (false, ()) }

theorem F195_v1k (fuel : Nat) : CallOk (F195_v1C fuel) := cfg_callOk (callsC (F266_v1ok fuel) <| callsN)

theorem F195_v1ok (fuel : Nat) : (F195_v1c fuel).Ok Tryz.prog := fun x y h => meets_of (F195_v1k fuel) (f := 195) (fn := Tryz.f195) (c := bodyOf Tryz.f195) (by kernel_rfl) (by kernel_rfl) (by kernel_rfl) (by kernel_rfl) (loops0 (by kernel_rfl)) (A := (F195_v1c fuel).A) (R := (F195_v1c fuel).R) (F := (F195_v1c fuel).F) (fun x => by kernel_rfl) (fun x => by kernel_rfl) x y h

/-- wireschema/format.every[wireschema/api.Method] -/
noncomputable def F85_v1 (fuel : Nat) (a0 : List PV) (a1 : Unit) : Option (Bool) :=
  (F195_v1 fuel a0 () ()).bind fun y1 =>
  some (!y1.1)

noncomputable def F85_v1C (fuel : Nat) : Cfg := cfg Tryz.prog 9 0 [F195_v1c fuel] [] fuel

noncomputable def F85_v1c (fuel : Nat) : CallE := { f := 85, A := ⟨2, [], [(.slice 112), (.con (.fn 94 0 []))]⟩, R := ⟨1, [], [.bool]⟩, F := fun x => F85_v1 fuel x.1 x.2, dflt := false }

theorem F85_v1k (fuel : Nat) : CallOk (F85_v1C fuel) := cfg_callOk (callsC (F195_v1ok fuel) <| callsN)

theorem F85_v1ok (fuel : Nat) : (F85_v1c fuel).Ok Tryz.prog := fun x y h => meets_of (F85_v1k fuel) (f := 85) (fn := Tryz.f85) (c := bodyOf Tryz.f85) (by kernel_rfl) (by kernel_rfl) (by kernel_rfl) (by kernel_rfl) (loops0 (by kernel_rfl)) (A := (F85_v1c fuel).A) (R := (F85_v1c fuel).R) (F := (F85_v1c fuel).F) (fun x => by kernel_rfl) (fun x => by kernel_rfl) x y h

/-- wireschema/format.numbers$3 -/
noncomputable def F93 (fuel : Nat) (a0 : PV) : Option (Bool) :=
  (F85_v1 fuel ((a0.fld 1).asList) ()).bind fun y2 =>
  some y2

noncomputable def F93C (fuel : Nat) : Cfg := cfg Tryz.prog 6 0 [F85_v1c fuel] [] fuel

noncomputable def F93c (fuel : Nat) : CallE := { f := 93, A := ⟨1, [], [(.data 67)]⟩, R := ⟨1, [], [.bool]⟩, F := fun x => F93 fuel x, dflt := false }

theorem F93k (fuel : Nat) : CallOk (F93C fuel) := cfg_callOk (callsC (F85_v1ok fuel) <| callsN)

theorem F93ok (fuel : Nat) : (F93c fuel).Ok Tryz.prog := fun x y h => meets_of (F93k fuel) (f := 93) (fn := Tryz.f93) (c := bodyOf Tryz.f93) (by kernel_rfl) (by kernel_rfl) (by kernel_rfl) (by kernel_rfl) (loops0 (by kernel_rfl)) (A := (F93c fuel).A) (R := (F93c fuel).R) (F := (F93c fuel).F) (fun x => by kernel_rfl) (fun x => by kernel_rfl) x y h

/-- wireschema/format.every[wireschema/api.Service]$1 -/
noncomputable def F194_v1 (fuel : Nat) (a0 : PV) (a1 : Unit) (a2 : Unit) : Option (Bool × Unit) :=
  (F93 fuel a0).bind fun y1 =>
  some ((!y1), ())

noncomputable def F194_v1C (fuel : Nat) : Cfg := cfg Tryz.prog 8 1 [F93c fuel] [] fuel

noncomputable def F194_v1c (fuel : Nat) : CallE := { f := 194, A := ⟨2, [.box 114 .leaf], [(.data 67), (.con (.ref 0 [] 114)), (.con (.fn 93 0 []))]⟩, R := ⟨1, [.box 114 .leaf], [.bool, (.con (.fn 93 0 []))]⟩, F := fun x => F194_v1 fuel x.1 x.2.1 x.2.2, dflt := (false, ()) }

theorem F194_v1k (fuel : Nat) : CallOk (F194_v1C fuel) := cfg_callOk (callsC (F93ok fuel) <| callsN)

theorem F194_v1ok (fuel : Nat) : (F194_v1c fuel).Ok Tryz.prog := fun x y h => meets_of (F194_v1k fuel) (f := 194) (fn := Tryz.f194) (c := bodyOf Tryz.f194) (by kernel_rfl) (by kernel_rfl) (by kernel_rfl) (by kernel_rfl) (loops0 (by kernel_rfl)) (A := (F194_v1c fuel).A) (R := (F194_v1c fuel).R) (F := (F194_v1c fuel).F) (fun x => by kernel_rfl) (fun x => by kernel_rfl) x y h

noncomputable def S265_v1_3 (fuel : Nat) (a2 : List PV) (a3 : Unit) (a4 : Int) (a5 : Int) (a6 : Unit) : Option (((List PV) × Unit × Int × Int × Unit) ⊕ ((Int × Unit) ⊕ (Unit))) :=
  bif (decide (a5 < a4)) then
    bif inRange a5 a2.length then
    (F194_v1 fuel (a2.getD a5.toNat .bad) () ()).bind fun y9 =>
    bif y9.1 then
      some (.inr (.inl (a5, ())))
    else
      some (.inl (a2, (), a4, (IntKind.wrap .i64 (a5 + (1 : Int))), ()))
    else none
  else
    some (.inr (.inr ()))

noncomputable def S265_v1_3step (fuel : Nat) (x : (List PV) × Unit × Int × Int × Unit) : Option (((List PV) × Unit × Int × Int × Unit) ⊕ ((Int × Unit) ⊕ (Unit))) := S265_v1_3 fuel x.1 x.2.1 x.2.2.1 x.2.2.2.1 x.2.2.2.2

/-- slices.IndexFunc[[]wireschema/api.Service,wireschema/api.Service] -/
noncomputable def F265_v1 (fuel : Nat) (a0 : List PV) (a1 : Unit) (a2 : Unit) : Option (Int × Unit) :=
  (loopQ fuel (S265_v1_3step fuel) (a0, (), (a0.length : Int), (0 : Int), ())).bind fun z => sumE (fun y11 =>
    some (y11.1, ())
  ) (fun y12 =>
    some ((-1 : Int), ())
  ) z

noncomputable def S265_v1_3l (fuel : Nat) : LoopE := { key := 3, H := ⟨[0, 1, 7, 8], [.box 114 .leaf], [(.slice 67), (.con (.fn 194 0 [(.ref 0 [] 114)])), (.int .i64), (.int .i64), (.con (.fn 93 0 []))]⟩, X := [(.ret, ⟨[4], [.box 114 .leaf], [(.int .i64), (.con (.fn 93 0 []))]⟩), (.exit 0, ⟨[], [.box 114 .leaf], [(.con (.fn 93 0 []))]⟩)], step := S265_v1_3step fuel }

noncomputable def F265_v1C (fuel : Nat) : Cfg := cfg Tryz.prog 19 1 [F194_v1c fuel] [S265_v1_3l fuel] fuel

noncomputable def F265_v1c (fuel : Nat) : CallE := { f := 265, A := ⟨2, [.box 114 .leaf], [(.slice 67), (.con (.fn 194 0 [(.ref 0 [] 114)])), (.con (.fn 93 0 []))]⟩, R := ⟨1, [.box 114 .leaf], [(.int .i64), (.con (.fn 93 0 []))]⟩, F := fun x => F265_v1 fuel x.1 x.2.1 x.2.2, dflt := (0, ()) }

theorem F265_v1k (fuel : Nat) : CallOk (F265_v1C fuel) := cfg_callOk (callsC (F194_v1ok fuel) <| callsN)

theorem S265_v1_3ok (fuel : Nat) : LoopOk (F265_v1C fuel) (lp (bodyOf Tryz.f265) 0) := loopOk_of (F265_v1k fuel) fuel (S265_v1_3l fuel) (loops0 (by kernel_rfl)) (by kernel_rfl) (fun x => by kernel_rfl) (fun R e st K => by kernel_rfl)

theorem F265_v1ok (fuel : Nat) : (F265_v1c fuel).Ok Tryz.prog := fun x y h => meets_of (F265_v1k fuel) (f := 265) (fn := Tryz.f265) (c := bodyOf Tryz.f265) (by kernel_rfl) (by kernel_rfl) (by kernel_rfl) (by kernel_rfl) (loopsN 1 (by kernel_rfl) fun i hi => match i, hi with | 0, _ => S265_v1_3ok fuel | n + 1, h => absurd h (by omega)) (A := (F265_v1c fuel).A) (R := (F265_v1c fuel).R) (F := (F265_v1c fuel).F) (fun x => by kernel_rfl) (fun x => by kernel_rfl) x y h

/-- slices.ContainsFunc[[]wireschema/api.Service,wireschema/api.Service] -/
noncomputable def F193_v1 (fuel : Nat) (a0 : List PV) (a1 : Unit) (a2 : Unit) : Option (Bool × Unit) :=
  (F265_v1 fuel a0 () ()).bind fun y1 =>
  some ((decide (y1.1 ≥ (0 : Int))), ())

noncomputable def F193_v1C (fuel : Nat) : Cfg := cfg Tryz.prog 9 1 [F265_v1c fuel] [] fuel

noncomputable def F193_v1c (fuel : Nat) : CallE := { f := 193, A := ⟨2, [.box 114 .leaf], [(.slice 67), (.con (.fn 194 0 [(.ref 0 [] 114)])), (.con (.fn 93 0 []))]⟩, R := ⟨1, [.box 114 .leaf], [.bool, (.con (.fn 93 0 []))]⟩, F := fun x => F193_v1 fuel x.1 x.2.1 x.2.2, dflt := (false, ()) }

theorem F193_v1k (fuel : Nat) : CallOk (F193_v1C fuel) := cfg_callOk (callsC (F265_v1ok fuel) <| callsN)

theorem F193_v1ok (fuel : Nat) : (F193_v1c fuel).Ok Tryz.prog := fun x y h => meets_of (F193_v1k fuel) (f := 193) (fn := Tryz.f193) (c := bodyOf Tryz.f193) (by kernel_rfl) (by kernel_rfl) (by kernel_rfl) (by kernel_rfl) (loops0 (by kernel_rfl)) (A := (F193_v1c fuel).A) (R := (F193_v1c fuel).R) (F := (F193_v1c fuel).F) (fun x => by kernel_rfl) (fun x => by kernel_rfl) x y h

/-- wireschema/format.every[wireschema/api.Service] -/
noncomputable def F83_v1 (fuel : Nat) (a0 : List PV) (a1 : Unit) : Option (Bool) :=
  (F193_v1 fuel a0 () ()).bind fun y1 =>
  some (!y1.1)

noncomputable def F83_v1C (fuel : Nat) : Cfg := cfg Tryz.prog 9 0 [F193_v1c fuel] [] fuel

noncomputable def F83_v1c (fuel : Nat) : CallE := { f := 83, A := ⟨2, [], [(.slice 67), (.con (.fn 93 0 []))]⟩, R := ⟨1, [], [.bool]⟩, F := fun x => F83_v1 fuel x.1 x.2, dflt := false }

theorem F83_v1k (fuel : Nat) : CallOk (F83_v1C fuel) := cfg_callOk (callsC (F193_v1ok fuel) <| callsN)

theorem F83_v1ok (fuel : Nat) : (F83_v1c fuel).Ok Tryz.prog := fun x y h => meets_of (F83_v1k fuel) (f := 83) (fn := Tryz.f83) (c := bodyOf Tryz.f83) (by kernel_rfl) (by kernel_rfl) (by kernel_rfl) (by kernel_rfl) (loops0 (by kernel_rfl)) (A := (F83_v1c fuel).A) (R := (F83_v1c fuel).R) (F := (F83_v1c fuel).F) (fun x => by kernel_rfl) (fun x => by kernel_rfl) x y h

/-- wireschema/format.numbers -/
noncomputable def F29 (fuel : Nat) (a0 : PV) : Option (Bool) :=
  (F73_v1 fuel ((a0.fld 3).asList) ()).bind fun y2 =>
  (bif y2 then F79_v1 fuel ((a0.fld 4).asList) () else some false).bind fun y4 =>
  let x5 := bif y2 then y4 else false
  (bif x5 then F83_v1 fuel ((a0.fld 5).asList) () else some false).bind fun y7 =>
  some (bif x5 then y7 else false)

noncomputable def F29C (fuel : Nat) : Cfg := cfg Tryz.prog 16 0 [F73_v1c fuel, F79_v1c fuel, F83_v1c fuel] [] fuel

noncomputable def F29c (fuel : Nat) : CallE := { f := 29, A := ⟨1, [], [(.data 27)]⟩, R := ⟨1, [], [.bool]⟩, F := fun x => F29 fuel x, dflt := false }

theorem F29k (fuel : Nat) : CallOk (F29C fuel) := cfg_callOk (callsC (F73_v1ok fuel) <| callsC (F79_v1ok fuel) <| callsC (F83_v1ok fuel) <| callsN)

theorem F29ok (fuel : Nat) : (F29c fuel).Ok Tryz.prog := fun x y h => meets_of (F29k fuel) (f := 29) (fn := Tryz.f29) (c := bodyOf Tryz.f29) (by kernel_rfl) (by kernel_rfl) (by kernel_rfl) (by kernel_rfl) (loops0 (by kernel_rfl)) (A := (F29c fuel).A) (R := (F29c fuel).R) (F := (F29c fuel).F) (fun x => by kernel_rfl) (fun x => by kernel_rfl) x y h

/-- wireschema/format.every[string]$1 -/
noncomputable def F201 (fuel : Nat) (a0 : List UInt8) (a1 : Unit) (a2 : Unit) : Option (Bool × Unit) :=
  (F96 fuel a0).bind fun y1 =>
  some ((!y1), ())

noncomputable def F201C (fuel : Nat) : Cfg := cfg Tryz.prog 8 1 [F96c fuel] [] fuel

noncomputable def F201c (fuel : Nat) : CallE := { f := 201, A := ⟨2, [.box 56 .leaf], [.str, (.con (.ref 0 [] 56)), (.con (.fn 96 0 []))]⟩, R := ⟨1, [.box 56 .leaf], [.bool, (.con (.fn 96 0 []))]⟩, F := fun x => F201 fuel x.1 x.2.1 x.2.2, dflt := (false, ()) }

theorem F201k (fuel : Nat) : CallOk (F201C fuel) := cfg_callOk (callsC (F96ok fuel) <| callsN)

theorem F201ok (fuel : Nat) : (F201c fuel).Ok Tryz.prog := fun x y h => meets_of (F201k fuel) (f := 201) (fn := Tryz.f201) (c := bodyOf Tryz.f201) (by kernel_rfl) (by kernel_rfl) (by kernel_rfl) (by kernel_rfl) (loops0 (by kernel_rfl)) (A := (F201c fuel).A) (R := (F201c fuel).R) (F := (F201c fuel).F) (fun x => by kernel_rfl) (fun x => by kernel_rfl) x y h

noncomputable def S258_v1_3 (fuel : Nat) (a2 : List PV) (a3 : Unit) (a4 : Int) (a5 : Int) (a6 : Unit) : Option (((List PV) × Unit × Int × Int × Unit) ⊕ ((Int × Unit) ⊕ (Unit))) :=
  bif (decide (a5 < a4)) then
    bif inRange a5 a2.length then
    (F201 fuel (a2.getD a5.toNat .bad).asStr () ()).bind fun y10 =>
    bif y10.1 then
      some (.inr (.inl (a5, ())))
    else
      some (.inl (a2, (), a4, (IntKind.wrap .i64 (a5 + (1 : Int))), ()))
    else none
  else
    some (.inr (.inr ()))

noncomputable def S258_v1_3step (fuel : Nat) (x : (List PV) × Unit × Int × Int × Unit) : Option (((List PV) × Unit × Int × Int × Unit) ⊕ ((Int × Unit) ⊕ (Unit))) := S258_v1_3 fuel x.1 x.2.1 x.2.2.1 x.2.2.2.1 x.2.2.2.2

/-- slices.IndexFunc[[]string,string] -/
noncomputable def F258_v1 (fuel : Nat) (a0 : List PV) (a1 : Unit) (a2 : Unit) : Option (Int × Unit) :=
  (loopQ fuel (S258_v1_3step fuel) (a0, (), (a0.length : Int), (0 : Int), ())).bind fun z => sumE (fun y12 =>
    some (y12.1, ())
  ) (fun y13 =>
    some ((-1 : Int), ())
  ) z

noncomputable def S258_v1_3l (fuel : Nat) : LoopE := { key := 3, H := ⟨[0, 1, 7, 8], [.box 56 .leaf], [(.slice 9), (.con (.fn 201 0 [(.ref 0 [] 56)])), (.int .i64), (.int .i64), (.con (.fn 96 0 []))]⟩, X := [(.ret, ⟨[4], [.box 56 .leaf], [(.int .i64), (.con (.fn 96 0 []))]⟩), (.exit 0, ⟨[], [.box 56 .leaf], [(.con (.fn 96 0 []))]⟩)], step := S258_v1_3step fuel }

noncomputable def F258_v1C (fuel : Nat) : Cfg := cfg Tryz.prog 19 1 [F201c fuel] [S258_v1_3l fuel] fuel

noncomputable def F258_v1c (fuel : Nat) : CallE := { f := 258, A := ⟨2, [.box 56 .leaf], [(.slice 9), (.con (.fn 201 0 [(.ref 0 [] 56)])), (.con (.fn 96 0 []))]⟩, R := ⟨1, [.box 56 .leaf], [(.int .i64), (.con (.fn 96 0 []))]⟩, F := fun x => F258_v1 fuel x.1 x.2.1 x.2.2, dflt := (0, ()) }

theorem F258_v1k (fuel : Nat) : CallOk (F258_v1C fuel) := cfg_callOk (callsC (F201ok fuel) <| callsN)

theorem S258_v1_3ok (fuel : Nat) : LoopOk (F258_v1C fuel) (lp (bodyOf Tryz.f258) 0) := loopOk_of (F258_v1k fuel) fuel (S258_v1_3l fuel) (loops0 (by kernel_rfl)) (by kernel_rfl) (fun x => by kernel_rfl) (fun R e st K => by kernel_rfl)

theorem F258_v1ok (fuel : Nat) : (F258_v1c fuel).Ok Tryz.prog := fun x y h => meets_of (F258_v1k fuel) (f := 258) (fn := Tryz.f258) (c := bodyOf Tryz.f258) (by kernel_rfl) (by kernel_rfl) (by kernel_rfl) (by kernel_rfl) (loopsN 1 (by kernel_rfl) fun i hi => match i, hi with | 0, _ => S258_v1_3ok fuel | n + 1, h => absurd h (by omega)) (A := (F258_v1c fuel).A) (R := (F258_v1c fuel).R) (F := (F258_v1c fuel).F) (fun x => by kernel_rfl) (fun x => by kernel_rfl) x y h

/-- slices.ContainsFunc[[]string,string] -/
noncomputable def F180_v1 (fuel : Nat) (a0 : List PV) (a1 : Unit) (a2 : Unit) : Option (Bool × Unit) :=
  (F258_v1 fuel a0 () ()).bind fun y1 =>
  some ((decide (y1.1 ≥ (0 : Int))), ())

noncomputable def F180_v1C (fuel : Nat) : Cfg := cfg Tryz.prog 9 1 [F258_v1c fuel] [] fuel

noncomputable def F180_v1c (fuel : Nat) : CallE := { f := 180, A := ⟨2, [.box 56 .leaf], [(.slice 9), (.con (.fn 201 0 [(.ref 0 [] 56)])), (.con (.fn 96 0 []))]⟩, R := ⟨1, [.box 56 .leaf], [.bool, (.con (.fn 96 0 []))]⟩, F := fun x => F180_v1 fuel x.1 x.2.1 x.2.2, dflt := (false, ()) }

theorem F180_v1k (fuel : Nat) : CallOk (F180_v1C fuel) := cfg_callOk (callsC (F258_v1ok fuel) <| callsN)

theorem F180_v1ok (fuel : Nat) : (F180_v1c fuel).Ok Tryz.prog := fun x y h => meets_of (F180_v1k fuel) (f := 180) (fn := Tryz.f180) (c := bodyOf Tryz.f180) (by kernel_rfl) (by kernel_rfl) (by kernel_rfl) (by kernel_rfl) (loops0 (by kernel_rfl)) (A := (F180_v1c fuel).A) (R := (F180_v1c fuel).R) (F := (F180_v1c fuel).F) (fun x => by kernel_rfl) (fun x => by kernel_rfl) x y h

/-- wireschema/format.every[string] -/
noncomputable def F95 (fuel : Nat) (a0 : List PV) (a1 : Unit) : Option (Bool) :=
  (F180_v1 fuel a0 () ()).bind fun y1 =>
  some (!y1.1)

noncomputable def F95C (fuel : Nat) : Cfg := cfg Tryz.prog 9 0 [F180_v1c fuel] [] fuel

noncomputable def F95c (fuel : Nat) : CallE := { f := 95, A := ⟨2, [], [(.slice 9), (.con (.fn 96 0 []))]⟩, R := ⟨1, [], [.bool]⟩, F := fun x => F95 fuel x.1 x.2, dflt := false }

theorem F95k (fuel : Nat) : CallOk (F95C fuel) := cfg_callOk (callsC (F180_v1ok fuel) <| callsN)

theorem F95ok (fuel : Nat) : (F95c fuel).Ok Tryz.prog := fun x y h => meets_of (F95k fuel) (f := 95) (fn := Tryz.f95) (c := bodyOf Tryz.f95) (by kernel_rfl) (by kernel_rfl) (by kernel_rfl) (by kernel_rfl) (loops0 (by kernel_rfl)) (A := (F95c fuel).A) (R := (F95c fuel).R) (F := (F95c fuel).F) (fun x => by kernel_rfl) (fun x => by kernel_rfl) x y h

/-- wireschema/format.texts$1 -/
noncomputable def F97 (fuel : Nat) (a0 : PV) : Option (Bool) :=
  (F95 fuel ((a0.fld 3).asList) ()).bind fun y2 =>
  some y2

noncomputable def F97C (fuel : Nat) : Cfg := cfg Tryz.prog 6 0 [F95c fuel] [] fuel

noncomputable def F97c (fuel : Nat) : CallE := { f := 97, A := ⟨1, [], [(.data 61)]⟩, R := ⟨1, [], [.bool]⟩, F := fun x => F97 fuel x, dflt := false }

theorem F97k (fuel : Nat) : CallOk (F97C fuel) := cfg_callOk (callsC (F95ok fuel) <| callsN)

theorem F97ok (fuel : Nat) : (F97c fuel).Ok Tryz.prog := fun x y h => meets_of (F97k fuel) (f := 97) (fn := Tryz.f97) (c := bodyOf Tryz.f97) (by kernel_rfl) (by kernel_rfl) (by kernel_rfl) (by kernel_rfl) (loops0 (by kernel_rfl)) (A := (F97c fuel).A) (R := (F97c fuel).R) (F := (F97c fuel).F) (fun x => by kernel_rfl) (fun x => by kernel_rfl) x y h

/-- wireschema/format.every[wireschema/api.Message]$1 -/
noncomputable def F184_v2 (fuel : Nat) (a0 : PV) (a1 : Unit) (a2 : Unit) : Option (Bool × Unit) :=
  (F97 fuel a0).bind fun y1 =>
  some ((!y1), ())

noncomputable def F184_v2C (fuel : Nat) : Cfg := cfg Tryz.prog 8 1 [F97c fuel] [] fuel

noncomputable def F184_v2c (fuel : Nat) : CallE := { f := 184, A := ⟨2, [.box 102 .leaf], [(.data 61), (.con (.ref 0 [] 102)), (.con (.fn 97 0 []))]⟩, R := ⟨1, [.box 102 .leaf], [.bool, (.con (.fn 97 0 []))]⟩, F := fun x => F184_v2 fuel x.1 x.2.1 x.2.2, dflt := (false, ()) }

theorem F184_v2k (fuel : Nat) : CallOk (F184_v2C fuel) := cfg_callOk (callsC (F97ok fuel) <| callsN)

theorem F184_v2ok (fuel : Nat) : (F184_v2c fuel).Ok Tryz.prog := fun x y h => meets_of (F184_v2k fuel) (f := 184) (fn := Tryz.f184) (c := bodyOf Tryz.f184) (by kernel_rfl) (by kernel_rfl) (by kernel_rfl) (by kernel_rfl) (loops0 (by kernel_rfl)) (A := (F184_v2c fuel).A) (R := (F184_v2c fuel).R) (F := (F184_v2c fuel).F) (fun x => by kernel_rfl) (fun x => by kernel_rfl) x y h

noncomputable def S260_v2_3 (fuel : Nat) (a2 : List PV) (a3 : Unit) (a4 : Int) (a5 : Int) (a6 : Unit) : Option (((List PV) × Unit × Int × Int × Unit) ⊕ ((Int × Unit) ⊕ (Unit))) :=
  bif (decide (a5 < a4)) then
    bif inRange a5 a2.length then
    (F184_v2 fuel (a2.getD a5.toNat .bad) () ()).bind fun y9 =>
    bif y9.1 then
      some (.inr (.inl (a5, ())))
    else
      some (.inl (a2, (), a4, (IntKind.wrap .i64 (a5 + (1 : Int))), ()))
    else none
  else
    some (.inr (.inr ()))

noncomputable def S260_v2_3step (fuel : Nat) (x : (List PV) × Unit × Int × Int × Unit) : Option (((List PV) × Unit × Int × Int × Unit) ⊕ ((Int × Unit) ⊕ (Unit))) := S260_v2_3 fuel x.1 x.2.1 x.2.2.1 x.2.2.2.1 x.2.2.2.2

/-- slices.IndexFunc[[]wireschema/api.Message,wireschema/api.Message] -/
noncomputable def F260_v2 (fuel : Nat) (a0 : List PV) (a1 : Unit) (a2 : Unit) : Option (Int × Unit) :=
  (loopQ fuel (S260_v2_3step fuel) (a0, (), (a0.length : Int), (0 : Int), ())).bind fun z => sumE (fun y11 =>
    some (y11.1, ())
  ) (fun y12 =>
    some ((-1 : Int), ())
  ) z

noncomputable def S260_v2_3l (fuel : Nat) : LoopE := { key := 3, H := ⟨[0, 1, 7, 8], [.box 102 .leaf], [(.slice 61), (.con (.fn 184 0 [(.ref 0 [] 102)])), (.int .i64), (.int .i64), (.con (.fn 97 0 []))]⟩, X := [(.ret, ⟨[4], [.box 102 .leaf], [(.int .i64), (.con (.fn 97 0 []))]⟩), (.exit 0, ⟨[], [.box 102 .leaf], [(.con (.fn 97 0 []))]⟩)], step := S260_v2_3step fuel }

noncomputable def F260_v2C (fuel : Nat) : Cfg := cfg Tryz.prog 19 1 [F184_v2c fuel] [S260_v2_3l fuel] fuel

noncomputable def F260_v2c (fuel : Nat) : CallE := { f := 260, A := ⟨2, [.box 102 .leaf], [(.slice 61), (.con (.fn 184 0 [(.ref 0 [] 102)])), (.con (.fn 97 0 []))]⟩, R := ⟨1, [.box 102 .leaf], [(.int .i64), (.con (.fn 97 0 []))]⟩, F := fun x => F260_v2 fuel x.1 x.2.1 x.2.2, dflt := (0, ()) }

theorem F260_v2k (fuel : Nat) : CallOk (F260_v2C fuel) := cfg_callOk (callsC (F184_v2ok fuel) <| callsN)

theorem S260_v2_3ok (fuel : Nat) : LoopOk (F260_v2C fuel) (lp (bodyOf Tryz.f260) 0) := loopOk_of (F260_v2k fuel) fuel (S260_v2_3l fuel) (loops0 (by kernel_rfl)) (by kernel_rfl) (fun x => by kernel_rfl) (fun R e st K => by kernel_rfl)

theorem F260_v2ok (fuel : Nat) : (F260_v2c fuel).Ok Tryz.prog := fun x y h => meets_of (F260_v2k fuel) (f := 260) (fn := Tryz.f260) (c := bodyOf Tryz.f260) (by kernel_rfl) (by kernel_rfl) (by kernel_rfl) (by kernel_rfl) (loopsN 1 (by kernel_rfl) fun i hi => match i, hi with | 0, _ => S260_v2_3ok fuel | n + 1, h => absurd h (by omega)) (A := (F260_v2c fuel).A) (R := (F260_v2c fuel).R) (F := (F260_v2c fuel).F) (fun x => by kernel_rfl) (fun x => by kernel_rfl) x y h

/-- slices.ContainsFunc[[]wireschema/api.Message,wireschema/api.Message] -/
noncomputable def F183_v2 (fuel : Nat) (a0 : List PV) (a1 : Unit) (a2 : Unit) : Option (Bool × Unit) :=
  (F260_v2 fuel a0 () ()).bind fun y1 =>
  some ((decide (y1.1 ≥ (0 : Int))), ())

noncomputable def F183_v2C (fuel : Nat) : Cfg := cfg Tryz.prog 9 1 [F260_v2c fuel] [] fuel

noncomputable def F183_v2c (fuel : Nat) : CallE := { f := 183, A := ⟨2, [.box 102 .leaf], [(.slice 61), (.con (.fn 184 0 [(.ref 0 [] 102)])), (.con (.fn 97 0 []))]⟩, R := ⟨1, [.box 102 .leaf], [.bool, (.con (.fn 97 0 []))]⟩, F := fun x => F183_v2 fuel x.1 x.2.1 x.2.2, dflt := (false, ()) }

theorem F183_v2k (fuel : Nat) : CallOk (F183_v2C fuel) := cfg_callOk (callsC (F260_v2ok fuel) <| callsN)

theorem F183_v2ok (fuel : Nat) : (F183_v2c fuel).Ok Tryz.prog := fun x y h => meets_of (F183_v2k fuel) (f := 183) (fn := Tryz.f183) (c := bodyOf Tryz.f183) (by kernel_rfl) (by kernel_rfl) (by kernel_rfl) (by kernel_rfl) (loops0 (by kernel_rfl)) (A := (F183_v2c fuel).A) (R := (F183_v2c fuel).R) (F := (F183_v2c fuel).F) (fun x => by kernel_rfl) (fun x => by kernel_rfl) x y h

/-- wireschema/format.every[wireschema/api.Message] -/
noncomputable def F73_v2 (fuel : Nat) (a0 : List PV) (a1 : Unit) : Option (Bool) :=
  (F183_v2 fuel a0 () ()).bind fun y1 =>
  some (!y1.1)

noncomputable def F73_v2C (fuel : Nat) : Cfg := cfg Tryz.prog 9 0 [F183_v2c fuel] [] fuel

noncomputable def F73_v2c (fuel : Nat) : CallE := { f := 73, A := ⟨2, [], [(.slice 61), (.con (.fn 97 0 []))]⟩, R := ⟨1, [], [.bool]⟩, F := fun x => F73_v2 fuel x.1 x.2, dflt := false }

theorem F73_v2k (fuel : Nat) : CallOk (F73_v2C fuel) := cfg_callOk (callsC (F183_v2ok fuel) <| callsN)

theorem F73_v2ok (fuel : Nat) : (F73_v2c fuel).Ok Tryz.prog := fun x y h => meets_of (F73_v2k fuel) (f := 73) (fn := Tryz.f73) (c := bodyOf Tryz.f73) (by kernel_rfl) (by kernel_rfl) (by kernel_rfl) (by kernel_rfl) (loops0 (by kernel_rfl)) (A := (F73_v2c fuel).A) (R := (F73_v2c fuel).R) (F := (F73_v2c fuel).F) (fun x => by kernel_rfl) (fun x => by kernel_rfl) x y h

/-- wireschema/format.texts -/
noncomputable def F30 (fuel : Nat) (a0 : PV) : Option (Bool) :=
  (F95 fuel ((a0.fld 2).asList) ()).bind fun y2 =>
  (bif y2 then F73_v2 fuel ((a0.fld 3).asList) () else some false).bind fun y4 =>
  some (bif y2 then y4 else false)

noncomputable def F30C (fuel : Nat) : Cfg := cfg Tryz.prog 11 0 [F95c fuel, F73_v2c fuel] [] fuel

noncomputable def F30c (fuel : Nat) : CallE := { f := 30, A := ⟨1, [], [(.data 27)]⟩, R := ⟨1, [], [.bool]⟩, F := fun x => F30 fuel x, dflt := false }

theorem F30k (fuel : Nat) : CallOk (F30C fuel) := cfg_callOk (callsC (F95ok fuel) <| callsC (F73_v2ok fuel) <| callsN)

theorem F30ok (fuel : Nat) : (F30c fuel).Ok Tryz.prog := fun x y h => meets_of (F30k fuel) (f := 30) (fn := Tryz.f30) (c := bodyOf Tryz.f30) (by kernel_rfl) (by kernel_rfl) (by kernel_rfl) (by kernel_rfl) (loops0 (by kernel_rfl)) (A := (F30c fuel).A) (R := (F30c fuel).R) (F := (F30c fuel).F) (fun x => by kernel_rfl) (fun x => by kernel_rfl) x y h

noncomputable def S31_8 (fuel : Nat) (a15 : Unit) (a16 : List PV) (a17 : List PV) (a18 : Int) (a19 : Int) (a20 : List PV) (a21 : Int) (a22 : Int) (a23 : PV) (a24 : PV) : Option ((Unit × (List PV) × (List PV) × Int × Int × (List PV) × Int × Int × PV × PV) ⊕ ((Unit × (List PV) × (List PV) × Int × Int × PV × PV))) :=
  bif (decide (a22 < a21)) then
    bif inRange a22 a20.length then
    let x27 := ((a20.getD a22.toNat .bad).fld 8).asList
    bif decide (a16.length + [(PV.agg [(PV.slice x27), (PV.int (2 : Int))])].length ≤ accMax) then
    some (.inl ((), (a16 ++ [(PV.agg [(PV.slice x27), (PV.int (2 : Int))])]), a17, a18, a19, a20, a21, (IntKind.wrap .i64 (a22 + (1 : Int))), a23, a24))
    else none
    else none
  else
    some (.inr ((), a16, a17, a18, a19, a23, a24))

noncomputable def S31_8step (fuel : Nat) (x : Unit × (List PV) × (List PV) × Int × Int × (List PV) × Int × Int × PV × PV) : Option ((Unit × (List PV) × (List PV) × Int × Int × (List PV) × Int × Int × PV × PV) ⊕ ((Unit × (List PV) × (List PV) × Int × Int × PV × PV))) := S31_8 fuel x.1 x.2.1 x.2.2.1 x.2.2.2.1 x.2.2.2.2.1 x.2.2.2.2.2.1 x.2.2.2.2.2.2.1 x.2.2.2.2.2.2.2.1 x.2.2.2.2.2.2.2.2.1 x.2.2.2.2.2.2.2.2.2

noncomputable def S31_4 (fuel : Nat) (a3 : Unit) (a4 : List PV) (a5 : List PV) (a6 : Int) (a7 : Int) (a8 : PV) : Option ((Unit × (List PV) × (List PV) × Int × Int × PV) ⊕ ((Unit × (List PV) × PV))) :=
  bif (decide (a7 < a6)) then
    bif inRange a7 a5.length then
    let x10 := a5.getD a7.toNat .bad
    let x11 := (x10.fld 4).asList
    bif decide (a4.length + [(PV.agg [(PV.slice x11), (PV.int (1 : Int))])].length ≤ accMax) then
    let x13 := (x10.fld 1).asList
    (loopQ fuel (S31_8step fuel) ((), (a4 ++ [(PV.agg [(PV.slice x11), (PV.int (1 : Int))])]), a5, a6, a7, x13, (x13.length : Int), (0 : Int), a8, x10)).bind fun y30 =>
    some (.inl ((), y30.2.1, y30.2.2.1, y30.2.2.2.1, (IntKind.wrap .i64 (y30.2.2.2.2.1 + (1 : Int))), y30.2.2.2.2.2.1))
    else none
    else none
  else
    some (.inr ((), a4, a8))

noncomputable def S31_4step (fuel : Nat) (x : Unit × (List PV) × (List PV) × Int × Int × PV) : Option ((Unit × (List PV) × (List PV) × Int × Int × PV) ⊕ ((Unit × (List PV) × PV))) := S31_4 fuel x.1 x.2.1 x.2.2.1 x.2.2.2.1 x.2.2.2.2.1 x.2.2.2.2.2

noncomputable def S31_18 (fuel : Nat) (a47 : Unit) (a48 : List PV) (a49 : List PV) (a50 : Int) (a51 : Int) (a52 : List PV) (a53 : Int) (a54 : Int) (a55 : PV) (a56 : PV) : Option ((Unit × (List PV) × (List PV) × Int × Int × (List PV) × Int × Int × PV × PV) ⊕ ((Unit × (List PV) × (List PV) × Int × Int × PV × PV))) :=
  bif (decide (a54 < a53)) then
    bif inRange a54 a52.length then
    let x59 := ((a52.getD a54.toNat .bad).fld 2).asList
    bif decide (a48.length + [(PV.agg [(PV.slice x59), (PV.int (4 : Int))])].length ≤ accMax) then
    some (.inl ((), (a48 ++ [(PV.agg [(PV.slice x59), (PV.int (4 : Int))])]), a49, a50, a51, a52, a53, (IntKind.wrap .i64 (a54 + (1 : Int))), a55, a56))
    else none
    else none
  else
    some (.inr ((), a48, a49, a50, a51, a55, a56))

noncomputable def S31_18step (fuel : Nat) (x : Unit × (List PV) × (List PV) × Int × Int × (List PV) × Int × Int × PV × PV) : Option ((Unit × (List PV) × (List PV) × Int × Int × (List PV) × Int × Int × PV × PV) ⊕ ((Unit × (List PV) × (List PV) × Int × Int × PV × PV))) := S31_18 fuel x.1 x.2.1 x.2.2.1 x.2.2.2.1 x.2.2.2.2.1 x.2.2.2.2.2.1 x.2.2.2.2.2.2.1 x.2.2.2.2.2.2.2.1 x.2.2.2.2.2.2.2.2.1 x.2.2.2.2.2.2.2.2.2

noncomputable def S31_14 (fuel : Nat) (a35 : Unit) (a36 : List PV) (a37 : List PV) (a38 : Int) (a39 : Int) (a40 : PV) : Option ((Unit × (List PV) × (List PV) × Int × Int × PV) ⊕ ((Unit × (List PV) × PV))) :=
  bif (decide (a39 < a38)) then
    bif inRange a39 a37.length then
    let x42 := a37.getD a39.toNat .bad
    let x43 := (x42.fld 4).asList
    bif decide (a36.length + [(PV.agg [(PV.slice x43), (PV.int (3 : Int))])].length ≤ accMax) then
    let x45 := (x42.fld 2).asList
    (loopQ fuel (S31_18step fuel) ((), (a36 ++ [(PV.agg [(PV.slice x43), (PV.int (3 : Int))])]), a37, a38, a39, x45, (x45.length : Int), (0 : Int), a40, x42)).bind fun y62 =>
    some (.inl ((), y62.2.1, y62.2.2.1, y62.2.2.2.1, (IntKind.wrap .i64 (y62.2.2.2.2.1 + (1 : Int))), y62.2.2.2.2.2.1))
    else none
    else none
  else
    some (.inr ((), a36, a40))

noncomputable def S31_14step (fuel : Nat) (x : Unit × (List PV) × (List PV) × Int × Int × PV) : Option ((Unit × (List PV) × (List PV) × Int × Int × PV) ⊕ ((Unit × (List PV) × PV))) := S31_14 fuel x.1 x.2.1 x.2.2.1 x.2.2.2.1 x.2.2.2.2.1 x.2.2.2.2.2

noncomputable def S31_28 (fuel : Nat) (a78 : List PV) (a79 : List PV) (a80 : Int) (a81 : Int) (a82 : List PV) (a83 : Int) (a84 : Int) (a85 : PV) (a86 : PV) : Option (((List PV) × (List PV) × Int × Int × (List PV) × Int × Int × PV × PV) ⊕ (((List PV) × (List PV) × Int × Int × PV × PV))) :=
  bif (decide (a84 < a83)) then
    bif inRange a84 a82.length then
    let x89 := ((a82.getD a84.toNat .bad).fld 4).asList
    bif decide (a78.length + [(PV.agg [(PV.slice x89), (PV.int (6 : Int))])].length ≤ accMax) then
    some (.inl ((a78 ++ [(PV.agg [(PV.slice x89), (PV.int (6 : Int))])]), a79, a80, a81, a82, a83, (IntKind.wrap .i64 (a84 + (1 : Int))), a85, a86))
    else none
    else none
  else
    some (.inr (a78, a79, a80, a81, a85, a86))

noncomputable def S31_28step (fuel : Nat) (x : (List PV) × (List PV) × Int × Int × (List PV) × Int × Int × PV × PV) : Option (((List PV) × (List PV) × Int × Int × (List PV) × Int × Int × PV × PV) ⊕ (((List PV) × (List PV) × Int × Int × PV × PV))) := S31_28 fuel x.1 x.2.1 x.2.2.1 x.2.2.2.1 x.2.2.2.2.1 x.2.2.2.2.2.1 x.2.2.2.2.2.2.1 x.2.2.2.2.2.2.2.1 x.2.2.2.2.2.2.2.2

noncomputable def S31_24 (fuel : Nat) (a67 : List PV) (a68 : List PV) (a69 : Int) (a70 : Int) (a71 : PV) : Option (((List PV) × (List PV) × Int × Int × PV) ⊕ (((List PV) × PV))) :=
  bif (decide (a70 < a69)) then
    bif inRange a70 a68.length then
    let x73 := a68.getD a70.toNat .bad
    let x74 := (x73.fld 2).asList
    bif decide (a67.length + [(PV.agg [(PV.slice x74), (PV.int (5 : Int))])].length ≤ accMax) then
    let x76 := (x73.fld 1).asList
    (loopQ fuel (S31_28step fuel) ((a67 ++ [(PV.agg [(PV.slice x74), (PV.int (5 : Int))])]), a68, a69, a70, x76, (x76.length : Int), (0 : Int), a71, x73)).bind fun y92 =>
    some (.inl (y92.1, y92.2.1, y92.2.2.1, (IntKind.wrap .i64 (y92.2.2.2.1 + (1 : Int))), y92.2.2.2.2.1))
    else none
    else none
  else
    some (.inr (a67, a71))

noncomputable def S31_24step (fuel : Nat) (x : (List PV) × (List PV) × Int × Int × PV) : Option (((List PV) × (List PV) × Int × Int × PV) ⊕ (((List PV) × PV))) := S31_24 fuel x.1 x.2.1 x.2.2.1 x.2.2.2.1 x.2.2.2.2

/-- wireschema/format.notes -/
noncomputable def F31 (fuel : Nat) (a0 : PV) : Option ((List PV)) :=
  let x1 := (a0.fld 3).asList
  (loopQ fuel (S31_4step fuel) ((), [], x1, (x1.length : Int), (0 : Int), a0)).bind fun y32 =>
  let x33 := (y32.2.2.fld 4).asList
  (loopQ fuel (S31_14step fuel) ((), y32.2.1, x33, (x33.length : Int), (0 : Int), y32.2.2)).bind fun y64 =>
  let x65 := (y64.2.2.fld 5).asList
  (loopQ fuel (S31_24step fuel) (y64.2.1, x65, (x65.length : Int), (0 : Int), y64.2.2)).bind fun y94 =>
  some y94.1

noncomputable def S31_8l (fuel : Nat) : LoopE := { key := 8, H := ⟨[1, 3, 17, 18, 19, 30, 31, 32], [.box 27 .leaf, .acc, .box 61 .leaf], [(.con (.ref 0 [] 27)), (.acc 1 71), (.slice 61), (.int .i64), (.int .i64), (.slice 45), (.int .i64), (.int .i64), (.data 27), (.data 61)]⟩, X := [(.exit 2, ⟨[1, 3, 17, 18, 19], [.box 27 .leaf, .acc, .box 61 .leaf], [(.con (.ref 0 [] 27)), (.acc 1 71), (.slice 61), (.int .i64), (.int .i64), (.data 27), (.data 61)]⟩)], step := S31_8step fuel }

noncomputable def S31_4l (fuel : Nat) : LoopE := { key := 4, H := ⟨[1, 3, 17, 18, 19], [.box 27 .leaf, .acc], [(.con (.ref 0 [] 27)), (.acc 1 71), (.slice 61), (.int .i64), (.int .i64), (.data 27)]⟩, X := [(.exit 0, ⟨[1, 3], [.box 27 .leaf, .acc], [(.con (.ref 0 [] 27)), (.acc 1 71), (.data 27)]⟩)], step := S31_4step fuel }

noncomputable def S31_18l (fuel : Nat) : LoopE := { key := 18, H := ⟨[1, 3, 45, 46, 47, 58, 59, 60], [.box 27 .leaf, .acc, .box 64 .leaf], [(.con (.ref 0 [] 27)), (.acc 1 71), (.slice 64), (.int .i64), (.int .i64), (.slice 106), (.int .i64), (.int .i64), (.data 27), (.data 64)]⟩, X := [(.exit 6, ⟨[1, 3, 45, 46, 47], [.box 27 .leaf, .acc, .box 64 .leaf], [(.con (.ref 0 [] 27)), (.acc 1 71), (.slice 64), (.int .i64), (.int .i64), (.data 27), (.data 64)]⟩)], step := S31_18step fuel }

noncomputable def S31_14l (fuel : Nat) : LoopE := { key := 14, H := ⟨[1, 3, 45, 46, 47], [.box 27 .leaf, .acc], [(.con (.ref 0 [] 27)), (.acc 1 71), (.slice 64), (.int .i64), (.int .i64), (.data 27)]⟩, X := [(.exit 4, ⟨[1, 3], [.box 27 .leaf, .acc], [(.con (.ref 0 [] 27)), (.acc 1 71), (.data 27)]⟩)], step := S31_14step fuel }

noncomputable def S31_28l (fuel : Nat) : LoopE := { key := 28, H := ⟨[3, 73, 74, 75, 86, 87, 88], [.box 27 .leaf, .acc, .box 67 .leaf], [(.acc 1 71), (.slice 67), (.int .i64), (.int .i64), (.slice 112), (.int .i64), (.int .i64), (.data 27), (.data 67)]⟩, X := [(.exit 10, ⟨[3, 73, 74, 75], [.box 27 .leaf, .acc, .box 67 .leaf], [(.acc 1 71), (.slice 67), (.int .i64), (.int .i64), (.data 27), (.data 67)]⟩)], step := S31_28step fuel }

noncomputable def S31_24l (fuel : Nat) : LoopE := { key := 24, H := ⟨[3, 73, 74, 75], [.box 27 .leaf, .acc], [(.acc 1 71), (.slice 67), (.int .i64), (.int .i64), (.data 27)]⟩, X := [(.exit 8, ⟨[3], [.box 27 .leaf, .acc], [(.acc 1 71), (.data 27)]⟩)], step := S31_24step fuel }

noncomputable def F31C (fuel : Nat) : Cfg := cfg Tryz.prog 101 0 [] [S31_8l fuel, S31_4l fuel, S31_18l fuel, S31_14l fuel, S31_28l fuel, S31_24l fuel] fuel

noncomputable def F31c (fuel : Nat) : CallE := { f := 31, A := ⟨1, [], [(.data 27)]⟩, R := ⟨1, [], [(.slice 71)]⟩, F := fun x => F31 fuel x, dflt := [] }

theorem F31k (fuel : Nat) : CallOk (F31C fuel) := cfg_callOk (callsN)

theorem S31_8ok (fuel : Nat) : LoopOk (F31C fuel) (lp (lp (bodyOf Tryz.f31) 0) 0) := loopOk_of (F31k fuel) fuel (S31_8l fuel) (loops0 (by kernel_rfl)) (by kernel_rfl) (fun x => by kernel_rfl) (fun R e st K => by kernel_rfl)

theorem S31_4ok (fuel : Nat) : LoopOk (F31C fuel) (lp (bodyOf Tryz.f31) 0) := loopOk_of (F31k fuel) fuel (S31_4l fuel) (loopsN 1 (by kernel_rfl) fun i hi => match i, hi with | 0, _ => S31_8ok fuel | n + 1, h => absurd h (by omega)) (by kernel_rfl) (fun x => by kernel_rfl) (fun R e st K => by kernel_rfl)

theorem S31_18ok (fuel : Nat) : LoopOk (F31C fuel) (lp (lp (bodyOf Tryz.f31) 1) 0) := loopOk_of (F31k fuel) fuel (S31_18l fuel) (loops0 (by kernel_rfl)) (by kernel_rfl) (fun x => by kernel_rfl) (fun R e st K => by kernel_rfl)

theorem S31_14ok (fuel : Nat) : LoopOk (F31C fuel) (lp (bodyOf Tryz.f31) 1) := loopOk_of (F31k fuel) fuel (S31_14l fuel) (loopsN 1 (by kernel_rfl) fun i hi => match i, hi with | 0, _ => S31_18ok fuel | n + 1, h => absurd h (by omega)) (by kernel_rfl) (fun x => by kernel_rfl) (fun R e st K => by kernel_rfl)

theorem S31_28ok (fuel : Nat) : LoopOk (F31C fuel) (lp (lp (bodyOf Tryz.f31) 2) 0) := loopOk_of (F31k fuel) fuel (S31_28l fuel) (loops0 (by kernel_rfl)) (by kernel_rfl) (fun x => by kernel_rfl) (fun R e st K => by kernel_rfl)

theorem S31_24ok (fuel : Nat) : LoopOk (F31C fuel) (lp (bodyOf Tryz.f31) 2) := loopOk_of (F31k fuel) fuel (S31_24l fuel) (loopsN 1 (by kernel_rfl) fun i hi => match i, hi with | 0, _ => S31_28ok fuel | n + 1, h => absurd h (by omega)) (by kernel_rfl) (fun x => by kernel_rfl) (fun R e st K => by kernel_rfl)

theorem F31ok (fuel : Nat) : (F31c fuel).Ok Tryz.prog := fun x y h => meets_of (F31k fuel) (f := 31) (fn := Tryz.f31) (c := bodyOf Tryz.f31) (by kernel_rfl) (by kernel_rfl) (by kernel_rfl) (by kernel_rfl) (loopsN 3 (by kernel_rfl) fun i hi => match i, hi with | 0, _ => S31_4ok fuel | 1, _ => S31_14ok fuel | 2, _ => S31_24ok fuel | n + 3, h => absurd h (by omega)) (A := (F31c fuel).A) (R := (F31c fuel).R) (F := (F31c fuel).F) (fun x => by kernel_rfl) (fun x => by kernel_rfl) x y h

/-- wireschema/note.known -/
noncomputable def F203 (fuel : Nat)  : Option ((List (PV × PV))) :=
  some (PV.mput (PV.mput (PV.mput (PV.mput (PV.mput (PV.mput (PV.mput (PV.mput (PV.mput (PV.mput (PV.mput (PV.mput (PV.mput [] (PV.str ([100, 101, 112, 114, 101, 99, 97, 116, 101, 100] : List UInt8)) (PV.agg [(PV.int (1 : Int)), (PV.int (126 : Int))])) (PV.str ([100, 111, 99] : List UInt8)) (PV.agg [(PV.int (7 : Int)), (PV.int (126 : Int))])) (PV.str ([97, 108, 105, 97, 115] : List UInt8)) (PV.agg [(PV.int (7 : Int)), (PV.int (84 : Int))])) (PV.str ([115, 105, 110, 99, 101] : List UInt8)) (PV.agg [(PV.int (4 : Int)), (PV.int (84 : Int))])) (PV.str ([117, 110, 116, 105, 108] : List UInt8)) (PV.agg [(PV.int (4 : Int)), (PV.int (84 : Int))])) (PV.str ([109, 105, 110] : List UInt8)) (PV.agg [(PV.int (3 : Int)), (PV.int (4 : Int))])) (PV.str ([109, 97, 120] : List UInt8)) (PV.agg [(PV.int (3 : Int)), (PV.int (4 : Int))])) (PV.str ([108, 101, 110, 103, 116, 104] : List UInt8)) (PV.agg [(PV.int (4 : Int)), (PV.int (4 : Int))])) (PV.str ([115, 101, 99, 114, 101, 116] : List UInt8)) (PV.agg [(PV.int (1 : Int)), (PV.int (4 : Int))])) (PV.str ([105, 100, 101, 109, 112, 111, 116, 101, 110, 116] : List UInt8)) (PV.agg [(PV.int (1 : Int)), (PV.int (64 : Int))])) (PV.str ([116, 105, 109, 101, 111, 117, 116] : List UInt8)) (PV.agg [(PV.int (4 : Int)), (PV.int (64 : Int))])) (PV.str ([114, 111, 117, 116, 101] : List UInt8)) (PV.agg [(PV.int (7 : Int)), (PV.int (64 : Int))])) (PV.str ([111, 119, 110, 101, 114] : List UInt8)) (PV.agg [(PV.int (7 : Int)), (PV.int (34 : Int))]))

noncomputable def F203C (fuel : Nat) : Cfg := cfg Tryz.prog 16 0 [] [] fuel

noncomputable def F203c (fuel : Nat) : CallE := { f := 203, A := ⟨0, [], []⟩, R := ⟨1, [], [(.map 9 181)]⟩, F := fun x => F203 fuel , dflt := [] }

theorem F203k (fuel : Nat) : CallOk (F203C fuel) := cfg_callOk (callsN)

theorem F203ok (fuel : Nat) : (F203c fuel).Ok Tryz.prog := fun x y h => meets_of (F203k fuel) (f := 203) (fn := Tryz.f203) (c := bodyOf Tryz.f203) (by kernel_rfl) (by kernel_rfl) (by kernel_rfl) (by kernel_rfl) (loops0 (by kernel_rfl)) (A := (F203c fuel).A) (R := (F203c fuel).R) (F := (F203c fuel).F) (fun x => by kernel_rfl) (fun x => by kernel_rfl) x y h

/-- wireschema/note.Kind -/
noncomputable def F271 (fuel : Nat) (a0 : List UInt8) : Option (Int) :=
  (F203 fuel).bind fun y1 =>
  let x2 := (PV.mget y1 (PV.str a0)).getD (PV.agg [(PV.int (0 : Int)), (PV.int (0 : Int))])
  some ((x2.fld 0).asInt)

noncomputable def F271C (fuel : Nat) : Cfg := cfg Tryz.prog 7 0 [F203c fuel] [] fuel

noncomputable def F271c (fuel : Nat) : CallE := { f := 271, A := ⟨1, [], [.str]⟩, R := ⟨1, [], [(.int .i64)]⟩, F := fun x => F271 fuel x, dflt := 0 }

theorem F271k (fuel : Nat) : CallOk (F271C fuel) := cfg_callOk (callsC (F203ok fuel) <| callsN)

theorem F271ok (fuel : Nat) : (F271c fuel).Ok Tryz.prog := fun x y h => meets_of (F271k fuel) (f := 271) (fn := Tryz.f271) (c := bodyOf Tryz.f271) (by kernel_rfl) (by kernel_rfl) (by kernel_rfl) (by kernel_rfl) (loops0 (by kernel_rfl)) (A := (F271c fuel).A) (R := (F271c fuel).R) (F := (F271c fuel).F) (fun x => by kernel_rfl) (fun x => by kernel_rfl) x y h

/-- wireschema/note.right -/
noncomputable def F204 (fuel : Nat) (a0 : PV) : Option (Bool) :=
  (F271 fuel ((a0.fld 0).asStr)).bind fun y2 =>
  let x3 := y2 != (0 : Int)
  (bif x3 then F51 fuel y2 (a0.fld 1) else some false).bind fun y5 =>
  some (bif x3 then y5 else false)

noncomputable def F204C (fuel : Nat) : Cfg := cfg Tryz.prog 15 0 [F271c fuel, F51c fuel] [] fuel

noncomputable def F204c (fuel : Nat) : CallE := { f := 204, A := ⟨1, [], [(.data 119)]⟩, R := ⟨1, [], [.bool]⟩, F := fun x => F204 fuel x, dflt := false }

theorem F204k (fuel : Nat) : CallOk (F204C fuel) := cfg_callOk (callsC (F271ok fuel) <| callsC (F51ok fuel) <| callsN)

theorem F204ok (fuel : Nat) : (F204c fuel).Ok Tryz.prog := fun x y h => meets_of (F204k fuel) (f := 204) (fn := Tryz.f204) (c := bodyOf Tryz.f204) (by kernel_rfl) (by kernel_rfl) (by kernel_rfl) (by kernel_rfl) (loops0 (by kernel_rfl)) (A := (F204c fuel).A) (R := (F204c fuel).R) (F := (F204c fuel).F) (fun x => by kernel_rfl) (fun x => by kernel_rfl) x y h

/-- wireschema/note.one -/
noncomputable def F98 (fuel : Nat) (a0 : PV) (a1 : Int) (a2 : List UInt8) (a3 : Bool) : Option (Int) :=
  (F203 fuel).bind fun y1 =>
  let x2 := (a0.fld 0).asStr
  let x3 := (PV.mget y1 (PV.str x2)).getD (PV.agg [(PV.int (0 : Int)), (PV.int (0 : Int))])
  bif (!(PV.mhas y1 (PV.str x2))) then
    some (8 : Int)
  else
    let x8 := bif (decide (a1 < (1 : Int))) then true else (decide (a1 > (6 : Int)))
    bif imp (!x8) (decide (0 ≤ a1)) then
    bif (bif x8 then true else ((bitsI .and .i64 (((x3.fld 1).asInt).fdiv (2 ^ (min a1.toNat (IntKind.bits .i64)))) (1 : Int)) == (0 : Int))) then
      some (1 : Int)
    else
      (F204 fuel a0).bind fun y14 =>
      bif (!y14) then
        some (12 : Int)
      else
        bif (bif a3 then (Op.bytesLess ((a0.fld 0).asStr) a2) else false) then
          some (11 : Int)
        else
          bif (bif a3 then (((a0.fld 0).asStr) == a2) else false) then
            some (9 : Int)
          else
            some (0 : Int)
    else none

noncomputable def F98C (fuel : Nat) : Cfg := cfg Tryz.prog 56 0 [F203c fuel, F204c fuel] [] fuel

noncomputable def F98c (fuel : Nat) : CallE := { f := 98, A := ⟨4, [], [(.data 119), (.int .i64), .str, .bool]⟩, R := ⟨1, [], [(.int .i64)]⟩, F := fun x => F98 fuel x.1 x.2.1 x.2.2.1 x.2.2.2, dflt := 0 }

theorem F98k (fuel : Nat) : CallOk (F98C fuel) := cfg_callOk (callsC (F203ok fuel) <| callsC (F204ok fuel) <| callsN)

theorem F98ok (fuel : Nat) : (F98c fuel).Ok Tryz.prog := fun x y h => meets_of (F98k fuel) (f := 98) (fn := Tryz.f98) (c := bodyOf Tryz.f98) (by kernel_rfl) (by kernel_rfl) (by kernel_rfl) (by kernel_rfl) (loops0 (by kernel_rfl)) (A := (F98c fuel).A) (R := (F98c fuel).R) (F := (F98c fuel).F) (fun x => by kernel_rfl) (fun x => by kernel_rfl) x y h

noncomputable def S32_6 (fuel : Nat) (a4 : Int) (a5 : List UInt8) (a6 : List PV) (a7 : Int) (a8 : Int) : Option ((Int × (List UInt8) × (List PV) × Int × Int) ⊕ ((Int) ⊕ (Unit))) :=
  bif (decide (a8 < a7)) then
    bif inRange a8 a6.length then
    let x10 := a6.getD a8.toNat .bad
    (F98 fuel x10 a4 a5 (decide (a8 > (0 : Int)))).bind fun y12 =>
    bif (y12 != (0 : Int)) then
      some (.inr (.inl y12))
    else
      some (.inl (a4, ((x10.fld 0).asStr), a6, a7, (IntKind.wrap .i64 (a8 + (1 : Int)))))
    else none
  else
    some (.inr (.inr ()))

noncomputable def S32_6step (fuel : Nat) (x : Int × (List UInt8) × (List PV) × Int × Int) : Option ((Int × (List UInt8) × (List PV) × Int × Int) ⊕ ((Int) ⊕ (Unit))) := S32_6 fuel x.1 x.2.1 x.2.2.1 x.2.2.2.1 x.2.2.2.2

/-- wireschema/note.Check -/
noncomputable def F32 (fuel : Nat) (a0 : List PV) (a1 : Int) : Option (Int) :=
  bif (decide ((a0.length : Int) > (8 : Int))) then
    some (3 : Int)
  else
    (loopQ fuel (S32_6step fuel) (a1, ([] : List UInt8), a0, (a0.length : Int), (0 : Int))).bind fun z => sumE (fun y16 =>
      some y16
    ) (fun y17 =>
      some (0 : Int)
    ) z

noncomputable def S32_6l (fuel : Nat) : LoopE := { key := 6, H := ⟨[1, 5, 12, 13, 14], [], [(.int .i64), .str, (.slice 119), (.int .i64), (.int .i64)]⟩, X := [(.ret, ⟨[4], [], [(.int .i64)]⟩), (.exit 0, ⟨[], [], []⟩)], step := S32_6step fuel }

noncomputable def F32C (fuel : Nat) : Cfg := cfg Tryz.prog 31 0 [F98c fuel] [S32_6l fuel] fuel

noncomputable def F32c (fuel : Nat) : CallE := { f := 32, A := ⟨2, [], [(.slice 119), (.int .i64)]⟩, R := ⟨1, [], [(.int .i64)]⟩, F := fun x => F32 fuel x.1 x.2, dflt := 0 }

theorem F32k (fuel : Nat) : CallOk (F32C fuel) := cfg_callOk (callsC (F98ok fuel) <| callsN)

theorem S32_6ok (fuel : Nat) : LoopOk (F32C fuel) (lp (bodyOf Tryz.f32) 0) := loopOk_of (F32k fuel) fuel (S32_6l fuel) (loops0 (by kernel_rfl)) (by kernel_rfl) (fun x => by kernel_rfl) (fun R e st K => by kernel_rfl)

theorem F32ok (fuel : Nat) : (F32c fuel).Ok Tryz.prog := fun x y h => meets_of (F32k fuel) (f := 32) (fn := Tryz.f32) (c := bodyOf Tryz.f32) (by kernel_rfl) (by kernel_rfl) (by kernel_rfl) (by kernel_rfl) (loopsN 1 (by kernel_rfl) fun i hi => match i, hi with | 0, _ => S32_6ok fuel | n + 1, h => absurd h (by omega)) (A := (F32c fuel).A) (R := (F32c fuel).R) (F := (F32c fuel).F) (fun x => by kernel_rfl) (fun x => by kernel_rfl) x y h

/-- wireschema/format.counts$1 -/
noncomputable def F99 (fuel : Nat) (a0 : PV) : Option (Bool) :=
  let x5 := (((a0.fld 2).asList).length : Int)
  let x7 := (((a0.fld 3).asList).length : Int)
  some (bif (decide ((((a0.fld 1).asList).length : Int) ≤ (64 : Int))) then (decide ((if x7 > x5 then x7 else x5) ≤ (16 : Int))) else false)

noncomputable def F99C (fuel : Nat) : Cfg := cfg Tryz.prog 17 0 [] [] fuel

noncomputable def F99c (fuel : Nat) : CallE := { f := 99, A := ⟨1, [], [(.data 61)]⟩, R := ⟨1, [], [.bool]⟩, F := fun x => F99 fuel x, dflt := false }

theorem F99k (fuel : Nat) : CallOk (F99C fuel) := cfg_callOk (callsN)

theorem F99ok (fuel : Nat) : (F99c fuel).Ok Tryz.prog := fun x y h => meets_of (F99k fuel) (f := 99) (fn := Tryz.f99) (c := bodyOf Tryz.f99) (by kernel_rfl) (by kernel_rfl) (by kernel_rfl) (by kernel_rfl) (loops0 (by kernel_rfl)) (A := (F99c fuel).A) (R := (F99c fuel).R) (F := (F99c fuel).F) (fun x => by kernel_rfl) (fun x => by kernel_rfl) x y h

/-- wireschema/format.every[wireschema/api.Message]$1 -/
noncomputable def F184_v3 (fuel : Nat) (a0 : PV) (a1 : Unit) (a2 : Unit) : Option (Bool × Unit) :=
  (F99 fuel a0).bind fun y1 =>
  some ((!y1), ())

noncomputable def F184_v3C (fuel : Nat) : Cfg := cfg Tryz.prog 8 1 [F99c fuel] [] fuel

noncomputable def F184_v3c (fuel : Nat) : CallE := { f := 184, A := ⟨2, [.box 102 .leaf], [(.data 61), (.con (.ref 0 [] 102)), (.con (.fn 99 0 []))]⟩, R := ⟨1, [.box 102 .leaf], [.bool, (.con (.fn 99 0 []))]⟩, F := fun x => F184_v3 fuel x.1 x.2.1 x.2.2, dflt := (false, ()) }

theorem F184_v3k (fuel : Nat) : CallOk (F184_v3C fuel) := cfg_callOk (callsC (F99ok fuel) <| callsN)

theorem F184_v3ok (fuel : Nat) : (F184_v3c fuel).Ok Tryz.prog := fun x y h => meets_of (F184_v3k fuel) (f := 184) (fn := Tryz.f184) (c := bodyOf Tryz.f184) (by kernel_rfl) (by kernel_rfl) (by kernel_rfl) (by kernel_rfl) (loops0 (by kernel_rfl)) (A := (F184_v3c fuel).A) (R := (F184_v3c fuel).R) (F := (F184_v3c fuel).F) (fun x => by kernel_rfl) (fun x => by kernel_rfl) x y h

noncomputable def S260_v3_3 (fuel : Nat) (a2 : List PV) (a3 : Unit) (a4 : Int) (a5 : Int) (a6 : Unit) : Option (((List PV) × Unit × Int × Int × Unit) ⊕ ((Int × Unit) ⊕ (Unit))) :=
  bif (decide (a5 < a4)) then
    bif inRange a5 a2.length then
    (F184_v3 fuel (a2.getD a5.toNat .bad) () ()).bind fun y9 =>
    bif y9.1 then
      some (.inr (.inl (a5, ())))
    else
      some (.inl (a2, (), a4, (IntKind.wrap .i64 (a5 + (1 : Int))), ()))
    else none
  else
    some (.inr (.inr ()))

noncomputable def S260_v3_3step (fuel : Nat) (x : (List PV) × Unit × Int × Int × Unit) : Option (((List PV) × Unit × Int × Int × Unit) ⊕ ((Int × Unit) ⊕ (Unit))) := S260_v3_3 fuel x.1 x.2.1 x.2.2.1 x.2.2.2.1 x.2.2.2.2

/-- slices.IndexFunc[[]wireschema/api.Message,wireschema/api.Message] -/
noncomputable def F260_v3 (fuel : Nat) (a0 : List PV) (a1 : Unit) (a2 : Unit) : Option (Int × Unit) :=
  (loopQ fuel (S260_v3_3step fuel) (a0, (), (a0.length : Int), (0 : Int), ())).bind fun z => sumE (fun y11 =>
    some (y11.1, ())
  ) (fun y12 =>
    some ((-1 : Int), ())
  ) z

noncomputable def S260_v3_3l (fuel : Nat) : LoopE := { key := 3, H := ⟨[0, 1, 7, 8], [.box 102 .leaf], [(.slice 61), (.con (.fn 184 0 [(.ref 0 [] 102)])), (.int .i64), (.int .i64), (.con (.fn 99 0 []))]⟩, X := [(.ret, ⟨[4], [.box 102 .leaf], [(.int .i64), (.con (.fn 99 0 []))]⟩), (.exit 0, ⟨[], [.box 102 .leaf], [(.con (.fn 99 0 []))]⟩)], step := S260_v3_3step fuel }

noncomputable def F260_v3C (fuel : Nat) : Cfg := cfg Tryz.prog 19 1 [F184_v3c fuel] [S260_v3_3l fuel] fuel

noncomputable def F260_v3c (fuel : Nat) : CallE := { f := 260, A := ⟨2, [.box 102 .leaf], [(.slice 61), (.con (.fn 184 0 [(.ref 0 [] 102)])), (.con (.fn 99 0 []))]⟩, R := ⟨1, [.box 102 .leaf], [(.int .i64), (.con (.fn 99 0 []))]⟩, F := fun x => F260_v3 fuel x.1 x.2.1 x.2.2, dflt := (0, ()) }

theorem F260_v3k (fuel : Nat) : CallOk (F260_v3C fuel) := cfg_callOk (callsC (F184_v3ok fuel) <| callsN)

theorem S260_v3_3ok (fuel : Nat) : LoopOk (F260_v3C fuel) (lp (bodyOf Tryz.f260) 0) := loopOk_of (F260_v3k fuel) fuel (S260_v3_3l fuel) (loops0 (by kernel_rfl)) (by kernel_rfl) (fun x => by kernel_rfl) (fun R e st K => by kernel_rfl)

theorem F260_v3ok (fuel : Nat) : (F260_v3c fuel).Ok Tryz.prog := fun x y h => meets_of (F260_v3k fuel) (f := 260) (fn := Tryz.f260) (c := bodyOf Tryz.f260) (by kernel_rfl) (by kernel_rfl) (by kernel_rfl) (by kernel_rfl) (loopsN 1 (by kernel_rfl) fun i hi => match i, hi with | 0, _ => S260_v3_3ok fuel | n + 1, h => absurd h (by omega)) (A := (F260_v3c fuel).A) (R := (F260_v3c fuel).R) (F := (F260_v3c fuel).F) (fun x => by kernel_rfl) (fun x => by kernel_rfl) x y h

/-- slices.ContainsFunc[[]wireschema/api.Message,wireschema/api.Message] -/
noncomputable def F183_v3 (fuel : Nat) (a0 : List PV) (a1 : Unit) (a2 : Unit) : Option (Bool × Unit) :=
  (F260_v3 fuel a0 () ()).bind fun y1 =>
  some ((decide (y1.1 ≥ (0 : Int))), ())

noncomputable def F183_v3C (fuel : Nat) : Cfg := cfg Tryz.prog 9 1 [F260_v3c fuel] [] fuel

noncomputable def F183_v3c (fuel : Nat) : CallE := { f := 183, A := ⟨2, [.box 102 .leaf], [(.slice 61), (.con (.fn 184 0 [(.ref 0 [] 102)])), (.con (.fn 99 0 []))]⟩, R := ⟨1, [.box 102 .leaf], [.bool, (.con (.fn 99 0 []))]⟩, F := fun x => F183_v3 fuel x.1 x.2.1 x.2.2, dflt := (false, ()) }

theorem F183_v3k (fuel : Nat) : CallOk (F183_v3C fuel) := cfg_callOk (callsC (F260_v3ok fuel) <| callsN)

theorem F183_v3ok (fuel : Nat) : (F183_v3c fuel).Ok Tryz.prog := fun x y h => meets_of (F183_v3k fuel) (f := 183) (fn := Tryz.f183) (c := bodyOf Tryz.f183) (by kernel_rfl) (by kernel_rfl) (by kernel_rfl) (by kernel_rfl) (loops0 (by kernel_rfl)) (A := (F183_v3c fuel).A) (R := (F183_v3c fuel).R) (F := (F183_v3c fuel).F) (fun x => by kernel_rfl) (fun x => by kernel_rfl) x y h

/-- wireschema/format.every[wireschema/api.Message] -/
noncomputable def F73_v3 (fuel : Nat) (a0 : List PV) (a1 : Unit) : Option (Bool) :=
  (F183_v3 fuel a0 () ()).bind fun y1 =>
  some (!y1.1)

noncomputable def F73_v3C (fuel : Nat) : Cfg := cfg Tryz.prog 9 0 [F183_v3c fuel] [] fuel

noncomputable def F73_v3c (fuel : Nat) : CallE := { f := 73, A := ⟨2, [], [(.slice 61), (.con (.fn 99 0 []))]⟩, R := ⟨1, [], [.bool]⟩, F := fun x => F73_v3 fuel x.1 x.2, dflt := false }

theorem F73_v3k (fuel : Nat) : CallOk (F73_v3C fuel) := cfg_callOk (callsC (F183_v3ok fuel) <| callsN)

theorem F73_v3ok (fuel : Nat) : (F73_v3c fuel).Ok Tryz.prog := fun x y h => meets_of (F73_v3k fuel) (f := 73) (fn := Tryz.f73) (c := bodyOf Tryz.f73) (by kernel_rfl) (by kernel_rfl) (by kernel_rfl) (by kernel_rfl) (loops0 (by kernel_rfl)) (A := (F73_v3c fuel).A) (R := (F73_v3c fuel).R) (F := (F73_v3c fuel).F) (fun x => by kernel_rfl) (fun x => by kernel_rfl) x y h

/-- wireschema/format.counts$2 -/
noncomputable def F100 (fuel : Nat) (a0 : PV) : Option (Bool) :=
  some (bif (decide ((((a0.fld 2).asList).length : Int) ≤ (64 : Int))) then (decide ((((a0.fld 3).asList).length : Int) ≤ (16 : Int))) else false)

noncomputable def F100C (fuel : Nat) : Cfg := cfg Tryz.prog 13 0 [] [] fuel

noncomputable def F100c (fuel : Nat) : CallE := { f := 100, A := ⟨1, [], [(.data 64)]⟩, R := ⟨1, [], [.bool]⟩, F := fun x => F100 fuel x, dflt := false }

theorem F100k (fuel : Nat) : CallOk (F100C fuel) := cfg_callOk (callsN)

theorem F100ok (fuel : Nat) : (F100c fuel).Ok Tryz.prog := fun x y h => meets_of (F100k fuel) (f := 100) (fn := Tryz.f100) (c := bodyOf Tryz.f100) (by kernel_rfl) (by kernel_rfl) (by kernel_rfl) (by kernel_rfl) (loops0 (by kernel_rfl)) (A := (F100c fuel).A) (R := (F100c fuel).R) (F := (F100c fuel).F) (fun x => by kernel_rfl) (fun x => by kernel_rfl) x y h

/-- wireschema/format.every[wireschema/api.Enum]$1 -/
noncomputable def F190_v2 (fuel : Nat) (a0 : PV) (a1 : Unit) (a2 : Unit) : Option (Bool × Unit) :=
  (F100 fuel a0).bind fun y1 =>
  some ((!y1), ())

noncomputable def F190_v2C (fuel : Nat) : Cfg := cfg Tryz.prog 8 1 [F100c fuel] [] fuel

noncomputable def F190_v2c (fuel : Nat) : CallE := { f := 190, A := ⟨2, [.box 108 .leaf], [(.data 64), (.con (.ref 0 [] 108)), (.con (.fn 100 0 []))]⟩, R := ⟨1, [.box 108 .leaf], [.bool, (.con (.fn 100 0 []))]⟩, F := fun x => F190_v2 fuel x.1 x.2.1 x.2.2, dflt := (false, ()) }

theorem F190_v2k (fuel : Nat) : CallOk (F190_v2C fuel) := cfg_callOk (callsC (F100ok fuel) <| callsN)

theorem F190_v2ok (fuel : Nat) : (F190_v2c fuel).Ok Tryz.prog := fun x y h => meets_of (F190_v2k fuel) (f := 190) (fn := Tryz.f190) (c := bodyOf Tryz.f190) (by kernel_rfl) (by kernel_rfl) (by kernel_rfl) (by kernel_rfl) (loops0 (by kernel_rfl)) (A := (F190_v2c fuel).A) (R := (F190_v2c fuel).R) (F := (F190_v2c fuel).F) (fun x => by kernel_rfl) (fun x => by kernel_rfl) x y h

noncomputable def S263_v2_3 (fuel : Nat) (a2 : List PV) (a3 : Unit) (a4 : Int) (a5 : Int) (a6 : Unit) : Option (((List PV) × Unit × Int × Int × Unit) ⊕ ((Int × Unit) ⊕ (Unit))) :=
  bif (decide (a5 < a4)) then
    bif inRange a5 a2.length then
    (F190_v2 fuel (a2.getD a5.toNat .bad) () ()).bind fun y9 =>
    bif y9.1 then
      some (.inr (.inl (a5, ())))
    else
      some (.inl (a2, (), a4, (IntKind.wrap .i64 (a5 + (1 : Int))), ()))
    else none
  else
    some (.inr (.inr ()))

noncomputable def S263_v2_3step (fuel : Nat) (x : (List PV) × Unit × Int × Int × Unit) : Option (((List PV) × Unit × Int × Int × Unit) ⊕ ((Int × Unit) ⊕ (Unit))) := S263_v2_3 fuel x.1 x.2.1 x.2.2.1 x.2.2.2.1 x.2.2.2.2

/-- slices.IndexFunc[[]wireschema/api.Enum,wireschema/api.Enum] -/
noncomputable def F263_v2 (fuel : Nat) (a0 : List PV) (a1 : Unit) (a2 : Unit) : Option (Int × Unit) :=
  (loopQ fuel (S263_v2_3step fuel) (a0, (), (a0.length : Int), (0 : Int), ())).bind fun z => sumE (fun y11 =>
    some (y11.1, ())
  ) (fun y12 =>
    some ((-1 : Int), ())
  ) z

noncomputable def S263_v2_3l (fuel : Nat) : LoopE := { key := 3, H := ⟨[0, 1, 7, 8], [.box 108 .leaf], [(.slice 64), (.con (.fn 190 0 [(.ref 0 [] 108)])), (.int .i64), (.int .i64), (.con (.fn 100 0 []))]⟩, X := [(.ret, ⟨[4], [.box 108 .leaf], [(.int .i64), (.con (.fn 100 0 []))]⟩), (.exit 0, ⟨[], [.box 108 .leaf], [(.con (.fn 100 0 []))]⟩)], step := S263_v2_3step fuel }

noncomputable def F263_v2C (fuel : Nat) : Cfg := cfg Tryz.prog 19 1 [F190_v2c fuel] [S263_v2_3l fuel] fuel

noncomputable def F263_v2c (fuel : Nat) : CallE := { f := 263, A := ⟨2, [.box 108 .leaf], [(.slice 64), (.con (.fn 190 0 [(.ref 0 [] 108)])), (.con (.fn 100 0 []))]⟩, R := ⟨1, [.box 108 .leaf], [(.int .i64), (.con (.fn 100 0 []))]⟩, F := fun x => F263_v2 fuel x.1 x.2.1 x.2.2, dflt := (0, ()) }

theorem F263_v2k (fuel : Nat) : CallOk (F263_v2C fuel) := cfg_callOk (callsC (F190_v2ok fuel) <| callsN)

theorem S263_v2_3ok (fuel : Nat) : LoopOk (F263_v2C fuel) (lp (bodyOf Tryz.f263) 0) := loopOk_of (F263_v2k fuel) fuel (S263_v2_3l fuel) (loops0 (by kernel_rfl)) (by kernel_rfl) (fun x => by kernel_rfl) (fun R e st K => by kernel_rfl)

theorem F263_v2ok (fuel : Nat) : (F263_v2c fuel).Ok Tryz.prog := fun x y h => meets_of (F263_v2k fuel) (f := 263) (fn := Tryz.f263) (c := bodyOf Tryz.f263) (by kernel_rfl) (by kernel_rfl) (by kernel_rfl) (by kernel_rfl) (loopsN 1 (by kernel_rfl) fun i hi => match i, hi with | 0, _ => S263_v2_3ok fuel | n + 1, h => absurd h (by omega)) (A := (F263_v2c fuel).A) (R := (F263_v2c fuel).R) (F := (F263_v2c fuel).F) (fun x => by kernel_rfl) (fun x => by kernel_rfl) x y h

/-- slices.ContainsFunc[[]wireschema/api.Enum,wireschema/api.Enum] -/
noncomputable def F189_v2 (fuel : Nat) (a0 : List PV) (a1 : Unit) (a2 : Unit) : Option (Bool × Unit) :=
  (F263_v2 fuel a0 () ()).bind fun y1 =>
  some ((decide (y1.1 ≥ (0 : Int))), ())

noncomputable def F189_v2C (fuel : Nat) : Cfg := cfg Tryz.prog 9 1 [F263_v2c fuel] [] fuel

noncomputable def F189_v2c (fuel : Nat) : CallE := { f := 189, A := ⟨2, [.box 108 .leaf], [(.slice 64), (.con (.fn 190 0 [(.ref 0 [] 108)])), (.con (.fn 100 0 []))]⟩, R := ⟨1, [.box 108 .leaf], [.bool, (.con (.fn 100 0 []))]⟩, F := fun x => F189_v2 fuel x.1 x.2.1 x.2.2, dflt := (false, ()) }

theorem F189_v2k (fuel : Nat) : CallOk (F189_v2C fuel) := cfg_callOk (callsC (F263_v2ok fuel) <| callsN)

theorem F189_v2ok (fuel : Nat) : (F189_v2c fuel).Ok Tryz.prog := fun x y h => meets_of (F189_v2k fuel) (f := 189) (fn := Tryz.f189) (c := bodyOf Tryz.f189) (by kernel_rfl) (by kernel_rfl) (by kernel_rfl) (by kernel_rfl) (loops0 (by kernel_rfl)) (A := (F189_v2c fuel).A) (R := (F189_v2c fuel).R) (F := (F189_v2c fuel).F) (fun x => by kernel_rfl) (fun x => by kernel_rfl) x y h

/-- wireschema/format.every[wireschema/api.Enum] -/
noncomputable def F79_v2 (fuel : Nat) (a0 : List PV) (a1 : Unit) : Option (Bool) :=
  (F189_v2 fuel a0 () ()).bind fun y1 =>
  some (!y1.1)

noncomputable def F79_v2C (fuel : Nat) : Cfg := cfg Tryz.prog 9 0 [F189_v2c fuel] [] fuel

noncomputable def F79_v2c (fuel : Nat) : CallE := { f := 79, A := ⟨2, [], [(.slice 64), (.con (.fn 100 0 []))]⟩, R := ⟨1, [], [.bool]⟩, F := fun x => F79_v2 fuel x.1 x.2, dflt := false }

theorem F79_v2k (fuel : Nat) : CallOk (F79_v2C fuel) := cfg_callOk (callsC (F189_v2ok fuel) <| callsN)

theorem F79_v2ok (fuel : Nat) : (F79_v2c fuel).Ok Tryz.prog := fun x y h => meets_of (F79_v2k fuel) (f := 79) (fn := Tryz.f79) (c := bodyOf Tryz.f79) (by kernel_rfl) (by kernel_rfl) (by kernel_rfl) (by kernel_rfl) (loops0 (by kernel_rfl)) (A := (F79_v2c fuel).A) (R := (F79_v2c fuel).R) (F := (F79_v2c fuel).F) (fun x => by kernel_rfl) (fun x => by kernel_rfl) x y h

/-- wireschema/format.counts$3 -/
noncomputable def F101 (fuel : Nat) (a0 : PV) : Option (Bool) :=
  some (decide ((((a0.fld 1).asList).length : Int) ≤ (64 : Int)))

noncomputable def F101C (fuel : Nat) : Cfg := cfg Tryz.prog 7 0 [] [] fuel

noncomputable def F101c (fuel : Nat) : CallE := { f := 101, A := ⟨1, [], [(.data 67)]⟩, R := ⟨1, [], [.bool]⟩, F := fun x => F101 fuel x, dflt := false }

theorem F101k (fuel : Nat) : CallOk (F101C fuel) := cfg_callOk (callsN)

theorem F101ok (fuel : Nat) : (F101c fuel).Ok Tryz.prog := fun x y h => meets_of (F101k fuel) (f := 101) (fn := Tryz.f101) (c := bodyOf Tryz.f101) (by kernel_rfl) (by kernel_rfl) (by kernel_rfl) (by kernel_rfl) (loops0 (by kernel_rfl)) (A := (F101c fuel).A) (R := (F101c fuel).R) (F := (F101c fuel).F) (fun x => by kernel_rfl) (fun x => by kernel_rfl) x y h

/-- wireschema/format.every[wireschema/api.Service]$1 -/
noncomputable def F194_v2 (fuel : Nat) (a0 : PV) (a1 : Unit) (a2 : Unit) : Option (Bool × Unit) :=
  (F101 fuel a0).bind fun y1 =>
  some ((!y1), ())

noncomputable def F194_v2C (fuel : Nat) : Cfg := cfg Tryz.prog 8 1 [F101c fuel] [] fuel

noncomputable def F194_v2c (fuel : Nat) : CallE := { f := 194, A := ⟨2, [.box 114 .leaf], [(.data 67), (.con (.ref 0 [] 114)), (.con (.fn 101 0 []))]⟩, R := ⟨1, [.box 114 .leaf], [.bool, (.con (.fn 101 0 []))]⟩, F := fun x => F194_v2 fuel x.1 x.2.1 x.2.2, dflt := (false, ()) }

theorem F194_v2k (fuel : Nat) : CallOk (F194_v2C fuel) := cfg_callOk (callsC (F101ok fuel) <| callsN)

theorem F194_v2ok (fuel : Nat) : (F194_v2c fuel).Ok Tryz.prog := fun x y h => meets_of (F194_v2k fuel) (f := 194) (fn := Tryz.f194) (c := bodyOf Tryz.f194) (by kernel_rfl) (by kernel_rfl) (by kernel_rfl) (by kernel_rfl) (loops0 (by kernel_rfl)) (A := (F194_v2c fuel).A) (R := (F194_v2c fuel).R) (F := (F194_v2c fuel).F) (fun x => by kernel_rfl) (fun x => by kernel_rfl) x y h

noncomputable def S265_v2_3 (fuel : Nat) (a2 : List PV) (a3 : Unit) (a4 : Int) (a5 : Int) (a6 : Unit) : Option (((List PV) × Unit × Int × Int × Unit) ⊕ ((Int × Unit) ⊕ (Unit))) :=
  bif (decide (a5 < a4)) then
    bif inRange a5 a2.length then
    (F194_v2 fuel (a2.getD a5.toNat .bad) () ()).bind fun y9 =>
    bif y9.1 then
      some (.inr (.inl (a5, ())))
    else
      some (.inl (a2, (), a4, (IntKind.wrap .i64 (a5 + (1 : Int))), ()))
    else none
  else
    some (.inr (.inr ()))

noncomputable def S265_v2_3step (fuel : Nat) (x : (List PV) × Unit × Int × Int × Unit) : Option (((List PV) × Unit × Int × Int × Unit) ⊕ ((Int × Unit) ⊕ (Unit))) := S265_v2_3 fuel x.1 x.2.1 x.2.2.1 x.2.2.2.1 x.2.2.2.2

/-- slices.IndexFunc[[]wireschema/api.Service,wireschema/api.Service] -/
noncomputable def F265_v2 (fuel : Nat) (a0 : List PV) (a1 : Unit) (a2 : Unit) : Option (Int × Unit) :=
  (loopQ fuel (S265_v2_3step fuel) (a0, (), (a0.length : Int), (0 : Int), ())).bind fun z => sumE (fun y11 =>
    some (y11.1, ())
  ) (fun y12 =>
    some ((-1 : Int), ())
  ) z

noncomputable def S265_v2_3l (fuel : Nat) : LoopE := { key := 3, H := ⟨[0, 1, 7, 8], [.box 114 .leaf], [(.slice 67), (.con (.fn 194 0 [(.ref 0 [] 114)])), (.int .i64), (.int .i64), (.con (.fn 101 0 []))]⟩, X := [(.ret, ⟨[4], [.box 114 .leaf], [(.int .i64), (.con (.fn 101 0 []))]⟩), (.exit 0, ⟨[], [.box 114 .leaf], [(.con (.fn 101 0 []))]⟩)], step := S265_v2_3step fuel }

noncomputable def F265_v2C (fuel : Nat) : Cfg := cfg Tryz.prog 19 1 [F194_v2c fuel] [S265_v2_3l fuel] fuel

noncomputable def F265_v2c (fuel : Nat) : CallE := { f := 265, A := ⟨2, [.box 114 .leaf], [(.slice 67), (.con (.fn 194 0 [(.ref 0 [] 114)])), (.con (.fn 101 0 []))]⟩, R := ⟨1, [.box 114 .leaf], [(.int .i64), (.con (.fn 101 0 []))]⟩, F := fun x => F265_v2 fuel x.1 x.2.1 x.2.2, dflt := (0, ()) }

theorem F265_v2k (fuel : Nat) : CallOk (F265_v2C fuel) := cfg_callOk (callsC (F194_v2ok fuel) <| callsN)

theorem S265_v2_3ok (fuel : Nat) : LoopOk (F265_v2C fuel) (lp (bodyOf Tryz.f265) 0) := loopOk_of (F265_v2k fuel) fuel (S265_v2_3l fuel) (loops0 (by kernel_rfl)) (by kernel_rfl) (fun x => by kernel_rfl) (fun R e st K => by kernel_rfl)

theorem F265_v2ok (fuel : Nat) : (F265_v2c fuel).Ok Tryz.prog := fun x y h => meets_of (F265_v2k fuel) (f := 265) (fn := Tryz.f265) (c := bodyOf Tryz.f265) (by kernel_rfl) (by kernel_rfl) (by kernel_rfl) (by kernel_rfl) (loopsN 1 (by kernel_rfl) fun i hi => match i, hi with | 0, _ => S265_v2_3ok fuel | n + 1, h => absurd h (by omega)) (A := (F265_v2c fuel).A) (R := (F265_v2c fuel).R) (F := (F265_v2c fuel).F) (fun x => by kernel_rfl) (fun x => by kernel_rfl) x y h

/-- slices.ContainsFunc[[]wireschema/api.Service,wireschema/api.Service] -/
noncomputable def F193_v2 (fuel : Nat) (a0 : List PV) (a1 : Unit) (a2 : Unit) : Option (Bool × Unit) :=
  (F265_v2 fuel a0 () ()).bind fun y1 =>
  some ((decide (y1.1 ≥ (0 : Int))), ())

noncomputable def F193_v2C (fuel : Nat) : Cfg := cfg Tryz.prog 9 1 [F265_v2c fuel] [] fuel

noncomputable def F193_v2c (fuel : Nat) : CallE := { f := 193, A := ⟨2, [.box 114 .leaf], [(.slice 67), (.con (.fn 194 0 [(.ref 0 [] 114)])), (.con (.fn 101 0 []))]⟩, R := ⟨1, [.box 114 .leaf], [.bool, (.con (.fn 101 0 []))]⟩, F := fun x => F193_v2 fuel x.1 x.2.1 x.2.2, dflt := (false, ()) }

theorem F193_v2k (fuel : Nat) : CallOk (F193_v2C fuel) := cfg_callOk (callsC (F265_v2ok fuel) <| callsN)

theorem F193_v2ok (fuel : Nat) : (F193_v2c fuel).Ok Tryz.prog := fun x y h => meets_of (F193_v2k fuel) (f := 193) (fn := Tryz.f193) (c := bodyOf Tryz.f193) (by kernel_rfl) (by kernel_rfl) (by kernel_rfl) (by kernel_rfl) (loops0 (by kernel_rfl)) (A := (F193_v2c fuel).A) (R := (F193_v2c fuel).R) (F := (F193_v2c fuel).F) (fun x => by kernel_rfl) (fun x => by kernel_rfl) x y h

/-- wireschema/format.every[wireschema/api.Service] -/
noncomputable def F83_v2 (fuel : Nat) (a0 : List PV) (a1 : Unit) : Option (Bool) :=
  (F193_v2 fuel a0 () ()).bind fun y1 =>
  some (!y1.1)

noncomputable def F83_v2C (fuel : Nat) : Cfg := cfg Tryz.prog 9 0 [F193_v2c fuel] [] fuel

noncomputable def F83_v2c (fuel : Nat) : CallE := { f := 83, A := ⟨2, [], [(.slice 67), (.con (.fn 101 0 []))]⟩, R := ⟨1, [], [.bool]⟩, F := fun x => F83_v2 fuel x.1 x.2, dflt := false }

theorem F83_v2k (fuel : Nat) : CallOk (F83_v2C fuel) := cfg_callOk (callsC (F193_v2ok fuel) <| callsN)

theorem F83_v2ok (fuel : Nat) : (F83_v2c fuel).Ok Tryz.prog := fun x y h => meets_of (F83_v2k fuel) (f := 83) (fn := Tryz.f83) (c := bodyOf Tryz.f83) (by kernel_rfl) (by kernel_rfl) (by kernel_rfl) (by kernel_rfl) (loops0 (by kernel_rfl)) (A := (F83_v2c fuel).A) (R := (F83_v2c fuel).R) (F := (F83_v2c fuel).F) (fun x => by kernel_rfl) (fun x => by kernel_rfl) x y h

/-- wireschema/format.counts -/
noncomputable def F33 (fuel : Nat) (a0 : PV) : Option (Bool) :=
  let x5 := (((a0.fld 3).asList).length : Int)
  let x7 := (((a0.fld 4).asList).length : Int)
  let x9 := (((a0.fld 5).asList).length : Int)
  let x10 := if x9 > (if x7 > x5 then x7 else x5) then x9 else (if x7 > x5 then x7 else x5)
  bif (bif (decide ((((a0.fld 2).asList).length : Int) > (16 : Int))) then true else (decide (x10 > (64 : Int)))) then
    some false
  else
    (F73_v3 fuel ((a0.fld 3).asList) ()).bind fun y14 =>
    (bif y14 then F79_v2 fuel ((a0.fld 4).asList) () else some false).bind fun y16 =>
    let x17 := bif y14 then y16 else false
    (bif x17 then F83_v2 fuel ((a0.fld 5).asList) () else some false).bind fun y19 =>
    some (bif x17 then y19 else false)

noncomputable def F33C (fuel : Nat) : Cfg := cfg Tryz.prog 33 0 [F73_v3c fuel, F79_v2c fuel, F83_v2c fuel] [] fuel

noncomputable def F33c (fuel : Nat) : CallE := { f := 33, A := ⟨1, [], [(.data 27)]⟩, R := ⟨1, [], [.bool]⟩, F := fun x => F33 fuel x, dflt := false }

theorem F33k (fuel : Nat) : CallOk (F33C fuel) := cfg_callOk (callsC (F73_v3ok fuel) <| callsC (F79_v2ok fuel) <| callsC (F83_v2ok fuel) <| callsN)

theorem F33ok (fuel : Nat) : (F33c fuel).Ok Tryz.prog := fun x y h => meets_of (F33k fuel) (f := 33) (fn := Tryz.f33) (c := bodyOf Tryz.f33) (by kernel_rfl) (by kernel_rfl) (by kernel_rfl) (by kernel_rfl) (loops0 (by kernel_rfl)) (A := (F33c fuel).A) (R := (F33c fuel).R) (F := (F33c fuel).F) (fun x => by kernel_rfl) (fun x => by kernel_rfl) x y h

/-- (*wireschema/format.printer).line -/
noncomputable def F102 (fuel : Nat) (a0 : Unit) (a1 : Int) (a2 : List UInt8) (a3 : List UInt8) : Option ((List UInt8)) :=
  (Lrepeat fuel ([32, 32] : List UInt8) a1).bind fun y1 =>
  bif decide (y1.length + a2.length ≤ strMax) then
  let x2 := y1 ++ a2
  bif decide (x2.length + ([10] : List UInt8).length ≤ strMax) then
  (LwriteString fuel (x2 ++ ([10] : List UInt8)) a3).bind fun y4 =>
  some y4.2.2
  else none
  else none

noncomputable def F102C (fuel : Nat) : Cfg := cfg Tryz.prog 15 1 [Lrepeatc fuel, LwriteString_127c fuel] [] fuel

noncomputable def F102c (fuel : Nat) : CallE := { f := 102, A := ⟨3, [.bld 127], [(.con (.bref 0 127)), (.int .i64), .str, .str]⟩, R := ⟨0, [.bld 127], [.str]⟩, F := fun x => F102 fuel x.1 x.2.1 x.2.2.1 x.2.2.2, dflt := [] }

theorem F102k (fuel : Nat) : CallOk (F102C fuel) := cfg_callOk (callsC (Lrepeatok fuel) <| callsC (LwriteString_127ok fuel) <| callsN)

theorem F102ok (fuel : Nat) : (F102c fuel).Ok Tryz.prog := fun x y h => meets_of (F102k fuel) (f := 102) (fn := Tryz.f102) (c := bodyOf Tryz.f102) (by kernel_rfl) (by kernel_rfl) (by kernel_rfl) (by kernel_rfl) (loops0 (by kernel_rfl)) (A := (F102c fuel).A) (R := (F102c fuel).R) (F := (F102c fuel).F) (fun x => by kernel_rfl) (fun x => by kernel_rfl) x y h

/-- wireschema/utf.escape -/
noncomputable def F224 (fuel : Nat) (a0 : Int) : Option ((List UInt8)) :=
  let x1 := a0.fdiv (2 ^ (min (4 : Int).toNat (IntKind.bits .u8)))
  let x3 := IntKind.wrap .u8 ((a0.fdiv (2 ^ (min (4 : Int).toNat (IntKind.bits .u8)))) + (1 : Int))
  bif decide (0 ≤ x1 ∧ x1 ≤ x3 ∧ x3 ≤ (([48, 49, 50, 51, 52, 53, 54, 55, 56, 57, 97, 98, 99, 100, 101, 102] : List UInt8).length : Int)) then
  let x4 := (([48, 49, 50, 51, 52, 53, 54, 55, 56, 57, 97, 98, 99, 100, 101, 102] : List UInt8).take x3.toNat).drop x1.toNat
  bif decide (([92, 120] : List UInt8).length + x4.length ≤ strMax) then
  let x5 := bitsI .and .u8 a0 (15 : Int)
  let x7 := IntKind.wrap .u8 ((bitsI .and .u8 a0 (15 : Int)) + (1 : Int))
  bif decide (0 ≤ x5 ∧ x5 ≤ x7 ∧ x7 ≤ (([48, 49, 50, 51, 52, 53, 54, 55, 56, 57, 97, 98, 99, 100, 101, 102] : List UInt8).length : Int)) then
  let x8 := (([48, 49, 50, 51, 52, 53, 54, 55, 56, 57, 97, 98, 99, 100, 101, 102] : List UInt8).take x7.toNat).drop x5.toNat
  bif decide ((([92, 120] : List UInt8) ++ x4).length + x8.length ≤ strMax) then
  some ((([92, 120] : List UInt8) ++ x4) ++ x8)
  else none
  else none
  else none
  else none

noncomputable def F224C (fuel : Nat) : Cfg := cfg Tryz.prog 17 0 [] [] fuel

noncomputable def F224c (fuel : Nat) : CallE := { f := 224, A := ⟨1, [], [(.int .u8)]⟩, R := ⟨1, [], [.str]⟩, F := fun x => F224 fuel x, dflt := [] }

theorem F224k (fuel : Nat) : CallOk (F224C fuel) := cfg_callOk (callsN)

theorem F224ok (fuel : Nat) : (F224c fuel).Ok Tryz.prog := fun x y h => meets_of (F224k fuel) (f := 224) (fn := Tryz.f224) (c := bodyOf Tryz.f224) (by kernel_rfl) (by kernel_rfl) (by kernel_rfl) (by kernel_rfl) (loops0 (by kernel_rfl)) (A := (F224c fuel).A) (R := (F224c fuel).R) (F := (F224c fuel).F) (fun x => by kernel_rfl) (fun x => by kernel_rfl) x y h

/-- wireschema/utf.form -/
noncomputable def F134 (fuel : Nat) (a0 : List UInt8) (a1 : Int) (a2 : Int) : Option ((List UInt8)) :=
  bif (a2 == (34 : Int)) then
    some ([92, 34] : List UInt8)
  else
    bif (a2 == (92 : Int)) then
      some ([92, 92] : List UInt8)
    else
      bif (a2 == (10 : Int)) then
        some ([92, 110] : List UInt8)
      else
        bif (a2 == (9 : Int)) then
          some ([92, 116] : List UInt8)
        else
          bif (a2 == (13 : Int)) then
            some ([92, 114] : List UInt8)
          else
            let x8 := bif (decide (a2 < (32 : Int))) then true else (a2 == (127 : Int))
            (bif !x8 then F223 fuel a0 a1 a2 else some false).bind fun y9 =>
            bif (bif x8 then true else y9) then
              bif inRange a1 a0.length then
              (F224 fuel ((a0.getD a1.toNat 0).toNat : Int)).bind fun y12 =>
              some y12
              else none
            else
              some ((Utf8.encode a2).data.toList)

noncomputable def F134C (fuel : Nat) : Cfg := cfg Tryz.prog 41 0 [F223c fuel, F224c fuel] [] fuel

noncomputable def F134c (fuel : Nat) : CallE := { f := 134, A := ⟨3, [], [.str, (.int .i64), (.int .i32)]⟩, R := ⟨1, [], [.str]⟩, F := fun x => F134 fuel x.1 x.2.1 x.2.2, dflt := [] }

theorem F134k (fuel : Nat) : CallOk (F134C fuel) := cfg_callOk (callsC (F223ok fuel) <| callsC (F224ok fuel) <| callsN)

theorem F134ok (fuel : Nat) : (F134c fuel).Ok Tryz.prog := fun x y h => meets_of (F134k fuel) (f := 134) (fn := Tryz.f134) (c := bodyOf Tryz.f134) (by kernel_rfl) (by kernel_rfl) (by kernel_rfl) (by kernel_rfl) (loops0 (by kernel_rfl)) (A := (F134c fuel).A) (R := (F134c fuel).R) (F := (F134c fuel).F) (fun x => by kernel_rfl) (fun x => by kernel_rfl) x y h

noncomputable def S52_5 (fuel : Nat) (a2 : List UInt8) (a3 : Unit) (a4 : Unit) (a5 : List UInt8) (a6 : List UInt8) (a7 : Int) : Option (((List UInt8) × Unit × Unit × (List UInt8) × (List UInt8) × Int) ⊕ ((Unit × (List UInt8) × (List UInt8) × Int))) :=
  bif (decide (a7.toNat < a6.length)) then
    bif decide (a7.toNat < a6.length) then
    bif decide (a7.toNat < a6.length) then
    (F134 fuel a2 (a7.toNat : Int) ((Utf8.decode ⟨a6.toArray⟩ a7.toNat).1 : Int)).bind fun y11 =>
    (LwriteString fuel y11 a5).bind fun y12 =>
    some (.inl (a2, (), (), y12.2.2, a6, ((bif decide (a7.toNat < a6.length) then a7.toNat + (Utf8.decode ⟨a6.toArray⟩ a7.toNat).2 else a7.toNat : Nat) : Int)))
    else none
    else none
  else
    some (.inr ((), a5, a6, ((bif decide (a7.toNat < a6.length) then a7.toNat + (Utf8.decode ⟨a6.toArray⟩ a7.toNat).2 else a7.toNat : Nat) : Int)))

noncomputable def S52_5step (fuel : Nat) (x : (List UInt8) × Unit × Unit × (List UInt8) × (List UInt8) × Int) : Option (((List UInt8) × Unit × Unit × (List UInt8) × (List UInt8) × Int) ⊕ ((Unit × (List UInt8) × (List UInt8) × Int))) := S52_5 fuel x.1 x.2.1 x.2.2.1 x.2.2.2.1 x.2.2.2.2.1 x.2.2.2.2.2

/-- wireschema/utf.Quote -/
noncomputable def F52 (fuel : Nat) (a0 : List UInt8) : Option ((List UInt8)) :=
  (LwriteString fuel ([34] : List UInt8) []).bind fun y1 =>
  (loopQ fuel (S52_5step fuel) (a0, (), (), y1.2.2, a0, ((0 : Nat) : Int))).bind fun y13 =>
  (LwriteString fuel ([34] : List UInt8) y13.2.1).bind fun y14 =>
  (Lstring fuel y14.2.2).bind fun y15 =>
  some y15.1

noncomputable def S52_5l (fuel : Nat) : LoopE := { key := 5, H := ⟨[0, 3, 8], [.bld 125, .iter], [.str, (.con (.bref 0 125)), (.con (.iref 1)), .str, .str, (.int .i64)]⟩, X := [(.exit 0, ⟨[3], [.bld 125, .iter], [(.con (.bref 0 125)), .str, .str, (.int .i64)]⟩)], step := S52_5step fuel }

noncomputable def F52C (fuel : Nat) : Cfg := cfg Tryz.prog 20 0 [LwriteString_125c fuel, F134c fuel, Lstring_125c fuel] [S52_5l fuel] fuel

noncomputable def F52c (fuel : Nat) : CallE := { f := 52, A := ⟨1, [], [.str]⟩, R := ⟨1, [], [.str]⟩, F := fun x => F52 fuel x, dflt := [] }

theorem F52k (fuel : Nat) : CallOk (F52C fuel) := cfg_callOk (callsC (LwriteString_125ok fuel) <| callsC (F134ok fuel) <| callsC (Lstring_125ok fuel) <| callsN)

theorem S52_5ok (fuel : Nat) : LoopOk (F52C fuel) (lp (bodyOf Tryz.f52) 0) := loopOk_of (F52k fuel) fuel (S52_5l fuel) (loops0 (by kernel_rfl)) (by kernel_rfl) (fun x => by kernel_rfl) (fun R e st K => by kernel_rfl)

theorem F52ok (fuel : Nat) : (F52c fuel).Ok Tryz.prog := fun x y h => meets_of (F52k fuel) (f := 52) (fn := Tryz.f52) (c := bodyOf Tryz.f52) (by kernel_rfl) (by kernel_rfl) (by kernel_rfl) (by kernel_rfl) (loopsN 1 (by kernel_rfl) fun i hi => match i, hi with | 0, _ => S52_5ok fuel | n + 1, h => absurd h (by omega)) (A := (F52c fuel).A) (R := (F52c fuel).R) (F := (F52c fuel).F) (fun x => by kernel_rfl) (fun x => by kernel_rfl) x y h

/-- internal/strconv.FormatBool -/
noncomputable def F225 (fuel : Nat) (a0 : Bool) : Option ((List UInt8)) :=
  bif a0 then
    some ([116, 114, 117, 101] : List UInt8)
  else
    some ([102, 97, 108, 115, 101] : List UInt8)

noncomputable def F225C (fuel : Nat) : Cfg := cfg Tryz.prog 4 0 [] [] fuel

noncomputable def F225c (fuel : Nat) : CallE := { f := 225, A := ⟨1, [], [.bool]⟩, R := ⟨1, [], [.str]⟩, F := fun x => F225 fuel x, dflt := [] }

theorem F225k (fuel : Nat) : CallOk (F225C fuel) := cfg_callOk (callsN)

theorem F225ok (fuel : Nat) : (F225c fuel).Ok Tryz.prog := fun x y h => meets_of (F225k fuel) (f := 225) (fn := Tryz.f225) (c := bodyOf Tryz.f225) (by kernel_rfl) (by kernel_rfl) (by kernel_rfl) (by kernel_rfl) (loops0 (by kernel_rfl)) (A := (F225c fuel).A) (R := (F225c fuel).R) (F := (F225c fuel).F) (fun x => by kernel_rfl) (fun x => by kernel_rfl) x y h

/-- strconv.FormatBool -/
noncomputable def F135 (fuel : Nat) (a0 : Bool) : Option ((List UInt8)) :=
  (F225 fuel a0).bind fun y1 =>
  some y1

noncomputable def F135C (fuel : Nat) : Cfg := cfg Tryz.prog 5 0 [F225c fuel] [] fuel

noncomputable def F135c (fuel : Nat) : CallE := { f := 135, A := ⟨1, [], [.bool]⟩, R := ⟨1, [], [.str]⟩, F := fun x => F135 fuel x, dflt := [] }

theorem F135k (fuel : Nat) : CallOk (F135C fuel) := cfg_callOk (callsC (F225ok fuel) <| callsN)

theorem F135ok (fuel : Nat) : (F135c fuel).Ok Tryz.prog := fun x y h => meets_of (F135k fuel) (f := 135) (fn := Tryz.f135) (c := bodyOf Tryz.f135) (by kernel_rfl) (by kernel_rfl) (by kernel_rfl) (by kernel_rfl) (loops0 (by kernel_rfl)) (A := (F135c fuel).A) (R := (F135c fuel).R) (F := (F135c fuel).F) (fun x => by kernel_rfl) (fun x => by kernel_rfl) x y h

/-- strconv.FormatUint -/
noncomputable def F139 (fuel : Nat) (a0 : Int) (a1 : Int) : Option ((List UInt8)) :=
  (Lfmtu fuel a0 a1).bind fun y1 =>
  some y1

noncomputable def F139C (fuel : Nat) : Cfg := cfg Tryz.prog 8 0 [Lfmtuc fuel] [] fuel

noncomputable def F139c (fuel : Nat) : CallE := { f := 139, A := ⟨2, [], [(.int .u64), (.int .i64)]⟩, R := ⟨1, [], [.str]⟩, F := fun x => F139 fuel x.1 x.2, dflt := [] }

theorem F139k (fuel : Nat) : CallOk (F139C fuel) := cfg_callOk (callsC (Lfmtuok fuel) <| callsN)

theorem F139ok (fuel : Nat) : (F139c fuel).Ok Tryz.prog := fun x y h => meets_of (F139k fuel) (f := 139) (fn := Tryz.f139) (c := bodyOf Tryz.f139) (by kernel_rfl) (by kernel_rfl) (by kernel_rfl) (by kernel_rfl) (loops0 (by kernel_rfl)) (A := (F139c fuel).A) (R := (F139c fuel).R) (F := (F139c fuel).F) (fun x => by kernel_rfl) (fun x => by kernel_rfl) x y h

/-- wireschema/scalar.double -/
noncomputable def F137 (fuel : Nat) (a0 : Int) : Option ((List UInt8)) :=
  (F227 fuel a0).bind fun y1 =>
  bif (y1 == (0 : Int)) then
    some ([110, 97, 110] : List UInt8)
  else
    bif (bif (y1 == (1 : Int)) then ((bitsI .and .u64 a0 (9223372036854775808 : Int)) != (0 : Int)) else false) then
      some ([45, 105, 110, 102] : List UInt8)
    else
      bif (y1 == (1 : Int)) then
        some ([105, 110, 102] : List UInt8)
      else
        (F139 fuel a0 (16 : Int)).bind fun y8 =>
        (Lrepeat fuel ([48] : List UInt8) (IntKind.wrap .i64 ((16 : Int) - (y8.length : Int)))).bind fun y11 =>
        bif decide (([48, 120] : List UInt8).length + y11.length ≤ strMax) then
        bif decide ((([48, 120] : List UInt8) ++ y11).length + y8.length ≤ strMax) then
        some ((([48, 120] : List UInt8) ++ y11) ++ y8)
        else none
        else none

noncomputable def F137C (fuel : Nat) : Cfg := cfg Tryz.prog 30 0 [F227c fuel, F139c fuel, Lrepeatc fuel] [] fuel

noncomputable def F137c (fuel : Nat) : CallE := { f := 137, A := ⟨1, [], [(.int .u64)]⟩, R := ⟨1, [], [.str]⟩, F := fun x => F137 fuel x, dflt := [] }

theorem F137k (fuel : Nat) : CallOk (F137C fuel) := cfg_callOk (callsC (F227ok fuel) <| callsC (F139ok fuel) <| callsC (Lrepeatok fuel) <| callsN)

theorem F137ok (fuel : Nat) : (F137c fuel).Ok Tryz.prog := fun x y h => meets_of (F137k fuel) (f := 137) (fn := Tryz.f137) (c := bodyOf Tryz.f137) (by kernel_rfl) (by kernel_rfl) (by kernel_rfl) (by kernel_rfl) (loops0 (by kernel_rfl)) (A := (F137c fuel).A) (R := (F137c fuel).R) (F := (F137c fuel).F) (fun x => by kernel_rfl) (fun x => by kernel_rfl) x y h

noncomputable def S138_4 (fuel : Nat) (a4 : List UInt8) (a5 : List PV) (a6 : Int) (a7 : Int) : Option (((List UInt8) × (List PV) × Int × Int) ⊕ (((List PV)))) :=
  bif (decide (a7 < a6)) then
    bif inRange a7 a4.length then
    let x10 := ((a4.getD a7.toNat 0).toNat : Int).fdiv (2 ^ (min (4 : Int).toNat (IntKind.bits .u8)))
    bif inRange x10 (([48, 49, 50, 51, 52, 53, 54, 55, 56, 57, 97, 98, 99, 100, 101, 102] : List UInt8).length) then
    let x11 := ((([48, 49, 50, 51, 52, 53, 54, 55, 56, 57, 97, 98, 99, 100, 101, 102] : List UInt8).getD x10.toNat 0).toNat : Int)
    bif inRange a7 a4.length then
    let x13 := bitsI .and .u8 ((a4.getD a7.toNat 0).toNat : Int) (15 : Int)
    bif inRange x13 (([48, 49, 50, 51, 52, 53, 54, 55, 56, 57, 97, 98, 99, 100, 101, 102] : List UInt8).length) then
    let x14 := ((([48, 49, 50, 51, 52, 53, 54, 55, 56, 57, 97, 98, 99, 100, 101, 102] : List UInt8).getD x13.toNat 0).toNat : Int)
    bif decide (a5.length + [(PV.int x11), (PV.int x14)].length ≤ accMax) then
    some (.inl (a4, (a5 ++ [(PV.int x11), (PV.int x14)]), a6, (IntKind.wrap .i64 (a7 + (1 : Int)))))
    else none
    else none
    else none
    else none
    else none
  else
    some (.inr a5)

noncomputable def S138_4step (fuel : Nat) (x : (List UInt8) × (List PV) × Int × Int) : Option (((List UInt8) × (List PV) × Int × Int) ⊕ (((List PV)))) := S138_4 fuel x.1 x.2.1 x.2.2.1 x.2.2.2

/-- wireschema/utf.Hex -/
noncomputable def F138 (fuel : Nat) (a0 : List UInt8) : Option ((List UInt8)) :=
  let x2 := IntKind.wrap .i64 ((2 : Int) * (a0.length : Int))
  bif decide (0 ≤ x2 ∧ x2 ≤ accMax) then
  (loopQ fuel (S138_4step fuel) (a0, [], (a0.length : Int), (0 : Int))).bind fun y17 =>
  some (y17.map byteOfPV)
  else none

noncomputable def S138_4l (fuel : Nat) : LoopE := { key := 4, H := ⟨[0, 3, 10, 11], [.acc], [.str, (.acc 0 5), (.int .i64), (.int .i64)]⟩, X := [(.exit 0, ⟨[3], [.acc], [(.acc 0 5)]⟩)], step := S138_4step fuel }

noncomputable def F138C (fuel : Nat) : Cfg := cfg Tryz.prog 30 0 [] [S138_4l fuel] fuel

noncomputable def F138c (fuel : Nat) : CallE := { f := 138, A := ⟨1, [], [.str]⟩, R := ⟨1, [], [.str]⟩, F := fun x => F138 fuel x, dflt := [] }

theorem F138k (fuel : Nat) : CallOk (F138C fuel) := cfg_callOk (callsN)

theorem S138_4ok (fuel : Nat) : LoopOk (F138C fuel) (lp (bodyOf Tryz.f138) 0) := loopOk_of (F138k fuel) fuel (S138_4l fuel) (loops0 (by kernel_rfl)) (by kernel_rfl) (fun x => by kernel_rfl) (fun R e st K => by kernel_rfl)

theorem F138ok (fuel : Nat) : (F138c fuel).Ok Tryz.prog := fun x y h => meets_of (F138k fuel) (f := 138) (fn := Tryz.f138) (c := bodyOf Tryz.f138) (by kernel_rfl) (by kernel_rfl) (by kernel_rfl) (by kernel_rfl) (loopsN 1 (by kernel_rfl) fun i hi => match i, hi with | 0, _ => S138_4ok fuel | n + 1, h => absurd h (by omega)) (A := (F138c fuel).A) (R := (F138c fuel).R) (F := (F138c fuel).F) (fun x => by kernel_rfl) (fun x => by kernel_rfl) x y h

/-- wireschema/scalar.Text -/
noncomputable def F53 (fuel : Nat) (a0 : PV) : Option ((List UInt8)) :=
  (F51 fuel ((a0.fld 0).asInt) a0).bind fun y2 =>
  bif (!y2) then
    some ([] : List UInt8)
  else
    let x4 := (a0.fld 0).asInt
    bif (x4 == (1 : Int)) then
      (F135 fuel (((a0.fld 1).asInt) == (1 : Int))).bind fun y8 =>
      some y8
    else
      bif (x4 == (2 : Int)) then
        (Litoa fuel (IntKind.wrap .i64 ((a0.fld 1).asInt))).bind fun y12 =>
        some y12
      else
        bif (x4 == (3 : Int)) then
          (Litoa fuel (IntKind.wrap .i64 ((a0.fld 1).asInt))).bind fun y16 =>
          some y16
        else
          bif (x4 == (6 : Int)) then
            (F137 fuel ((a0.fld 1).asInt)).bind fun y19 =>
            some y19
          else
            bif (x4 == (7 : Int)) then
              (F52 fuel ((a0.fld 2).asStr)).bind fun y22 =>
              some y22
            else
              bif (x4 == (8 : Int)) then
                (F138 fuel ((a0.fld 2).asStr)).bind fun y25 =>
                (F52 fuel y25).bind fun y26 =>
                bif decide (([120] : List UInt8).length + y26.length ≤ strMax) then
                some (([120] : List UInt8) ++ y26)
                else none
              else
                (F139 fuel ((a0.fld 1).asInt) (10 : Int)).bind fun y28 =>
                some y28

noncomputable def F53C (fuel : Nat) : Cfg := cfg Tryz.prog 43 0 [F51c fuel, F135c fuel, Litoac fuel, F137c fuel, F52c fuel, F138c fuel, F139c fuel] [] fuel

noncomputable def F53c (fuel : Nat) : CallE := { f := 53, A := ⟨1, [], [(.data 42)]⟩, R := ⟨1, [], [.str]⟩, F := fun x => F53 fuel x, dflt := [] }

theorem F53k (fuel : Nat) : CallOk (F53C fuel) := cfg_callOk (callsC (F51ok fuel) <| callsC (F135ok fuel) <| callsC (Litoaok fuel) <| callsC (F137ok fuel) <| callsC (F52ok fuel) <| callsC (F138ok fuel) <| callsC (F139ok fuel) <| callsN)

theorem F53ok (fuel : Nat) : (F53c fuel).Ok Tryz.prog := fun x y h => meets_of (F53k fuel) (f := 53) (fn := Tryz.f53) (c := bodyOf Tryz.f53) (by kernel_rfl) (by kernel_rfl) (by kernel_rfl) (by kernel_rfl) (loops0 (by kernel_rfl)) (A := (F53c fuel).A) (R := (F53c fuel).R) (F := (F53c fuel).F) (fun x => by kernel_rfl) (fun x => by kernel_rfl) x y h

noncomputable def S231_4 (fuel : Nat) (a2 : List PV) (a3 : List PV) (a4 : Int) (a5 : Int) : Option (((List PV) × (List PV) × Int × Int) ⊕ (((List UInt8)) ⊕ ((List PV)))) :=
  bif (decide (a5 < a4)) then
    bif inRange a5 a3.length then
    let x7 := a3.getD a5.toNat .bad
    (F204 fuel x7).bind fun y8 =>
    bif (!y8) then
      some (.inr (.inl ([] : List UInt8)))
    else
      let x10 := (x7.fld 0).asStr
      bif decide (x10.length + ([32, 61, 32] : List UInt8).length ≤ strMax) then
      let x11 := x10 ++ ([32, 61, 32] : List UInt8)
      (F53 fuel (x7.fld 1)).bind fun y13 =>
      bif decide (x11.length + y13.length ≤ strMax) then
      let x14 := x11 ++ y13
      bif decide (a2.length + [(PV.str x14)].length ≤ accMax) then
      some (.inl ((a2 ++ [(PV.str x14)]), a3, a4, (IntKind.wrap .i64 (a5 + (1 : Int)))))
      else none
      else none
      else none
    else none
  else
    some (.inr (.inr a2))

noncomputable def S231_4step (fuel : Nat) (x : (List PV) × (List PV) × Int × Int) : Option (((List PV) × (List PV) × Int × Int) ⊕ (((List UInt8)) ⊕ ((List PV)))) := S231_4 fuel x.1 x.2.1 x.2.2.1 x.2.2.2

/-- wireschema/note.Text -/
noncomputable def F231 (fuel : Nat) (a0 : List PV) : Option ((List UInt8)) :=
  (loopQ fuel (S231_4step fuel) ([], a0, (a0.length : Int), (0 : Int))).bind fun z => sumE (fun y17 =>
    some y17
  ) (fun y18 =>
    bif ((y18.length : Int) == (0 : Int)) then
      some ([] : List UInt8)
    else
      (Ljoin fuel y18 ([44, 32] : List UInt8)).bind fun y21 =>
      bif decide (([91] : List UInt8).length + y21.length ≤ strMax) then
      bif decide ((([91] : List UInt8) ++ y21).length + ([93] : List UInt8).length ≤ strMax) then
      some ((([91] : List UInt8) ++ y21) ++ ([93] : List UInt8))
      else none
      else none
  ) z

noncomputable def S231_4l (fuel : Nat) : LoopE := { key := 4, H := ⟨[3, 6, 7, 8], [.acc], [(.acc 0 9), (.slice 119), (.int .i64), (.int .i64)]⟩, X := [(.ret, ⟨[2], [.acc], [.str]⟩), (.exit 0, ⟨[3], [.acc], [(.acc 0 9)]⟩)], step := S231_4step fuel }

noncomputable def F231C (fuel : Nat) : Cfg := cfg Tryz.prog 33 0 [F204c fuel, F53c fuel, Ljoinc fuel] [S231_4l fuel] fuel

noncomputable def F231c (fuel : Nat) : CallE := { f := 231, A := ⟨1, [], [(.slice 119)]⟩, R := ⟨1, [], [.str]⟩, F := fun x => F231 fuel x, dflt := [] }

theorem F231k (fuel : Nat) : CallOk (F231C fuel) := cfg_callOk (callsC (F204ok fuel) <| callsC (F53ok fuel) <| callsC (Ljoinok fuel) <| callsN)

theorem S231_4ok (fuel : Nat) : LoopOk (F231C fuel) (lp (bodyOf Tryz.f231) 0) := loopOk_of (F231k fuel) fuel (S231_4l fuel) (loops0 (by kernel_rfl)) (by kernel_rfl) (fun x => by kernel_rfl) (fun R e st K => by kernel_rfl)

theorem F231ok (fuel : Nat) : (F231c fuel).Ok Tryz.prog := fun x y h => meets_of (F231k fuel) (f := 231) (fn := Tryz.f231) (c := bodyOf Tryz.f231) (by kernel_rfl) (by kernel_rfl) (by kernel_rfl) (by kernel_rfl) (loopsN 1 (by kernel_rfl) fun i hi => match i, hi with | 0, _ => S231_4ok fuel | n + 1, h => absurd h (by omega)) (A := (F231c fuel).A) (R := (F231c fuel).R) (F := (F231c fuel).F) (fun x => by kernel_rfl) (fun x => by kernel_rfl) x y h

/-- wireschema/format.behind -/
noncomputable def F150 (fuel : Nat) (a0 : List PV) : Option ((List UInt8)) :=
  bif ((a0.length : Int) == (0 : Int)) then
    some ([] : List UInt8)
  else
    (F231 fuel a0).bind fun y3 =>
    bif decide (([32] : List UInt8).length + y3.length ≤ strMax) then
    some (([32] : List UInt8) ++ y3)
    else none

noncomputable def F150C (fuel : Nat) : Cfg := cfg Tryz.prog 9 0 [F231c fuel] [] fuel

noncomputable def F150c (fuel : Nat) : CallE := { f := 150, A := ⟨1, [], [(.slice 119)]⟩, R := ⟨1, [], [.str]⟩, F := fun x => F150 fuel x, dflt := [] }

theorem F150k (fuel : Nat) : CallOk (F150C fuel) := cfg_callOk (callsC (F231ok fuel) <| callsN)

theorem F150ok (fuel : Nat) : (F150c fuel).Ok Tryz.prog := fun x y h => meets_of (F150k fuel) (f := 150) (fn := Tryz.f150) (c := bodyOf Tryz.f150) (by kernel_rfl) (by kernel_rfl) (by kernel_rfl) (by kernel_rfl) (loops0 (by kernel_rfl)) (A := (F150c fuel).A) (R := (F150c fuel).R) (F := (F150c fuel).F) (fun x => by kernel_rfl) (fun x => by kernel_rfl) x y h

/-- wireschema/parse.Word -/
noncomputable def F46 (fuel : Nat) (a0 : Int) : Option ((List UInt8)) :=
  bif (bif (decide (a0 < (1 : Int))) then true else (decide (a0 > (8 : Int)))) then
    some ([] : List UInt8)
  else
    (F126 fuel).bind fun y4 =>
    let x5 := IntKind.wrap .i64 (a0 - (1 : Int))
    bif inRange x5 8 then
    some ((y4.fld x5.toNat).asStr)
    else none

noncomputable def F46C (fuel : Nat) : Cfg := cfg Tryz.prog 13 0 [F126c fuel] [] fuel

noncomputable def F46c (fuel : Nat) : CallE := { f := 46, A := ⟨1, [], [(.int .i64)]⟩, R := ⟨1, [], [.str]⟩, F := fun x => F46 fuel x, dflt := [] }

theorem F46k (fuel : Nat) : CallOk (F46C fuel) := cfg_callOk (callsC (F126ok fuel) <| callsN)

theorem F46ok (fuel : Nat) : (F46c fuel).Ok Tryz.prog := fun x y h => meets_of (F46k fuel) (f := 46) (fn := Tryz.f46) (c := bodyOf Tryz.f46) (by kernel_rfl) (by kernel_rfl) (by kernel_rfl) (by kernel_rfl) (loops0 (by kernel_rfl)) (A := (F46c fuel).A) (R := (F46c fuel).R) (F := (F46c fuel).F) (fun x => by kernel_rfl) (fun x => by kernel_rfl) x y h

/-- wireschema/format.Type -/
noncomputable def F18 (fuel : Nat) (a0 : PV) : Option ((List UInt8)) :=
  (F45 fuel ((a0.fld 0).asInt)).bind fun y2 =>
  bif (bif y2 then (((a0.fld 1).asStr) == ([] : List UInt8)) else false) then
    (F46 fuel ((a0.fld 0).asInt)).bind fun y7 =>
    some y7
  else
    let x15 := bif (bif (((a0.fld 0).asInt) == (0 : Int)) then true else (((a0.fld 0).asInt) == (9 : Int))) then true else (((a0.fld 0).asInt) == (10 : Int))
    (bif x15 then F47 fuel ((a0.fld 1).asStr) else some false).bind fun y17 =>
    bif (bif x15 then y17 else false) then
      some ((a0.fld 1).asStr)
    else
      some ([] : List UInt8)

noncomputable def F18C (fuel : Nat) : Cfg := cfg Tryz.prog 36 0 [F45c fuel, F46c fuel, F47c fuel] [] fuel

noncomputable def F18c (fuel : Nat) : CallE := { f := 18, A := ⟨1, [], [(.data 35)]⟩, R := ⟨1, [], [.str]⟩, F := fun x => F18 fuel x, dflt := [] }

theorem F18k (fuel : Nat) : CallOk (F18C fuel) := cfg_callOk (callsC (F45ok fuel) <| callsC (F46ok fuel) <| callsC (F47ok fuel) <| callsN)

theorem F18ok (fuel : Nat) : (F18c fuel).Ok Tryz.prog := fun x y h => meets_of (F18k fuel) (f := 18) (fn := Tryz.f18) (c := bodyOf Tryz.f18) (by kernel_rfl) (by kernel_rfl) (by kernel_rfl) (by kernel_rfl) (loops0 (by kernel_rfl)) (A := (F18c fuel).A) (R := (F18c fuel).R) (F := (F18c fuel).F) (fun x => by kernel_rfl) (fun x => by kernel_rfl) x y h

/-- wireschema/format.Literal -/
noncomputable def F20 (fuel : Nat) (a0 : PV) : Option ((List UInt8)) :=
  (F50 fuel a0).bind fun y1 =>
  bif y1 then
    some ((a0.fld 2).asStr)
  else
    (F51 fuel ((a0.fld 0).asInt) a0).bind fun y4 =>
    bif (!y4) then
      some ([] : List UInt8)
    else
      bif (bif (((a0.fld 0).asInt) == (6 : Int)) then true else (((a0.fld 0).asInt) == (8 : Int))) then
        (F53 fuel a0).bind fun y11 =>
        (F52 fuel y11).bind fun y12 =>
        some y12
      else
        (F53 fuel a0).bind fun y13 =>
        some y13

noncomputable def F20C (fuel : Nat) : Cfg := cfg Tryz.prog 28 0 [F50c fuel, F51c fuel, F53c fuel, F52c fuel] [] fuel

noncomputable def F20c (fuel : Nat) : CallE := { f := 20, A := ⟨1, [], [(.data 42)]⟩, R := ⟨1, [], [.str]⟩, F := fun x => F20 fuel x, dflt := [] }

theorem F20k (fuel : Nat) : CallOk (F20C fuel) := cfg_callOk (callsC (F50ok fuel) <| callsC (F51ok fuel) <| callsC (F53ok fuel) <| callsC (F52ok fuel) <| callsN)

theorem F20ok (fuel : Nat) : (F20c fuel).Ok Tryz.prog := fun x y h => meets_of (F20k fuel) (f := 20) (fn := Tryz.f20) (c := bodyOf Tryz.f20) (by kernel_rfl) (by kernel_rfl) (by kernel_rfl) (by kernel_rfl) (loops0 (by kernel_rfl)) (A := (F20c fuel).A) (R := (F20c fuel).R) (F := (F20c fuel).F) (fun x => by kernel_rfl) (fun x => by kernel_rfl) x y h

/-- wireschema/format.row -/
noncomputable def F58 (fuel : Nat) (a0 : PV) : Option ((List UInt8)) :=
  (F18 fuel (a0.fld 4)).bind fun y2 =>
  bif (((a0.fld 2).asInt) == (5 : Int)) then
    (F46 fuel ((a0.fld 3).asInt)).bind fun y6 =>
    bif decide (([109, 97, 112, 60] : List UInt8).length + y6.length ≤ strMax) then
    bif decide ((([109, 97, 112, 60] : List UInt8) ++ y6).length + ([44, 32] : List UInt8).length ≤ strMax) then
    let x7 := (([109, 97, 112, 60] : List UInt8) ++ y6) ++ ([44, 32] : List UInt8)
    bif decide (x7.length + y2.length ≤ strMax) then
    let x8 := x7 ++ y2
    bif decide (x8.length + ([62] : List UInt8).length ≤ strMax) then
    let x9 := x8 ++ ([62] : List UInt8)
    let x10 := (a0.fld 1).asStr
    bif decide (([32] : List UInt8).length + x10.length ≤ strMax) then
    bif decide ((([32] : List UInt8) ++ x10).length + ([32, 61, 32] : List UInt8).length ≤ strMax) then
    let x11 := (([32] : List UInt8) ++ x10) ++ ([32, 61, 32] : List UInt8)
    (Litoa fuel ((a0.fld 0).asInt)).bind fun y13 =>
    bif decide (x11.length + y13.length ≤ strMax) then
    let x14 := x11 ++ y13
    bif decide (x9.length + x14.length ≤ strMax) then
    let x15 := x9 ++ x14
    bif ((a0.fld 6).asBool) then
      (F20 fuel (a0.fld 7)).bind fun y18 =>
      bif decide (([32, 100, 101, 102, 97, 117, 108, 116, 32] : List UInt8).length + y18.length ≤ strMax) then
      bif decide (x15.length + (([32, 100, 101, 102, 97, 117, 108, 116, 32] : List UInt8) ++ y18).length ≤ strMax) then
      let x19 := x15 ++ (([32, 100, 101, 102, 97, 117, 108, 116, 32] : List UInt8) ++ y18)
      (F150 fuel ((a0.fld 8).asList)).bind fun y21 =>
      bif decide (x19.length + y21.length ≤ strMax) then
      let x22 := x19 ++ y21
      bif decide (x22.length + ([59] : List UInt8).length ≤ strMax) then
      some (x22 ++ ([59] : List UInt8))
      else none
      else none
      else none
      else none
    else
      (F150 fuel ((a0.fld 8).asList)).bind fun y25 =>
      bif decide (x15.length + y25.length ≤ strMax) then
      let x26 := x15 ++ y25
      bif decide (x26.length + ([59] : List UInt8).length ≤ strMax) then
      some (x26 ++ ([59] : List UInt8))
      else none
      else none
    else none
    else none
    else none
    else none
    else none
    else none
    else none
    else none
  else
    bif (((a0.fld 5).asStr) == ([] : List UInt8)) then
      let x30 := (PV.agg [(PV.str ([] : List UInt8)), (PV.str ([114, 101, 113, 117, 105, 114, 101, 100, 32] : List UInt8)), (PV.str ([111, 112, 116, 105, 111, 110, 97, 108, 32] : List UInt8)), (PV.str ([112, 108, 97, 105, 110, 32] : List UInt8)), (PV.str ([108, 105, 115, 116, 32] : List UInt8))])
      let x31 := (a0.fld 2).asInt
      bif inRange x31 5 then
      let x32 := (x30.fld x31.toNat).asStr
      bif decide (x32.length + y2.length ≤ strMax) then
      let x33 := x32 ++ y2
      let x34 := (a0.fld 1).asStr
      bif decide (([32] : List UInt8).length + x34.length ≤ strMax) then
      bif decide ((([32] : List UInt8) ++ x34).length + ([32, 61, 32] : List UInt8).length ≤ strMax) then
      let x35 := (([32] : List UInt8) ++ x34) ++ ([32, 61, 32] : List UInt8)
      (Litoa fuel ((a0.fld 0).asInt)).bind fun y37 =>
      bif decide (x35.length + y37.length ≤ strMax) then
      let x38 := x35 ++ y37
      bif decide (x33.length + x38.length ≤ strMax) then
      let x39 := x33 ++ x38
      bif ((a0.fld 6).asBool) then
        (F20 fuel (a0.fld 7)).bind fun y42 =>
        bif decide (([32, 100, 101, 102, 97, 117, 108, 116, 32] : List UInt8).length + y42.length ≤ strMax) then
        bif decide (x39.length + (([32, 100, 101, 102, 97, 117, 108, 116, 32] : List UInt8) ++ y42).length ≤ strMax) then
        let x43 := x39 ++ (([32, 100, 101, 102, 97, 117, 108, 116, 32] : List UInt8) ++ y42)
        (F150 fuel ((a0.fld 8).asList)).bind fun y45 =>
        bif decide (x43.length + y45.length ≤ strMax) then
        let x46 := x43 ++ y45
        bif decide (x46.length + ([59] : List UInt8).length ≤ strMax) then
        some (x46 ++ ([59] : List UInt8))
        else none
        else none
        else none
        else none
      else
        (F150 fuel ((a0.fld 8).asList)).bind fun y49 =>
        bif decide (x39.length + y49.length ≤ strMax) then
        let x50 := x39 ++ y49
        bif decide (x50.length + ([59] : List UInt8).length ≤ strMax) then
        some (x50 ++ ([59] : List UInt8))
        else none
        else none
      else none
      else none
      else none
      else none
      else none
      else none
    else
      let x52 := (a0.fld 1).asStr
      bif decide (([32] : List UInt8).length + x52.length ≤ strMax) then
      bif decide ((([32] : List UInt8) ++ x52).length + ([32, 61, 32] : List UInt8).length ≤ strMax) then
      let x53 := (([32] : List UInt8) ++ x52) ++ ([32, 61, 32] : List UInt8)
      (Litoa fuel ((a0.fld 0).asInt)).bind fun y55 =>
      bif decide (x53.length + y55.length ≤ strMax) then
      let x56 := x53 ++ y55
      bif decide (y2.length + x56.length ≤ strMax) then
      let x57 := y2 ++ x56
      bif ((a0.fld 6).asBool) then
        (F20 fuel (a0.fld 7)).bind fun y60 =>
        bif decide (([32, 100, 101, 102, 97, 117, 108, 116, 32] : List UInt8).length + y60.length ≤ strMax) then
        bif decide (x57.length + (([32, 100, 101, 102, 97, 117, 108, 116, 32] : List UInt8) ++ y60).length ≤ strMax) then
        let x61 := x57 ++ (([32, 100, 101, 102, 97, 117, 108, 116, 32] : List UInt8) ++ y60)
        (F150 fuel ((a0.fld 8).asList)).bind fun y63 =>
        bif decide (x61.length + y63.length ≤ strMax) then
        let x64 := x61 ++ y63
        bif decide (x64.length + ([59] : List UInt8).length ≤ strMax) then
        some (x64 ++ ([59] : List UInt8))
        else none
        else none
        else none
        else none
      else
        (F150 fuel ((a0.fld 8).asList)).bind fun y67 =>
        bif decide (x57.length + y67.length ≤ strMax) then
        let x68 := x57 ++ y67
        bif decide (x68.length + ([59] : List UInt8).length ≤ strMax) then
        some (x68 ++ ([59] : List UInt8))
        else none
        else none
      else none
      else none
      else none
      else none

noncomputable def F58C (fuel : Nat) : Cfg := cfg Tryz.prog 53 0 [F18c fuel, F46c fuel, Litoac fuel, F20c fuel, F150c fuel] [] fuel

noncomputable def F58c (fuel : Nat) : CallE := { f := 58, A := ⟨1, [], [(.data 45)]⟩, R := ⟨1, [], [.str]⟩, F := fun x => F58 fuel x, dflt := [] }

theorem F58k (fuel : Nat) : CallOk (F58C fuel) := cfg_callOk (callsC (F18ok fuel) <| callsC (F46ok fuel) <| callsC (Litoaok fuel) <| callsC (F20ok fuel) <| callsC (F150ok fuel) <| callsN)

theorem F58ok (fuel : Nat) : (F58c fuel).Ok Tryz.prog := fun x y h => meets_of (F58k fuel) (f := 58) (fn := Tryz.f58) (c := bodyOf Tryz.f58) (by kernel_rfl) (by kernel_rfl) (by kernel_rfl) (by kernel_rfl) (loops0 (by kernel_rfl)) (A := (F58c fuel).A) (R := (F58c fuel).R) (F := (F58c fuel).F) (fun x => by kernel_rfl) (fun x => by kernel_rfl) x y h

noncomputable def S207_3 (fuel : Nat) (a2 : Unit) (a3 : List PV) (a4 : List PV) (a5 : Int) (a6 : Int) (a7 : List UInt8) : Option ((Unit × (List PV) × (List PV) × Int × Int × (List UInt8)) ⊕ ((Unit × (List PV) × (List UInt8)))) :=
  bif (decide (a6 < a5)) then
    bif inRange a6 a4.length then
    let x9 := a4.getD a6.toNat .bad
    (Litoa fuel ((x9.fld 0).asInt)).bind fun y11 =>
    bif (((x9.fld 0).asInt) != ((x9.fld 1).asInt)) then
      (Litoa fuel ((x9.fld 1).asInt)).bind fun y16 =>
      bif decide (([32, 45, 32] : List UInt8).length + y16.length ≤ strMax) then
      bif decide (y11.length + (([32, 45, 32] : List UInt8) ++ y16).length ≤ strMax) then
      let x17 := y11 ++ (([32, 45, 32] : List UInt8) ++ y16)
      bif decide (a3.length + [(PV.str x17)].length ≤ accMax) then
      some (.inl ((), (a3 ++ [(PV.str x17)]), a4, a5, (IntKind.wrap .i64 (a6 + (1 : Int))), a7))
      else none
      else none
      else none
    else
      bif decide (a3.length + [(PV.str y11)].length ≤ accMax) then
      some (.inl ((), (a3 ++ [(PV.str y11)]), a4, a5, (IntKind.wrap .i64 (a6 + (1 : Int))), a7))
      else none
    else none
  else
    some (.inr ((), a3, a7))

noncomputable def S207_3step (fuel : Nat) (x : Unit × (List PV) × (List PV) × Int × Int × (List UInt8)) : Option ((Unit × (List PV) × (List PV) × Int × Int × (List UInt8)) ⊕ ((Unit × (List PV) × (List UInt8)))) := S207_3 fuel x.1 x.2.1 x.2.2.1 x.2.2.2.1 x.2.2.2.2.1 x.2.2.2.2.2

/-- (*wireschema/format.printer).ranges -/
noncomputable def F207 (fuel : Nat) (a0 : Unit) (a1 : List PV) (a2 : List UInt8) : Option ((List UInt8)) :=
  (loopQ fuel (S207_3step fuel) ((), [], a1, (a1.length : Int), (0 : Int), a2)).bind fun y22 =>
  bif (decide ((y22.2.1.length : Int) > (0 : Int))) then
    (Ljoin fuel y22.2.1 ([44, 32] : List UInt8)).bind fun y27 =>
    bif decide (([114, 101, 115, 101, 114, 118, 101, 100, 32] : List UInt8).length + y27.length ≤ strMax) then
    bif decide ((([114, 101, 115, 101, 114, 118, 101, 100, 32] : List UInt8) ++ y27).length + ([59] : List UInt8).length ≤ strMax) then
    let x28 := (([114, 101, 115, 101, 114, 118, 101, 100, 32] : List UInt8) ++ y27) ++ ([59] : List UInt8)
    (F102 fuel () (1 : Int) x28 y22.2.2).bind fun y29 =>
    some y29
    else none
    else none
  else
    some y22.2.2

noncomputable def S207_3l (fuel : Nat) : LoopE := { key := 3, H := ⟨[0, 4, 8, 9, 10], [.bld 127, .acc], [(.con (.bref 0 127)), (.acc 1 9), (.slice 163), (.int .i64), (.int .i64), .str]⟩, X := [(.exit 0, ⟨[0, 4], [.bld 127, .acc], [(.con (.bref 0 127)), (.acc 1 9), .str]⟩)], step := S207_3step fuel }

noncomputable def F207C (fuel : Nat) : Cfg := cfg Tryz.prog 42 1 [Litoac fuel, Ljoinc fuel, F102c fuel] [S207_3l fuel] fuel

noncomputable def F207c (fuel : Nat) : CallE := { f := 207, A := ⟨2, [.bld 127], [(.con (.bref 0 127)), (.slice 163), .str]⟩, R := ⟨0, [.bld 127], [.str]⟩, F := fun x => F207 fuel x.1 x.2.1 x.2.2, dflt := [] }

theorem F207k (fuel : Nat) : CallOk (F207C fuel) := cfg_callOk (callsC (Litoaok fuel) <| callsC (Ljoinok fuel) <| callsC (F102ok fuel) <| callsN)

theorem S207_3ok (fuel : Nat) : LoopOk (F207C fuel) (lp (bodyOf Tryz.f207) 0) := loopOk_of (F207k fuel) fuel (S207_3l fuel) (loops0 (by kernel_rfl)) (by kernel_rfl) (fun x => by kernel_rfl) (fun R e st K => by kernel_rfl)

theorem F207ok (fuel : Nat) : (F207c fuel).Ok Tryz.prog := fun x y h => meets_of (F207k fuel) (f := 207) (fn := Tryz.f207) (c := bodyOf Tryz.f207) (by kernel_rfl) (by kernel_rfl) (by kernel_rfl) (by kernel_rfl) (loopsN 1 (by kernel_rfl) fun i hi => match i, hi with | 0, _ => S207_3ok fuel | n + 1, h => absurd h (by omega)) (A := (F207c fuel).A) (R := (F207c fuel).R) (F := (F207c fuel).F) (fun x => by kernel_rfl) (fun x => by kernel_rfl) x y h

noncomputable def S104_5 (fuel : Nat) (a9 : Unit) (a10 : Unit) (a11 : List UInt8) (a12 : List PV) (a13 : Int) (a14 : Int) (a15 : List UInt8) (a16 : PV) : Option ((Unit × Unit × (List UInt8) × (List PV) × Int × Int × (List UInt8) × PV) ⊕ ((Unit × Unit × (List UInt8) × (List UInt8) × PV))) :=
  bif (decide (a14 < a13)) then
    bif inRange a14 a12.length then
    let x18 := a12.getD a14.toNat .bad
    bif (bif (!(a11 == ([] : List UInt8))) then (!(((x18.fld 5).asStr) == a11)) else false) then
      (F102 fuel () (1 : Int) ([125] : List UInt8) a15).bind fun y23 =>
      bif (bif (!(((x18.fld 5).asStr) == ([] : List UInt8))) then (!(((x18.fld 5).asStr) == a11)) else false) then
        let x29 := (x18.fld 5).asStr
        bif decide (([117, 110, 105, 111, 110, 32] : List UInt8).length + x29.length ≤ strMax) then
        bif decide ((([117, 110, 105, 111, 110, 32] : List UInt8) ++ x29).length + ([32, 123] : List UInt8).length ≤ strMax) then
        let x30 := (([117, 110, 105, 111, 110, 32] : List UInt8) ++ x29) ++ ([32, 123] : List UInt8)
        (F102 fuel () (1 : Int) x30 y23).bind fun y31 =>
        let x32 := (x18.fld 5).asStr
        bif (x32 == ([] : List UInt8)) then
          (F58 fuel x18).bind fun y34 =>
          (F102 fuel () (1 : Int) y34 y31).bind fun y35 =>
          some (.inl ((), (), x32, a12, a13, (IntKind.wrap .i64 (a14 + (1 : Int))), y35, a16))
        else
          (F58 fuel x18).bind fun y37 =>
          (F102 fuel () (2 : Int) y37 y31).bind fun y38 =>
          some (.inl ((), (), x32, a12, a13, (IntKind.wrap .i64 (a14 + (1 : Int))), y38, a16))
        else none
        else none
      else
        let x40 := (x18.fld 5).asStr
        bif (x40 == ([] : List UInt8)) then
          (F58 fuel x18).bind fun y42 =>
          (F102 fuel () (1 : Int) y42 y23).bind fun y43 =>
          some (.inl ((), (), x40, a12, a13, (IntKind.wrap .i64 (a14 + (1 : Int))), y43, a16))
        else
          (F58 fuel x18).bind fun y45 =>
          (F102 fuel () (2 : Int) y45 y23).bind fun y46 =>
          some (.inl ((), (), x40, a12, a13, (IntKind.wrap .i64 (a14 + (1 : Int))), y46, a16))
    else
      bif (bif (!(((x18.fld 5).asStr) == ([] : List UInt8))) then (!(((x18.fld 5).asStr) == a11)) else false) then
        let x53 := (x18.fld 5).asStr
        bif decide (([117, 110, 105, 111, 110, 32] : List UInt8).length + x53.length ≤ strMax) then
        bif decide ((([117, 110, 105, 111, 110, 32] : List UInt8) ++ x53).length + ([32, 123] : List UInt8).length ≤ strMax) then
        let x54 := (([117, 110, 105, 111, 110, 32] : List UInt8) ++ x53) ++ ([32, 123] : List UInt8)
        (F102 fuel () (1 : Int) x54 a15).bind fun y55 =>
        let x56 := (x18.fld 5).asStr
        bif (x56 == ([] : List UInt8)) then
          (F58 fuel x18).bind fun y58 =>
          (F102 fuel () (1 : Int) y58 y55).bind fun y59 =>
          some (.inl ((), (), x56, a12, a13, (IntKind.wrap .i64 (a14 + (1 : Int))), y59, a16))
        else
          (F58 fuel x18).bind fun y61 =>
          (F102 fuel () (2 : Int) y61 y55).bind fun y62 =>
          some (.inl ((), (), x56, a12, a13, (IntKind.wrap .i64 (a14 + (1 : Int))), y62, a16))
        else none
        else none
      else
        let x64 := (x18.fld 5).asStr
        bif (x64 == ([] : List UInt8)) then
          (F58 fuel x18).bind fun y66 =>
          (F102 fuel () (1 : Int) y66 a15).bind fun y67 =>
          some (.inl ((), (), x64, a12, a13, (IntKind.wrap .i64 (a14 + (1 : Int))), y67, a16))
        else
          (F58 fuel x18).bind fun y69 =>
          (F102 fuel () (2 : Int) y69 a15).bind fun y70 =>
          some (.inl ((), (), x64, a12, a13, (IntKind.wrap .i64 (a14 + (1 : Int))), y70, a16))
    else none
  else
    some (.inr ((), (), a11, a15, a16))

noncomputable def S104_5step (fuel : Nat) (x : Unit × Unit × (List UInt8) × (List PV) × Int × Int × (List UInt8) × PV) : Option ((Unit × Unit × (List UInt8) × (List PV) × Int × Int × (List UInt8) × PV) ⊕ ((Unit × Unit × (List UInt8) × (List UInt8) × PV))) := S104_5 fuel x.1 x.2.1 x.2.2.1 x.2.2.2.1 x.2.2.2.2.1 x.2.2.2.2.2.1 x.2.2.2.2.2.2.1 x.2.2.2.2.2.2.2

noncomputable def S104_21 (fuel : Nat) (a80 : Unit) (a81 : List PV) (a82 : List PV) (a83 : Int) (a84 : Int) (a85 : List UInt8) (a86 : PV) : Option ((Unit × (List PV) × (List PV) × Int × Int × (List UInt8) × PV) ⊕ ((Unit × (List PV) × (List UInt8) × PV))) :=
  bif (decide (a84 < a83)) then
    bif inRange a84 a82.length then
    (F52 fuel (a82.getD a84.toNat .bad).asStr).bind fun y90 =>
    bif decide (a81.length + [(PV.str y90)].length ≤ accMax) then
    some (.inl ((), (a81 ++ [(PV.str y90)]), a82, a83, (IntKind.wrap .i64 (a84 + (1 : Int))), a85, a86))
    else none
    else none
  else
    some (.inr ((), a81, a85, a86))

noncomputable def S104_21step (fuel : Nat) (x : Unit × (List PV) × (List PV) × Int × Int × (List UInt8) × PV) : Option ((Unit × (List PV) × (List PV) × Int × Int × (List UInt8) × PV) ⊕ ((Unit × (List PV) × (List UInt8) × PV))) := S104_21 fuel x.1 x.2.1 x.2.2.1 x.2.2.2.1 x.2.2.2.2.1 x.2.2.2.2.2.1 x.2.2.2.2.2.2

/-- (*wireschema/format.printer).message -/
noncomputable def F104 (fuel : Nat) (a0 : Unit) (a1 : PV) (a2 : List UInt8) : Option ((List UInt8)) :=
  let x1 := (a1.fld 0).asStr
  bif decide (([109, 101, 115, 115, 97, 103, 101, 32] : List UInt8).length + x1.length ≤ strMax) then
  (F150 fuel ((a1.fld 4).asList)).bind fun y3 =>
  bif decide ((([109, 101, 115, 115, 97, 103, 101, 32] : List UInt8) ++ x1).length + y3.length ≤ strMax) then
  let x4 := (([109, 101, 115, 115, 97, 103, 101, 32] : List UInt8) ++ x1) ++ y3
  bif decide (x4.length + ([32, 123] : List UInt8).length ≤ strMax) then
  (F102 fuel () (0 : Int) (x4 ++ ([32, 123] : List UInt8)) a2).bind fun y6 =>
  let x7 := (a1.fld 1).asList
  (loopQ fuel (S104_5step fuel) ((), (), ([] : List UInt8), x7, (x7.length : Int), (0 : Int), y6, a1)).bind fun y72 =>
  bif (!(y72.2.2.1 == ([] : List UInt8))) then
    (F102 fuel () (1 : Int) ([125] : List UInt8) y72.2.2.2.1).bind fun y75 =>
    (F207 fuel () ((y72.2.2.2.2.fld 2).asList) y75).bind fun y77 =>
    let x78 := (y72.2.2.2.2.fld 3).asList
    (loopQ fuel (S104_21step fuel) ((), [], x78, (x78.length : Int), (0 : Int), y77, y72.2.2.2.2)).bind fun y93 =>
    bif (decide ((y93.2.1.length : Int) > (0 : Int))) then
      (Ljoin fuel y93.2.1 ([44, 32] : List UInt8)).bind fun y98 =>
      bif decide (([114, 101, 115, 101, 114, 118, 101, 100, 32] : List UInt8).length + y98.length ≤ strMax) then
      bif decide ((([114, 101, 115, 101, 114, 118, 101, 100, 32] : List UInt8) ++ y98).length + ([59] : List UInt8).length ≤ strMax) then
      let x99 := (([114, 101, 115, 101, 114, 118, 101, 100, 32] : List UInt8) ++ y98) ++ ([59] : List UInt8)
      (F102 fuel () (1 : Int) x99 y93.2.2.1).bind fun y100 =>
      (F102 fuel () (0 : Int) ([125] : List UInt8) y100).bind fun y101 =>
      some y101
      else none
      else none
    else
      (F102 fuel () (0 : Int) ([125] : List UInt8) y93.2.2.1).bind fun y102 =>
      some y102
  else
    (F207 fuel () ((y72.2.2.2.2.fld 2).asList) y72.2.2.2.1).bind fun y104 =>
    let x105 := (y72.2.2.2.2.fld 3).asList
    (loopQ fuel (S104_21step fuel) ((), [], x105, (x105.length : Int), (0 : Int), y104, y72.2.2.2.2)).bind fun y107 =>
    bif (decide ((y107.2.1.length : Int) > (0 : Int))) then
      (Ljoin fuel y107.2.1 ([44, 32] : List UInt8)).bind fun y112 =>
      bif decide (([114, 101, 115, 101, 114, 118, 101, 100, 32] : List UInt8).length + y112.length ≤ strMax) then
      bif decide ((([114, 101, 115, 101, 114, 118, 101, 100, 32] : List UInt8) ++ y112).length + ([59] : List UInt8).length ≤ strMax) then
      let x113 := (([114, 101, 115, 101, 114, 118, 101, 100, 32] : List UInt8) ++ y112) ++ ([59] : List UInt8)
      (F102 fuel () (1 : Int) x113 y107.2.2.1).bind fun y114 =>
      (F102 fuel () (0 : Int) ([125] : List UInt8) y114).bind fun y115 =>
      some y115
      else none
      else none
    else
      (F102 fuel () (0 : Int) ([125] : List UInt8) y107.2.2.1).bind fun y116 =>
      some y116
  else none
  else none
  else none

noncomputable def S104_5l (fuel : Nat) : LoopE := { key := 5, H := ⟨[0, 3, 4, 21, 22, 23], [.bld 127, .box 61 .leaf], [(.con (.bref 0 127)), (.con (.ref 1 [] 61)), .str, (.slice 45), (.int .i64), (.int .i64), .str, (.data 61)]⟩, X := [(.exit 0, ⟨[0, 3, 4], [.bld 127, .box 61 .leaf], [(.con (.bref 0 127)), (.con (.ref 1 [] 61)), .str, .str, (.data 61)]⟩)], step := S104_5step fuel }

noncomputable def S104_21l (fuel : Nat) : LoopE := { key := 21, H := ⟨[0, 7, 74, 75, 76], [.bld 127, .box 61 .leaf, .acc], [(.con (.bref 0 127)), (.acc 2 9), (.slice 9), (.int .i64), (.int .i64), .str, (.data 61)]⟩, X := [(.exit 2, ⟨[0, 7], [.bld 127, .box 61 .leaf, .acc], [(.con (.bref 0 127)), (.acc 2 9), .str, (.data 61)]⟩)], step := S104_21step fuel }

noncomputable def F104C (fuel : Nat) : Cfg := cfg Tryz.prog 97 1 [F150c fuel, F102c fuel, F58c fuel, F207c fuel, F52c fuel, Ljoinc fuel] [S104_5l fuel, S104_21l fuel] fuel

noncomputable def F104c (fuel : Nat) : CallE := { f := 104, A := ⟨2, [.bld 127], [(.con (.bref 0 127)), (.data 61), .str]⟩, R := ⟨0, [.bld 127], [.str]⟩, F := fun x => F104 fuel x.1 x.2.1 x.2.2, dflt := [] }

theorem F104k (fuel : Nat) : CallOk (F104C fuel) := cfg_callOk (callsC (F150ok fuel) <| callsC (F102ok fuel) <| callsC (F58ok fuel) <| callsC (F207ok fuel) <| callsC (F52ok fuel) <| callsC (Ljoinok fuel) <| callsN)

theorem S104_5ok (fuel : Nat) : LoopOk (F104C fuel) (lp (bodyOf Tryz.f104) 0) := loopOk_of (F104k fuel) fuel (S104_5l fuel) (loops0 (by kernel_rfl)) (by kernel_rfl) (fun x => by kernel_rfl) (fun R e st K => by kernel_rfl)

theorem S104_21ok (fuel : Nat) : LoopOk (F104C fuel) (lp (bodyOf Tryz.f104) 1) := loopOk_of (F104k fuel) fuel (S104_21l fuel) (loops0 (by kernel_rfl)) (by kernel_rfl) (fun x => by kernel_rfl) (fun R e st K => by kernel_rfl)

theorem F104ok (fuel : Nat) : (F104c fuel).Ok Tryz.prog := fun x y h => meets_of (F104k fuel) (f := 104) (fn := Tryz.f104) (c := bodyOf Tryz.f104) (by kernel_rfl) (by kernel_rfl) (by kernel_rfl) (by kernel_rfl) (loopsN 2 (by kernel_rfl) fun i hi => match i, hi with | 0, _ => S104_5ok fuel | 1, _ => S104_21ok fuel | n + 2, h => absurd h (by omega)) (A := (F104c fuel).A) (R := (F104c fuel).R) (F := (F104c fuel).F) (fun x => by kernel_rfl) (fun x => by kernel_rfl) x y h

noncomputable def S103_2 (fuel : Nat) (a2 : Unit) (a3 : Unit) (a4 : List PV) (a5 : Int) (a6 : Int) (a7 : List UInt8) : Option ((Unit × Unit × (List PV) × Int × Int × (List UInt8)) ⊕ (((List UInt8)))) :=
  bif (decide (a6 < a5)) then
    bif inRange a6 a4.length then
    let x9 := a4.getD a6.toNat .bad
    (LlenB fuel a7).bind fun y10 =>
    bif (decide (y10.1 > (0 : Int))) then
      (LwriteString fuel ([10] : List UInt8) y10.2).bind fun y12 =>
      (F104 fuel () x9 y12.2.2).bind fun y13 =>
      some (.inl ((), (), a4, a5, (IntKind.wrap .i64 (a6 + (1 : Int))), y13))
    else
      (F104 fuel () x9 y10.2).bind fun y15 =>
      some (.inl ((), (), a4, a5, (IntKind.wrap .i64 (a6 + (1 : Int))), y15))
    else none
  else
    some (.inr a7)

noncomputable def S103_2step (fuel : Nat) (x : Unit × Unit × (List PV) × Int × Int × (List UInt8)) : Option ((Unit × Unit × (List PV) × Int × Int × (List UInt8)) ⊕ (((List UInt8)))) := S103_2 fuel x.1 x.2.1 x.2.2.1 x.2.2.2.1 x.2.2.2.2.1 x.2.2.2.2.2

/-- wireschema/format.defs[wireschema/api.Message] -/
noncomputable def F103 (fuel : Nat) (a0 : Unit) (a1 : List PV) (a2 : Unit) (a3 : List UInt8) : Option ((List UInt8)) :=
  (loopQ fuel (S103_2step fuel) ((), (), a1, (a1.length : Int), (0 : Int), a3)).bind fun y17 =>
  some y17

noncomputable def S103_2l (fuel : Nat) : LoopE := { key := 2, H := ⟨[0, 2, 8, 9, 10], [.bld 127], [(.con (.bref 0 127)), (.con (.fn 104 1 [(.bref 0 127)])), (.slice 61), (.int .i64), (.int .i64), .str]⟩, X := [(.exit 0, ⟨[], [.bld 127], [.str]⟩)], step := S103_2step fuel }

noncomputable def F103C (fuel : Nat) : Cfg := cfg Tryz.prog 27 1 [LlenB_127c fuel, LwriteString_127c fuel, F104c fuel] [S103_2l fuel] fuel

noncomputable def F103c (fuel : Nat) : CallE := { f := 103, A := ⟨3, [.bld 127], [(.con (.bref 0 127)), (.slice 61), (.con (.fn 104 1 [(.bref 0 127)])), .str]⟩, R := ⟨0, [.bld 127], [.str]⟩, F := fun x => F103 fuel x.1 x.2.1 x.2.2.1 x.2.2.2, dflt := [] }

theorem F103k (fuel : Nat) : CallOk (F103C fuel) := cfg_callOk (callsC (LlenB_127ok fuel) <| callsC (LwriteString_127ok fuel) <| callsC (F104ok fuel) <| callsN)

theorem S103_2ok (fuel : Nat) : LoopOk (F103C fuel) (lp (bodyOf Tryz.f103) 0) := loopOk_of (F103k fuel) fuel (S103_2l fuel) (loops0 (by kernel_rfl)) (by kernel_rfl) (fun x => by kernel_rfl) (fun R e st K => by kernel_rfl)

theorem F103ok (fuel : Nat) : (F103c fuel).Ok Tryz.prog := fun x y h => meets_of (F103k fuel) (f := 103) (fn := Tryz.f103) (c := bodyOf Tryz.f103) (by kernel_rfl) (by kernel_rfl) (by kernel_rfl) (by kernel_rfl) (loopsN 1 (by kernel_rfl) fun i hi => match i, hi with | 0, _ => S103_2ok fuel | n + 1, h => absurd h (by omega)) (A := (F103c fuel).A) (R := (F103c fuel).R) (F := (F103c fuel).F) (fun x => by kernel_rfl) (fun x => by kernel_rfl) x y h
end Go.Ab
