/- Files: when two are the same (format.Same, r10.Same). -/
import Derived.Test.YtjfdnmkfjikjnaaGreatDoorAbBridgeF
import Derived.Test.YtjfdnmkfjikjnaaGreatDoorGenF
import Derived.Test.YtjfdnmkfjikjnaaGreatDoorAbFold
set_option linter.unusedVariables false
set_option linter.unusedSimpArgs false
set_option linter.unnecessarySimpa false
namespace Go.Ab
open Go
set_option maxRecDepth 100000
abbrev bdI (v : PV) (i : Nat) : Int := (v.fld i).asInt
theorem bulk_parts (v : PV) : bulkPVs v.asList ≤ bulkPV v := by cases v <;> simp [PV.asList, bulkPVs, bulkPV]
theorem bulk_part (v : PV) (i : Nat) : bulkPV (v.fld i) ≤ bulkPV v := by
  unfold PV.fld
  cases v with
  | agg xs =>
    show bulkPV (xs.getD i .bad) ≤ bulkPVs xs + 1
    by_cases h : i < xs.length
    · have : xs.getD i .bad ∈ xs := by rw [getD_of_lt h]; exact List.getElem_mem h
      have := bulkPVs_mem this; omega
    · have : xs.getD i .bad = .bad := by simp [List.getD, List.getElem?_eq_none (Nat.le_of_not_lt h)]
      rw [this]; simp [bulkPV]
  | _ => simp [PV.parts, bulkPV]
theorem bmem {xs : List PV} {n i : Nat} (hb : bulkPVs xs ≤ n) (h : i < xs.length) : bulkPV (xs.getD i .bad) ≤ n := by
  have : xs.getD i .bad ∈ xs := by rw [getD_of_lt h]; exact List.getElem_mem h
  have := bulkPVs_mem this; omega
theorem bsub {v : PV} {n : Nat} (hb : bulkPV v ≤ n) (i : Nat) : bulkPVs (v.fld i).asList ≤ n := by
  have := bulk_part v i; have := bulk_parts (v.fld i); omega
theorem blen {v : PV} {n : Nat} (hb : bulkPV v ≤ n) (i : Nat) : (v.fld i).asList.length ≤ n := by
  have := bsub hb i; have := bulkPVs_length (v.fld i).asList; omega

def strEq (x y : PV) : Bool := ((x.asStr == y.asStr))
theorem strEq_symm (x y : PV) : strEq x y = strEq y x := by
  unfold strEq
  rw [beqC (x.asStr) _]
theorem strEq_refl (x : PV) : strEq x x = true := by
  simp [strEq]
def spanEq (x y : PV) : Bool := (((x.fld 0).asInt == (y.fld 0).asInt)) && (((x.fld 1).asInt == (y.fld 1).asInt))
theorem spanEq_symm (x y : PV) : spanEq x y = spanEq y x := by
  unfold spanEq
  rw [beqC ((x.fld 0).asInt) _, beqC ((x.fld 1).asInt) _]
theorem spanEq_refl (x : PV) : spanEq x x = true := by
  simp [spanEq]
def vEq (x y : PV) : Bool := (((x.fld 0).asInt == (y.fld 0).asInt)) && (((x.fld 1).asInt == (y.fld 1).asInt)) && (((x.fld 2).asStr == (y.fld 2).asStr))
theorem vEq_symm (x y : PV) : vEq x y = vEq y x := by
  unfold vEq
  rw [beqC ((x.fld 0).asInt) _, beqC ((x.fld 1).asInt) _, beqC ((x.fld 2).asStr) _]
theorem vEq_refl (x : PV) : vEq x x = true := by
  simp [vEq]
def tEq (x y : PV) : Bool := (((x.fld 0).asInt == (y.fld 0).asInt)) && (((x.fld 1).asStr == (y.fld 1).asStr))
theorem tEq_symm (x y : PV) : tEq x y = tEq y x := by
  unfold tEq
  rw [beqC ((x.fld 0).asInt) _, beqC ((x.fld 1).asStr) _]
theorem tEq_refl (x : PV) : tEq x x = true := by
  simp [tEq]
def noteEq (x y : PV) : Bool := (((x.fld 0).asStr == (y.fld 0).asStr)) && (vEq (x.fld 1) (y.fld 1))
theorem noteEq_symm (x y : PV) : noteEq x y = noteEq y x := by
  unfold noteEq
  rw [beqC ((x.fld 0).asStr) _, vEq_symm (x.fld 1) _]
theorem noteEq_refl (x : PV) : noteEq x x = true := by
  simp [noteEq, vEq_refl]
def fldEq (x y : PV) : Bool := (((x.fld 0).asInt == (y.fld 0).asInt)) && (((x.fld 1).asStr == (y.fld 1).asStr)) && (((x.fld 2).asInt == (y.fld 2).asInt)) && (((x.fld 3).asInt == (y.fld 3).asInt)) && (tEq (x.fld 4) (y.fld 4)) && (((x.fld 5).asStr == (y.fld 5).asStr)) && (((x.fld 6).asBool == (y.fld 6).asBool)) && (vEq (x.fld 7) (y.fld 7)) && (eqL noteEq (x.fld 8).asList (y.fld 8).asList)
theorem fldEq_symm (x y : PV) : fldEq x y = fldEq y x := by
  unfold fldEq
  rw [beqC ((x.fld 0).asInt) _, beqC ((x.fld 1).asStr) _, beqC ((x.fld 2).asInt) _, beqC ((x.fld 3).asInt) _, tEq_symm (x.fld 4) _, beqC ((x.fld 5).asStr) _, beqC ((x.fld 6).asBool) _, vEq_symm (x.fld 7) _, eqL_symm noteEq_symm (x.fld 8).asList _]
theorem fldEq_refl (x : PV) : fldEq x x = true := by
  simp [fldEq, tEq_refl, vEq_refl, eqL_refl noteEq_refl]
def msgEq (x y : PV) : Bool := (((x.fld 0).asStr == (y.fld 0).asStr)) && (eqL fldEq (x.fld 1).asList (y.fld 1).asList) && (eqL spanEq (x.fld 2).asList (y.fld 2).asList) && (eqL strEq (x.fld 3).asList (y.fld 3).asList) && (eqL noteEq (x.fld 4).asList (y.fld 4).asList)
theorem msgEq_symm (x y : PV) : msgEq x y = msgEq y x := by
  unfold msgEq
  rw [beqC ((x.fld 0).asStr) _, eqL_symm fldEq_symm (x.fld 1).asList _, eqL_symm spanEq_symm (x.fld 2).asList _, eqL_symm strEq_symm (x.fld 3).asList _, eqL_symm noteEq_symm (x.fld 4).asList _]
theorem msgEq_refl (x : PV) : msgEq x x = true := by
  simp [msgEq, eqL_refl fldEq_refl, eqL_refl spanEq_refl, eqL_refl strEq_refl, eqL_refl noteEq_refl]
def itemEq (x y : PV) : Bool := (((x.fld 0).asStr == (y.fld 0).asStr)) && (((x.fld 1).asInt == (y.fld 1).asInt)) && (eqL noteEq (x.fld 2).asList (y.fld 2).asList)
theorem itemEq_symm (x y : PV) : itemEq x y = itemEq y x := by
  unfold itemEq
  rw [beqC ((x.fld 0).asStr) _, beqC ((x.fld 1).asInt) _, eqL_symm noteEq_symm (x.fld 2).asList _]
theorem itemEq_refl (x : PV) : itemEq x x = true := by
  simp [itemEq, eqL_refl noteEq_refl]
def enumEq (x y : PV) : Bool := (((x.fld 0).asStr == (y.fld 0).asStr)) && (((x.fld 1).asBool == (y.fld 1).asBool)) && (eqL spanEq (x.fld 3).asList (y.fld 3).asList) && (eqL noteEq (x.fld 4).asList (y.fld 4).asList) && (eqL itemEq (x.fld 2).asList (y.fld 2).asList)
theorem enumEq_symm (x y : PV) : enumEq x y = enumEq y x := by
  unfold enumEq
  rw [beqC ((x.fld 0).asStr) _, beqC ((x.fld 1).asBool) _, eqL_symm spanEq_symm (x.fld 3).asList _, eqL_symm noteEq_symm (x.fld 4).asList _, eqL_symm itemEq_symm (x.fld 2).asList _]
theorem enumEq_refl (x : PV) : enumEq x x = true := by
  simp [enumEq, eqL_refl spanEq_refl, eqL_refl noteEq_refl, eqL_refl itemEq_refl]
def methEq (x y : PV) : Bool := (((x.fld 0).asStr == (y.fld 0).asStr)) && (((x.fld 1).asStr == (y.fld 1).asStr)) && (((x.fld 2).asStr == (y.fld 2).asStr)) && (((x.fld 3).asInt == (y.fld 3).asInt)) && (eqL noteEq (x.fld 4).asList (y.fld 4).asList)
theorem methEq_symm (x y : PV) : methEq x y = methEq y x := by
  unfold methEq
  rw [beqC ((x.fld 0).asStr) _, beqC ((x.fld 1).asStr) _, beqC ((x.fld 2).asStr) _, beqC ((x.fld 3).asInt) _, eqL_symm noteEq_symm (x.fld 4).asList _]
theorem methEq_refl (x : PV) : methEq x x = true := by
  simp [methEq, eqL_refl noteEq_refl]
def svcEq (x y : PV) : Bool := (((x.fld 0).asStr == (y.fld 0).asStr)) && (eqL noteEq (x.fld 2).asList (y.fld 2).asList) && (eqL methEq (x.fld 1).asList (y.fld 1).asList)
theorem svcEq_symm (x y : PV) : svcEq x y = svcEq y x := by
  unfold svcEq
  rw [beqC ((x.fld 0).asStr) _, eqL_symm noteEq_symm (x.fld 2).asList _, eqL_symm methEq_symm (x.fld 1).asList _]
theorem svcEq_refl (x : PV) : svcEq x x = true := by
  simp [svcEq, eqL_refl noteEq_refl, eqL_refl methEq_refl]
def fileEq (x y : PV) : Bool := (((x.fld 1).asStr == (y.fld 1).asStr)) && (eqL strEq (x.fld 2).asList (y.fld 2).asList) && (eqL msgEq (x.fld 3).asList (y.fld 3).asList) && (eqL enumEq (x.fld 4).asList (y.fld 4).asList) && (eqL svcEq (x.fld 5).asList (y.fld 5).asList)
theorem fileEq_symm (x y : PV) : fileEq x y = fileEq y x := by
  unfold fileEq
  rw [beqC ((x.fld 1).asStr) _, eqL_symm strEq_symm (x.fld 2).asList _, eqL_symm msgEq_symm (x.fld 3).asList _, eqL_symm enumEq_symm (x.fld 4).asList _, eqL_symm svcEq_symm (x.fld 5).asList _]
theorem fileEq_refl (x : PV) : fileEq x x = true := by
  simp [fileEq, eqL_refl strEq_refl, eqL_refl msgEq_refl, eqL_refl enumEq_refl, eqL_refl svcEq_refl]
theorem strs_eq (xs ys : List PV) (hb : bulkPVs xs ≤ 1048576) : F60 0 xs ys = some (eqL strEq xs ys) := by
  have hl := bulkPVs_length xs
  unfold F60
  rw [neLen]
  by_cases h : xs.length = ys.length
  · have hd : decide (xs.length = ys.length) = true := decide_eq_true h
    have hloop : loopW (S60_5step 0) (xs, ys, (xs.length : Int), ((0 : Nat) : Int)) = some (bif allF (fun i => strEq (xs.getD i .bad) (ys.getD i .bad)) 0 xs.length then .inr () else .inl false) :=
      loopW_all (fun i => (xs, ys, (xs.length : Int), (i : Int))) xs.length (fun i => strEq (xs.getD i .bad) (ys.getD i .bad)) (Sum.inl false : Bool ⊕ Unit) (Sum.inr ()) (fun i hi => by
        have hm : bulkPV (xs.getD i .bad) ≤ 1048576 := bmem hb hi
        have hi2 : i < ys.length := by omega
        simp only [S60_5step, S60_5, lt_int, inRange_nat, hi, hi2, decide_true, cond_true, Int.toNat_natCast, imp, wadd i (by omega)]
        simp only [strEq, condAnd, bne]
        cases ((xs.getD i .bad).asStr == (ys.getD i .bad).asStr) <;> rfl) (by
        simp only [S60_5step, S60_5, lt_int, Nat.lt_irrefl, decide_false, cond_false]) xs.length 0 (by omega)
    rw [eqL_of .bad h] at hloop
    simp only [hd, Bool.not_true, cond_false]
    show (loopW (S60_5step 0) (xs, ys, (xs.length : Int), ((0 : Nat) : Int))).bind _ = _
    rw [hloop]
    cases eqL strEq xs ys <;> rfl
  · rw [eqL_len h]; simp [h]
theorem spans_eq (xs ys : List PV) (hb : bulkPVs xs ≤ 1048576) : F155 0 xs ys = some (eqL spanEq xs ys) := by
  have hl := bulkPVs_length xs
  unfold F155
  rw [neLen]
  by_cases h : xs.length = ys.length
  · have hd : decide (xs.length = ys.length) = true := decide_eq_true h
    have hloop : loopW (S155_5step 0) (xs, ys, (xs.length : Int), ((0 : Nat) : Int)) = some (bif allF (fun i => spanEq (xs.getD i .bad) (ys.getD i .bad)) 0 xs.length then .inr () else .inl false) :=
      loopW_all (fun i => (xs, ys, (xs.length : Int), (i : Int))) xs.length (fun i => spanEq (xs.getD i .bad) (ys.getD i .bad)) (Sum.inl false : Bool ⊕ Unit) (Sum.inr ()) (fun i hi => by
        have hm : bulkPV (xs.getD i .bad) ≤ 1048576 := bmem hb hi
        have hi2 : i < ys.length := by omega
        simp only [S155_5step, S155_5, lt_int, inRange_nat, hi, hi2, decide_true, cond_true, Int.toNat_natCast, imp, wadd i (by omega)]
        simp only [spanEq, condAnd, bne]
        cases (((xs.getD i .bad).fld 0).asInt == ((ys.getD i .bad).fld 0).asInt) <;> cases (((xs.getD i .bad).fld 1).asInt == ((ys.getD i .bad).fld 1).asInt) <;> rfl) (by
        simp only [S155_5step, S155_5, lt_int, Nat.lt_irrefl, decide_false, cond_false]) xs.length 0 (by omega)
    rw [eqL_of .bad h] at hloop
    simp only [hd, Bool.not_true, cond_false]
    show (loopW (S155_5step 0) (xs, ys, (xs.length : Int), ((0 : Nat) : Int))).bind _ = _
    rw [hloop]
    cases eqL spanEq xs ys <;> rfl
  · rw [eqL_len h]; simp [h]
theorem note1_eq (x y : PV) (hb : bulkPV x ≤ 1048576) : F235 0 x y = some (noteEq x y) := by
  unfold F235
  simp only [noteEq, vEq, condAnd, Bool.and_assoc]
theorem notes_ef (xs ys : List PV) (hb : bulkPVs xs ≤ 1048576) : F234 0 xs ys () = some (eqL noteEq xs ys) := by
  have hl := bulkPVs_length xs
  unfold F234
  rw [neLen]
  by_cases h : xs.length = ys.length
  · have hd : decide (xs.length = ys.length) = true := decide_eq_true h
    have hloop : loopW (S234_5step 0) (ys, (), xs, (xs.length : Int), ((0 : Nat) : Int)) = some (bif allF (fun i => noteEq (xs.getD i .bad) (ys.getD i .bad)) 0 xs.length then .inr () else .inl false) :=
      loopW_all (fun i => (ys, (), xs, (xs.length : Int), (i : Int))) xs.length (fun i => noteEq (xs.getD i .bad) (ys.getD i .bad)) (Sum.inl false : Bool ⊕ Unit) (Sum.inr ()) (fun i hi => by
        have hm : bulkPV (xs.getD i .bad) ≤ 1048576 := bmem hb hi
        have hi2 : i < ys.length := by omega
        simp only [S234_5step, S234_5, lt_int, inRange_nat, hi, hi2, decide_true, cond_true, Int.toNat_natCast, imp, note1_eq _ _ hm, Option.bind_some, wadd i (by omega)]
        cases noteEq (xs.getD i .bad) (ys.getD i .bad) <;> rfl) (by
        simp only [S234_5step, S234_5, lt_int, Nat.lt_irrefl, decide_false, cond_false]) xs.length 0 (by omega)
    rw [eqL_of .bad h] at hloop
    simp only [hd, Bool.not_true, cond_false]
    show (loopW (S234_5step 0) (ys, (), xs, (xs.length : Int), ((0 : Nat) : Int))).bind _ = _
    rw [hloop]
    cases eqL noteEq xs ys <;> rfl
  · rw [eqL_len h]; simp [h]
theorem notes_eq (xs ys : List PV) (hb : bulkPVs xs ≤ 1048576) : F156 0 xs ys = some (eqL noteEq xs ys) := by
  unfold F156
  rw [notes_ef xs ys hb]; rfl
theorem val_eq (x y : PV) : F233 0 x y = some (vEq x y) := by
  unfold F233
  simp only [vEq, condAnd]
theorem field_eq (x y : PV) (hb : bulkPV x ≤ 1048576) : F154 0 x y = some (fldEq x y) := by
  unfold F154
  simp only [condAnd, condSome, Option.bind_some, fldEq, tEq, vEq, val_eq, notes_eq _ _ (bsub hb 8)]
  generalize ((x.fld 0).asInt == (y.fld 0).asInt) = b0
  generalize ((x.fld 1).asStr == (y.fld 1).asStr) = b1
  generalize ((x.fld 2).asInt == (y.fld 2).asInt) = b2
  generalize ((x.fld 3).asInt == (y.fld 3).asInt) = b3
  generalize (((x.fld 4).fld 0).asInt == ((y.fld 4).fld 0).asInt) = b4
  generalize (((x.fld 4).fld 1).asStr == ((y.fld 4).fld 1).asStr) = b5
  generalize ((x.fld 5).asStr == (y.fld 5).asStr) = b6
  generalize ((x.fld 6).asBool == (y.fld 6).asBool) = b7
  generalize (((x.fld 7).fld 0).asInt == ((y.fld 7).fld 0).asInt) = b8
  generalize (((x.fld 7).fld 1).asInt == ((y.fld 7).fld 1).asInt) = b9
  generalize (((x.fld 7).fld 2).asStr == ((y.fld 7).fld 2).asStr) = b10
  generalize eqL noteEq (x.fld 8).asList (y.fld 8).asList = b11
  cases b0 <;> cases b1 <;> cases b2 <;> cases b3 <;> cases b4 <;> cases b5 <;> cases b6 <;> cases b7 <;> cases b8 <;> cases b9 <;> cases b10 <;> cases b11 <;> rfl
theorem fields_ef (xs ys : List PV) (hb : bulkPVs xs ≤ 1048576) : F153 0 xs ys () = some (eqL fldEq xs ys) := by
  have hl := bulkPVs_length xs
  unfold F153
  rw [neLen]
  by_cases h : xs.length = ys.length
  · have hd : decide (xs.length = ys.length) = true := decide_eq_true h
    have hloop : loopW (S153_5step 0) (ys, (), xs, (xs.length : Int), ((0 : Nat) : Int)) = some (bif allF (fun i => fldEq (xs.getD i .bad) (ys.getD i .bad)) 0 xs.length then .inr () else .inl false) :=
      loopW_all (fun i => (ys, (), xs, (xs.length : Int), (i : Int))) xs.length (fun i => fldEq (xs.getD i .bad) (ys.getD i .bad)) (Sum.inl false : Bool ⊕ Unit) (Sum.inr ()) (fun i hi => by
        have hm : bulkPV (xs.getD i .bad) ≤ 1048576 := bmem hb hi
        have hi2 : i < ys.length := by omega
        simp only [S153_5step, S153_5, lt_int, inRange_nat, hi, hi2, decide_true, cond_true, Int.toNat_natCast, imp, field_eq _ _ hm, Option.bind_some, wadd i (by omega)]
        cases fldEq (xs.getD i .bad) (ys.getD i .bad) <;> rfl) (by
        simp only [S153_5step, S153_5, lt_int, Nat.lt_irrefl, decide_false, cond_false]) xs.length 0 (by omega)
    rw [eqL_of .bad h] at hloop
    simp only [hd, Bool.not_true, cond_false]
    show (loopW (S153_5step 0) (ys, (), xs, (xs.length : Int), ((0 : Nat) : Int))).bind _ = _
    rw [hloop]
    cases eqL fldEq xs ys <;> rfl
  · rw [eqL_len h]; simp [h]
theorem msg_eq (x y : PV) (hb : bulkPV x ≤ 1048576) : F62 0 x y = some (msgEq x y) := by
  unfold F62
  simp only [condAnd, condSome, Option.bind_some, msgEq, fields_ef _ _ (bsub hb 1), spans_eq _ _ (bsub hb 2), strs_eq _ _ (bsub hb 3), notes_eq _ _ (bsub hb 4)]
  generalize ((x.fld 0).asStr == (y.fld 0).asStr) = b0
  generalize eqL fldEq (x.fld 1).asList (y.fld 1).asList = b1
  generalize eqL spanEq (x.fld 2).asList (y.fld 2).asList = b2
  generalize eqL strEq (x.fld 3).asList (y.fld 3).asList = b3
  generalize eqL noteEq (x.fld 4).asList (y.fld 4).asList = b4
  cases b0 <;> cases b1 <;> cases b2 <;> cases b3 <;> cases b4 <;> rfl
theorem msgs_ef (xs ys : List PV) (hb : bulkPVs xs ≤ 1048576) : F61 0 xs ys () = some (eqL msgEq xs ys) := by
  have hl := bulkPVs_length xs
  unfold F61
  rw [neLen]
  by_cases h : xs.length = ys.length
  · have hd : decide (xs.length = ys.length) = true := decide_eq_true h
    have hloop : loopW (S61_5step 0) (ys, (), xs, (xs.length : Int), ((0 : Nat) : Int)) = some (bif allF (fun i => msgEq (xs.getD i .bad) (ys.getD i .bad)) 0 xs.length then .inr () else .inl false) :=
      loopW_all (fun i => (ys, (), xs, (xs.length : Int), (i : Int))) xs.length (fun i => msgEq (xs.getD i .bad) (ys.getD i .bad)) (Sum.inl false : Bool ⊕ Unit) (Sum.inr ()) (fun i hi => by
        have hm : bulkPV (xs.getD i .bad) ≤ 1048576 := bmem hb hi
        have hi2 : i < ys.length := by omega
        simp only [S61_5step, S61_5, lt_int, inRange_nat, hi, hi2, decide_true, cond_true, Int.toNat_natCast, imp, msg_eq _ _ hm, Option.bind_some, wadd i (by omega)]
        cases msgEq (xs.getD i .bad) (ys.getD i .bad) <;> rfl) (by
        simp only [S61_5step, S61_5, lt_int, Nat.lt_irrefl, decide_false, cond_false]) xs.length 0 (by omega)
    rw [eqL_of .bad h] at hloop
    simp only [hd, Bool.not_true, cond_false]
    show (loopW (S61_5step 0) (ys, (), xs, (xs.length : Int), ((0 : Nat) : Int))).bind _ = _
    rw [hloop]
    cases eqL msgEq xs ys <;> rfl
  · rw [eqL_len h]; simp [h]
theorem item_eq (x y : PV) (hb : bulkPV x ≤ 1048576) : F158 0 x y = some (itemEq x y) := by
  unfold F158
  simp only [condAnd, condSome, Option.bind_some, itemEq, notes_eq _ _ (bsub hb 2)]
  generalize ((x.fld 0).asStr == (y.fld 0).asStr) = b0
  generalize ((x.fld 1).asInt == (y.fld 1).asInt) = b1
  generalize eqL noteEq (x.fld 2).asList (y.fld 2).asList = b2
  cases b0 <;> cases b1 <;> cases b2 <;> rfl
theorem items_ef (xs ys : List PV) (hb : bulkPVs xs ≤ 1048576) : F157 0 xs ys () = some (eqL itemEq xs ys) := by
  have hl := bulkPVs_length xs
  unfold F157
  rw [neLen]
  by_cases h : xs.length = ys.length
  · have hd : decide (xs.length = ys.length) = true := decide_eq_true h
    have hloop : loopW (S157_5step 0) (ys, (), xs, (xs.length : Int), ((0 : Nat) : Int)) = some (bif allF (fun i => itemEq (xs.getD i .bad) (ys.getD i .bad)) 0 xs.length then .inr () else .inl false) :=
      loopW_all (fun i => (ys, (), xs, (xs.length : Int), (i : Int))) xs.length (fun i => itemEq (xs.getD i .bad) (ys.getD i .bad)) (Sum.inl false : Bool ⊕ Unit) (Sum.inr ()) (fun i hi => by
        have hm : bulkPV (xs.getD i .bad) ≤ 1048576 := bmem hb hi
        have hi2 : i < ys.length := by omega
        simp only [S157_5step, S157_5, lt_int, inRange_nat, hi, hi2, decide_true, cond_true, Int.toNat_natCast, imp, item_eq _ _ hm, Option.bind_some, wadd i (by omega)]
        cases itemEq (xs.getD i .bad) (ys.getD i .bad) <;> rfl) (by
        simp only [S157_5step, S157_5, lt_int, Nat.lt_irrefl, decide_false, cond_false]) xs.length 0 (by omega)
    rw [eqL_of .bad h] at hloop
    simp only [hd, Bool.not_true, cond_false]
    show (loopW (S157_5step 0) (ys, (), xs, (xs.length : Int), ((0 : Nat) : Int))).bind _ = _
    rw [hloop]
    cases eqL itemEq xs ys <;> rfl
  · rw [eqL_len h]; simp [h]
theorem enum_eq (x y : PV) (hb : bulkPV x ≤ 1048576) : F64 0 x y = some (enumEq x y) := by
  unfold F64
  simp only [condAnd, condSome, Option.bind_some, enumEq, items_ef _ _ (bsub hb 2), spans_eq _ _ (bsub hb 3), notes_eq _ _ (bsub hb 4)]
  generalize ((x.fld 0).asStr == (y.fld 0).asStr) = b0
  generalize ((x.fld 1).asBool == (y.fld 1).asBool) = b1
  generalize eqL spanEq (x.fld 3).asList (y.fld 3).asList = b2
  generalize eqL noteEq (x.fld 4).asList (y.fld 4).asList = b3
  generalize eqL itemEq (x.fld 2).asList (y.fld 2).asList = b4
  cases b0 <;> cases b1 <;> cases b2 <;> cases b3 <;> cases b4 <;> rfl
theorem enums_ef (xs ys : List PV) (hb : bulkPVs xs ≤ 1048576) : F63 0 xs ys () = some (eqL enumEq xs ys) := by
  have hl := bulkPVs_length xs
  unfold F63
  rw [neLen]
  by_cases h : xs.length = ys.length
  · have hd : decide (xs.length = ys.length) = true := decide_eq_true h
    have hloop : loopW (S63_5step 0) (ys, (), xs, (xs.length : Int), ((0 : Nat) : Int)) = some (bif allF (fun i => enumEq (xs.getD i .bad) (ys.getD i .bad)) 0 xs.length then .inr () else .inl false) :=
      loopW_all (fun i => (ys, (), xs, (xs.length : Int), (i : Int))) xs.length (fun i => enumEq (xs.getD i .bad) (ys.getD i .bad)) (Sum.inl false : Bool ⊕ Unit) (Sum.inr ()) (fun i hi => by
        have hm : bulkPV (xs.getD i .bad) ≤ 1048576 := bmem hb hi
        have hi2 : i < ys.length := by omega
        simp only [S63_5step, S63_5, lt_int, inRange_nat, hi, hi2, decide_true, cond_true, Int.toNat_natCast, imp, enum_eq _ _ hm, Option.bind_some, wadd i (by omega)]
        cases enumEq (xs.getD i .bad) (ys.getD i .bad) <;> rfl) (by
        simp only [S63_5step, S63_5, lt_int, Nat.lt_irrefl, decide_false, cond_false]) xs.length 0 (by omega)
    rw [eqL_of .bad h] at hloop
    simp only [hd, Bool.not_true, cond_false]
    show (loopW (S63_5step 0) (ys, (), xs, (xs.length : Int), ((0 : Nat) : Int))).bind _ = _
    rw [hloop]
    cases eqL enumEq xs ys <;> rfl
  · rw [eqL_len h]; simp [h]
theorem meth_eq (x y : PV) (hb : bulkPV x ≤ 1048576) : F160 0 x y = some (methEq x y) := by
  unfold F160
  simp only [condAnd, condSome, Option.bind_some, methEq, notes_eq _ _ (bsub hb 4)]
  generalize ((x.fld 0).asStr == (y.fld 0).asStr) = b0
  generalize ((x.fld 1).asStr == (y.fld 1).asStr) = b1
  generalize ((x.fld 2).asStr == (y.fld 2).asStr) = b2
  generalize ((x.fld 3).asInt == (y.fld 3).asInt) = b3
  generalize eqL noteEq (x.fld 4).asList (y.fld 4).asList = b4
  cases b0 <;> cases b1 <;> cases b2 <;> cases b3 <;> cases b4 <;> rfl
theorem meths_ef (xs ys : List PV) (hb : bulkPVs xs ≤ 1048576) : F159 0 xs ys () = some (eqL methEq xs ys) := by
  have hl := bulkPVs_length xs
  unfold F159
  rw [neLen]
  by_cases h : xs.length = ys.length
  · have hd : decide (xs.length = ys.length) = true := decide_eq_true h
    have hloop : loopW (S159_5step 0) (ys, (), xs, (xs.length : Int), ((0 : Nat) : Int)) = some (bif allF (fun i => methEq (xs.getD i .bad) (ys.getD i .bad)) 0 xs.length then .inr () else .inl false) :=
      loopW_all (fun i => (ys, (), xs, (xs.length : Int), (i : Int))) xs.length (fun i => methEq (xs.getD i .bad) (ys.getD i .bad)) (Sum.inl false : Bool ⊕ Unit) (Sum.inr ()) (fun i hi => by
        have hm : bulkPV (xs.getD i .bad) ≤ 1048576 := bmem hb hi
        have hi2 : i < ys.length := by omega
        simp only [S159_5step, S159_5, lt_int, inRange_nat, hi, hi2, decide_true, cond_true, Int.toNat_natCast, imp, meth_eq _ _ hm, Option.bind_some, wadd i (by omega)]
        cases methEq (xs.getD i .bad) (ys.getD i .bad) <;> rfl) (by
        simp only [S159_5step, S159_5, lt_int, Nat.lt_irrefl, decide_false, cond_false]) xs.length 0 (by omega)
    rw [eqL_of .bad h] at hloop
    simp only [hd, Bool.not_true, cond_false]
    show (loopW (S159_5step 0) (ys, (), xs, (xs.length : Int), ((0 : Nat) : Int))).bind _ = _
    rw [hloop]
    cases eqL methEq xs ys <;> rfl
  · rw [eqL_len h]; simp [h]
theorem svc_eq (x y : PV) (hb : bulkPV x ≤ 1048576) : F66 0 x y = some (svcEq x y) := by
  unfold F66
  simp only [condAnd, condSome, Option.bind_some, svcEq, meths_ef _ _ (bsub hb 1), notes_eq _ _ (bsub hb 2)]
  generalize ((x.fld 0).asStr == (y.fld 0).asStr) = b0
  generalize eqL noteEq (x.fld 2).asList (y.fld 2).asList = b1
  generalize eqL methEq (x.fld 1).asList (y.fld 1).asList = b2
  cases b0 <;> cases b1 <;> cases b2 <;> rfl
theorem svcs_ef (xs ys : List PV) (hb : bulkPVs xs ≤ 1048576) : F65 0 xs ys () = some (eqL svcEq xs ys) := by
  have hl := bulkPVs_length xs
  unfold F65
  rw [neLen]
  by_cases h : xs.length = ys.length
  · have hd : decide (xs.length = ys.length) = true := decide_eq_true h
    have hloop : loopW (S65_5step 0) (ys, (), xs, (xs.length : Int), ((0 : Nat) : Int)) = some (bif allF (fun i => svcEq (xs.getD i .bad) (ys.getD i .bad)) 0 xs.length then .inr () else .inl false) :=
      loopW_all (fun i => (ys, (), xs, (xs.length : Int), (i : Int))) xs.length (fun i => svcEq (xs.getD i .bad) (ys.getD i .bad)) (Sum.inl false : Bool ⊕ Unit) (Sum.inr ()) (fun i hi => by
        have hm : bulkPV (xs.getD i .bad) ≤ 1048576 := bmem hb hi
        have hi2 : i < ys.length := by omega
        simp only [S65_5step, S65_5, lt_int, inRange_nat, hi, hi2, decide_true, cond_true, Int.toNat_natCast, imp, svc_eq _ _ hm, Option.bind_some, wadd i (by omega)]
        cases svcEq (xs.getD i .bad) (ys.getD i .bad) <;> rfl) (by
        simp only [S65_5step, S65_5, lt_int, Nat.lt_irrefl, decide_false, cond_false]) xs.length 0 (by omega)
    rw [eqL_of .bad h] at hloop
    simp only [hd, Bool.not_true, cond_false]
    show (loopW (S65_5step 0) (ys, (), xs, (xs.length : Int), ((0 : Nat) : Int))).bind _ = _
    rw [hloop]
    cases eqL svcEq xs ys <;> rfl
  · rw [eqL_len h]; simp [h]
theorem file_eq (x y : PV) (hb : bulkPV x ≤ 1048576) : F24 0 x y = some (fileEq x y) := by
  unfold F24
  simp only [condAnd, condSome, Option.bind_some, fileEq, strs_eq _ _ (bsub hb 2), msgs_ef _ _ (bsub hb 3), enums_ef _ _ (bsub hb 4), svcs_ef _ _ (bsub hb 5)]
  generalize ((x.fld 1).asStr == (y.fld 1).asStr) = b0
  generalize eqL strEq (x.fld 2).asList (y.fld 2).asList = b1
  generalize eqL msgEq (x.fld 3).asList (y.fld 3).asList = b2
  generalize eqL enumEq (x.fld 4).asList (y.fld 4).asList = b3
  generalize eqL svcEq (x.fld 5).asList (y.fld 5).asList = b4
  cases b0 <;> cases b1 <;> cases b2 <;> cases b3 <;> cases b4 <;> rfl
theorem lenOr {f : PV → PV → Bool} (a b : List PV) : decide (a.length = b.length) = true ∨ eqL f a b = false := by
  by_cases h : a.length = b.length
  · exact Or.inl (decide_eq_true h)
  · exact Or.inr (eqL_len h)
theorem rnotes_eq (xs ys : List PV) (hb : bulkPVs xs ≤ 1048576) : F124 0 xs ys = some (eqL noteEq xs ys) := by
  have hl := bulkPVs_length xs
  unfold F124
  rw [neLen]
  by_cases h : xs.length = ys.length
  · have hd : decide (xs.length = ys.length) = true := decide_eq_true h
    have hloop : loopW (S124_5step 0) (xs, ys, ((0 : Nat) : Int)) = some (bif allF (fun i => noteEq (xs.getD i .bad) (ys.getD i .bad)) 0 xs.length then .inr () else .inl false) :=
      loopW_all (fun i => (xs, ys, (i : Int))) xs.length (fun i => noteEq (xs.getD i .bad) (ys.getD i .bad)) (Sum.inl false : Bool ⊕ Unit) (Sum.inr ()) (fun i hi => by
        have hm : bulkPV (xs.getD i .bad) ≤ 1048576 := bmem hb hi
        have hi2 : i < ys.length := by omega
        simp only [S124_5step, S124_5, lt_int, inRange_nat, hi, hi2, decide_true, cond_true, Int.toNat_natCast, imp, wadd i (by omega)]
        simp only [noteEq, vEq, condAnd, bne]
        cases (((xs.getD i .bad).fld 0).asStr == ((ys.getD i .bad).fld 0).asStr) <;> cases ((((xs.getD i .bad).fld 1).fld 0).asInt == (((ys.getD i .bad).fld 1).fld 0).asInt) <;> cases ((((xs.getD i .bad).fld 1).fld 1).asInt == (((ys.getD i .bad).fld 1).fld 1).asInt) <;> cases ((((xs.getD i .bad).fld 1).fld 2).asStr == (((ys.getD i .bad).fld 1).fld 2).asStr) <;> rfl) (by
        simp only [S124_5step, S124_5, lt_int, Nat.lt_irrefl, decide_false, cond_false]) xs.length 0 (by omega)
    rw [eqL_of .bad h] at hloop
    simp only [hd, Bool.not_true, cond_false]
    show (loopW (S124_5step 0) (xs, ys, ((0 : Nat) : Int))).bind _ = _
    rw [hloop]
    cases eqL noteEq xs ys <;> rfl
  · rw [eqL_len h]; simp [h]
theorem texts_eq (xs ys : List PV) (hb : bulkPVs xs ≤ 1048576) : F41 0 xs ys = some (eqL strEq xs ys) := by
  have hl := bulkPVs_length xs
  unfold F41
  rw [eqLen]
  by_cases h : xs.length = ys.length
  · have hloop := loopW_flag (step := S41_4step 0) (fun b i => (xs, ys, b, (i : Int))) xs.length (fun i => strEq (xs.getD i .bad) (ys.getD i .bad)) (fun b => b) (fun i hi => by
        have hi2 : i < ys.length := by omega
        simp only [S41_4step, S41_4, lt_int, inRange_nat, hi, hi2, decide_true, cond_true, Int.toNat_natCast, wadd i (by omega)]
        simp only [strEq, condAnd, Bool.and_true]) (fun i => by
        simp only [S41_4step, S41_4, cond_false]) (by
        simp only [S41_4step, S41_4, lt_int, Nat.lt_irrefl, decide_false, cond_true, cond_false]) xs.length 0 true (by omega)
    rw [eqL_of .bad h, Bool.true_and] at hloop
    rw [decide_eq_true h]
    show (loopW (S41_4step 0) (xs, ys, true, ((0 : Nat) : Int))).bind _ = _
    rw [hloop]; rfl
  · rw [decide_eq_false h, eqL_len h]
    show (loopW (S41_4step 0) (xs, ys, false, ((0 : Nat) : Int))).bind _ = _
    have e : S41_4step 0 (xs, ys, false, ((0 : Nat) : Int)) = some (.inr false) := by simp only [S41_4step, S41_4, cond_false]
    rw [loopW_end e]; rfl
theorem ranges_eq (xs ys : List PV) (hb : bulkPVs xs ≤ 1048576) : F123 0 xs ys = some (eqL spanEq xs ys) := by
  have hl := bulkPVs_length xs
  unfold F123
  rw [eqLen]
  by_cases h : xs.length = ys.length
  · have hloop := loopW_flag (step := S123_4step 0) (fun b i => (xs, ys, b, (i : Int))) xs.length (fun i => spanEq (xs.getD i .bad) (ys.getD i .bad)) (fun b => b) (fun i hi => by
        have hi2 : i < ys.length := by omega
        simp only [S123_4step, S123_4, lt_int, inRange_nat, hi, hi2, decide_true, cond_true, Int.toNat_natCast, wadd i (by omega)]
        simp only [spanEq, condAnd, Bool.and_true]) (fun i => by
        simp only [S123_4step, S123_4, cond_false]) (by
        simp only [S123_4step, S123_4, lt_int, Nat.lt_irrefl, decide_false, cond_true, cond_false]) xs.length 0 true (by omega)
    rw [eqL_of .bad h, Bool.true_and] at hloop
    rw [decide_eq_true h]
    show (loopW (S123_4step 0) (xs, ys, true, ((0 : Nat) : Int))).bind _ = _
    rw [hloop]; rfl
  · rw [decide_eq_false h, eqL_len h]
    show (loopW (S123_4step 0) (xs, ys, false, ((0 : Nat) : Int))).bind _ = _
    have e : S123_4step 0 (xs, ys, false, ((0 : Nat) : Int)) = some (.inr false) := by simp only [S123_4step, S123_4, cond_false]
    rw [loopW_end e]; rfl
theorem rfield_eq (x y : PV) (hb : bulkPV x ≤ 1048576) : F125 0 x y = some (fldEq x y) := by
  unfold F125
  simp only [condAnd, condSome, Option.bind_some, fldEq, tEq, vEq, rnotes_eq _ _ (bsub hb 8)]
  generalize ((x.fld 0).asInt == (y.fld 0).asInt) = b0
  generalize ((x.fld 1).asStr == (y.fld 1).asStr) = b1
  generalize ((x.fld 2).asInt == (y.fld 2).asInt) = b2
  generalize ((x.fld 3).asInt == (y.fld 3).asInt) = b3
  generalize (((x.fld 4).fld 0).asInt == ((y.fld 4).fld 0).asInt) = b4
  generalize (((x.fld 4).fld 1).asStr == ((y.fld 4).fld 1).asStr) = b5
  generalize ((x.fld 5).asStr == (y.fld 5).asStr) = b6
  generalize ((x.fld 6).asBool == (y.fld 6).asBool) = b7
  generalize (((x.fld 7).fld 0).asInt == ((y.fld 7).fld 0).asInt) = b8
  generalize (((x.fld 7).fld 1).asInt == ((y.fld 7).fld 1).asInt) = b9
  generalize (((x.fld 7).fld 2).asStr == ((y.fld 7).fld 2).asStr) = b10
  generalize eqL noteEq (x.fld 8).asList (y.fld 8).asList = b11
  cases b0 <;> cases b1 <;> cases b2 <;> cases b3 <;> cases b4 <;> cases b5 <;> cases b6 <;> cases b7 <;> cases b8 <;> cases b9 <;> cases b10 <;> cases b11 <;> rfl
theorem lf_fields (a c : PV) (hb : bulkPV a ≤ 1048576) (b : Bool) (h : b = true → (a.fld 1).asList.length = (c.fld 1).asList.length) :
    loopQ 0 (S42_4step 0) ((), (), b, (0 : Int), a, c) = some (b && eqL fldEq (a.fld 1).asList (c.fld 1).asList, a, c) := by
  have hl := blen hb 1
  show loopW (S42_4step 0) ((), (), b, ((0 : Nat) : Int), a, c) = _
  cases b with
  | true =>
    have h := h rfl
    have hloop := loopW_flag (step := S42_4step 0) (fun b i => ((), (), b, (i : Int), a, c)) (a.fld 1).asList.length (fun i => fldEq ((a.fld 1).asList.getD i .bad) ((c.fld 1).asList.getD i .bad)) (fun b => (b, a, c)) (fun i hi => by
        have hm : bulkPV ((a.fld 1).asList.getD i .bad) ≤ 1048576 := bmem (bsub hb 1) hi
        have hi2 : i < (c.fld 1).asList.length := by omega
        simp only [S42_4step, S42_4, lt_int, inRange_nat, hi, hi2, decide_true, cond_true, Int.toNat_natCast, wadd i (by omega), rfield_eq _ _ hm, Option.bind_some]) (fun i => by
        simp only [S42_4step, S42_4, cond_false]) (by
        simp only [S42_4step, S42_4, lt_int, Nat.lt_irrefl, decide_false, cond_true, cond_false]) (a.fld 1).asList.length 0 true (by omega)
    rw [eqL_of .bad h] at hloop
    exact hloop
  | false =>
    rw [Bool.false_and]
    exact loopW_end (by simp only [S42_4step, S42_4, cond_false])
theorem rmsg_eq (x y : PV) (hb : bulkPV x ≤ 1048576) : F42 0 x y = some (msgEq x y) := by
  unfold F42
  simp only [condAnd, condSome, Option.bind_some, eqLen, ranges_eq _ _ (bsub hb 2), texts_eq _ _ (bsub hb 3), rnotes_eq _ _ (bsub hb 4)]
  rw [lf_fields x y hb _ (by intro h; simp only [Bool.and_eq_true, decide_eq_true_eq] at h; omega)]
  simp only [Option.bind_some]
  simp only [msgEq]
  have z0 := lenOr (f := fldEq) (x.fld 1).asList (y.fld 1).asList
  generalize decide ((x.fld 1).asList.length = (y.fld 1).asList.length) = d0 at z0 ⊢
  generalize ((x.fld 0).asStr == (y.fld 0).asStr) = b0 at *
  generalize eqL fldEq (x.fld 1).asList (y.fld 1).asList = b1 at *
  generalize eqL spanEq (x.fld 2).asList (y.fld 2).asList = b2 at *
  generalize eqL strEq (x.fld 3).asList (y.fld 3).asList = b3 at *
  generalize eqL noteEq (x.fld 4).asList (y.fld 4).asList = b4 at *
  clear hb
  revert z0
  cases d0 <;> cases b0 <;> cases b1 <;> cases b2 <;> cases b3 <;> cases b4 <;> decide
theorem lf_items (a c : PV) (hb : bulkPV a ≤ 1048576) (b : Bool) (h : b = true → (a.fld 2).asList.length = (c.fld 2).asList.length) :
    loopQ 0 (S43_4step 0) ((), (), b, (0 : Int), a, c) = some (b && eqL itemEq (a.fld 2).asList (c.fld 2).asList, a, c) := by
  have hl := blen hb 2
  show loopW (S43_4step 0) ((), (), b, ((0 : Nat) : Int), a, c) = _
  cases b with
  | true =>
    have h := h rfl
    have hloop := loopW_flag (step := S43_4step 0) (fun b i => ((), (), b, (i : Int), a, c)) (a.fld 2).asList.length (fun i => itemEq ((a.fld 2).asList.getD i .bad) ((c.fld 2).asList.getD i .bad)) (fun b => (b, a, c)) (fun i hi => by
        have hm : bulkPV ((a.fld 2).asList.getD i .bad) ≤ 1048576 := bmem (bsub hb 2) hi
        have hi2 : i < (c.fld 2).asList.length := by omega
        simp only [S43_4step, S43_4, lt_int, inRange_nat, hi, hi2, decide_true, cond_true, Int.toNat_natCast, wadd i (by omega), rnotes_eq _ _ (bsub hm 2), condAnd, condSome, Option.bind_some]
        simp only [itemEq]
        generalize ((((a.fld 2).asList.getD i .bad).fld 0).asStr == (((c.fld 2).asList.getD i .bad).fld 0).asStr) = b0
        generalize ((((a.fld 2).asList.getD i .bad).fld 1).asInt == (((c.fld 2).asList.getD i .bad).fld 1).asInt) = b1
        generalize eqL noteEq (((a.fld 2).asList.getD i .bad).fld 2).asList (((c.fld 2).asList.getD i .bad).fld 2).asList = b2
        cases b0 <;> cases b1 <;> cases b2 <;> rfl) (fun i => by
        simp only [S43_4step, S43_4, cond_false]) (by
        simp only [S43_4step, S43_4, lt_int, Nat.lt_irrefl, decide_false, cond_true, cond_false]) (a.fld 2).asList.length 0 true (by omega)
    rw [eqL_of .bad h] at hloop
    exact hloop
  | false =>
    rw [Bool.false_and]
    exact loopW_end (by simp only [S43_4step, S43_4, cond_false])
theorem renum_eq (x y : PV) (hb : bulkPV x ≤ 1048576) : F43 0 x y = some (enumEq x y) := by
  unfold F43
  simp only [condAnd, condSome, Option.bind_some, eqLen, ranges_eq _ _ (bsub hb 3), rnotes_eq _ _ (bsub hb 4)]
  rw [lf_items x y hb _ (by intro h; simp only [Bool.and_eq_true, decide_eq_true_eq] at h; omega)]
  simp only [Option.bind_some]
  simp only [enumEq]
  have z0 := lenOr (f := itemEq) (x.fld 2).asList (y.fld 2).asList
  generalize decide ((x.fld 2).asList.length = (y.fld 2).asList.length) = d0 at z0 ⊢
  generalize ((x.fld 0).asStr == (y.fld 0).asStr) = b0 at *
  generalize ((x.fld 1).asBool == (y.fld 1).asBool) = b1 at *
  generalize eqL spanEq (x.fld 3).asList (y.fld 3).asList = b2 at *
  generalize eqL noteEq (x.fld 4).asList (y.fld 4).asList = b3 at *
  generalize eqL itemEq (x.fld 2).asList (y.fld 2).asList = b4 at *
  clear hb
  revert z0
  cases d0 <;> cases b0 <;> cases b1 <;> cases b2 <;> cases b3 <;> cases b4 <;> decide
theorem lf_meths (a c : PV) (hb : bulkPV a ≤ 1048576) (b : Bool) (h : b = true → (a.fld 1).asList.length = (c.fld 1).asList.length) :
    loopQ 0 (S44_4step 0) ((), (), b, (0 : Int), a, c) = some (b && eqL methEq (a.fld 1).asList (c.fld 1).asList, a, c) := by
  have hl := blen hb 1
  show loopW (S44_4step 0) ((), (), b, ((0 : Nat) : Int), a, c) = _
  cases b with
  | true =>
    have h := h rfl
    have hloop := loopW_flag (step := S44_4step 0) (fun b i => ((), (), b, (i : Int), a, c)) (a.fld 1).asList.length (fun i => methEq ((a.fld 1).asList.getD i .bad) ((c.fld 1).asList.getD i .bad)) (fun b => (b, a, c)) (fun i hi => by
        have hm : bulkPV ((a.fld 1).asList.getD i .bad) ≤ 1048576 := bmem (bsub hb 1) hi
        have hi2 : i < (c.fld 1).asList.length := by omega
        simp only [S44_4step, S44_4, lt_int, inRange_nat, hi, hi2, decide_true, cond_true, Int.toNat_natCast, wadd i (by omega), rnotes_eq _ _ (bsub hm 4), condAnd, condSome, Option.bind_some]
        simp only [methEq]
        generalize ((((a.fld 1).asList.getD i .bad).fld 0).asStr == (((c.fld 1).asList.getD i .bad).fld 0).asStr) = b0
        generalize ((((a.fld 1).asList.getD i .bad).fld 1).asStr == (((c.fld 1).asList.getD i .bad).fld 1).asStr) = b1
        generalize ((((a.fld 1).asList.getD i .bad).fld 2).asStr == (((c.fld 1).asList.getD i .bad).fld 2).asStr) = b2
        generalize ((((a.fld 1).asList.getD i .bad).fld 3).asInt == (((c.fld 1).asList.getD i .bad).fld 3).asInt) = b3
        generalize eqL noteEq (((a.fld 1).asList.getD i .bad).fld 4).asList (((c.fld 1).asList.getD i .bad).fld 4).asList = b4
        cases b0 <;> cases b1 <;> cases b2 <;> cases b3 <;> cases b4 <;> rfl) (fun i => by
        simp only [S44_4step, S44_4, cond_false]) (by
        simp only [S44_4step, S44_4, lt_int, Nat.lt_irrefl, decide_false, cond_true, cond_false]) (a.fld 1).asList.length 0 true (by omega)
    rw [eqL_of .bad h] at hloop
    exact hloop
  | false =>
    rw [Bool.false_and]
    exact loopW_end (by simp only [S44_4step, S44_4, cond_false])
theorem rsvc_eq (x y : PV) (hb : bulkPV x ≤ 1048576) : F44 0 x y = some (svcEq x y) := by
  unfold F44
  simp only [condAnd, condSome, Option.bind_some, eqLen, rnotes_eq _ _ (bsub hb 2)]
  rw [lf_meths x y hb _ (by intro h; simp only [Bool.and_eq_true, decide_eq_true_eq] at h; omega)]
  simp only [Option.bind_some]
  simp only [svcEq]
  have z0 := lenOr (f := methEq) (x.fld 1).asList (y.fld 1).asList
  generalize decide ((x.fld 1).asList.length = (y.fld 1).asList.length) = d0 at z0 ⊢
  generalize ((x.fld 0).asStr == (y.fld 0).asStr) = b0 at *
  generalize eqL noteEq (x.fld 2).asList (y.fld 2).asList = b1 at *
  generalize eqL methEq (x.fld 1).asList (y.fld 1).asList = b2 at *
  clear hb
  revert z0
  cases d0 <;> cases b0 <;> cases b1 <;> cases b2 <;> decide
theorem lf_msgs (a c : PV) (hb : bulkPV a ≤ 1048576) (b : Bool) (h : b = true → (a.fld 3).asList.length = (c.fld 3).asList.length) :
    loopQ 0 (S17_4step 0) ((), (), b, (0 : Int), a, c) = some ((), (), b && eqL msgEq (a.fld 3).asList (c.fld 3).asList, a, c) := by
  have hl := blen hb 3
  show loopW (S17_4step 0) ((), (), b, ((0 : Nat) : Int), a, c) = _
  cases b with
  | true =>
    have h := h rfl
    have hloop := loopW_flag (step := S17_4step 0) (fun b i => ((), (), b, (i : Int), a, c)) (a.fld 3).asList.length (fun i => msgEq ((a.fld 3).asList.getD i .bad) ((c.fld 3).asList.getD i .bad)) (fun b => ((), (), b, a, c)) (fun i hi => by
        have hm : bulkPV ((a.fld 3).asList.getD i .bad) ≤ 1048576 := bmem (bsub hb 3) hi
        have hi2 : i < (c.fld 3).asList.length := by omega
        simp only [S17_4step, S17_4, lt_int, inRange_nat, hi, hi2, decide_true, cond_true, Int.toNat_natCast, wadd i (by omega), rmsg_eq _ _ hm, Option.bind_some]) (fun i => by
        simp only [S17_4step, S17_4, cond_false]) (by
        simp only [S17_4step, S17_4, lt_int, Nat.lt_irrefl, decide_false, cond_true, cond_false]) (a.fld 3).asList.length 0 true (by omega)
    rw [eqL_of .bad h] at hloop
    exact hloop
  | false =>
    rw [Bool.false_and]
    exact loopW_end (by simp only [S17_4step, S17_4, cond_false])
theorem lf_enums (a c : PV) (hb : bulkPV a ≤ 1048576) (b : Bool) (h : b = true → (a.fld 4).asList.length = (c.fld 4).asList.length) :
    loopQ 0 (S17_8step 0) ((), (), b, (0 : Int), a, c) = some ((), (), b && eqL enumEq (a.fld 4).asList (c.fld 4).asList, a, c) := by
  have hl := blen hb 4
  show loopW (S17_8step 0) ((), (), b, ((0 : Nat) : Int), a, c) = _
  cases b with
  | true =>
    have h := h rfl
    have hloop := loopW_flag (step := S17_8step 0) (fun b i => ((), (), b, (i : Int), a, c)) (a.fld 4).asList.length (fun i => enumEq ((a.fld 4).asList.getD i .bad) ((c.fld 4).asList.getD i .bad)) (fun b => ((), (), b, a, c)) (fun i hi => by
        have hm : bulkPV ((a.fld 4).asList.getD i .bad) ≤ 1048576 := bmem (bsub hb 4) hi
        have hi2 : i < (c.fld 4).asList.length := by omega
        simp only [S17_8step, S17_8, lt_int, inRange_nat, hi, hi2, decide_true, cond_true, Int.toNat_natCast, wadd i (by omega), renum_eq _ _ hm, Option.bind_some]) (fun i => by
        simp only [S17_8step, S17_8, cond_false]) (by
        simp only [S17_8step, S17_8, lt_int, Nat.lt_irrefl, decide_false, cond_true, cond_false]) (a.fld 4).asList.length 0 true (by omega)
    rw [eqL_of .bad h] at hloop
    exact hloop
  | false =>
    rw [Bool.false_and]
    exact loopW_end (by simp only [S17_8step, S17_8, cond_false])
theorem lf_svcs (a c : PV) (hb : bulkPV a ≤ 1048576) (b : Bool) (h : b = true → (a.fld 5).asList.length = (c.fld 5).asList.length) :
    loopQ 0 (S17_12step 0) ((), (), b, (0 : Int), a, c) = some (b && eqL svcEq (a.fld 5).asList (c.fld 5).asList, a, c) := by
  have hl := blen hb 5
  show loopW (S17_12step 0) ((), (), b, ((0 : Nat) : Int), a, c) = _
  cases b with
  | true =>
    have h := h rfl
    have hloop := loopW_flag (step := S17_12step 0) (fun b i => ((), (), b, (i : Int), a, c)) (a.fld 5).asList.length (fun i => svcEq ((a.fld 5).asList.getD i .bad) ((c.fld 5).asList.getD i .bad)) (fun b => (b, a, c)) (fun i hi => by
        have hm : bulkPV ((a.fld 5).asList.getD i .bad) ≤ 1048576 := bmem (bsub hb 5) hi
        have hi2 : i < (c.fld 5).asList.length := by omega
        simp only [S17_12step, S17_12, lt_int, inRange_nat, hi, hi2, decide_true, cond_true, Int.toNat_natCast, wadd i (by omega), rsvc_eq _ _ hm, Option.bind_some]) (fun i => by
        simp only [S17_12step, S17_12, cond_false]) (by
        simp only [S17_12step, S17_12, lt_int, Nat.lt_irrefl, decide_false, cond_true, cond_false]) (a.fld 5).asList.length 0 true (by omega)
    rw [eqL_of .bad h] at hloop
    exact hloop
  | false =>
    rw [Bool.false_and]
    exact loopW_end (by simp only [S17_12step, S17_12, cond_false])
theorem rfile_eq (x y : PV) (hb : bulkPV x ≤ 1048576) : F17 0 x y = some (fileEq x y) := by
  unfold F17
  simp only [condAnd, condSome, Option.bind_some, eqLen, texts_eq _ _ (bsub hb 2)]
  rw [lf_msgs x y hb _ (by intro h; simp only [Bool.and_eq_true, decide_eq_true_eq] at h; omega)]
  simp only [Option.bind_some]
  rw [lf_enums x y hb _ (by intro h; simp only [Bool.and_eq_true, decide_eq_true_eq] at h; omega)]
  simp only [Option.bind_some]
  rw [lf_svcs x y hb _ (by intro h; simp only [Bool.and_eq_true, decide_eq_true_eq] at h; omega)]
  simp only [Option.bind_some]
  simp only [fileEq]
  have z0 := lenOr (f := msgEq) (x.fld 3).asList (y.fld 3).asList
  generalize decide ((x.fld 3).asList.length = (y.fld 3).asList.length) = d0 at z0 ⊢
  have z1 := lenOr (f := enumEq) (x.fld 4).asList (y.fld 4).asList
  generalize decide ((x.fld 4).asList.length = (y.fld 4).asList.length) = d1 at z1 ⊢
  have z2 := lenOr (f := svcEq) (x.fld 5).asList (y.fld 5).asList
  generalize decide ((x.fld 5).asList.length = (y.fld 5).asList.length) = d2 at z2 ⊢
  generalize ((x.fld 1).asStr == (y.fld 1).asStr) = b0 at *
  generalize eqL strEq (x.fld 2).asList (y.fld 2).asList = b1 at *
  generalize eqL msgEq (x.fld 3).asList (y.fld 3).asList = b2 at *
  generalize eqL enumEq (x.fld 4).asList (y.fld 4).asList = b3 at *
  generalize eqL svcEq (x.fld 5).asList (y.fld 5).asList = b4 at *
  clear hb
  revert z0 z1 z2
  cases d0 <;> cases d1 <;> cases d2 <;> cases b0 <;> cases b1 <;> cases b2 <;> cases b3 <;> cases b4 <;> decide
/- few: it ends. -/
theorem size_tot (xs : List PV) (hb : xs.length ≤ 1048576) : ∃ n, F27 0 xs = some n := by
  obtain ⟨r, h1, _⟩ := loopW_tot (step := S27_4step 0) (fun x => xs.length - x.2.2.toNat) (fun x => x.1 = xs ∧ ∃ i : Nat, x.2.2 = (i : Int) ∧ i ≤ xs.length) (fun _ => True) (fun x hx => by
    obtain ⟨a, n, j⟩ := x
    have h1 : a = xs := hx.1
    obtain ⟨i, hj, hi⟩ := hx.2
    simp only at hj hi
    rw [h1, hj]
    by_cases hlt : i < xs.length
    · refine Or.inl ⟨(xs, _, ((i + 1 : Nat) : Int)), by simp only [S27_4step, S27_4, lt_int, inRange_nat, hlt, decide_true, cond_true, wadd i (by omega)]; rfl, ⟨rfl, i + 1, rfl, by omega⟩, ?_⟩
      show xs.length - ((i + 1 : Nat) : Int).toNat < xs.length - (i : Int).toNat
      omega
    · exact Or.inr ⟨n, by simp only [S27_4step, S27_4, lt_int, hlt, decide_false, cond_false], trivial⟩) (xs, 0, 0) ⟨rfl, 0, rfl, by omega⟩
  refine ⟨r, ?_⟩
  show (loopW (S27_4step 0) (xs, 0, 0)).bind _ = _
  rw [h1]; rfl
theorem few_6 (a : PV) (hb : bulkPV a ≤ 1048576) (n : Int) : ∃ r, loopQ 0 (S11_6step 0) ((), n, (0 : Int), a) = some r ∧ (match r with | .inl _ => True | .inr y => y.2.2 = a) := by
  have hl := blen hb 3
  refine loopW_tot (step := S11_6step 0) (fun x => (a.fld 3).asList.length - x.2.2.1.toNat) (fun x => x.2.2.2 = a ∧ ∃ i : Nat, x.2.2.1 = (i : Int) ∧ i ≤ (a.fld 3).asList.length) (fun r => match r with | .inl _ => True | .inr y => y.2.2 = a) (fun x hx => ?_) ((), n, 0, a) ⟨rfl, 0, rfl, by omega⟩
  obtain ⟨u, n, j, a'⟩ := x
  obtain ⟨ha, i, hj, hi⟩ := hx
  simp only at hj ha; subst hj; subst ha
  by_cases hlt : i < (a'.fld 3).asList.length
  · have hm : bulkPV ((a'.fld 3).asList.getD i .bad) ≤ 1048576 := bmem (bsub hb 3) hlt
    obtain ⟨k, hk⟩ := size_tot (((a'.fld 3).asList.getD i .bad).fld 3).asList (blen hm 3)
    have hs : S11_6step 0 ((), n, (i : Int), a') = (bif (bif (bif decide ((((((a'.fld 3).asList.getD i .bad).fld 1).asList.length : Int)) > (70 : Int)) then true else decide ((((((a'.fld 3).asList.getD i .bad).fld 2).asList.length : Int)) > (70 : Int))) then true else decide ((((((a'.fld 3).asList.getD i .bad).fld 3).asList.length : Int)) > (70 : Int))) then some (.inr (.inl (false, a'))) else some (.inl ((), IntKind.wrap .i64 (n + k), ((i + 1 : Nat) : Int), a'))) := by
      simp only [S11_6step, S11_6, lt_int, inRange_nat, hlt, decide_true, cond_true, imp, Int.toNat_natCast, wadd i (by omega), hk, Option.bind_some]
    cases hc : (bif (bif decide ((((((a'.fld 3).asList.getD i .bad).fld 1).asList.length : Int)) > (70 : Int)) then true else decide ((((((a'.fld 3).asList.getD i .bad).fld 2).asList.length : Int)) > (70 : Int))) then true else decide ((((((a'.fld 3).asList.getD i .bad).fld 3).asList.length : Int)) > (70 : Int))) with
    | true => rw [hc] at hs; exact Or.inr ⟨_, hs, trivial⟩
    | false =>
      rw [hc] at hs
      refine Or.inl ⟨_, hs, ⟨rfl, i + 1, rfl, by omega⟩, ?_⟩
      show (a'.fld 3).asList.length - ((i + 1 : Nat) : Int).toNat < (a'.fld 3).asList.length - (i : Int).toNat
      omega
  · exact Or.inr ⟨_, by simp only [S11_6step, S11_6, lt_int, hlt, decide_false, cond_false]; rfl, rfl⟩
theorem few_13 (a : PV) (hb : bulkPV a ≤ 1048576) (n : Int) : ∃ r, loopQ 0 (S11_13step 0) ((), n, (0 : Int), a) = some r ∧ (match r with | .inl _ => True | .inr y => y.2.2 = a) := by
  have hl := blen hb 4
  refine loopW_tot (step := S11_13step 0) (fun x => (a.fld 4).asList.length - x.2.2.1.toNat) (fun x => x.2.2.2 = a ∧ ∃ i : Nat, x.2.2.1 = (i : Int) ∧ i ≤ (a.fld 4).asList.length) (fun r => match r with | .inl _ => True | .inr y => y.2.2 = a) (fun x hx => ?_) ((), n, 0, a) ⟨rfl, 0, rfl, by omega⟩
  obtain ⟨u, n, j, a'⟩ := x
  obtain ⟨ha, i, hj, hi⟩ := hx
  simp only at hj ha; subst hj; subst ha
  by_cases hlt : i < (a'.fld 4).asList.length
  · have hm : bulkPV ((a'.fld 4).asList.getD i .bad) ≤ 1048576 := bmem (bsub hb 4) hlt
    have hs : S11_13step 0 ((), n, (i : Int), a') = (bif (bif decide ((((((a'.fld 4).asList.getD i .bad).fld 2).asList.length : Int)) > (70 : Int)) then true else decide ((((((a'.fld 4).asList.getD i .bad).fld 3).asList.length : Int)) > (70 : Int))) then some (.inr (.inl (false, a'))) else some (.inl ((), n, ((i + 1 : Nat) : Int), a'))) := by
      simp only [S11_13step, S11_13, lt_int, inRange_nat, hlt, decide_true, cond_true, imp, Int.toNat_natCast, wadd i (by omega)]
    cases hc : (bif decide ((((((a'.fld 4).asList.getD i .bad).fld 2).asList.length : Int)) > (70 : Int)) then true else decide ((((((a'.fld 4).asList.getD i .bad).fld 3).asList.length : Int)) > (70 : Int))) with
    | true => rw [hc] at hs; exact Or.inr ⟨_, hs, trivial⟩
    | false =>
      rw [hc] at hs
      refine Or.inl ⟨_, hs, ⟨rfl, i + 1, rfl, by omega⟩, ?_⟩
      show (a'.fld 4).asList.length - ((i + 1 : Nat) : Int).toNat < (a'.fld 4).asList.length - (i : Int).toNat
      omega
  · exact Or.inr ⟨_, by simp only [S11_13step, S11_13, lt_int, hlt, decide_false, cond_false]; rfl, rfl⟩
theorem few_18 (a : PV) (hb : bulkPV a ≤ 1048576) (n : Int) : ∃ r, loopQ 0 (S11_18step 0) ((), n, (0 : Int), a) = some r ∧ (match r with | .inl _ => True | .inr y => y.2 = a) := by
  have hl := blen hb 5
  refine loopW_tot (step := S11_18step 0) (fun x => (a.fld 5).asList.length - x.2.2.1.toNat) (fun x => x.2.2.2 = a ∧ ∃ i : Nat, x.2.2.1 = (i : Int) ∧ i ≤ (a.fld 5).asList.length) (fun r => match r with | .inl _ => True | .inr y => y.2 = a) (fun x hx => ?_) ((), n, 0, a) ⟨rfl, 0, rfl, by omega⟩
  obtain ⟨u, n, j, a'⟩ := x
  obtain ⟨ha, i, hj, hi⟩ := hx
  simp only at hj ha; subst hj; subst ha
  by_cases hlt : i < (a'.fld 5).asList.length
  · have hm : bulkPV ((a'.fld 5).asList.getD i .bad) ≤ 1048576 := bmem (bsub hb 5) hlt
    have hs : S11_18step 0 ((), n, (i : Int), a') = (bif (decide ((((((a'.fld 5).asList.getD i .bad).fld 1).asList.length : Int)) > (70 : Int))) then some (.inr (.inl (false, a'))) else some (.inl ((), n, ((i + 1 : Nat) : Int), a'))) := by
      simp only [S11_18step, S11_18, lt_int, inRange_nat, hlt, decide_true, cond_true, imp, Int.toNat_natCast, wadd i (by omega)]
    cases hc : (decide ((((((a'.fld 5).asList.getD i .bad).fld 1).asList.length : Int)) > (70 : Int))) with
    | true => rw [hc] at hs; exact Or.inr ⟨_, hs, trivial⟩
    | false =>
      rw [hc] at hs
      refine Or.inl ⟨_, hs, ⟨rfl, i + 1, rfl, by omega⟩, ?_⟩
      show (a'.fld 5).asList.length - ((i + 1 : Nat) : Int).toNat < (a'.fld 5).asList.length - (i : Int).toNat
      omega
  · exact Or.inr ⟨_, by simp only [S11_18step, S11_18, lt_int, hlt, decide_false, cond_false]; rfl, rfl⟩
theorem few_tot (a : PV) (hb : bulkPV a ≤ 1048576) : ∃ b, F11 0 a = some b := by
  unfold F11
  obtain ⟨k, hk⟩ := size_tot (a.fld 2).asList (blen hb 2)
  rw [hk]
  generalize (bif (bif _ then true else _) then true else _) = c
  cases c with
  | true => exact ⟨false, rfl⟩
  | false =>
    simp only [cond_false, Option.bind_some]
    obtain ⟨r1, h1, q1⟩ := few_6 a hb k
    rw [h1]
    simp only [Option.bind_some]
    cases r1 with
    | inl y => exact ⟨_, rfl⟩
    | inr y =>
      simp only at q1
      simp only [sumE_inr, q1]
      obtain ⟨r2, h2, q2⟩ := few_13 a hb y.2.1
      rw [h2]
      simp only [Option.bind_some]
      cases r2 with
      | inl y => exact ⟨_, rfl⟩
      | inr y =>
        simp only at q2
        simp only [sumE_inr, q2]
        obtain ⟨r3, h3, q3⟩ := few_18 a hb y.2.1
        rw [h3]
        simp only [Option.bind_some]
        cases r3 with
        | inl y => exact ⟨_, rfl⟩
        | inr y => exact ⟨_, rfl⟩
theorem fileEq_named (a : PV) (s : List UInt8) : fileEq a (PV.agg [(PV.str s), (PV.str ((a.fld 1).asStr)), (PV.slice ((a.fld 2).asList)), (PV.slice ((a.fld 3).asList)), (PV.slice ((a.fld 4).asList)), (PV.slice ((a.fld 5).asList))]) = true := by
  have h := fileEq_refl a
  exact h
theorem formatSames_true (a b : PV) (s : List UInt8) (ha : bulkPV a ≤ 1048576) (hb : bulkPV b ≤ 1048576) : F7 0 a b s = some true := by
  obtain ⟨fa, hfa⟩ := few_tot a ha
  obtain ⟨fb, hfb⟩ := few_tot b hb
  unfold F7
  have hn := fileEq_named a s
  have hs := fileEq_symm b a
  rw [hfa, hfb]
  simp only [Option.bind_some, condSome, file_eq _ _ ha, rfile_eq _ _ ha, file_eq _ _ hb, hn, hs, Lawake]
  cases fa <;> cases fb <;> simp
end Go.Ab
