/- The text of a file: the same in the program and the specification. -/
import Derived.Test.YtjfdnmkfjikjnaaGreatDoorPArgsL
import Derived.Test.YtjfdnmkfjikjnaaGreatDoorPNTextL
set_option linter.unusedVariables false
set_option linter.unusedSimpArgs false
set_option linter.unnecessarySimpa false
namespace Go.Ab
open Go
set_option maxRecDepth 100000
theorem strOk {α : Type} {a b : List UInt8} {X : Option α} (h : a.length + b.length ≤ 1000000000000000) : (bif decide (a.length + b.length ≤ strMax) then X else none) = X := by
  rw [decide_eq_true (show a.length + b.length ≤ strMax by unfold strMax; omega)]; rfl
theorem accOk2 {α : Type} {a : List PV} {x : PV} {X : Option α} (h : a.length ≤ 10000000) : (bif decide (a.length + [x].length ≤ accMax) then X else none) = X := by
  rw [accOk (by omega)]; rfl
theorem wrOk {s bs : List UInt8} (h : bs.length + s.length ≤ 100000000000000) : LwriteString 0 s bs = some ((s.length : Int), .nilIface, bs ++ s) := by
  unfold LwriteString
  rw [show Nat.ble (bs.length + s.length) 140737488355328 = true by rw [Nat.ble_eq]; omega]; rfl
theorem line_eq (k : Int) (ind s bs : List UInt8) (hr : Lrepeat 0 ([32, 32] : List UInt8) k = some ind) (hi : ind.length ≤ 10) (h : bs.length + s.length ≤ 90000000000000) : F102 0 () k s bs = some (bs ++ (ind ++ s ++ [10])) := by
  unfold F102
  simp (disch := (first | omega | (simp only [List.length_append, List.length_cons, List.length_nil]; omega))) only [hr, strOk, wrOk, Option.bind_some]
theorem line0 {s bs : List UInt8} (h : bs.length + s.length ≤ 90000000000000) : F102 0 () (0 : Int) s bs = some (bs ++ (s ++ [10])) := line_eq 0 [] s bs rfl (by simp) h
theorem line1 {s bs : List UInt8} (h : bs.length + s.length ≤ 90000000000000) : F102 0 () (1 : Int) s bs = some (bs ++ ([32, 32] ++ s ++ [10])) := line_eq 1 [32, 32] s bs rfl (by simp) h
theorem line2 {s bs : List UInt8} (h : bs.length + s.length ≤ 90000000000000) : F102 0 () (2 : Int) s bs = some (bs ++ ([32, 32, 32, 32] ++ s ++ [10])) := line_eq 2 [32, 32, 32, 32] s bs rfl (by simp) h
/- Numbers. -/
def numT (n : Int) : List UInt8 := decB n.toNat
theorem numT_len (n : Int) : (numT n).length ≤ 20 := decB_len _
theorem itoa_num {n : Int} (h0 : 0 ≤ n) (h1 : n ≤ 2147483647) : Litoa 0 n = some (numT n) := by
  rw [litoa_ok n (by omega) (by omega)]
  unfold itoaB numT
  rw [decide_eq_false (by omega)]; rfl
/- Types, defaults, annotations. -/
noncomputable def typeT (t : PV) : List UInt8 :=
  bif plainK (t.fld 0).asInt && ((t.fld 1).asStr == []) then kw (t.fld 0).asInt else
  bif (((t.fld 0).asInt == 0) || ((t.fld 0).asInt == 9) || ((t.fld 0).asInt == 10)) && typeP (t.fld 1).asStr then (t.fld 1).asStr else []
theorem type_eq (t : PV) (hs : (t.fld 1).asStr.length ≤ 1048576) : F18 0 t = some (typeT t) := by
  unfold F18 typeT
  simp only [plain_eq, kw_eq, isType_eq _ hs, Option.bind_some]
  cases plainK (t.fld 0).asInt <;> cases ((t.fld 1).asStr == ([] : List UInt8)) <;> cases ((t.fld 0).asInt == (0 : Int)) <;> cases ((t.fld 0).asInt == (9 : Int)) <;> cases ((t.fld 0).asInt == (10 : Int)) <;> cases typeP (t.fld 1).asStr <;> rfl
theorem typeT_len (t : PV) (hs : (t.fld 1).asStr.length ≤ 1048576) : (typeT t).length ≤ 1048576 := by
  have := kw_len (t.fld 0).asInt
  unfold typeT
  cases plainK (t.fld 0).asInt && ((t.fld 1).asStr == ([] : List UInt8)) with
  | true => simp only [cond_true]; omega
  | false =>
    simp only [cond_false]
    cases (((t.fld 0).asInt == (0 : Int)) || ((t.fld 0).asInt == (9 : Int)) || ((t.fld 0).asInt == (10 : Int))) && typeP (t.fld 1).asStr with
    | true => simp only [cond_true]; exact hs
    | false => simp
noncomputable def litT (v : PV) : List UInt8 :=
  bif itemV v then vText v else bif !fitsV (vKind v) v then [] else bif (vKind v == 6) || (vKind v == 8) then quote (textW v) else textW v
theorem textW68 {v : PV} (hs : smallV v) (h : fitsV (vKind v) v = true) (h2 : ((vKind v == 6) || (vKind v == 8)) = true) : (textW v).length ≤ 100000 := by
  unfold textW
  rw [h]
  simp only [cond_true]
  cases h6 : vKind v == 6 with
  | true =>
    simp only [cond_true]
    unfold doubleT
    have := hexN_len 16 (vBits v).toNat
    cases classN (vBits v).toNat == 0 <;> cases classN (vBits v).toNat == 1 <;> cases decide (9223372036854775808 ≤ (vBits v).toNat) <;> simp [this]
  | false =>
    rw [h6, Bool.false_or] at h2
    have h4 := fits_text8 h (by simpa using h2)
    have hq := quote_len ((vText v).flatMap fun b => hex2 b.toNat)
    rw [hexS_len] at hq
    simp only [h2, cond_false, cond_true, List.length_append, List.length_cons, List.length_nil]; omega
theorem lit_eq (v : PV) (hs : smallV v) : F20 0 v = some (litT v) := by
  have e0 : (v.fld 0).asInt = vKind v := rfl
  have e2 : (v.fld 2).asStr = vText v := rfl
  unfold F20 litT
  simp only [e0, e2, named_eq _ hs, fitsV_eq _ _ hs, textW_eq _ hs, Option.bind_some]
  cases itemV v with
  | true => rfl
  | false =>
    cases hf : fitsV (vKind v) v with
    | false => rfl
    | true =>
      rw [condOr]
      cases h2 : ((vKind v == 6) || (vKind v == 8)) with
      | false => rfl
      | true =>
        have := textW68 hs hf h2
        simp only [cond_true, cond_false, Bool.not_true, quote_eq _ (show (textW v).length ≤ 1048576 by omega), Option.bind_some]
theorem litT_len (v : PV) (hs : smallV v) : (litT v).length ≤ 5000000 := by
  have h1 := textW_len v hs.2.1
  have h2 := hs.2.1
  unfold litT
  cases itemV v with
  | true => simp only [cond_true]; omega
  | false =>
    simp only [cond_false]
    cases hf : fitsV (vKind v) v with
    | false => simp
    | true =>
      simp only [Bool.not_true, cond_false]
      cases h2 : ((vKind v == 6) || (vKind v == 8)) with
      | false => simp only [cond_false]; omega
      | true =>
        have h3 := textW68 hs hf h2
        have h4 := quote_len (textW v)
        simp only [cond_true]; omega
noncomputable def notesT (l : List PV) : List UInt8 := bif (l.length : Int) == 0 then [] else [32] ++ textL l
theorem textL_len (l : List PV) (hl : l.length ≤ 40) (hs : ∀ n, n ∈ l → smallN n) : (textL l).length ≤ 200000200 := by
  cases l with
  | nil => simp [textL]
  | cons n r =>
    rw [show textL (n :: r) = bif (n :: r).all rightN then [91] ++ (textN n ++ restT r) ++ [93] else [] from rfl]
    cases hall : (n :: r).all rightN with
    | false => simp
    | true =>
      have hall' := hall
      simp only [List.all_cons, Bool.and_eq_true] at hall'
      have h1 := textN_len (hs n (by simp)) hall'.1
      have h2 := restT_len r (fun x hx => hs x (by simp [hx])) hall'.2
      simp only [List.length_cons] at hl
      simp only [cond_true, List.length_append, List.length_cons, List.length_nil]; omega
theorem notesT_len (l : List PV) (hl : l.length ≤ 40) (hs : ∀ n, n ∈ l → smallN n) : (notesT l).length ≤ 200000201 := by
  have := textL_len l hl hs
  unfold notesT
  cases ((l.length : Int) == 0) with
  | true => simp
  | false => simp only [cond_false, List.length_append, List.length_cons, List.length_nil]; omega
theorem behind_eq (l : List PV) (hl : l.length ≤ 40) (hs : ∀ n, n ∈ l → smallN n) : F150 0 l = some (notesT l) := by
  have := textL_len l hl hs
  unfold F150 notesT
  simp (disch := (first | omega | (simp only [List.length_append, List.length_cons, List.length_nil]; omega))) only [noteText_eq l hl hs, Option.bind_some, strOk]
  cases ((l.length : Int) == (0 : Int)) <;> rfl
/- Rows. -/
structure RowOk (x : PV) : Prop where
  ok : OkFld x
  num0 : 0 ≤ (x.fld 0).asInt
  num1 : (x.fld 0).asInt ≤ 65535
  card1 : 1 ≤ (x.fld 2).asInt
  card5 : (x.fld 2).asInt ≤ 5
  few : (x.fld 8).asList.length ≤ 40
def cardT (c : Int) : List UInt8 := bif c == 1 then [114, 101, 113, 117, 105, 114, 101, 100, 32] else bif c == 2 then [111, 112, 116, 105, 111, 110, 97, 108, 32] else bif c == 3 then [112, 108, 97, 105, 110, 32] else [108, 105, 115, 116, 32]
theorem cardT_len (c : Int) : (cardT c).length ≤ 9 := by
  unfold cardT
  cases c == 1 <;> cases c == 2 <;> cases c == 3 <;> simp
noncomputable def headT (x : PV) : List UInt8 :=
  bif (x.fld 2).asInt == 5 then [109, 97, 112, 60] ++ (kw (x.fld 3).asInt ++ ([44, 32] ++ (typeT (x.fld 4) ++ [62]))) else bif (x.fld 5).asStr == [] then cardT (x.fld 2).asInt ++ typeT (x.fld 4) else typeT (x.fld 4)
noncomputable def rowT (x : PV) : List UInt8 :=
  headT x ++ ([32] ++ ((x.fld 1).asStr ++ ([32, 61, 32] ++ (numT (x.fld 0).asInt ++ ((bif (x.fld 6).asBool then [32, 100, 101, 102, 97, 117, 108, 116, 32] ++ litT (x.fld 7) else []) ++ (notesT (x.fld 8).asList ++ [59]))))))
theorem rowT_len (x : PV) (h : RowOk x) : (rowT x).length ≤ 300000000 := by
  have h1 := typeT_len _ h.ok.type
  have h2 := notesT_len _ h.few h.ok.note
  have h3 := litT_len _ h.ok.dflt
  have h4 := kw_len (x.fld 3).asInt
  have h5 := cardT_len (x.fld 2).asInt
  have h6 := numT_len (x.fld 0).asInt
  have h7 := h.ok.name
  unfold rowT headT
  cases ((x.fld 2).asInt == 5) <;> cases ((x.fld 5).asStr == ([] : List UInt8)) <;> cases (x.fld 6).asBool <;> simp only [cond_true, cond_false, List.length_append, List.length_cons, List.length_nil] <;> omega
theorem row_eq (x : PV) (h : RowOk x) : F58 0 x = some (rowT x) := by
  have h1 := typeT_len _ h.ok.type
  have h2 := notesT_len _ h.few h.ok.note
  have h3 := litT_len _ h.ok.dflt
  have h4 := kw_len (x.fld 3).asInt
  have h5 := cardT_len (x.fld 2).asInt
  have h6 := numT_len (x.fld 0).asInt
  have h7 := h.ok.name
  have hr : inRange (x.fld 2).asInt 5 = (bif (x.fld 2).asInt == 5 then false else true) := by
    have a := h.card1; have b := h.card5
    have : (x.fld 2).asInt = 1 ∨ (x.fld 2).asInt = 2 ∨ (x.fld 2).asInt = 3 ∨ (x.fld 2).asInt = 4 ∨ (x.fld 2).asInt = 5 := by omega
    rcases this with e | e | e | e | e <;> rw [e] <;> rfl
  have hc : (bif (x.fld 2).asInt == 5 then ([] : List UInt8) else ((PV.agg [(PV.str ([] : List UInt8)), (PV.str ([114, 101, 113, 117, 105, 114, 101, 100, 32] : List UInt8)), (PV.str ([111, 112, 116, 105, 111, 110, 97, 108, 32] : List UInt8)), (PV.str ([112, 108, 97, 105, 110, 32] : List UInt8)), (PV.str ([108, 105, 115, 116, 32] : List UInt8))]).fld (x.fld 2).asInt.toNat).asStr) = (bif (x.fld 2).asInt == 5 then [] else cardT (x.fld 2).asInt) := by
    have a := h.card1; have b := h.card5
    have : (x.fld 2).asInt = 1 ∨ (x.fld 2).asInt = 2 ∨ (x.fld 2).asInt = 3 ∨ (x.fld 2).asInt = 4 ∨ (x.fld 2).asInt = 5 := by omega
    rcases this with e | e | e | e | e <;> rw [e] <;> rfl
  have b1 := type_eq _ h.ok.type
  have b2 := behind_eq _ h.few h.ok.note
  have b3 := lit_eq _ h.ok.dflt
  have b4 := itoa_num h.num0 (by have := h.num1; omega)
  unfold F58 rowT headT
  simp only [b1, b2, b3, b4, kw_eq, Option.bind_some, hr]
  generalize typeT (x.fld 4) = t1 at *
  generalize notesT (x.fld 8).asList = t2 at *
  generalize litT (x.fld 7) = t3 at *
  generalize kw (x.fld 3).asInt = t4 at *
  generalize cardT (x.fld 2).asInt = t5 at *
  generalize numT (x.fld 0).asInt = t6 at *
  generalize (x.fld 1).asStr = t7 at *
  cases hq : ((x.fld 2).asInt == 5) with
  | true =>
    cases (x.fld 6).asBool <;> simp (disch := (first | omega | (simp only [List.length_append, List.length_cons, List.length_nil]; omega))) only [cond_true, cond_false, strOk, List.append_assoc]
    rfl
  | false =>
    rw [hq] at hc
    simp only [cond_false] at hc
    simp only [hc]
    cases ((x.fld 5).asStr == ([] : List UInt8)) <;> cases (x.fld 6).asBool <;> simp (disch := (first | omega | (simp only [List.length_append, List.length_cons, List.length_nil]; omega))) only [cond_true, cond_false, strOk, List.append_assoc, List.nil_append]
end Go.Ab
