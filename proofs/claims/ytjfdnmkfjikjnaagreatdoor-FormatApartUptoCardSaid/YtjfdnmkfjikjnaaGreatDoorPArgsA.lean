/- The numbers, texts, annotations and counts of a file: the same in the program and the specification. -/
import Derived.Test.YtjfdnmkfjikjnaaGreatDoorPNumsA
set_option linter.unusedVariables false
set_option linter.unusedSimpArgs false
set_option linter.unnecessarySimpa false
namespace Go.Ab
open Go
set_option maxRecDepth 100000
/- Defaults. -/
theorem lists_sum (v : PV) (hs : vLists v ≤ 1048576) : IntKind.wrap .i64 ((IntKind.wrap .i64 ((IntKind.wrap .i64 ((((v.fld 3).asList).length : Int) + (((v.fld 4).asList).length : Int))) + (((v.fld 5).asList).length : Int))) + (((v.fld 6).asList).length : Int)) = ((vLists v : Nat) : Int) := by
  unfold vLists at hs ⊢
  have w1 : IntKind.wrap .i64 (((v.fld 3).asList.length : Int) + ((v.fld 4).asList.length : Int)) = (((v.fld 3).asList.length + (v.fld 4).asList.length : Nat) : Int) := wadd (by omega)
  have w2 : IntKind.wrap .i64 ((((v.fld 3).asList.length + (v.fld 4).asList.length : Nat) : Int) + ((v.fld 5).asList.length : Int)) = (((v.fld 3).asList.length + (v.fld 4).asList.length + (v.fld 5).asList.length : Nat) : Int) := wadd (by omega)
  have w3 : IntKind.wrap .i64 ((((v.fld 3).asList.length + (v.fld 4).asList.length + (v.fld 5).asList.length : Nat) : Int) + ((v.fld 6).asList.length : Int)) = (((v.fld 3).asList.length + (v.fld 4).asList.length + (v.fld 5).asList.length + (v.fld 6).asList.length : Nat) : Int) := wadd (by omega)
  rw [w1, w2, w3]
/-- A value of this kind, with these bits and this text, and nothing else. -/
def isV (k b : Int) (s : List UInt8) (v : PV) : Bool := (vKind v == k) && (vBits v == b) && (vText v == s) && decide (vLists v = 0)
theorem isZero_eq (v : PV) (hs : smallV v) : F267 0 v = some (isV 0 0 [] v) := by
  have e : (((vLists v : Nat) : Int) == (0 : Int)) = decide (vLists v = 0) := nbeq _ 0
  unfold F267 isV
  rw [lists_sum v hs.1, e]
  have e0 : (v.fld 0).asInt = vKind v := rfl
  have e1 : (v.fld 1).asInt = vBits v := rfl
  have e2 : (v.fld 2).asStr = vText v := rfl
  rw [e0, e1, e2]
  cases (vKind v == 0) <;> cases (vBits v == 0) <;> cases (vText v == ([] : List UInt8)) <;> rfl
noncomputable def itemV (v : PV) : Bool := (vKind v == 9) && simpP (vText v) && (vBits v == 0) && decide (vLists v = 0)
theorem named_eq (v : PV) (hs : smallV v) : F50 0 v = some (itemV v) := by
  have e : (((vLists v : Nat) : Int) == (0 : Int)) = decide (vLists v = 0) := nbeq _ 0
  have e0 : (v.fld 0).asInt = vKind v := rfl
  have e1 : (v.fld 1).asInt = vBits v := rfl
  have e2 : (v.fld 2).asStr = vText v := rfl
  unfold F50 itemV
  simp only [lists_sum v hs.1, e, e0, e1, e2, isPart2_eq]
  cases (vKind v == (9 : Int)) <;> cases simpP (vText v) <;> cases (vBits v == (0 : Int)) <;> rfl
/-- The bits of the normal form. -/
def normB (v : PV) : Int := bif (vKind v == 6) && (classN (vBits v).toNat == 0) then 9221120237041090560 else vBits v
theorem bits_nat {v : PV} (hs : smallV v) : ∃ u : Nat, vBits v = (u : Int) ∧ u < 18446744073709551616 := by
  obtain ⟨_, _, h0, h1⟩ := hs
  exact ⟨(vBits v).toNat, (Int.toNat_of_nonneg h0).symm, by omega⟩
theorem norm_eq (v : PV) (hs : smallV v) : ∃ w, F268 0 v = some w ∧ (w.fld 1).asInt = normB v := by
  obtain ⟨u, hu, h64⟩ := bits_nat hs
  have e0 : (v.fld 0).asInt = vKind v := rfl
  have e1 : (v.fld 1).asInt = vBits v := rfl
  unfold F268 normB
  simp only [e0, e1, hu, class_eq' u h64, Int.toNat_natCast]
  cases (vKind v == (6 : Int)) with
  | false => exact ⟨v, rfl, by rw [e1, hu]; rfl⟩
  | true =>
    cases h : classN u == (0 : Int) with
    | false => exact ⟨v, by simp [h], by rw [e1, hu]; rfl⟩
    | true => exact ⟨_, by simp [h]; rfl, rfl⟩
noncomputable def rightF (x : PV) : Bool :=
  bif !(x.fld 6).asBool then isV 0 0 [] (x.fld 7) else bif (x.fld 2).asInt == 5 then false else bif ((x.fld 4).fld 0).asInt == 0 then itemV (x.fld 7) else fitsV ((x.fld 4).fld 0).asInt (x.fld 7) && (normB (x.fld 7) == vBits (x.fld 7))
theorem right_eq' (x : PV) (h : OkFld x) : F198 0 x = some (rightF x) := by
  obtain ⟨w, h1, h2⟩ := norm_eq _ h.dflt
  have e1 : ((x.fld 7).fld 1).asInt = vBits (x.fld 7) := rfl
  unfold F198 rightF
  simp only [isZero_eq _ h.dflt, named_eq _ h.dflt, h1, fitsV_eq _ _ h.dflt, Option.bind_some, h2, e1]
  cases (x.fld 6).asBool <;> cases ((x.fld 2).asInt == (5 : Int)) <;> cases (((x.fld 4).fld 0).asInt == (0 : Int)) <;> cases fitsV ((x.fld 4).fld 0).asInt (x.fld 7) <;> rfl
/- Numbers. -/
def keyF (c k : Int) : Bool := bif c != 5 then k == 0 else (decide (1 ≤ k ∧ k ≤ 5) || k == 7)
theorem key_eq' (c k : Int) : F197 0 c k = some (keyF c k) := by
  unfold F197 keyF
  cases (c != (5 : Int)) with
  | true => rfl
  | false =>
    have e : (bif (bif (decide (k ≥ (1 : Int))) then (decide (k ≤ (7 : Int))) else false) then (k != (6 : Int)) else false) = (decide (1 ≤ k ∧ k ≤ 5) || k == 7) := by
      by_cases h7 : k = 7
      · subst h7; rfl
      · by_cases h : 1 ≤ k ∧ k ≤ 5
        · have h6 : k ≠ 6 := by omega
          have q1 : decide (k ≥ (1 : Int)) = true := decide_eq_true (by omega)
          have q2 : decide (k ≤ (7 : Int)) = true := decide_eq_true (by omega)
          rw [q1, q2, bneI h6, decide_eq_true h]; rfl
        · rw [decide_eq_false h, beqI h7]
          by_cases h1 : k ≥ 1
          · by_cases h2 : k ≤ 7
            · have : k = 6 := by omega
              subst this; rfl
            · simp [h1, h2]
          · simp [h1]
    simp only [cond_false, e]
def rangeF (x : PV) : Bool := decide (0 ≤ (x.fld 0).asInt ∧ (x.fld 0).asInt ≤ 65535 ∧ 1 ≤ (x.fld 2).asInt ∧ (x.fld 2).asInt ≤ 5 ∧ 0 ≤ ((x.fld 4).fld 0).asInt ∧ ((x.fld 4).fld 0).asInt ≤ 8)
def unionF (x : PV) : Bool := ((x.fld 5).asStr == []) || (((x.fld 2).asInt == 2) && !(x.fld 6).asBool)
noncomputable def argFld (x : PV) : Bool := rangeF x && keyF (x.fld 2).asInt (x.fld 3).asInt && unionF x && rightF x
theorem field_eq' (x : PV) (h : OkFld x) : F88 0 x = some (argFld x) := by
  have e : (bif (bif (bif (decide ((x.fld 0).asInt ≥ (0 : Int))) then (decide ((x.fld 0).asInt ≤ (65535 : Int))) else false) then (decide ((x.fld 2).asInt ≥ (1 : Int))) else false) then (decide ((x.fld 2).asInt ≤ (5 : Int))) else false) = decide (0 ≤ (x.fld 0).asInt ∧ (x.fld 0).asInt ≤ 65535 ∧ 1 ≤ (x.fld 2).asInt ∧ (x.fld 2).asInt ≤ 5) := by
    simp only [Bool.decide_and, ge_iff_le]
    cases decide (0 ≤ (x.fld 0).asInt) <;> cases decide ((x.fld 0).asInt ≤ 65535) <;> cases decide (1 ≤ (x.fld 2).asInt) <;> cases decide ((x.fld 2).asInt ≤ 5) <;> rfl
  have e2 : ((((x.fld 4).fld 0).asInt == (0 : Int)) || plainK ((x.fld 4).fld 0).asInt) = decide (0 ≤ ((x.fld 4).fld 0).asInt ∧ ((x.fld 4).fld 0).asInt ≤ 8) := by
    unfold plainK
    generalize ((x.fld 4).fld 0).asInt = k
    by_cases h0 : k = 0
    · subst h0; rfl
    · rw [beqI h0, Bool.false_or, ← Bool.decide_and, decide_eq_decide]; omega
  unfold F88 argFld rangeF
  simp only [e, key_eq', plain_eq, right_eq' x h]
  rw [show decide (0 ≤ (x.fld 0).asInt ∧ (x.fld 0).asInt ≤ 65535 ∧ 1 ≤ (x.fld 2).asInt ∧ (x.fld 2).asInt ≤ 5 ∧ 0 ≤ ((x.fld 4).fld 0).asInt ∧ ((x.fld 4).fld 0).asInt ≤ 8) = (decide (0 ≤ (x.fld 0).asInt ∧ (x.fld 0).asInt ≤ 65535 ∧ 1 ≤ (x.fld 2).asInt ∧ (x.fld 2).asInt ≤ 5) && decide (0 ≤ ((x.fld 4).fld 0).asInt ∧ ((x.fld 4).fld 0).asInt ≤ 8)) by rw [← Bool.decide_and, decide_eq_decide]; omega, ← e2]
  unfold unionF
  generalize decide (0 ≤ (x.fld 0).asInt ∧ (x.fld 0).asInt ≤ 65535 ∧ 1 ≤ (x.fld 2).asInt ∧ (x.fld 2).asInt ≤ 5) = q1
  generalize keyF (x.fld 2).asInt (x.fld 3).asInt = q2
  generalize (((x.fld 4).fld 0).asInt == (0 : Int)) = q3
  generalize plainK ((x.fld 4).fld 0).asInt = q4
  generalize ((x.fld 5).asStr == ([] : List UInt8)) = q5
  generalize ((x.fld 2).asInt == (2 : Int)) = q6
  generalize (x.fld 6).asBool = q7
  generalize rightF x = q8
  cases q1 <;> cases q2 <;> cases q3 <;> cases q4 <;> cases q5 <;> cases q6 <;> cases q7 <;> cases q8 <;> rfl
/- Unions stand together. -/
def un (l : List PV) (i : Nat) : List UInt8 := ((l.getD i .bad).fld 5).asStr
def apart (l : List PV) (i k : Nat) : Bool := (un l k == un l i) && !(un l i == []) && !(un l (i - 1) == un l i)
def adjP (l : List PV) : Bool := allF (fun i => allF (fun k => !apart l i k) 0 i) 0 l.length
theorem adj_in (l : List PV) (hl : l.length ≤ 1048576) (i : Nat) (hi : i < l.length) : loopW (S89_6step 0) (l, (i : Int), (l.length : Int), (i : Int), (i : Int), (0 : Int)) = some (bif allF (fun k => !apart l i k) 0 i then .inr (l, (l.length : Int), (i : Int)) else .inl false) :=
  loopW_all (step := S89_6step 0) (fun k => (l, (i : Int), (l.length : Int), (i : Int), (i : Int), (k : Int))) i (fun k => !apart l i k) (Sum.inl false : Bool ⊕ (List PV × Int × Int)) (Sum.inr (l, (l.length : Int), (i : Int))) (fun k hk => by
    have hk2 : k < l.length := by omega
    have hw : IntKind.wrap .i64 ((i : Int) - (1 : Int)) = ((i - 1 : Nat) : Int) := by
      rw [show (i : Int) - 1 = ((i - 1 : Nat) : Int) by omega]; exact wrap64_nat (by omega)
    have hi1 : i - 1 < l.length := by omega
    have u1 : ((l.getD k .bad).fld 5).asStr = un l k := rfl
    have u2 : ((l.getD i .bad).fld 5).asStr = un l i := rfl
    have u3 : ((l.getD (i - 1) .bad).fld 5).asStr = un l (i - 1) := rfl
    simp only [S89_6step, S89_6, declt, hk, inRange_nat, hk2, hi, hi1, hw, decide_true, cond_true, Int.toNat_natCast, u1, u2, u3, wadd' (i := k) (by omega)]
    unfold apart imp
    cases (un l k == un l i) <;> cases (un l i == ([] : List UInt8)) <;> cases (un l (i - 1) == un l i) <;> rfl) (by
    simp only [S89_6step, S89_6, declt, Nat.lt_irrefl, decide_false, cond_false]) i 0 (by omega)
theorem adjacent_eq (l : List PV) (hl : l.length ≤ 1048576) : F89 0 l = some (adjP l) := by
  have h := loopW_all (step := S89_3step 0) (fun i => (l, (l.length : Int), (i : Int))) l.length (fun i => allF (fun k => !apart l i k) 0 i) (Sum.inl false : Bool ⊕ Unit) (Sum.inr ()) (fun i hi => by
    simp only [S89_3step, S89_3, declt, hi, decide_true, cond_true, loopQ0, adj_in l hl i hi, Option.bind_some]
    cases allF (fun k => !apart l i k) 0 i with
    | false => rfl
    | true => simp only [cond_true, sumE_inr, wadd' (i := i) (by omega)]) (by
    simp only [S89_3step, S89_3, declt, Nat.lt_irrefl, decide_false, cond_false]) l.length 0 (by omega)
  unfold F89 adjP
  rw [loopQ0, show (0 : Int) = ((0 : Nat) : Int) from rfl, h]
  cases allF (fun i => allF (fun k => !apart l i k) 0 i) 0 l.length <;> rfl
/- Reserved ranges. -/
def spanP (most : Int) (x : PV) : Bool := decide (0 ≤ (x.fld 0).asInt ∧ (x.fld 0).asInt ≤ most ∧ 0 ≤ (x.fld 1).asInt ∧ (x.fld 1).asInt ≤ most)
theorem spans_in (l : List PV) (hl : l.length ≤ 1048576) (most : Int) : F90 0 l most = some (l.all (spanP most)) := by
  have hc : ∀ i, F270 0 (l.getD i .bad) () () most = some (!(spanP most (l.getD i .bad)), (), most) := fun i => by
    unfold F270 F200 spanP
    generalize ((l.getD i .bad).fld 0).asInt = a
    generalize ((l.getD i .bad).fld 1).asInt = b
    have e : (bif (decide ((if b < a then b else a) ≥ (0 : Int))) then (decide ((if b > a then b else a) ≤ most)) else false) = decide (0 ≤ a ∧ a ≤ most ∧ 0 ≤ b ∧ b ≤ most) := by
      by_cases h1 : b < a
      · rw [if_pos h1, if_neg (show ¬ b > a by omega), condAnd, ← Bool.decide_and, decide_eq_decide]; omega
      · rw [if_neg h1]
        by_cases h2 : b > a
        · rw [if_pos h2, condAnd, ← Bool.decide_and, decide_eq_decide]; omega
        · rw [if_neg h2, condAnd, ← Bool.decide_and, decide_eq_decide]; omega
    simp only [Option.bind_some, e]
  obtain ⟨r, h1, h2, h3⟩ := loopW_first (step := S303_3step 0) (fun i => (l, (), (l.length : Int), (i : Int), (), most)) l.length (fun i => spanP most (l.getD i .bad)) (fun i => (Sum.inl ((i : Int), (), most) : (Int × Unit × Int) ⊕ (Unit × Int))) (Sum.inr ((), most)) (fun i hi => by
    simp only [S303_3step, S303_3, lt_int, inRange_nat, hi, decide_true, cond_true, Int.toNat_natCast, hc i, Option.bind_some, wadd' (i := i) (by omega)]
    cases spanP most (l.getD i .bad) <;> rfl) (by
    simp only [S303_3step, S303_3, lt_int, Nat.lt_irrefl, decide_false, cond_false]) l.length 0 (by omega)
  rw [allF_of] at h2 h3
  unfold F90 F199 F269 F303
  rw [loopQ0, show (0 : Int) = ((0 : Nat) : Int) from rfl, h1]
  cases ha : l.all (spanP most) with
  | true => rw [h2 ha]; rfl
  | false =>
    obtain ⟨j, _, _, rfl⟩ := h3 ha
    simp [sumE]
/- All of a file's numbers. -/
noncomputable def argMsg (m : PV) : Bool := (m.fld 1).asList.all argFld && adjP (m.fld 1).asList && (m.fld 2).asList.all (spanP 65535)
def argItem (x : PV) : Bool := decide ((x.fld 1).asInt ≥ 0) && decide ((x.fld 1).asInt ≤ 2147483647)
def argEnum (m : PV) : Bool := (m.fld 3).asList.all (spanP 2147483647) && (m.fld 2).asList.all argItem
def argMeth (x : PV) : Bool := decide ((x.fld 3).asInt ≥ 1) && decide ((x.fld 3).asInt ≤ 4)
def argSvc (m : PV) : Bool := (m.fld 1).asList.all argMeth
noncomputable def argFile (f : PV) : Bool := (f.fld 3).asList.all argMsg && (f.fld 4).asList.all argEnum && (f.fld 5).asList.all argSvc
theorem argMsg_eq (m : PV) (h : OkMsg m) : F87 0 m = some (argMsg m) := by
  unfold F87 argMsg
  simp only [ev_af _ argFld h.fields fun x hx => field_eq' x (h.field x hx), adjacent_eq _ h.fields, spans_in _ h.spans, Option.bind_some]
  cases (m.fld 1).asList.all argFld <;> cases adjP (m.fld 1).asList <;> rfl
theorem argEnum_eq (m : PV) (h : OkEnum m) : F91 0 m = some (argEnum m) := by
  unfold F91 argEnum
  simp only [ev_ai _ argItem h.items fun x hx => by unfold F92 argItem; rw [condAnd], spans_in _ h.spans, Option.bind_some]
  cases (m.fld 3).asList.all (spanP 2147483647) <;> rfl
theorem argSvc_eq (m : PV) (h : OkSvc m) : F93 0 m = some (argSvc m) := by
  unfold F93 argSvc
  simp only [ev_ad _ argMeth h.meths fun x hx => by unfold F94 argMeth; rw [condAnd], Option.bind_some]
theorem numbers_eq (f : PV) (h : OkFile f) : F29 0 f = some (argFile f) := by
  unfold F29 argFile
  simp only [Option.bind_some, ev_am _ argMsg h.msgs fun x hx => argMsg_eq x (h.msg x hx), ev_ae _ argEnum h.enums fun x hx => argEnum_eq x (h.enum x hx), ev_as _ argSvc h.svcs fun x hx => argSvc_eq x (h.svc x hx)]
  cases (f.fld 3).asList.all argMsg <;> cases (f.fld 4).asList.all argEnum <;> rfl
end Go.Ab
