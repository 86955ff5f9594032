/- The numbers, texts, annotations and counts of a file: the same in the program and the specification. -/
import Derived.Test.YtjfdnmkfjikjnaaGreatDoorPEveryL
set_option linter.unusedVariables false
set_option linter.unusedSimpArgs false
set_option linter.unnecessarySimpa false
namespace Go.Ab
open Go
set_option maxRecDepth 100000
/- Defaults. -/
theorem lists_sum (v : PV) (hs : vLists v ≤ 1048576) : IntKind.wrap .i64 ((IntKind.wrap .i64 ((IntKind.wrap .i64 ((((v.fld 3).asList).length : Int) + (((v.fld 4).asList).length : Int))) + (((v.fld 5).asList).length : Int))) + (((v.fld 6).asList).length : Int)) = ((vLists v : Nat) : Int) := by
  unfold vLists at hs ⊢
  have w1 : IntKind.wrap .i64 (((v.fld 3).asList.length : Int) + ((v.fld 4).asList.length : Int)) = (((v.fld 3).asList.length + (v.fld 4).asList.length : Nat) : Int) := wadd (by omega)
  have w2 : IntKind.wrap .i64 ((((v.fld 3).asList.length + (v.fld 4).asList.length : Nat) : Int) + ((v.fld 5).asList.length : Int)) = (((v.fld 3).asList.length + (v.fld 4).asList.length + (v.fld 5).asList.length : Nat) : Int) := wadd (by omega)
  have w3 : IntKind.wrap .i64 ((((v.fld 3).asList.length + (v.fld 4).asList.length + (v.fld 5).asList.length : Nat) : Int) + ((v.fld 6).asList.length : Int)) = (((v.fld 3).asList.length + (v.fld 4).asList.length + (v.fld 5).asList.length + (v.fld 6).asList.length : Nat) : Int) := wadd (by omega)
  rw [w1, w2, w3]
/-- A value of this kind, with these bits and this text, and nothing else. -/
def isV (k b : Int) (s : List UInt8) (v : PV) : Bool := (vKind v == k) && (vBits v == b) && (vText v == s) && decide (vLists v = 0)
theorem isZero_eq (v : PV) (hs : smallV v) : F267 0 v = some (isV 0 0 [] v) := by
  have e : (((vLists v : Nat) : Int) == (0 : Int)) = decide (vLists v = 0) := nbeq _ 0
  unfold F267 isV
  rw [lists_sum v hs.1, e]
  have e0 : (v.fld 0).asInt = vKind v := rfl
  have e1 : (v.fld 1).asInt = vBits v := rfl
  have e2 : (v.fld 2).asStr = vText v := rfl
  rw [e0, e1, e2]
  cases (vKind v == 0) <;> cases (vBits v == 0) <;> cases (vText v == ([] : List UInt8)) <;> rfl
noncomputable def itemV (v : PV) : Bool := (vKind v == 9) && simpP (vText v) && (vBits v == 0) && decide (vLists v = 0)
theorem named_eq (v : PV) (hs : smallV v) : F50 0 v = some (itemV v) := by
  have e : (((vLists v : Nat) : Int) == (0 : Int)) = decide (vLists v = 0) := nbeq _ 0
  have e0 : (v.fld 0).asInt = vKind v := rfl
  have e1 : (v.fld 1).asInt = vBits v := rfl
  have e2 : (v.fld 2).asStr = vText v := rfl
  unfold F50 itemV
  simp only [lists_sum v hs.1, e, e0, e1, e2, isPart2_eq]
  cases (vKind v == (9 : Int)) <;> cases simpP (vText v) <;> cases (vBits v == (0 : Int)) <;> rfl
/-- The bits of the normal form. -/
def normB (v : PV) : Int := bif (vKind v == 6) && (classN (vBits v).toNat == 0) then 9221120237041090560 else vBits v
theorem bits_nat {v : PV} (hs : smallV v) : ∃ u : Nat, vBits v = (u : Int) ∧ u < 18446744073709551616 := by
  obtain ⟨_, _, h0, h1⟩ := hs
  exact ⟨(vBits v).toNat, (Int.toNat_of_nonneg h0).symm, by omega⟩
theorem norm_eq (v : PV) (hs : smallV v) : ∃ w, F268 0 v = some w ∧ (w.fld 1).asInt = normB v := by
  obtain ⟨u, hu, h64⟩ := bits_nat hs
  have e0 : (v.fld 0).asInt = vKind v := rfl
  have e1 : (v.fld 1).asInt = vBits v := rfl
  unfold F268 normB
  simp only [e0, e1, hu, class_eq' u h64, Int.toNat_natCast]
  cases (vKind v == (6 : Int)) with
  | false => exact ⟨v, rfl, by rw [e1, hu]; rfl⟩
  | true =>
    cases h : classN u == (0 : Int) with
    | false => exact ⟨v, by simp [h], by rw [e1, hu]; rfl⟩
    | true => exact ⟨_, by simp [h]; rfl, rfl⟩
noncomputable def rightF (x : PV) : Bool :=
  bif !(x.fld 6).asBool then isV 0 0 [] (x.fld 7) else bif (x.fld 2).asInt == 5 then false else bif ((x.fld 4).fld 0).asInt == 0 then itemV (x.fld 7) else fitsV ((x.fld 4).fld 0).asInt (x.fld 7) && (normB (x.fld 7) == vBits (x.fld 7))
theorem right_eq' (x : PV) (h : OkFld x) : F198 0 x = some (rightF x) := by
  obtain ⟨w, h1, h2⟩ := norm_eq _ h.dflt
  have e1 : ((x.fld 7).fld 1).asInt = vBits (x.fld 7) := rfl
  unfold F198 rightF
  simp only [isZero_eq _ h.dflt, named_eq _ h.dflt, h1, fitsV_eq _ _ h.dflt, Option.bind_some, h2, e1]
  cases (x.fld 6).asBool <;> cases ((x.fld 2).asInt == (5 : Int)) <;> cases (((x.fld 4).fld 0).asInt == (0 : Int)) <;> cases fitsV ((x.fld 4).fld 0).asInt (x.fld 7) <;> rfl
/- Numbers. -/
def keyF (c k : Int) : Bool := bif c != 5 then k == 0 else (decide (1 ≤ k ∧ k ≤ 5) || k == 7)
theorem key_eq' (c k : Int) : F197 0 c k = some (keyF c k) := by
  unfold F197 keyF
  cases (c != (5 : Int)) with
  | true => rfl
  | false =>
    have e : (bif (bif (decide (k ≥ (1 : Int))) then (decide (k ≤ (7 : Int))) else false) then (k != (6 : Int)) else false) = (decide (1 ≤ k ∧ k ≤ 5) || k == 7) := by
      by_cases h7 : k = 7
      · subst h7; rfl
      · by_cases h : 1 ≤ k ∧ k ≤ 5
        · have h6 : k ≠ 6 := by omega
          have q1 : decide (k ≥ (1 : Int)) = true := decide_eq_true (by omega)
          have q2 : decide (k ≤ (7 : Int)) = true := decide_eq_true (by omega)
          rw [q1, q2, bneI h6, decide_eq_true h]; rfl
        · rw [decide_eq_false h, beqI h7]
          by_cases h1 : k ≥ 1
          · by_cases h2 : k ≤ 7
            · have : k = 6 := by omega
              subst this; rfl
            · simp [h1, h2]
          · simp [h1]
    simp only [cond_false, e]
def rangeF (x : PV) : Bool := decide (0 ≤ (x.fld 0).asInt ∧ (x.fld 0).asInt ≤ 65535 ∧ 1 ≤ (x.fld 2).asInt ∧ (x.fld 2).asInt ≤ 5 ∧ 0 ≤ ((x.fld 4).fld 0).asInt ∧ ((x.fld 4).fld 0).asInt ≤ 8)
def unionF (x : PV) : Bool := ((x.fld 5).asStr == []) || (((x.fld 2).asInt == 2) && !(x.fld 6).asBool)
noncomputable def argFld (x : PV) : Bool := rangeF x && keyF (x.fld 2).asInt (x.fld 3).asInt && unionF x && rightF x
theorem field_eq' (x : PV) (h : OkFld x) : F88 0 x = some (argFld x) := by
  have e : (bif (bif (bif (decide ((x.fld 0).asInt ≥ (0 : Int))) then (decide ((x.fld 0).asInt ≤ (65535 : Int))) else false) then (decide ((x.fld 2).asInt ≥ (1 : Int))) else false) then (decide ((x.fld 2).asInt ≤ (5 : Int))) else false) = decide (0 ≤ (x.fld 0).asInt ∧ (x.fld 0).asInt ≤ 65535 ∧ 1 ≤ (x.fld 2).asInt ∧ (x.fld 2).asInt ≤ 5) := by
    simp only [Bool.decide_and, ge_iff_le]
    cases decide (0 ≤ (x.fld 0).asInt) <;> cases decide ((x.fld 0).asInt ≤ 65535) <;> cases decide (1 ≤ (x.fld 2).asInt) <;> cases decide ((x.fld 2).asInt ≤ 5) <;> rfl
  have e2 : ((((x.fld 4).fld 0).asInt == (0 : Int)) || plainK ((x.fld 4).fld 0).asInt) = decide (0 ≤ ((x.fld 4).fld 0).asInt ∧ ((x.fld 4).fld 0).asInt ≤ 8) := by
    unfold plainK
    generalize ((x.fld 4).fld 0).asInt = k
    by_cases h0 : k = 0
    · subst h0; rfl
    · rw [beqI h0, Bool.false_or, ← Bool.decide_and, decide_eq_decide]; omega
  unfold F88 argFld rangeF
  simp only [e, key_eq', plain_eq, right_eq' x h]
  rw [show decide (0 ≤ (x.fld 0).asInt ∧ (x.fld 0).asInt ≤ 65535 ∧ 1 ≤ (x.fld 2).asInt ∧ (x.fld 2).asInt ≤ 5 ∧ 0 ≤ ((x.fld 4).fld 0).asInt ∧ ((x.fld 4).fld 0).asInt ≤ 8) = (decide (0 ≤ (x.fld 0).asInt ∧ (x.fld 0).asInt ≤ 65535 ∧ 1 ≤ (x.fld 2).asInt ∧ (x.fld 2).asInt ≤ 5) && decide (0 ≤ ((x.fld 4).fld 0).asInt ∧ ((x.fld 4).fld 0).asInt ≤ 8)) by rw [← Bool.decide_and, decide_eq_decide]; omega, ← e2]
  unfold unionF
  generalize decide (0 ≤ (x.fld 0).asInt ∧ (x.fld 0).asInt ≤ 65535 ∧ 1 ≤ (x.fld 2).asInt ∧ (x.fld 2).asInt ≤ 5) = q1
  generalize keyF (x.fld 2).asInt (x.fld 3).asInt = q2
  generalize (((x.fld 4).fld 0).asInt == (0 : Int)) = q3
  generalize plainK ((x.fld 4).fld 0).asInt = q4
  generalize ((x.fld 5).asStr == ([] : List UInt8)) = q5
  generalize ((x.fld 2).asInt == (2 : Int)) = q6
  generalize (x.fld 6).asBool = q7
  generalize rightF x = q8
  cases q1 <;> cases q2 <;> cases q3 <;> cases q4 <;> cases q5 <;> cases q6 <;> cases q7 <;> cases q8 <;> rfl
/- Unions stand together. -/
def un (l : List PV) (i : Nat) : List UInt8 := ((l.getD i .bad).fld 5).asStr
def apart (l : List PV) (i k : Nat) : Bool := (un l k == un l i) && !(un l i == []) && !(un l (i - 1) == un l i)
def adjP (l : List PV) : Bool := allF (fun i => allF (fun k => !apart l i k) 0 i) 0 l.length
theorem adj_in (l : List PV) (hl : l.length ≤ 1048576) (i : Nat) (hi : i < l.length) : loopW (S89_6step 0) (l, (i : Int), (l.length : Int), (i : Int), (i : Int), (0 : Int)) = some (bif allF (fun k => !apart l i k) 0 i then .inr (l, (l.length : Int), (i : Int)) else .inl false) :=
  loopW_all (step := S89_6step 0) (fun k => (l, (i : Int), (l.length : Int), (i : Int), (i : Int), (k : Int))) i (fun k => !apart l i k) (Sum.inl false : Bool ⊕ (List PV × Int × Int)) (Sum.inr (l, (l.length : Int), (i : Int))) (fun k hk => by
    have hk2 : k < l.length := by omega
    have hw : IntKind.wrap .i64 ((i : Int) - (1 : Int)) = ((i - 1 : Nat) : Int) := by
      rw [show (i : Int) - 1 = ((i - 1 : Nat) : Int) by omega]; exact wrap64_nat (by omega)
    have hi1 : i - 1 < l.length := by omega
    have u1 : ((l.getD k .bad).fld 5).asStr = un l k := rfl
    have u2 : ((l.getD i .bad).fld 5).asStr = un l i := rfl
    have u3 : ((l.getD (i - 1) .bad).fld 5).asStr = un l (i - 1) := rfl
    simp only [S89_6step, S89_6, declt, hk, inRange_nat, hk2, hi, hi1, hw, decide_true, cond_true, Int.toNat_natCast, u1, u2, u3, wadd' (i := k) (by omega)]
    unfold apart imp
    cases (un l k == un l i) <;> cases (un l i == ([] : List UInt8)) <;> cases (un l (i - 1) == un l i) <;> rfl) (by
    simp only [S89_6step, S89_6, declt, Nat.lt_irrefl, decide_false, cond_false]) i 0 (by omega)
theorem adjacent_eq (l : List PV) (hl : l.length ≤ 1048576) : F89 0 l = some (adjP l) := by
  have h := loopW_all (step := S89_3step 0) (fun i => (l, (l.length : Int), (i : Int))) l.length (fun i => allF (fun k => !apart l i k) 0 i) (Sum.inl false : Bool ⊕ Unit) (Sum.inr ()) (fun i hi => by
    simp only [S89_3step, S89_3, declt, hi, decide_true, cond_true, loopQ0, adj_in l hl i hi, Option.bind_some]
    cases allF (fun k => !apart l i k) 0 i with
    | false => rfl
    | true => simp only [cond_true, sumE_inr, wadd' (i := i) (by omega)]) (by
    simp only [S89_3step, S89_3, declt, Nat.lt_irrefl, decide_false, cond_false]) l.length 0 (by omega)
  unfold F89 adjP
  rw [loopQ0, show (0 : Int) = ((0 : Nat) : Int) from rfl, h]
  cases allF (fun i => allF (fun k => !apart l i k) 0 i) 0 l.length <;> rfl
/- Reserved ranges. -/
def spanP (most : Int) (x : PV) : Bool := decide (0 ≤ (x.fld 0).asInt ∧ (x.fld 0).asInt ≤ most ∧ 0 ≤ (x.fld 1).asInt ∧ (x.fld 1).asInt ≤ most)
theorem spans_in (l : List PV) (hl : l.length ≤ 1048576) (most : Int) : F90 0 l most = some (l.all (spanP most)) := by
  have hc : ∀ i, F270 0 (l.getD i .bad) () () most = some (!(spanP most (l.getD i .bad)), (), most) := fun i => by
    unfold F270 F200 spanP
    generalize ((l.getD i .bad).fld 0).asInt = a
    generalize ((l.getD i .bad).fld 1).asInt = b
    have e : (bif (decide ((if b < a then b else a) ≥ (0 : Int))) then (decide ((if b > a then b else a) ≤ most)) else false) = decide (0 ≤ a ∧ a ≤ most ∧ 0 ≤ b ∧ b ≤ most) := by
      by_cases h1 : b < a
      · rw [if_pos h1, if_neg (show ¬ b > a by omega), condAnd, ← Bool.decide_and, decide_eq_decide]; omega
      · rw [if_neg h1]
        by_cases h2 : b > a
        · rw [if_pos h2, condAnd, ← Bool.decide_and, decide_eq_decide]; omega
        · rw [if_neg h2, condAnd, ← Bool.decide_and, decide_eq_decide]; omega
    simp only [Option.bind_some, e]
  obtain ⟨r, h1, h2, h3⟩ := loopW_first (step := S303_3step 0) (fun i => (l, (), (l.length : Int), (i : Int), (), most)) l.length (fun i => spanP most (l.getD i .bad)) (fun i => (Sum.inl ((i : Int), (), most) : (Int × Unit × Int) ⊕ (Unit × Int))) (Sum.inr ((), most)) (fun i hi => by
    simp only [S303_3step, S303_3, lt_int, inRange_nat, hi, decide_true, cond_true, Int.toNat_natCast, hc i, Option.bind_some, wadd' (i := i) (by omega)]
    cases spanP most (l.getD i .bad) <;> rfl) (by
    simp only [S303_3step, S303_3, lt_int, Nat.lt_irrefl, decide_false, cond_false]) l.length 0 (by omega)
  rw [allF_of] at h2 h3
  unfold F90 F199 F269 F303
  rw [loopQ0, show (0 : Int) = ((0 : Nat) : Int) from rfl, h1]
  cases ha : l.all (spanP most) with
  | true => rw [h2 ha]; rfl
  | false =>
    obtain ⟨j, _, _, rfl⟩ := h3 ha
    simp [sumE]
/- All of a file's numbers. -/
noncomputable def argMsg (m : PV) : Bool := (m.fld 1).asList.all argFld && adjP (m.fld 1).asList && (m.fld 2).asList.all (spanP 65535)
def argItem (x : PV) : Bool := decide ((x.fld 1).asInt ≥ 0) && decide ((x.fld 1).asInt ≤ 2147483647)
def argEnum (m : PV) : Bool := (m.fld 3).asList.all (spanP 2147483647) && (m.fld 2).asList.all argItem
def argMeth (x : PV) : Bool := decide ((x.fld 3).asInt ≥ 1) && decide ((x.fld 3).asInt ≤ 4)
def argSvc (m : PV) : Bool := (m.fld 1).asList.all argMeth
noncomputable def argFile (f : PV) : Bool := (f.fld 3).asList.all argMsg && (f.fld 4).asList.all argEnum && (f.fld 5).asList.all argSvc
theorem argMsg_eq (m : PV) (h : OkMsg m) : F87 0 m = some (argMsg m) := by
  unfold F87 argMsg
  simp only [ev_af _ argFld h.fields fun x hx => field_eq' x (h.field x hx), adjacent_eq _ h.fields, spans_in _ h.spans, Option.bind_some]
  cases (m.fld 1).asList.all argFld <;> cases adjP (m.fld 1).asList <;> rfl
theorem argEnum_eq (m : PV) (h : OkEnum m) : F91 0 m = some (argEnum m) := by
  unfold F91 argEnum
  simp only [ev_ai _ argItem h.items fun x hx => by unfold F92 argItem; rw [condAnd], spans_in _ h.spans, Option.bind_some]
  cases (m.fld 3).asList.all (spanP 2147483647) <;> rfl
theorem argSvc_eq (m : PV) (h : OkSvc m) : F93 0 m = some (argSvc m) := by
  unfold F93 argSvc
  simp only [ev_ad _ argMeth h.meths fun x hx => by unfold F94 argMeth; rw [condAnd], Option.bind_some]
theorem numbers_eq (f : PV) (h : OkFile f) : F29 0 f = some (argFile f) := by
  unfold F29 argFile
  simp only [Option.bind_some, ev_am _ argMsg h.msgs fun x hx => argMsg_eq x (h.msg x hx), ev_ae _ argEnum h.enums fun x hx => argEnum_eq x (h.enum x hx), ev_as _ argSvc h.svcs fun x hx => argSvc_eq x (h.svc x hx)]
  cases (f.fld 3).asList.all argMsg <;> cases (f.fld 4).asList.all argEnum <;> rfl
end Go.Ab
namespace Go.Ab
open Go
set_option maxRecDepth 100000
/- Texts. -/
def txL (l : List PV) : Bool := l.all fun x => valid x.asStr
def txMsg (m : PV) : Bool := txL (m.fld 3).asList
def txFile (f : PV) : Bool := txL (f.fld 2).asList && (f.fld 3).asList.all txMsg
theorem txL_eq (l : List PV) (hl : l.length ≤ 1048576) : F95 0 l () = some (txL l) :=
  ev_tx l (fun x => valid x.asStr) hl fun x hx => valid_eq _
theorem texts_eq (f : PV) (h : OkFile f) : F30 0 f = some (txFile f) := by
  unfold F30 txFile
  simp only [txL_eq _ h.imports, Option.bind_some, ev_tm _ txMsg h.msgs fun x hx => by unfold F97; rw [txL_eq _ (h.msg x hx).gone]; rfl]
  cases txL (f.fld 2).asList <;> rfl
/- Counts. -/
def cntMsg (m : PV) : Bool := decide ((m.fld 1).asList.length ≤ 64) && decide ((m.fld 2).asList.length ≤ 16) && decide ((m.fld 3).asList.length ≤ 16)
def cntEnum (m : PV) : Bool := decide ((m.fld 2).asList.length ≤ 64) && decide ((m.fld 3).asList.length ≤ 16)
def cntSvc (m : PV) : Bool := decide ((m.fld 1).asList.length ≤ 64)
def cntTop (f : PV) : Bool := decide ((f.fld 2).asList.length ≤ 16) && decide ((f.fld 3).asList.length ≤ 64) && decide ((f.fld 4).asList.length ≤ 64) && decide ((f.fld 5).asList.length ≤ 64)
def cntFile (f : PV) : Bool := cntTop f && (f.fld 3).asList.all cntMsg && (f.fld 4).asList.all cntEnum && (f.fld 5).asList.all cntSvc
theorem le64 (n : Nat) : decide ((n : Int) ≤ (64 : Int)) = decide (n ≤ 64) := leI n 64
theorem le16 (n : Nat) : decide ((n : Int) ≤ (16 : Int)) = decide (n ≤ 16) := leI n 16
theorem cntMsg_eq (m : PV) : F99 0 m = some (cntMsg m) := by
  unfold F99 cntMsg
  have e : decide ((if (((m.fld 3).asList.length : Int)) > ((m.fld 2).asList.length : Int) then ((m.fld 3).asList.length : Int) else ((m.fld 2).asList.length : Int)) ≤ (16 : Int)) = (decide ((m.fld 2).asList.length ≤ 16) && decide ((m.fld 3).asList.length ≤ 16)) := by
    rw [← Bool.decide_and, decide_eq_decide]
    split <;> omega
  simp only [le64, e, condAnd, Bool.and_assoc]
theorem cntEnum_eq (m : PV) : F100 0 m = some (cntEnum m) := by
  unfold F100 cntEnum
  simp only [le64, le16, condAnd]
theorem cntSvc_eq (m : PV) : F101 0 m = some (cntSvc m) := by
  unfold F101 cntSvc
  simp only [le64]
theorem counts_eq (f : PV) (h : OkFile f) : F33 0 f = some (cntFile f) := by
  have e : (bif (decide (((f.fld 2).asList.length : Int) > (16 : Int))) then true else (decide ((if ((f.fld 5).asList.length : Int) > (if ((f.fld 4).asList.length : Int) > ((f.fld 3).asList.length : Int) then ((f.fld 4).asList.length : Int) else ((f.fld 3).asList.length : Int)) then ((f.fld 5).asList.length : Int) else (if ((f.fld 4).asList.length : Int) > ((f.fld 3).asList.length : Int) then ((f.fld 4).asList.length : Int) else ((f.fld 3).asList.length : Int))) > (64 : Int)))) = !cntTop f := by
    unfold cntTop
    rw [condOr]
    simp only [← Bool.decide_and, ← Bool.decide_or, ← decide_not, decide_eq_decide]
    split <;> split <;> omega
  unfold F33 cntFile
  simp only [e, ev_cm _ cntMsg h.msgs fun x hx => cntMsg_eq x, ev_ce _ cntEnum h.enums fun x hx => cntEnum_eq x, ev_cs _ cntSvc h.svcs fun x hx => cntSvc_eq x, Option.bind_some]
  cases cntTop f <;> cases (f.fld 3).asList.all cntMsg <;> cases (f.fld 4).asList.all cntEnum <;> rfl
/- Annotations. -/
noncomputable def errN (e : Int) (l : List PV) (t : Int) : Int := bif e != 0 then e else checkN l t
noncomputable def ntMsg (e : Int) (m : PV) : Int := (m.fld 1).asList.foldl (fun e x => errN e (x.fld 8).asList 2) (errN e (m.fld 4).asList 1)
noncomputable def ntEnum (e : Int) (m : PV) : Int := (m.fld 2).asList.foldl (fun e x => errN e (x.fld 2).asList 4) (errN e (m.fld 4).asList 3)
noncomputable def ntSvc (e : Int) (m : PV) : Int := (m.fld 1).asList.foldl (fun e x => errN e (x.fld 4).asList 6) (errN e (m.fld 2).asList 5)
noncomputable def ntFile (f : PV) : Int := (f.fld 5).asList.foldl ntSvc ((f.fld 4).asList.foldl ntEnum ((f.fld 3).asList.foldl ntMsg 0))
/-- Annotations, and what they annotate. -/
def nv (l : List PV) (t : Int) : PV := PV.agg [(PV.slice l), (PV.int t)]
def nlMsg (m : PV) : List PV := nv (m.fld 4).asList 1 :: (m.fld 1).asList.map fun x => nv (x.fld 8).asList 2
def nlEnum (m : PV) : List PV := nv (m.fld 4).asList 3 :: (m.fld 2).asList.map fun x => nv (x.fld 2).asList 4
def nlSvc (m : PV) : List PV := nv (m.fld 2).asList 5 :: (m.fld 1).asList.map fun x => nv (x.fld 4).asList 6
def nlFile (f : PV) : List PV := (f.fld 3).asList.flatMap nlMsg ++ (f.fld 4).asList.flatMap nlEnum ++ (f.fld 5).asList.flatMap nlSvc
theorem foldl_app {α : Type} (g : α → List PV) : ∀ (l : List α) (acc : List PV), l.foldl (fun acc x => acc ++ g x) acc = acc ++ l.flatMap g := by
  intro l
  induction l with
  | nil => intro acc; simp
  | cons x r ih => intro acc; rw [List.foldl_cons, ih]; simp
theorem foldl_one {α : Type} (g : α → PV) : ∀ (l : List α) (acc : List PV), l.foldl (fun acc x => acc ++ [g x]) acc = acc ++ l.map g := by
  intro l
  induction l with
  | nil => intro acc; simp
  | cons x r ih => intro acc; rw [List.foldl_cons, ih]; simp
theorem parts1_cons {l : List PV} {k i : Nat} (hk : k < l.length) : parts1 (l.drop k) i = ((l.getD k .bad).fld i).asList.length + 1 + parts1 (l.drop (k + 1)) i := by
  rw [drop_cons hk .bad]; rfl
theorem accOk {b : List PV} {x : PV} (h : b.length ≤ 100000000) : decide (b.length + [x].length ≤ accMax) = true := decide_eq_true (by unfold accMax; simp; omega)
theorem nlM_in (f m : PV) (ms : List PV) (n i : Int) (xs : List PV) (hx : xs.length ≤ 1048576) (acc : List PV) (ha : acc.length + xs.length ≤ 100000000) :
    loopW (S31_8step 0) ((), acc, ms, n, i, xs, (xs.length : Int), (0 : Int), f, m) = some ((), acc ++ xs.map (fun x => nv (x.fld 8).asList 2), ms, n, i, f, m) := by
  have q := loopW_foldl (step := S31_8step 0) (fun k (acc : List PV) => ((), acc, ms, n, i, xs, (xs.length : Int), (k : Int), f, m)) (fun acc => ((), acc, ms, n, i, f, m)) xs .bad (fun acc x => acc ++ [nv (x.fld 8).asList 2]) (fun k acc => acc.length + (xs.length - k) ≤ 100000000) (fun k acc hk hI => by
    refine ⟨?_, by simp; omega⟩
    simp only [S31_8step, S31_8, declt, inRange_nat, hk, decide_true, cond_true, Int.toNat_natCast, accOk (show acc.length ≤ 100000000 by omega), wadd' (i := k) (by omega)]
    rfl) (fun acc _ => by
    simp only [S31_8step, S31_8, declt, Nat.lt_irrefl, decide_false, cond_false]) xs.length 0 acc (by omega) (by omega)
  rw [List.drop_zero, foldl_one] at q
  exact q.1
theorem nlE_in (f m : PV) (ms : List PV) (n i : Int) (xs : List PV) (hx : xs.length ≤ 1048576) (acc : List PV) (ha : acc.length + xs.length ≤ 100000000) :
    loopW (S31_18step 0) ((), acc, ms, n, i, xs, (xs.length : Int), (0 : Int), f, m) = some ((), acc ++ xs.map (fun x => nv (x.fld 2).asList 4), ms, n, i, f, m) := by
  have q := loopW_foldl (step := S31_18step 0) (fun k (acc : List PV) => ((), acc, ms, n, i, xs, (xs.length : Int), (k : Int), f, m)) (fun acc => ((), acc, ms, n, i, f, m)) xs .bad (fun acc x => acc ++ [nv (x.fld 2).asList 4]) (fun k acc => acc.length + (xs.length - k) ≤ 100000000) (fun k acc hk hI => by
    refine ⟨?_, by simp; omega⟩
    simp only [S31_18step, S31_18, declt, inRange_nat, hk, decide_true, cond_true, Int.toNat_natCast, accOk (show acc.length ≤ 100000000 by omega), wadd' (i := k) (by omega)]
    rfl) (fun acc _ => by
    simp only [S31_18step, S31_18, declt, Nat.lt_irrefl, decide_false, cond_false]) xs.length 0 acc (by omega) (by omega)
  rw [List.drop_zero, foldl_one] at q
  exact q.1
theorem nlS_in (f m : PV) (ms : List PV) (n i : Int) (xs : List PV) (hx : xs.length ≤ 1048576) (acc : List PV) (ha : acc.length + xs.length ≤ 100000000) :
    loopW (S31_28step 0) (acc, ms, n, i, xs, (xs.length : Int), (0 : Int), f, m) = some (acc ++ xs.map (fun x => nv (x.fld 4).asList 6), ms, n, i, f, m) := by
  have q := loopW_foldl (step := S31_28step 0) (fun k (acc : List PV) => (acc, ms, n, i, xs, (xs.length : Int), (k : Int), f, m)) (fun acc => (acc, ms, n, i, f, m)) xs .bad (fun acc x => acc ++ [nv (x.fld 4).asList 6]) (fun k acc => acc.length + (xs.length - k) ≤ 100000000) (fun k acc hk hI => by
    refine ⟨?_, by simp; omega⟩
    simp only [S31_28step, S31_28, declt, inRange_nat, hk, decide_true, cond_true, Int.toNat_natCast, accOk (show acc.length ≤ 100000000 by omega), wadd' (i := k) (by omega)]
    rfl) (fun acc _ => by
    simp only [S31_28step, S31_28, declt, Nat.lt_irrefl, decide_false, cond_false]) xs.length 0 acc (by omega) (by omega)
  rw [List.drop_zero, foldl_one] at q
  exact q.1
theorem nl_eq (f : PV) (h : OkFile f) : F31 0 f = some (nlFile f) := by
  have hmany := h.many
  have n1 := loopW_foldl (step := S31_4step 0) (fun k (acc : List PV) => ((), acc, (f.fld 3).asList, ((f.fld 3).asList.length : Int), (k : Int), f)) (fun acc => ((), acc, f)) (f.fld 3).asList .bad (fun acc m => acc ++ nlMsg m) (fun k acc => acc.length + parts1 ((f.fld 3).asList.drop k) 1 ≤ 7000000 - parts1 (f.fld 4).asList 2 - parts1 (f.fld 5).asList 1) (fun k acc hk hI => by
    have ho := h.msg _ (getD_mem hk .bad)
    have hl := h.msgs
    have hp := parts1_cons (i := 1) hk
    have hf := ho.fields
    refine ⟨?_, by simp only [List.length_append, nlMsg, List.length_cons, List.length_map]; omega⟩
    simp only [S31_4step, S31_4, declt, inRange_nat, hk, decide_true, cond_true, Int.toNat_natCast, accOk (show acc.length ≤ 100000000 by omega), loopQ0, nlM_in f _ _ _ _ _ hf _ (show (acc ++ [PV.agg [(PV.slice (((f.fld 3).asList.getD k .bad).fld 4).asList), (PV.int (1 : Int))]]).length + _ ≤ 100000000 by simp only [List.length_append, List.length_singleton]; omega), Option.bind_some, wadd' (i := k) (by omega)]
    rw [List.append_assoc]
    rfl) (fun acc _ => by
    simp only [S31_4step, S31_4, declt, Nat.lt_irrefl, decide_false, cond_false]) (f.fld 3).asList.length 0 [] (by omega) (by rw [List.drop_zero]; simp; omega)
  rw [List.drop_zero, foldl_app, List.nil_append, List.drop_length] at n1
  have b1 : ((f.fld 3).asList.flatMap nlMsg).length + 0 ≤ 7000000 - parts1 (f.fld 4).asList 2 - parts1 (f.fld 5).asList 1 := n1.2
  have n2 := loopW_foldl (step := S31_14step 0) (fun k (acc : List PV) => ((), acc, (f.fld 4).asList, ((f.fld 4).asList.length : Int), (k : Int), f)) (fun acc => ((), acc, f)) (f.fld 4).asList .bad (fun acc m => acc ++ nlEnum m) (fun k acc => acc.length + parts1 ((f.fld 4).asList.drop k) 2 ≤ 7000000 + parts1 (f.fld 4).asList 2) (fun k acc hk hI => by
    have ho := h.enum _ (getD_mem hk .bad)
    have hl := h.enums
    have hp := parts1_cons (i := 2) hk
    have hf := ho.items
    refine ⟨?_, by simp only [List.length_append, nlEnum, List.length_cons, List.length_map]; omega⟩
    simp only [S31_14step, S31_14, declt, inRange_nat, hk, decide_true, cond_true, Int.toNat_natCast, accOk (show acc.length ≤ 100000000 by omega), loopQ0, nlE_in f _ _ _ _ _ hf _ (show (acc ++ [PV.agg [(PV.slice (((f.fld 4).asList.getD k .bad).fld 4).asList), (PV.int (3 : Int))]]).length + _ ≤ 100000000 by simp only [List.length_append, List.length_singleton]; omega), Option.bind_some, wadd' (i := k) (by omega)]
    rw [List.append_assoc]
    rfl) (fun acc _ => by
    simp only [S31_14step, S31_14, declt, Nat.lt_irrefl, decide_false, cond_false]) (f.fld 4).asList.length 0 ((f.fld 3).asList.flatMap nlMsg) (by omega) (by rw [List.drop_zero]; omega)
  rw [List.drop_zero, foldl_app, List.drop_length] at n2
  have b2 : ((f.fld 3).asList.flatMap nlMsg ++ (f.fld 4).asList.flatMap nlEnum).length + 0 ≤ 7000000 + parts1 (f.fld 4).asList 2 := n2.2
  have n3 := loopW_foldl (step := S31_24step 0) (fun k (acc : List PV) => (acc, (f.fld 5).asList, ((f.fld 5).asList.length : Int), (k : Int), f)) (fun acc => (acc, f)) (f.fld 5).asList .bad (fun acc m => acc ++ nlSvc m) (fun k acc => acc.length + parts1 ((f.fld 5).asList.drop k) 1 ≤ 7000000 + parts1 (f.fld 4).asList 2 + parts1 (f.fld 5).asList 1) (fun k acc hk hI => by
    have ho := h.svc _ (getD_mem hk .bad)
    have hl := h.svcs
    have hp := parts1_cons (i := 1) hk
    have hf := ho.meths
    refine ⟨?_, by simp only [List.length_append, nlSvc, List.length_cons, List.length_map]; omega⟩
    simp only [S31_24step, S31_24, declt, inRange_nat, hk, decide_true, cond_true, Int.toNat_natCast, accOk (show acc.length ≤ 100000000 by omega), loopQ0, nlS_in f _ _ _ _ _ hf _ (show (acc ++ [PV.agg [(PV.slice (((f.fld 5).asList.getD k .bad).fld 2).asList), (PV.int (5 : Int))]]).length + _ ≤ 100000000 by simp only [List.length_append, List.length_singleton]; omega), Option.bind_some, wadd' (i := k) (by omega)]
    rw [List.append_assoc]
    rfl) (fun acc _ => by
    simp only [S31_24step, S31_24, declt, Nat.lt_irrefl, decide_false, cond_false]) (f.fld 5).asList.length 0 ((f.fld 3).asList.flatMap nlMsg ++ (f.fld 4).asList.flatMap nlEnum) (by omega) (by rw [List.drop_zero]; omega)
  rw [List.drop_zero, foldl_app] at n3
  unfold F31 nlFile
  rw [show (0 : Int) = ((0 : Nat) : Int) from rfl]
  simp only [loopQ0, n1.1, n2.1, n3.1, Option.bind_some]
/-- The first error among annotations. -/
noncomputable def errL (l : List PV) (e : Int) : Int := l.foldl (fun e n => errN e (n.fld 0).asList (n.fld 1).asInt) e
theorem errL_keep : ∀ (l : List PV) (e : Int), e ≠ 0 → errL l e = e := by
  intro l
  induction l with
  | nil => intro e _; rfl
  | cons n r ih =>
    intro e he
    have h1 : errN e (n.fld 0).asList (n.fld 1).asInt = e := by unfold errN; rw [bneI he]; rfl
    show errL r (errN e (n.fld 0).asList (n.fld 1).asInt) = e
    rw [h1]; exact ih e he
theorem errL_app (a b : List PV) (e : Int) : errL (a ++ b) e = errL b (errL a e) := List.foldl_append
theorem errL_msg (m : PV) (e : Int) : errL (nlMsg m) e = ntMsg e m := by
  unfold errL nlMsg ntMsg
  rw [List.foldl_cons, List.foldl_map]; rfl
theorem errL_enum (m : PV) (e : Int) : errL (nlEnum m) e = ntEnum e m := by
  unfold errL nlEnum ntEnum
  rw [List.foldl_cons, List.foldl_map]; rfl
theorem errL_svc (m : PV) (e : Int) : errL (nlSvc m) e = ntSvc e m := by
  unfold errL nlSvc ntSvc
  rw [List.foldl_cons, List.foldl_map]; rfl
theorem errL_flat (g : PV → List PV) (k : Int → PV → Int) (h : ∀ m e, errL (g m) e = k e m) : ∀ (l : List PV) (e : Int), errL (l.flatMap g) e = l.foldl k e := by
  intro l
  induction l with
  | nil => intro e; rfl
  | cons m r ih => intro e; rw [List.flatMap_cons, errL_app, h, ih, List.foldl_cons]
theorem errL_file (f : PV) : errL (nlFile f) 0 = ntFile f := by
  unfold nlFile ntFile
  rw [errL_app, errL_app, errL_flat nlMsg ntMsg errL_msg, errL_flat nlEnum ntEnum errL_enum, errL_flat nlSvc ntSvc errL_svc]
/-- Each element is annotations that are small. -/
def NvOk (n : PV) : Prop := (n.fld 0).asList.length ≤ 1048576 ∧ ∀ x, x ∈ (n.fld 0).asList → smallN x
theorem nlFile_ok (f : PV) (h : OkFile f) : ∀ n, n ∈ nlFile f → NvOk n := by
  intro n hn
  unfold nlFile at hn
  rcases List.mem_append.1 hn with hn | hn
  · rcases List.mem_append.1 hn with hn | hn
    · obtain ⟨m, hm, hn⟩ := List.mem_flatMap.1 hn
      have ho := h.msg m hm
      rcases List.mem_cons.1 hn with rfl | hn
      · exact ⟨ho.notes, ho.note⟩
      · obtain ⟨x, hx, rfl⟩ := List.mem_map.1 hn
        exact ⟨(ho.field x hx).notes, (ho.field x hx).note⟩
    · obtain ⟨m, hm, hn⟩ := List.mem_flatMap.1 hn
      have ho := h.enum m hm
      rcases List.mem_cons.1 hn with rfl | hn
      · exact ⟨ho.notes, ho.note⟩
      · obtain ⟨x, hx, rfl⟩ := List.mem_map.1 hn
        exact ⟨(ho.item x hx).notes, (ho.item x hx).note⟩
  · obtain ⟨m, hm, hn⟩ := List.mem_flatMap.1 hn
    have ho := h.svc m hm
    rcases List.mem_cons.1 hn with rfl | hn
    · exact ⟨ho.notes, ho.note⟩
    · obtain ⟨x, hx, rfl⟩ := List.mem_map.1 hn
      exact ⟨(ho.meth x hx).notes, (ho.meth x hx).note⟩
theorem checkAll_loop (f : PV) (l : List PV) (hl : l.length ≤ 100000000) (hs : ∀ n, n ∈ l → NvOk n) : ∀ (k i : Nat), i + k = l.length → loopW (S12_9step 0) ((), l, (l.length : Int), (i : Int), f) = some (bif errL (l.drop i) 0 == 0 then .inr ((), f) else .inl (errL (l.drop i) 0, f)) := by
  intro k
  induction k with
  | zero =>
    intro i hi
    have : i = l.length := by omega
    subst this
    rw [List.drop_length]
    exact loopW_end (by simp only [S12_9step, S12_9, declt, Nat.lt_irrefl, decide_false, cond_false]; rfl)
  | succ k ih =>
    intro i hi
    have hlt : i < l.length := by omega
    have ho := hs _ (getD_mem hlt .bad)
    have hc := check_eq (((l.getD i .bad).fld 0).asList) ((l.getD i .bad).fld 1).asInt ho.1 ho.2
    have he : errL (l.drop i) 0 = errL (l.drop (i + 1)) (checkN ((l.getD i .bad).fld 0).asList ((l.getD i .bad).fld 1).asInt) := by
      rw [drop_cons hlt .bad]; rfl
    rw [he]
    by_cases h0 : checkN ((l.getD i .bad).fld 0).asList ((l.getD i .bad).fld 1).asInt = 0
    · rw [h0] at hc ⊢
      rw [← ih (i + 1) (by omega)]
      refine loopW_go ?_
      simp only [S12_9step, S12_9, declt, inRange_nat, hlt, decide_true, cond_true, Int.toNat_natCast, hc, Option.bind_some, wadd' (i := i) (by omega)]
      rfl
    · rw [errL_keep _ _ h0, beqI h0]
      refine loopW_end ?_
      simp only [S12_9step, S12_9, declt, inRange_nat, hlt, decide_true, cond_true, Int.toNat_natCast, hc, Option.bind_some, bneI h0]
      rfl
end Go.Ab
