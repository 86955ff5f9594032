/- Annotations: kinds, targets, values, the check. -/
import Derived.Test.YthkagpefbelhoaaGreatDoorPUtfZD
set_option linter.unusedVariables false
set_option linter.unusedSimpArgs false
set_option linter.unnecessarySimpa false
namespace Go.Ab
open Go

theorem bneI {a b : Int} (h : a ≠ b) : (a != b) = true := by simp [h]
theorem beqI {a b : Int} (h : a ≠ b) : (a == b) = false := by simp [h]
theorem beqT {a b : Int} (h : a = b) : (a == b) = true := by simp [h]
theorem push_some {α : Type} (b : Bool) (x y : α) : (bif b then some x else some y) = some (bif b then x else y) := by cases b <;> rfl

def nmDeprecated : List UInt8 := [100, 101, 112, 114, 101, 99, 97, 116, 101, 100]
def nmSecret : List UInt8 := [115, 101, 99, 114, 101, 116]
def nmIdempotent : List UInt8 := [105, 100, 101, 109, 112, 111, 116, 101, 110, 116]
def nmDoc : List UInt8 := [100, 111, 99]
def nmAlias : List UInt8 := [97, 108, 105, 97, 115]
def nmRoute : List UInt8 := [114, 111, 117, 116, 101]
def nmOwner : List UInt8 := [111, 119, 110, 101, 114]
def nmSince : List UInt8 := [115, 105, 110, 99, 101]
def nmUntil : List UInt8 := [117, 110, 116, 105, 108]
def nmLength : List UInt8 := [108, 101, 110, 103, 116, 104]
def nmTimeout : List UInt8 := [116, 105, 109, 101, 111, 117, 116]
def nmMin : List UInt8 := [109, 105, 110]
def nmMax : List UInt8 := [109, 97, 120]
def knownNames : List (List UInt8) := [nmDeprecated, nmSecret, nmIdempotent, nmDoc, nmAlias, nmRoute, nmOwner, nmSince, nmUntil, nmLength, nmTimeout, nmMin, nmMax]

/-- The kind of an annotation's value, 0 where the name is unknown. -/
noncomputable def kindOf (name : List UInt8) : Int := (F17 0 name).getD 0
theorem refKind_eq (name : List UInt8) : F17 0 name = some (kindOf name) := by
  unfold kindOf
  simp only [F17, push_some, Option.getD_some]
/-- A name is none of the known ones. -/
theorem unknown {name : List UInt8} (h : name ∉ knownNames) : (name == nmDeprecated) = false ∧ (name == nmSecret) = false ∧ (name == nmIdempotent) = false ∧ (name == nmDoc) = false ∧ (name == nmAlias) = false ∧ (name == nmRoute) = false ∧ (name == nmOwner) = false ∧
    (name == nmSince) = false ∧ (name == nmUntil) = false ∧ (name == nmLength) = false ∧ (name == nmTimeout) = false ∧ (name == nmMin) = false ∧ (name == nmMax) = false := by
  simp only [knownNames, List.mem_cons, List.not_mem_nil, or_false, not_or] at h
  simp only [beq_eq_false_iff_ne, ne_eq]
  exact h
theorem kindOf_unknown {name : List UInt8} (h : name ∉ knownNames) : kindOf name = 0 := by
  obtain ⟨h1, h2, h3, h4, h5, h6, h7, h8, h9, h10, h11, h12, h13⟩ := unknown h
  unfold nmDeprecated at h1
  unfold nmSecret at h2
  unfold nmIdempotent at h3
  unfold nmDoc at h4
  unfold nmAlias at h5
  unfold nmRoute at h6
  unfold nmOwner at h7
  unfold nmSince at h8
  unfold nmUntil at h9
  unfold nmLength at h10
  unfold nmTimeout at h11
  unfold nmMin at h12
  unfold nmMax at h13
  simp only [kindOf, F17, h1, h2, h3, h4, h5, h6, h7, h8, h9, h10, h11, h12, h13, cond_false, Option.getD_some]
theorem kindOf_known {name : List UInt8} (h : name ∈ knownNames) : kindOf name ≠ 0 := by
  simp only [knownNames, List.mem_cons, List.not_mem_nil, or_false] at h
  have e : ∀ k : Int, k ≠ 0 → some (kindOf name) = some k → kindOf name ≠ 0 := fun k hk he => by cases he; exact hk
  rcases h with rfl | rfl | rfl | rfl | rfl | rfl | rfl | rfl | rfl | rfl | rfl | rfl | rfl
  · exact e 1 (by decide) (by kernel_rfl)
  · exact e 1 (by decide) (by kernel_rfl)
  · exact e 1 (by decide) (by kernel_rfl)
  · exact e 7 (by decide) (by kernel_rfl)
  · exact e 7 (by decide) (by kernel_rfl)
  · exact e 7 (by decide) (by kernel_rfl)
  · exact e 7 (by decide) (by kernel_rfl)
  · exact e 4 (by decide) (by kernel_rfl)
  · exact e 4 (by decide) (by kernel_rfl)
  · exact e 4 (by decide) (by kernel_rfl)
  · exact e 4 (by decide) (by kernel_rfl)
  · exact e 3 (by decide) (by kernel_rfl)
  · exact e 3 (by decide) (by kernel_rfl)

/-- The table of the known annotations. -/
noncomputable def knownTab : List (PV × PV) := (F28 0).getD []
theorem known_eq : F28 0 = some knownTab := by kernel_rfl
theorem knownTab_eq : knownTab = [(.str nmDeprecated, .agg [.int 1, .int 126]), (.str nmDoc, .agg [.int 7, .int 126]), (.str nmAlias, .agg [.int 7, .int 84]), (.str nmSince, .agg [.int 4, .int 84]), (.str nmUntil, .agg [.int 4, .int 84]), (.str nmMin, .agg [.int 3, .int 4]), (.str nmMax, .agg [.int 3, .int 4]),
    (.str nmLength, .agg [.int 4, .int 4]), (.str nmSecret, .agg [.int 1, .int 4]), (.str nmIdempotent, .agg [.int 1, .int 64]), (.str nmTimeout, .agg [.int 4, .int 64]), (.str nmRoute, .agg [.int 7, .int 64]), (.str nmOwner, .agg [.int 7, .int 34])] := by kernel_rfl
theorem mget_unknown {name : List UInt8} (h : name ∉ knownNames) : PV.mget knownTab (.str name) = none := by
  obtain ⟨h1, h2, h3, h4, h5, h6, h7, h8, h9, h10, h11, h12, h13⟩ := unknown h
  rw [knownTab_eq]
  simp only [PV.mget, List.find?, keyEq, h1, h2, h3, h4, h5, h6, h7, h8, h9, h10, h11, h12, h13, Option.map_none]
theorem kind_eq (name : List UInt8) : F13 0 name = some (kindOf name) := by
  by_cases h : name ∈ knownNames
  · simp only [knownNames, List.mem_cons, List.not_mem_nil, or_false] at h
    rcases h with rfl | rfl | rfl | rfl | rfl | rfl | rfl | rfl | rfl | rfl | rfl | rfl | rfl
    all_goals (refine Eq.trans (b := _) ?_ rfl; kernel_rfl)
  · rw [kindOf_unknown h]
    unfold F13
    rw [known_eq, Option.bind_some, mget_unknown h]
    rfl

/- Values. -/
def vKind (v : PV) : Int := (v.fld 0).asInt
def vBits (v : PV) : Int := (v.fld 1).asInt
def vText (v : PV) : List UInt8 := (v.fld 2).asStr
def vLists (v : PV) : Nat := (v.fld 3).asList.length + (v.fld 4).asList.length + (v.fld 5).asList.length + (v.fld 6).asList.length
/-- A value's lists and text are no longer than any machine could hold. -/
def smallV (v : PV) : Prop := vLists v ≤ 1048576 ∧ (vText v).length ≤ 1048576 ∧ 0 ≤ vBits v ∧ vBits v < 18446744073709551616
def isKind (k : Int) : Bool := decide (1 ≤ k ∧ k ≤ 9)
def textKind (k : Int) : Bool := k == 7 || k == 8
def rangeOk (k bits : Int) : Bool :=
  if k = 1 then decide (bits ≤ 1) else if k = 2 then decide (-2147483648 ≤ IntKind.wrap .i64 bits ∧ IntKind.wrap .i64 bits ≤ 2147483647) else if k = 4 then decide (bits < 4294967296) else if k = 9 then decide (bits < 2147483648) else true
def fitsV (k : Int) (v : PV) : Bool :=
  isKind k && (vKind v == k) && decide (vLists v = 0) && (if textKind k then (vBits v == 0) && decide ((vText v).length ≤ 4096) && ((k == 8) || valid (vText v)) else (vText v == []) && rangeOk k (vBits v))

theorem lists0 (a b c d : List PV) : (bif (bif (bif ((a.length : Int) == (0 : Int)) then ((b.length : Int) == (0 : Int)) else false) then ((c.length : Int) == (0 : Int)) else false) then ((d.length : Int) == (0 : Int)) else false) = decide (a.length + b.length + c.length + d.length = 0) := by
  cases a <;> cases b <;> cases c <;> cases d <;> simp <;> omega
theorem refFitsV_eq (k : Int) (v : PV) (hs : smallV v) : F32 0 k v = some (fitsV k v) := by
  have hv : F64 0 (vText v) = some (valid (vText v)) := refValid_eq _ (by have := hs.2.1; omega)
  have e0 : (v.fld 0).asInt = vKind v := rfl
  have e1 : (v.fld 1).asInt = vBits v := rfl
  have e2 : (v.fld 2).asStr = vText v := rfl
  have i1 : (bif decide (k ≥ (1 : Int)) then decide (k ≤ (9 : Int)) else false) = isKind k := by
    unfold isKind
    by_cases h : k ≥ 1 <;> simp [h] <;> omega
  have i2 : (bif (k == (7 : Int)) then true else (k == (8 : Int))) = textKind k := by
    unfold textKind; cases (k == 7) <;> rfl
  unfold F32 F61 F62 F63
  simp only [Option.bind_some, lists0, i1, i2, e0, e1, e2, hv, gb]
  unfold fitsV
  have eL : (v.fld 3).asList.length + (v.fld 4).asList.length + (v.fld 5).asList.length + (v.fld 6).asList.length = vLists v := rfl
  simp only [eL]
  cases h1 : isKind k
  · simp
  cases h2 : (vKind v == k)
  · have : (vKind v != k) = true := by simp [bne, h2]
    simp [this]
  have h2' : (vKind v != k) = false := by simp [bne, h2]
  simp only [h2', Bool.not_true, cond_false, Bool.not_false, Bool.true_and, cond_true]
  cases h3 : decide (vLists v = 0)
  · simp
  simp only [Bool.not_true, cond_false, Bool.true_and]
  cases h4 : textKind k
  · simp only [cond_false, Bool.false_eq_true, if_false]
    cases h5 : (vText v == [])
    · simp
    simp only [Bool.not_true, cond_false, Bool.true_and]
    unfold rangeOk
    by_cases k1 : k = 1
    · subst k1; simp
    have k1' : (k == 1) = false := by simp [k1]
    simp only [k1', cond_false, if_neg k1]
    by_cases k2 : k = 2
    · subst k2
      simp only [beq_self_eq_true, cond_true, if_true, ge_iff_le, Bool.decide_and]
      cases decide (-2147483648 ≤ IntKind.wrap .i64 (vBits v)) <;> rfl
    have k2' : (k == 2) = false := by simp [k2]
    simp only [k2', cond_false, if_neg k2]
    by_cases k4 : k = 4
    · subst k4; simp
    have k4' : (k == 4) = false := by simp [k4]
    simp only [k4', cond_false, if_neg k4]
    by_cases k9 : k = 9
    · subst k9; simp
    have k9' : (k == 9) = false := by simp [k9]
    simp only [k9', cond_false, if_neg k9]
  · simp only [cond_true, if_true]
    have hl : decide (((vText v).length : Int) ≤ 4096) = decide ((vText v).length ≤ 4096) := by simp; omega
    simp only [hl]
    cases (vBits v == 0) <;> cases decide ((vText v).length ≤ 4096) <;> cases (k == 8) <;> simp

theorem fitsV_eq (k : Int) (v : PV) (hs : smallV v) : F33 0 k v = some (fitsV k v) := by
  have hv : F68 0 (vText v) = some (valid (vText v)) := valid_eq _
  have e0 : (v.fld 0).asInt = vKind v := rfl
  have e1 : (v.fld 1).asInt = vBits v := rfl
  have e2 : (v.fld 2).asStr = vText v := rfl
  have i1 : (bif decide (k ≥ (1 : Int)) then decide (k ≤ (9 : Int)) else false) = isKind k := by
    unfold isKind
    by_cases h : k ≥ 1 <;> simp [h] <;> omega
  have eL : (v.fld 3).asList.length + (v.fld 4).asList.length + (v.fld 5).asList.length + (v.fld 6).asList.length = vLists v := rfl
  have hL := hs.1
  have w1 : IntKind.wrap .i64 (((v.fld 3).asList.length : Int) + ((v.fld 4).asList.length : Int)) = (((v.fld 3).asList.length + (v.fld 4).asList.length : Nat) : Int) := wadd (by unfold vLists at hL; omega)
  have w2 : IntKind.wrap .i64 ((((v.fld 3).asList.length + (v.fld 4).asList.length : Nat) : Int) + ((v.fld 5).asList.length : Int)) = (((v.fld 3).asList.length + (v.fld 4).asList.length + (v.fld 5).asList.length : Nat) : Int) := wadd (by unfold vLists at hL; omega)
  have w3 : IntKind.wrap .i64 ((((v.fld 3).asList.length + (v.fld 4).asList.length + (v.fld 5).asList.length : Nat) : Int) + ((v.fld 6).asList.length : Int)) = (((v.fld 3).asList.length + (v.fld 4).asList.length + (v.fld 5).asList.length + (v.fld 6).asList.length : Nat) : Int) := wadd (by unfold vLists at hL; omega)
  have tk : ∀ k : Int, (bif (k == (7 : Int)) then true else (k == (8 : Int))) = textKind k := fun k => by
    unfold textKind; cases (k == 7) <;> rfl
  unfold F33 F65 F66 F67 F91
  simp only [Option.bind_some, i1, tk, e0, e1, e2, hv, gb, w1, w2, w3, eL]
  have hrange : (bif (k == (1 : Int)) then some (decide (vBits v ≤ 1)) else bif (k == (2 : Int)) then some (bif decide (IntKind.wrap .i64 (vBits v) ≥ -2147483648) then decide (IntKind.wrap .i64 (vBits v) ≤ 2147483647) else false) else
      bif (k == (9 : Int)) then some (decide (vBits v ≤ 2147483647)) else bif (k == (4 : Int)) then some (decide (vBits v ≤ 4294967295)) else some true) = some (rangeOk k (vBits v)) := by
    unfold rangeOk
    by_cases k1 : k = 1
    · subst k1; simp
    have k1' : (k == 1) = false := by simp [k1]
    simp only [k1', cond_false, if_neg k1]
    by_cases k2 : k = 2
    · subst k2
      simp only [beq_self_eq_true, cond_true, if_true, ge_iff_le, Bool.decide_and]
      cases decide (-2147483648 ≤ IntKind.wrap .i64 (vBits v)) <;> rfl
    have k2' : (k == 2) = false := by simp [k2]
    simp only [k2', cond_false, if_neg k2]
    by_cases k9 : k = 9
    · subst k9
      have : decide (vBits v ≤ 2147483647) = decide (vBits v < 2147483648) := by rw [decide_eq_decide]; omega
      simp [this]
    have k9' : (k == 9) = false := by simp [k9]
    simp only [k9', cond_false, if_neg k9]
    by_cases k4 : k = 4
    · subst k4
      have : decide (vBits v ≤ 4294967295) = decide (vBits v < 4294967296) := by rw [decide_eq_decide]; omega
      simp [this]
    have k4' : (k == 4) = false := by simp [k4]
    simp only [k4', cond_false, if_neg k4]
  rw [hrange]
  unfold fitsV
  cases h1 : isKind k
  · simp
  cases h2 : (vKind v == k)
  · have : (vKind v != k) = true := by simp [bne, h2]
    simp [this]
  have h2' : (vKind v != k) = false := by simp [bne, h2]
  have h2e : vKind v = k := by simpa using h2
  rw [h2e]
  have h2k : (k != k) = false := by simp
  simp only [h2k, Bool.not_true, cond_false, Bool.not_false, Bool.true_and, cond_true]
  by_cases h3 : vLists v = 0
  · have h3' : decide ((vLists v : Int) > 0) = false := by simp; omega
    simp only [h3', cond_false, h3, decide_true, Bool.true_and]
    have hl : decide (((vText v).length : Int) > 4096) = !decide ((vText v).length ≤ 4096) := by
      by_cases q : (vText v).length ≤ 4096
      · simp [q]; omega
      · simp [q]; omega
    cases h4 : textKind k
    · simp only [cond_false, Bool.false_eq_true, if_false, Option.bind_some]
      have k7 : (k != 7) = true := by
        unfold textKind at h4; simp at h4; simp [h4.1]
      simp only [k7, cond_true]
      cases h5 : (vText v == [])
      · simp
      · have : vText v = [] := by simpa using h5
        simp only [hl, this]
        cases rangeOk k (vBits v) <;> simp
    · simp only [cond_true, if_true, Option.bind_some]
      have hr : rangeOk k (vBits v) = true := by
        unfold textKind at h4; simp at h4
        unfold rangeOk
        rcases h4 with rfl | rfl <;> simp
      simp only [hr, hl]
      have k78 : k = 7 ∨ k = 8 := by unfold textKind at h4; simpa using h4
      rcases k78 with rfl | rfl
      · cases (vBits v == 0) <;> cases decide ((vText v).length ≤ 4096) <;> simp
      · cases (vBits v == 0) <;> cases decide ((vText v).length ≤ 4096) <;> simp
  · have h3' : decide ((vLists v : Int) > 0) = true := by simp; omega
    simp only [h3', cond_true, Option.bind_some, h3, decide_false, Bool.not_false, Bool.not_true, cond_false, Bool.false_and]

/- Rights. -/
def nName (n : PV) : List UInt8 := (n.fld 0).asStr
def nVal (n : PV) : PV := n.fld 1
noncomputable def rightN (n : PV) : Bool := (kindOf (nName n) != 0) && fitsV (kindOf (nName n)) (nVal n)
def smallN (n : PV) : Prop := smallV (nVal n) ∧ (nName n).length ≤ 1048576
theorem right_eq (n : PV) (hs : smallN n) : F19 0 n = some (rightN n) := by
  unfold F19
  have e : (n.fld 0).asStr = nName n := rfl
  have e1 : n.fld 1 = nVal n := rfl
  simp only [e, e1, kind_eq, Option.bind_some, fitsV_eq _ _ hs.1, gb]
  unfold rightN
  cases (kindOf (nName n) != 0) <;> rfl
theorem fitsV_kind {k : Int} {v : PV} (h : (vKind v == k) = false) : fitsV k v = false := by
  unfold fitsV
  rw [h]; simp
theorem refRight_eq (n : PV) (hs : smallN n) : F22 0 n = some (rightN n) := by
  unfold F22
  have e : (n.fld 0).asStr = nName n := rfl
  have e1 : n.fld 1 = nVal n := rfl
  have e2 : ((nVal n).fld 0).asInt = vKind (nVal n) := rfl
  simp only [e, e1, e2, refKind_eq, Option.bind_some, refFitsV_eq _ _ hs.1, gb]
  unfold rightN
  cases h : (vKind (nVal n) == kindOf (nName n))
  · rw [fitsV_kind h]; cases (kindOf (nName n) != 0) <;> rfl
  · cases (kindOf (nName n) != 0) <;> rfl

end Go.Ab
