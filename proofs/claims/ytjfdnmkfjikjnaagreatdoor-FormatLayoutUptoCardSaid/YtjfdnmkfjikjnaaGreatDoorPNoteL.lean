/- Annotations: kinds, targets, values, the check. -/
import Derived.Test.YtjfdnmkfjikjnaaGreatDoorPUtfL
import Derived.Test.YtjfdnmkfjikjnaaGreatDoorPQuoteL
set_option linter.unusedVariables false
set_option linter.unusedSimpArgs false
set_option linter.unnecessarySimpa false
namespace Go.Ab
open Go
theorem bneI {a b : Int} (h : a ≠ b) : (a != b) = true := by simp [h]
theorem beqI {a b : Int} (h : a ≠ b) : (a == b) = false := by simp [h]
theorem push_some {α : Type} (b : Bool) (x y : α) : (bif b then some x else some y) = some (bif b then x else y) := by cases b <;> rfl
def nmDeprecated : List UInt8 := [100, 101, 112, 114, 101, 99, 97, 116, 101, 100]
def nmSecret : List UInt8 := [115, 101, 99, 114, 101, 116]
def nmIdempotent : List UInt8 := [105, 100, 101, 109, 112, 111, 116, 101, 110, 116]
def nmDoc : List UInt8 := [100, 111, 99]
def nmAlias : List UInt8 := [97, 108, 105, 97, 115]
def nmRoute : List UInt8 := [114, 111, 117, 116, 101]
def nmOwner : List UInt8 := [111, 119, 110, 101, 114]
def nmSince : List UInt8 := [115, 105, 110, 99, 101]
def nmUntil : List UInt8 := [117, 110, 116, 105, 108]
def nmLength : List UInt8 := [108, 101, 110, 103, 116, 104]
def nmTimeout : List UInt8 := [116, 105, 109, 101, 111, 117, 116]
def nmMin : List UInt8 := [109, 105, 110]
def nmMax : List UInt8 := [109, 97, 120]
def knownNames : List (List UInt8) := [nmDeprecated, nmSecret, nmIdempotent, nmDoc, nmAlias, nmRoute, nmOwner, nmSince, nmUntil, nmLength, nmTimeout, nmMin, nmMax]
/-- The kind of an annotation's value, 0 where the name is unknown. -/
noncomputable def kindOf (name : List UInt8) : Int := (F215 0 name).getD 0
/-- A name is none of the known ones. -/
theorem unknown {name : List UInt8} (h : name ∉ knownNames) : (name == nmDeprecated) = false ∧ (name == nmSecret) = false ∧ (name == nmIdempotent) = false ∧ (name == nmDoc) = false ∧ (name == nmAlias) = false ∧ (name == nmRoute) = false ∧ (name == nmOwner) = false ∧
    (name == nmSince) = false ∧ (name == nmUntil) = false ∧ (name == nmLength) = false ∧ (name == nmTimeout) = false ∧ (name == nmMin) = false ∧ (name == nmMax) = false := by
  simp only [knownNames, List.mem_cons, List.not_mem_nil, or_false, not_or] at h
  simp only [beq_eq_false_iff_ne, ne_eq]
  exact h
theorem kindOf_unknown {name : List UInt8} (h : name ∉ knownNames) : kindOf name = 0 := by
  obtain ⟨h1, h2, h3, h4, h5, h6, h7, h8, h9, h10, h11, h12, h13⟩ := unknown h
  unfold nmDeprecated at h1
  unfold nmSecret at h2
  unfold nmIdempotent at h3
  unfold nmDoc at h4
  unfold nmAlias at h5
  unfold nmRoute at h6
  unfold nmOwner at h7
  unfold nmSince at h8
  unfold nmUntil at h9
  unfold nmLength at h10
  unfold nmTimeout at h11
  unfold nmMin at h12
  unfold nmMax at h13
  simp only [kindOf, F215, h1, h2, h3, h4, h5, h6, h7, h8, h9, h10, h11, h12, h13, cond_false, Option.getD_some]
theorem kindOf_known {name : List UInt8} (h : name ∈ knownNames) : kindOf name ≠ 0 := by
  simp only [knownNames, List.mem_cons, List.not_mem_nil, or_false] at h
  have e : ∀ k : Int, k ≠ 0 → some (kindOf name) = some k → kindOf name ≠ 0 := fun k hk he => by cases he; exact hk
  rcases h with rfl | rfl | rfl | rfl | rfl | rfl | rfl | rfl | rfl | rfl | rfl | rfl | rfl
  · exact e 1 (by decide) (by kernel_rfl)
  · exact e 1 (by decide) (by kernel_rfl)
  · exact e 1 (by decide) (by kernel_rfl)
  · exact e 7 (by decide) (by kernel_rfl)
  · exact e 7 (by decide) (by kernel_rfl)
  · exact e 7 (by decide) (by kernel_rfl)
  · exact e 7 (by decide) (by kernel_rfl)
  · exact e 4 (by decide) (by kernel_rfl)
  · exact e 4 (by decide) (by kernel_rfl)
  · exact e 4 (by decide) (by kernel_rfl)
  · exact e 4 (by decide) (by kernel_rfl)
  · exact e 3 (by decide) (by kernel_rfl)
  · exact e 3 (by decide) (by kernel_rfl)
/-- The table of the known annotations. -/
noncomputable def knownTab : List (PV × PV) := (F203 0).getD []
theorem known_eq : F203 0 = some knownTab := by kernel_rfl
theorem knownTab_eq : knownTab = [(.str nmDeprecated, .agg [.int 1, .int 126]), (.str nmDoc, .agg [.int 7, .int 126]), (.str nmAlias, .agg [.int 7, .int 84]), (.str nmSince, .agg [.int 4, .int 84]), (.str nmUntil, .agg [.int 4, .int 84]), (.str nmMin, .agg [.int 3, .int 4]), (.str nmMax, .agg [.int 3, .int 4]),
    (.str nmLength, .agg [.int 4, .int 4]), (.str nmSecret, .agg [.int 1, .int 4]), (.str nmIdempotent, .agg [.int 1, .int 64]), (.str nmTimeout, .agg [.int 4, .int 64]), (.str nmRoute, .agg [.int 7, .int 64]), (.str nmOwner, .agg [.int 7, .int 34])] := by kernel_rfl
theorem mget_unknown {name : List UInt8} (h : name ∉ knownNames) : PV.mget knownTab (.str name) = none := by
  obtain ⟨h1, h2, h3, h4, h5, h6, h7, h8, h9, h10, h11, h12, h13⟩ := unknown h
  rw [knownTab_eq]
  simp only [PV.mget, List.find?, keyEq, h1, h2, h3, h4, h5, h6, h7, h8, h9, h10, h11, h12, h13, Option.map_none]
theorem kind_eq (name : List UInt8) : F271 0 name = some (kindOf name) := by
  by_cases h : name ∈ knownNames
  · simp only [knownNames, List.mem_cons, List.not_mem_nil, or_false] at h
    rcases h with rfl | rfl | rfl | rfl | rfl | rfl | rfl | rfl | rfl | rfl | rfl | rfl | rfl
    all_goals (refine Eq.trans (b := _) ?_ rfl; kernel_rfl)
  · rw [kindOf_unknown h]
    unfold F271
    rw [known_eq, Option.bind_some, mget_unknown h]
    rfl
/-- May an annotation stand at a target? -/
noncomputable def fitsT' (name : List UInt8) (target : Int) : Bool := (F216 0 name target).getD false
theorem refFits_eq (name : List UInt8) (target : Int) : F216 0 name target = some (fitsT' name target) := by
  unfold fitsT'
  simp only [F216, push_some, Option.getD_some]
/-- The same by the table's bits. -/
theorem target_eq {name : List UInt8} (h : name ∈ knownNames) (t : Int) : (bif (bif (decide (t < (1 : Int))) then true else (decide (t > (6 : Int)))) then true else ((bitsI .and .i64 (((((PV.mget knownTab (.str name)).getD (.agg [.int 0, .int 0])).fld 1).asInt).fdiv (2 ^ (min t.toNat (IntKind.bits .i64)))) (1 : Int)) == (0 : Int))) = !(fitsT' name t) := by
  have e : ∀ b : Bool, some (fitsT' name t) = some b → fitsT' name t = b := fun b h => by cases h; rfl
  simp only [knownNames, List.mem_cons, List.not_mem_nil, or_false] at h
  by_cases ht : t < 1 ∨ t > 6
  · have h1 : (bif decide (t < (1 : Int)) then true else decide (t > (6 : Int))) = true := by
      rcases ht with ht | ht
      · simp [ht]
      · simp [ht]
    rw [h1, cond_true]
    have d1 : (t == 1) = false := by simp; omega
    have d2 : (t == 2) = false := by simp; omega
    have d4 : (t == 4) = false := by simp; omega
    have d5 : (t == 5) = false := by simp; omega
    have d6 : (t == 6) = false := by simp; omega
    have d7 : (bif decide (t ≥ (1 : Int)) then decide (t ≤ (6 : Int)) else false) = false := by
      by_cases q : t ≥ 1
      · have : ¬ t ≤ 6 := by omega
        simp [q, this]
      · simp [q]
    rw [e false ?_]
    · rfl
    rw [← refFits_eq]
    simp only [F216, d1, d2, d4, d5, d6, d7, cond_false, push_some, cond_same]
  · have h3 : t = 1 ∨ t = 2 ∨ t = 3 ∨ t = 4 ∨ t = 5 ∨ t = 6 := by omega
    rcases h with rfl | rfl | rfl | rfl | rfl | rfl | rfl | rfl | rfl | rfl | rfl | rfl | rfl <;> rcases h3 with rfl | rfl | rfl | rfl | rfl | rfl
    all_goals (refine Eq.trans (b := _) ?_ rfl; kernel_rfl)
/- Values. -/
def vKind (v : PV) : Int := (v.fld 0).asInt
def vBits (v : PV) : Int := (v.fld 1).asInt
def vText (v : PV) : List UInt8 := (v.fld 2).asStr
def vLists (v : PV) : Nat := (v.fld 3).asList.length + (v.fld 4).asList.length + (v.fld 5).asList.length + (v.fld 6).asList.length
/-- A value's lists and text are no longer than any machine could hold. -/
def smallV (v : PV) : Prop := vLists v ≤ 1048576 ∧ (vText v).length ≤ 1048576 ∧ 0 ≤ vBits v ∧ vBits v < 18446744073709551616
def isKind (k : Int) : Bool := decide (1 ≤ k ∧ k ≤ 9)
def textKind (k : Int) : Bool := k == 7 || k == 8
def rangeOk (k bits : Int) : Bool :=
  if k = 1 then decide (bits ≤ 1) else if k = 2 then decide (-2147483648 ≤ IntKind.wrap .i64 bits ∧ IntKind.wrap .i64 bits ≤ 2147483647) else if k = 4 then decide (bits < 4294967296) else if k = 9 then decide (bits < 2147483648) else true
def fitsV (k : Int) (v : PV) : Bool :=
  isKind k && (vKind v == k) && decide (vLists v = 0) && (if textKind k then (vBits v == 0) && decide ((vText v).length ≤ 4096) && ((k == 8) || valid (vText v)) else (vText v == []) && rangeOk k (vBits v))
theorem fitsV_eq (k : Int) (v : PV) (hs : smallV v) : F51 0 k v = some (fitsV k v) := by
  have hv : F96 0 (vText v) = some (valid (vText v)) := valid_eq _
  have e0 : (v.fld 0).asInt = vKind v := rfl
  have e1 : (v.fld 1).asInt = vBits v := rfl
  have e2 : (v.fld 2).asStr = vText v := rfl
  have i1 : (bif decide (k ≥ (1 : Int)) then decide (k ≤ (9 : Int)) else false) = isKind k := by
    unfold isKind
    by_cases h : k ≥ 1 <;> simp [h] <;> omega
  have eL : (v.fld 3).asList.length + (v.fld 4).asList.length + (v.fld 5).asList.length + (v.fld 6).asList.length = vLists v := rfl
  have hL := hs.1
  have w1 : IntKind.wrap .i64 (((v.fld 3).asList.length : Int) + ((v.fld 4).asList.length : Int)) = (((v.fld 3).asList.length + (v.fld 4).asList.length : Nat) : Int) := wadd (by unfold vLists at hL; omega)
  have w2 : IntKind.wrap .i64 ((((v.fld 3).asList.length + (v.fld 4).asList.length : Nat) : Int) + ((v.fld 5).asList.length : Int)) = (((v.fld 3).asList.length + (v.fld 4).asList.length + (v.fld 5).asList.length : Nat) : Int) := wadd (by unfold vLists at hL; omega)
  have w3 : IntKind.wrap .i64 ((((v.fld 3).asList.length + (v.fld 4).asList.length + (v.fld 5).asList.length : Nat) : Int) + ((v.fld 6).asList.length : Int)) = (((v.fld 3).asList.length + (v.fld 4).asList.length + (v.fld 5).asList.length + (v.fld 6).asList.length : Nat) : Int) := wadd (by unfold vLists at hL; omega)
  have tk : ∀ k : Int, (bif (k == (7 : Int)) then true else (k == (8 : Int))) = textKind k := fun k => by
    unfold textKind; cases (k == 7) <;> rfl
  unfold F51 F130 F131 F132 F221
  simp only [Option.bind_some, i1, tk, e0, e1, e2, hv, gb, w1, w2, w3, eL]
  have hrange : (bif (k == (1 : Int)) then some (decide (vBits v ≤ 1)) else bif (k == (2 : Int)) then some (bif decide (IntKind.wrap .i64 (vBits v) ≥ -2147483648) then decide (IntKind.wrap .i64 (vBits v) ≤ 2147483647) else false) else
      bif (k == (9 : Int)) then some (decide (vBits v ≤ 2147483647)) else bif (k == (4 : Int)) then some (decide (vBits v ≤ 4294967295)) else some true) = some (rangeOk k (vBits v)) := by
    unfold rangeOk
    by_cases k1 : k = 1
    · subst k1; simp
    have k1' : (k == 1) = false := by simp [k1]
    simp only [k1', cond_false, if_neg k1]
    by_cases k2 : k = 2
    · subst k2
      simp only [beq_self_eq_true, cond_true, if_true, ge_iff_le, Bool.decide_and]
      cases decide (-2147483648 ≤ IntKind.wrap .i64 (vBits v)) <;> rfl
    have k2' : (k == 2) = false := by simp [k2]
    simp only [k2', cond_false, if_neg k2]
    by_cases k9 : k = 9
    · subst k9
      have : decide (vBits v ≤ 2147483647) = decide (vBits v < 2147483648) := by rw [decide_eq_decide]; omega
      simp [this]
    have k9' : (k == 9) = false := by simp [k9]
    simp only [k9', cond_false, if_neg k9]
    by_cases k4 : k = 4
    · subst k4
      have : decide (vBits v ≤ 4294967295) = decide (vBits v < 4294967296) := by rw [decide_eq_decide]; omega
      simp [this]
    have k4' : (k == 4) = false := by simp [k4]
    simp only [k4', cond_false, if_neg k4]
  rw [hrange]
  unfold fitsV
  cases h1 : isKind k
  · simp
  cases h2 : (vKind v == k)
  · have : (vKind v != k) = true := by simp [bne, h2]
    simp [this]
  have h2' : (vKind v != k) = false := by simp [bne, h2]
  have h2e : vKind v = k := by simpa using h2
  rw [h2e]
  have h2k : (k != k) = false := by simp
  simp only [h2k, Bool.not_true, cond_false, Bool.not_false, Bool.true_and, cond_true]
  by_cases h3 : vLists v = 0
  · have h3' : decide ((vLists v : Int) > 0) = false := by simp; omega
    simp only [h3', cond_false, h3, decide_true, Bool.true_and]
    have hl : decide (((vText v).length : Int) > 4096) = !decide ((vText v).length ≤ 4096) := by
      by_cases q : (vText v).length ≤ 4096
      · simp [q]; omega
      · simp [q]; omega
    cases h4 : textKind k
    · simp only [cond_false, Bool.false_eq_true, if_false, Option.bind_some]
      have k7 : (k != 7) = true := by
        unfold textKind at h4; simp at h4; simp [h4.1]
      simp only [k7, cond_true]
      cases h5 : (vText v == [])
      · simp
      · have : vText v = [] := by simpa using h5
        simp only [hl, this]
        cases rangeOk k (vBits v) <;> simp
    · simp only [cond_true, if_true, Option.bind_some]
      have hr : rangeOk k (vBits v) = true := by
        unfold textKind at h4; simp at h4
        unfold rangeOk
        rcases h4 with rfl | rfl <;> simp
      simp only [hr, hl]
      have k78 : k = 7 ∨ k = 8 := by unfold textKind at h4; simpa using h4
      rcases k78 with rfl | rfl
      · cases (vBits v == 0) <;> cases decide ((vText v).length ≤ 4096) <;> simp
      · cases (vBits v == 0) <;> cases decide ((vText v).length ≤ 4096) <;> simp
  · have h3' : decide ((vLists v : Int) > 0) = true := by simp; omega
    simp only [h3', cond_true, Option.bind_some, h3, decide_false, Bool.not_false, Bool.not_true, cond_false, Bool.false_and]
/- Rights. -/
def nName (n : PV) : List UInt8 := (n.fld 0).asStr
def nVal (n : PV) : PV := n.fld 1
noncomputable def rightN (n : PV) : Bool := (kindOf (nName n) != 0) && fitsV (kindOf (nName n)) (nVal n)
def smallN (n : PV) : Prop := smallV (nVal n) ∧ (nName n).length ≤ 1048576
theorem right_eq (n : PV) (hs : smallN n) : F204 0 n = some (rightN n) := by
  unfold F204
  have e : (n.fld 0).asStr = nName n := rfl
  have e1 : n.fld 1 = nVal n := rfl
  simp only [e, e1, kind_eq, Option.bind_some, fitsV_eq _ _ hs.1, gb]
  unfold rightN
  cases (kindOf (nName n) != 0) <;> rfl
theorem fitsV_kind {k : Int} {v : PV} (h : (vKind v == k) = false) : fitsV k v = false := by
  unfold fitsV
  rw [h]; simp
/- The check. -/
noncomputable def chk1 (n : PV) (t : Int) (last : List UInt8) (ok : Bool) : Int :=
  if kindOf (nName n) = 0 then 8 else if fitsT' (nName n) t = false then 1 else if rightN n = false then 12 else if ok && Op.bytesLess (nName n) last then 11 else if ok && (nName n == last) then 9 else 0
theorem mhas_eq (name : List UInt8) : PV.mhas knownTab (.str name) = decide (name ∈ knownNames) := by
  by_cases h : name ∈ knownNames
  · rw [decide_eq_true h]
    simp only [knownNames, List.mem_cons, List.not_mem_nil, or_false] at h
    rcases h with rfl | rfl | rfl | rfl | rfl | rfl | rfl | rfl | rfl | rfl | rfl | rfl | rfl
    all_goals (refine Eq.trans (b := _) ?_ rfl; kernel_rfl)
  · rw [decide_eq_false h]
    unfold PV.mhas
    rw [mget_unknown h]; rfl
theorem one_eq (n : PV) (t : Int) (last : List UInt8) (ok : Bool) (hs : smallN n) : F98 0 n t last ok = some (chk1 n t last ok) := by
  unfold F98 chk1
  have e : (n.fld 0).asStr = nName n := rfl
  simp only [e, known_eq, Option.bind_some, mhas_eq, right_eq n hs]
  by_cases h : nName n ∈ knownNames
  · have hk := kindOf_known h
    have ht := target_eq h t
    simp only [h, decide_true, Bool.not_true, cond_false, if_neg hk]
    rw [ht]
    have hi : imp (!(bif decide (t < (1 : Int)) then true else decide (t > (6 : Int)))) (decide (0 ≤ t)) = true := by
      unfold imp
      by_cases q : 0 ≤ t
      · simp [q]
      · have : t < 1 := by omega
        simp [this]
    rw [hi, cond_true]
    cases fitsT' (nName n) t
    · rfl
    · simp only [Bool.not_true, cond_false, Bool.true_eq_false, if_false]
      cases rightN n
      · rfl
      · simp only [Bool.not_true, cond_false, Bool.true_eq_false, if_false]
        cases ok <;> cases Op.bytesLess (nName n) last <;> cases (nName n == last) <;> rfl
  · rw [kindOf_unknown h]
    simp only [h, decide_false, Bool.not_false, cond_true, if_true]
noncomputable def chkL (t : Int) : List PV → List UInt8 → Bool → Int
  | [], _, _ => 0
  | n :: r, last, ok => if chk1 n t last ok = 0 then chkL t r (nName n) true else chk1 n t last ok
noncomputable def checkN (l : List PV) (t : Int) : Int := if l.length > 8 then 3 else chkL t l [] false
theorem check_loop (l : List PV) (t : Int) (hl : l.length ≤ 1048576) (hs : ∀ n, n ∈ l → smallN n) : ∀ (m i : Nat) (last : List UInt8), l.length - i ≤ m → i ≤ l.length →
    loopW (S32_6step 0) (t, last, l, (l.length : Int), (i : Int)) = some (bif decide (chkL t (l.drop i) last (decide (0 < i)) = 0) then .inr () else .inl (chkL t (l.drop i) last (decide (0 < i)))) := by
  intro m
  induction m with
  | zero =>
    intro i last hm hi
    have hlt : ¬ i < l.length := by omega
    rw [List.drop_eq_nil_of_le (by omega)]
    exact loopW_end (by simp only [S32_6step, S32_6, declt, hlt, decide_false, cond_false]; rfl)
  | succ m ih =>
    intro i last hm hi
    by_cases hlt : i < l.length
    · rw [drop_cons hlt .bad, chkL]
      have hmem : l.getD i .bad ∈ l := by rw [getD_of_lt hlt]; exact List.getElem_mem _
      have hg : decide ((i : Int) > 0) = decide (0 < i) := by rw [decide_eq_decide]; omega
      have h1 := one_eq (l.getD i .bad) t last (decide (0 < i)) (hs _ hmem)
      by_cases h0 : chk1 (l.getD i .bad) t last (decide (0 < i)) = 0
      · rw [if_pos h0]
        rw [loopW_go (x1 := (t, nName (l.getD i .bad), l, (l.length : Int), ((i + 1 : Nat) : Int)))]
        · rw [ih (i + 1) _ (by omega) (by omega), decide_eq_true (show 0 < i + 1 by omega)]
        · rw [h0] at h1
          simp only [S32_6step, S32_6, declt, inRange_nat, hlt, decide_true, cond_true, Int.toNat_natCast, hg, h1, Option.bind_some, wadd1 (i := i) (by omega)]
          rfl
      · rw [if_neg h0, decide_eq_false h0]
        refine loopW_end ?_
        have hb : (chk1 (l.getD i .bad) t last (decide (0 < i)) != (0 : Int)) = true := bneI h0
        simp only [S32_6step, S32_6, declt, inRange_nat, hlt, decide_true, cond_true, Int.toNat_natCast, hg, h1, Option.bind_some, hb]
        rfl
    · rw [List.drop_eq_nil_of_le (by omega)]
      exact loopW_end (by simp only [S32_6step, S32_6, declt, hlt, decide_false, cond_false]; rfl)
theorem check_eq (l : List PV) (t : Int) (hl : l.length ≤ 1048576) (hs : ∀ n, n ∈ l → smallN n) : F32 0 l t = some (checkN l t) := by
  have h := check_loop l t hl hs l.length 0 [] (by omega) (by omega)
  unfold F32 checkN
  have hg : decide ((l.length : Int) > 8) = decide (l.length > 8) := by rw [decide_eq_decide]; omega
  rw [hg, loopQ0, show (0 : Int) = ((0 : Nat) : Int) from rfl, h]
  by_cases h8 : l.length > 8
  · simp [h8]
  · simp only [h8, decide_false, cond_false, if_false, List.drop_zero, Nat.lt_irrefl]
    by_cases h0 : chkL t l [] false = 0
    · rw [h0]; rfl
    · rw [decide_eq_false h0]; rfl
end Go.Ab
namespace Go.Ab
open Go
set_option maxRecDepth 100000
theorem decF_len : ∀ (f u : Nat), (decF f u).length ≤ f := by
  intro f
  induction f with
  | zero => intro u; simp [decF]
  | succ f ih =>
    intro u
    unfold decF
    cases Nat.ble u 9 with
    | true => simp
    | false => have := ih (u / 10); simp; omega
theorem decB_len (u : Nat) : (decB u).length ≤ 20 := decF_len 20 u
theorem itoaB_len (n : Int) : (itoaB n).length ≤ 21 := by
  unfold itoaB
  have h1 := decB_len n.natAbs
  have h2 := decB_len n.toNat
  cases decide (n < 0) with
  | true => simp; omega
  | false => simp; omega
/-- A scalar's text; doubles and bytes apart. -/
def textV (v : PV) : List UInt8 :=
  bif fitsV (vKind v) v then
    (bif vKind v == 1 then (bif vBits v == 1 then [116, 114, 117, 101] else [102, 97, 108, 115, 101])
    else bif vKind v == 2 then itoaB (IntKind.wrap .i64 (vBits v)) else bif vKind v == 3 then itoaB (IntKind.wrap .i64 (vBits v)) else bif vKind v == 7 then quote (vText v) else decB (vBits v).toNat)
  else []
theorem litoa_ok (n : Int) (h0 : -9223372036854775808 ≤ n) (h1 : n ≤ 9223372036854775807) : Litoa 0 n = some (itoaB n) := by
  unfold Litoa
  rw [decide_eq_true h0, decide_eq_true h1]; rfl
theorem wrapI (u : Nat) (hu : u < 18446744073709551616) : -9223372036854775808 ≤ IntKind.wrap .i64 (u : Int) ∧ IntKind.wrap .i64 (u : Int) ≤ 9223372036854775807 := by
  rw [IntKind.wrap_i64]; omega
theorem text_eq (v : PV) (hs : smallV v) (h6 : vKind v ≠ 6) (h8 : vKind v ≠ 8) : F53 0 v = some (textV v) := by
  obtain ⟨_, ht, hb0, hb1⟩ := hs
  obtain ⟨u, hu⟩ : ∃ u : Nat, vBits v = (u : Int) := ⟨(vBits v).toNat, (Int.toNat_of_nonneg hb0).symm⟩
  have hu64 : u < 18446744073709551616 := by omega
  have hi := wrapI u hu64
  have e0 : (v.fld 0).asInt = vKind v := rfl
  have e1 : (v.fld 1).asInt = vBits v := rfl
  have e2 : (v.fld 2).asStr = vText v := rfl
  have k6 : (vKind v == (6 : Int)) = false := beqI h6
  have k8 : (vKind v == (8 : Int)) = false := beqI h8
  have hf0 : Lfmtu 0 (u : Int) (10 : Int) = some (decB u) := by
    unfold Lfmtu
    rw [decide_eq_true (by omega), decide_eq_true (by omega)]
    simp
  have hf : Lfmt 0 (u : Int) (10 : Int) = some (decB u) := hf0
  unfold F53 textV
  simp only [e0, e1, e2, fitsV_eq _ _ ⟨by assumption, ht, hb0, hb1⟩, Option.bind_some, k6, k8, cond_false, quote_eq _ ht, hu, litoa_ok _ hi.1 hi.2, F139, hf, Int.toNat_natCast, F135, F225]
  generalize itoaB (IntKind.wrap .i64 (u : Int)) = x1
  generalize quote (vText v) = x2
  generalize decB u = x3
  generalize fitsV (vKind v) v = q0
  generalize (vKind v == (1 : Int)) = q1
  generalize (vKind v == (2 : Int)) = q2
  generalize (vKind v == (3 : Int)) = q3
  generalize (vKind v == (7 : Int)) = q7
  generalize ((u : Int) == (1 : Int)) = q
  cases q0 <;> cases q1 <;> cases q2 <;> cases q3 <;> cases q7 <;> cases q <;> rfl
theorem textV_len (v : PV) (hs : (vText v).length ≤ 1048576) : (textV v).length ≤ 4194400 := by
  have h1 := quote_len (vText v)
  have h2 := decB_len (vBits v).toNat
  have h3 := itoaB_len (IntKind.wrap .i64 (vBits v))
  unfold textV
  cases fitsV (vKind v) v <;> cases (vKind v == (1 : Int)) <;> cases (vKind v == (2 : Int)) <;> cases (vKind v == (3 : Int)) <;> cases (vKind v == (7 : Int)) <;> cases (vBits v == (1 : Int)) <;> simp only [cond_true, cond_false, List.length_cons, List.length_nil] <;> omega
end Go.Ab
