/- Annotations: kinds, targets, values, the check. -/
import Derived.Test.YtefbblajhfhhhaaDoorPUtfT
set_option linter.unusedVariables false
set_option linter.unusedSimpArgs false
set_option linter.unnecessarySimpa false
namespace Go.Ab
open Go
theorem bneI {a b : Int} (h : a ≠ b) : (a != b) = true := by simp [h]
def nmDeprecated : List UInt8 := [100, 101, 112, 114, 101, 99, 97, 116, 101, 100]
def nmSecret : List UInt8 := [115, 101, 99, 114, 101, 116]
def nmIdempotent : List UInt8 := [105, 100, 101, 109, 112, 111, 116, 101, 110, 116]
def nmDoc : List UInt8 := [100, 111, 99]
def nmAlias : List UInt8 := [97, 108, 105, 97, 115]
def nmRoute : List UInt8 := [114, 111, 117, 116, 101]
def nmOwner : List UInt8 := [111, 119, 110, 101, 114]
def nmSince : List UInt8 := [115, 105, 110, 99, 101]
def nmUntil : List UInt8 := [117, 110, 116, 105, 108]
def nmLength : List UInt8 := [108, 101, 110, 103, 116, 104]
def nmTimeout : List UInt8 := [116, 105, 109, 101, 111, 117, 116]
def nmMin : List UInt8 := [109, 105, 110]
def nmMax : List UInt8 := [109, 97, 120]
def knownNames : List (List UInt8) := [nmDeprecated, nmSecret, nmIdempotent, nmDoc, nmAlias, nmRoute, nmOwner, nmSince, nmUntil, nmLength, nmTimeout, nmMin, nmMax]
/-- A name is none of the known ones. -/
theorem unknown {name : List UInt8} (h : name ∉ knownNames) : (name == nmDeprecated) = false ∧ (name == nmSecret) = false ∧ (name == nmIdempotent) = false ∧ (name == nmDoc) = false ∧ (name == nmAlias) = false ∧ (name == nmRoute) = false ∧ (name == nmOwner) = false ∧
    (name == nmSince) = false ∧ (name == nmUntil) = false ∧ (name == nmLength) = false ∧ (name == nmTimeout) = false ∧ (name == nmMin) = false ∧ (name == nmMax) = false := by
  simp only [knownNames, List.mem_cons, List.not_mem_nil, or_false, not_or] at h
  grind
/-- The table of the known annotations. -/
noncomputable def knownTab : List (PV × PV) := (F24 0).getD []
theorem known_eq : F24 0 = some knownTab := by kernel_rfl
theorem knownTab_eq : knownTab = [(.str nmDeprecated, .agg [.int 1, .int 126]), (.str nmDoc, .agg [.int 7, .int 126]), (.str nmAlias, .agg [.int 7, .int 84]), (.str nmSince, .agg [.int 4, .int 84]), (.str nmUntil, .agg [.int 4, .int 84]), (.str nmMin, .agg [.int 3, .int 4]), (.str nmMax, .agg [.int 3, .int 4]),
    (.str nmLength, .agg [.int 4, .int 4]), (.str nmSecret, .agg [.int 1, .int 4]), (.str nmIdempotent, .agg [.int 1, .int 64]), (.str nmTimeout, .agg [.int 4, .int 64]), (.str nmRoute, .agg [.int 7, .int 64]), (.str nmOwner, .agg [.int 7, .int 34])] := by kernel_rfl
theorem mget_unknown {name : List UInt8} (h : name ∉ knownNames) : PV.mget knownTab (.str name) = none := by
  obtain ⟨h1, h2, h3, h4, h5, h6, h7, h8, h9, h10, h11, h12, h13⟩ := unknown h
  rw [knownTab_eq]
  simp only [PV.mget, List.find?, keyEq, keyEq1, h1, h2, h3, h4, h5, h6, h7, h8, h9, h10, h11, h12, h13, Option.map_none]
/-- The kind of an annotation's value, 0 where the name is unknown. -/
noncomputable def kindOf (name : List UInt8) : Int := (F13 0 name).getD 0
theorem kind_eq (name : List UInt8) : F13 0 name = some (kindOf name) := by
  unfold kindOf F13
  rw [known_eq]
  rfl
theorem kindOf_unknown {name : List UInt8} (h : name ∉ knownNames) : kindOf name = 0 := by
  unfold kindOf F13
  rw [known_eq, Option.bind_some, mget_unknown h]
  rfl
theorem kindOf_known {name : List UInt8} (h : name ∈ knownNames) : kindOf name ≠ 0 := by
  simp only [knownNames, List.mem_cons, List.not_mem_nil, or_false] at h
  have e : ∀ k : Int, k ≠ 0 → some (kindOf name) = some k → kindOf name ≠ 0 := fun k hk he => by grind
  rcases h with rfl | rfl | rfl | rfl | rfl | rfl | rfl | rfl | rfl | rfl | rfl | rfl | rfl
  · exact e 1 (by decide) (by kernel_rfl)
  · exact e 1 (by decide) (by kernel_rfl)
  · exact e 1 (by decide) (by kernel_rfl)
  · exact e 7 (by decide) (by kernel_rfl)
  · exact e 7 (by decide) (by kernel_rfl)
  · exact e 7 (by decide) (by kernel_rfl)
  · exact e 7 (by decide) (by kernel_rfl)
  · exact e 4 (by decide) (by kernel_rfl)
  · exact e 4 (by decide) (by kernel_rfl)
  · exact e 4 (by decide) (by kernel_rfl)
  · exact e 4 (by decide) (by kernel_rfl)
  · exact e 3 (by decide) (by kernel_rfl)
  · exact e 3 (by decide) (by kernel_rfl)
/-- May an annotation stand at a target? By the table's bits. -/
noncomputable def fitsT' (name : List UInt8) (t : Int) : Bool := !(bif (bif (decide (t < (1 : Int))) then true else (decide (t > (6 : Int)))) then true else ((bitsI .and .i64 (((((PV.mget knownTab (.str name)).getD (.agg [.int 0, .int 0])).fld 1).asInt).fdiv (2 ^ (min t.toNat (IntKind.bits .i64)))) (1 : Int)) == (0 : Int)))
theorem target_eq {name : List UInt8} (h : name ∈ knownNames) (t : Int) : (bif (bif (decide (t < (1 : Int))) then true else (decide (t > (6 : Int)))) then true else ((bitsI .and .i64 (((((PV.mget knownTab (.str name)).getD (.agg [.int 0, .int 0])).fld 1).asInt).fdiv (2 ^ (min t.toNat (IntKind.bits .i64)))) (1 : Int)) == (0 : Int))) = !(fitsT' name t) := by
  unfold fitsT'
  grind
/- Values. -/
def vKind (v : PV) : Int := (v.fld 0).asInt
def vBits (v : PV) : Int := (v.fld 1).asInt
def vText (v : PV) : List UInt8 := (v.fld 2).asStr
def vLists (v : PV) : Nat := (v.fld 3).asList.length + (v.fld 4).asList.length + (v.fld 5).asList.length + (v.fld 6).asList.length
/-- A value's lists and text are no longer than any machine could hold. -/
def smallV (v : PV) : Prop := vLists v ≤ 1048576 ∧ (vText v).length ≤ 1048576 ∧ 0 ≤ vBits v ∧ vBits v < 18446744073709551616
def isKind (k : Int) : Bool := decide (1 ≤ k ∧ k ≤ 9)
def textKind (k : Int) : Bool := k == 7 || k == 8
def rangeOk (k bits : Int) : Bool :=
  if k = 1 then decide (bits ≤ 1) else if k = 2 then decide (-2147483648 ≤ IntKind.wrap .i64 bits ∧ IntKind.wrap .i64 bits ≤ 2147483647) else if k = 4 then decide (bits < 4294967296) else if k = 9 then decide (bits < 2147483648) else true
def fitsV (k : Int) (v : PV) : Bool :=
  isKind k && (vKind v == k) && decide (vLists v = 0) && (if textKind k then (vBits v == 0) && decide ((vText v).length ≤ 4096) && ((k == 8) || valid (vText v)) else (vText v == []) && rangeOk k (vBits v))
theorem fitsV_eq (k : Int) (v : PV) (hs : smallV v) : F28 0 k v = some (fitsV k v) := by
  have hv : F42 0 (vText v) = some (valid (vText v)) := valid_eq _
  have e0 : (v.fld 0).asInt = vKind v := rfl
  have e1 : (v.fld 1).asInt = vBits v := rfl
  have e2 : (v.fld 2).asStr = vText v := rfl
  have i1 : (bif decide (k ≥ (1 : Int)) then decide (k ≤ (9 : Int)) else false) = isKind k := by
    grind [isKind]
  have eL : (v.fld 3).asList.length + (v.fld 4).asList.length + (v.fld 5).asList.length + (v.fld 6).asList.length = vLists v := rfl
  have hL := hs.1
  have w1 : IntKind.wrap .i64 (((v.fld 3).asList.length : Int) + ((v.fld 4).asList.length : Int)) = (((v.fld 3).asList.length + (v.fld 4).asList.length : Nat) : Int) := wadd (by grind)
  have w2 : IntKind.wrap .i64 ((((v.fld 3).asList.length + (v.fld 4).asList.length : Nat) : Int) + ((v.fld 5).asList.length : Int)) = (((v.fld 3).asList.length + (v.fld 4).asList.length + (v.fld 5).asList.length : Nat) : Int) := wadd (by grind)
  have w3 : IntKind.wrap .i64 ((((v.fld 3).asList.length + (v.fld 4).asList.length + (v.fld 5).asList.length : Nat) : Int) + ((v.fld 6).asList.length : Int)) = (((v.fld 3).asList.length + (v.fld 4).asList.length + (v.fld 5).asList.length + (v.fld 6).asList.length : Nat) : Int) := wadd (by grind)
  have tk : ∀ k : Int, (bif (k == (7 : Int)) then true else (k == (8 : Int))) = textKind k := fun k => by
    grind [textKind]
  unfold F28 F39 F40 F41 F52
  simp only [Option.bind_some, i1, tk, e0, e1, e2, hv, gb, w1, w2, w3, eL]
  have hrange : (bif (k == (1 : Int)) then some (decide (vBits v ≤ 1)) else bif (k == (2 : Int)) then some (bif decide (IntKind.wrap .i64 (vBits v) ≥ -2147483648) then decide (IntKind.wrap .i64 (vBits v) ≤ 2147483647) else false) else
      bif (k == (9 : Int)) then some (decide (vBits v ≤ 2147483647)) else bif (k == (4 : Int)) then some (decide (vBits v ≤ 4294967295)) else some true) = some (rangeOk k (vBits v)) := by
    unfold rangeOk
    by_cases k1 : k = 1
    · subst k1; simp
    have k1' : (k == 1) = false := by simp [k1]
    simp only [k1', cond_false, if_neg k1]
    by_cases k2 : k = 2
    · grind
    grind
  rw [hrange]
  unfold fitsV
  cases h1 : isKind k
  · simp
  cases h2 : (vKind v == k)
  · grind
  have h2' : (vKind v != k) = false := by simp [bne, h2]
  have h2e : vKind v = k := by simpa using h2
  rw [h2e]
  have h2k : (k != k) = false := by simp
  simp only [h2k, Bool.not_true, cond_false, Bool.not_false, Bool.true_and, cond_true]
  by_cases h3 : vLists v = 0
  · have h3' : decide ((vLists v : Int) > 0) = false := by simp; omega
    simp only [h3', cond_false, h3, decide_true, Bool.true_and]
    have hl : decide (((vText v).length : Int) > 4096) = !decide ((vText v).length ≤ 4096) := by
      grind
    cases h4 : textKind k
    · simp only [cond_false, Bool.false_eq_true, if_false, Option.bind_some]
      have k7 : (k != 7) = true := by
        grind
      all_goals grind
    · simp only [cond_true, if_true, Option.bind_some]
      have hr : rangeOk k (vBits v) = true := by
        all_goals grind
      simp only [hr, hl]
      have k78 : k = 7 ∨ k = 8 := by all_goals grind
      rcases k78 with rfl | rfl
      all_goals grind
  grind
/- Rights. -/
def nName (n : PV) : List UInt8 := (n.fld 0).asStr
def nVal (n : PV) : PV := n.fld 1
noncomputable def rightN (n : PV) : Bool := (kindOf (nName n) != 0) && fitsV (kindOf (nName n)) (nVal n)
def smallN (n : PV) : Prop := smallV (nVal n) ∧ (nName n).length ≤ 1048576
theorem right_eq (n : PV) (hs : smallN n) : F21 0 n = some (rightN n) := by
  unfold F21
  have e : (n.fld 0).asStr = nName n := rfl
  have e1 : n.fld 1 = nVal n := rfl
  simp only [e, e1, kind_eq, Option.bind_some, fitsV_eq _ _ hs.1, gb]
  grind [rightN, kindOf, nName]
/- The check. -/
noncomputable def chk1 (n : PV) (t : Int) (last : List UInt8) (ok : Bool) : Int :=
  if kindOf (nName n) = 0 then 8 else if fitsT' (nName n) t = false then 1 else if rightN n = false then 12 else if ok && Op.bytesLess (nName n) last then 11 else if ok && (nName n == last) then 9 else 0
noncomputable def chkL (t : Int) : List PV → List UInt8 → Bool → Int
  | [], _, _ => 0
  | n :: r, last, ok => if chk1 n t last ok = 0 then chkL t r (nName n) true else chk1 n t last ok
noncomputable def checkN (l : List PV) (t : Int) : Int := if l.length > 8 then 3 else chkL t l [] false
theorem mhas_eq (name : List UInt8) : PV.mhas knownTab (.str name) = decide (name ∈ knownNames) := by
  by_cases h : name ∈ knownNames
  · rw [decide_eq_true h]
    simp only [knownNames, List.mem_cons, List.not_mem_nil, or_false] at h
    rcases h with rfl | rfl | rfl | rfl | rfl | rfl | rfl | rfl | rfl | rfl | rfl | rfl | rfl
    all_goals (refine Eq.trans (b := _) ?_ rfl; kernel_rfl)
  grind [decide_eq_false, PV.mhas, mget_unknown]
theorem one_eq (n : PV) (t : Int) (last : List UInt8) (ok : Bool) (hs : smallN n) : F14 0 n t last ok = some (chk1 n t last ok) := by
  unfold F14 chk1
  have e : (n.fld 0).asStr = nName n := rfl
  simp only [e, known_eq, Option.bind_some, mhas_eq, right_eq n hs]
  by_cases h : nName n ∈ knownNames
  · have hk := kindOf_known h
    have ht := target_eq h t
    simp only [h, decide_true, Bool.not_true, cond_false, if_neg hk]
    rw [ht]
    have hi : imp (!(bif decide (t < (1 : Int)) then true else decide (t > (6 : Int)))) (decide (0 ≤ t)) = true := by
      grind [imp]
    grind
  · rw [kindOf_unknown h]
    grind
theorem check_loop (l : List PV) (t : Int) (hl : l.length ≤ 1048576) (hs : ∀ n, n ∈ l → smallN n) : ∀ (m i : Nat) (last : List UInt8), l.length - i ≤ m → i ≤ l.length →
    loopW (S6_6step 0) (t, last, l, (l.length : Int), (i : Int)) = some (bif decide (chkL t (l.drop i) last (decide (0 < i)) = 0) then .inr () else .inl (chkL t (l.drop i) last (decide (0 < i)))) := by
  intro m
  induction m with
  | zero =>
    intro i last hm hi
    have hlt : ¬ i < l.length := by omega
    rw [List.drop_eq_nil_of_le (by omega)]
    exact loopW_end (by simp only [S6_6step, S6_6, declt, hlt, decide_false, cond_false]; rfl)
  | succ m ih =>
    intro i last hm hi
    by_cases hlt : i < l.length
    · rw [drop_cons hlt .bad, chkL]
      have hmem : l.getD i .bad ∈ l := by grind
      have hg : decide ((i : Int) > 0) = decide (0 < i) := by grind
      have h1 := one_eq (l.getD i .bad) t last (decide (0 < i)) (hs _ hmem)
      by_cases h0 : chk1 (l.getD i .bad) t last (decide (0 < i)) = 0
      · rw [if_pos h0]
        rw [loopW_go (x1 := (t, nName (l.getD i .bad), l, (l.length : Int), ((i + 1 : Nat) : Int)))]
        · rw [ih (i + 1) _ (by omega) (by omega), decide_eq_true (show 0 < i + 1 by omega)]
        · rw [h0] at h1
          simp only [S6_6step, S6_6, declt, inRange_nat, hlt, decide_true, cond_true, Int.toNat_natCast, hg, h1, Option.bind_some, wadd1 (i := i) (by omega)]
          rfl
      · rw [if_neg h0, decide_eq_false h0]
        refine loopW_end ?_
        have hb : (chk1 (l.getD i .bad) t last (decide (0 < i)) != (0 : Int)) = true := bneI h0
        simp only [S6_6step, S6_6, declt, inRange_nat, hlt, decide_true, cond_true, Int.toNat_natCast, hg, h1, Option.bind_some, hb]
        rfl
    grind
theorem check_eq (l : List PV) (t : Int) (hl : l.length ≤ 1048576) (hs : ∀ n, n ∈ l → smallN n) : F6 0 l t = some (checkN l t) := by
  have h := check_loop l t hl hs l.length 0 [] (by omega) (by omega)
  unfold F6 checkN
  have hg : decide ((l.length : Int) > 8) = decide (l.length > 8) := by grind
  rw [hg, loopQ0, show (0 : Int) = ((0 : Nat) : Int) from rfl, h]
  by_cases h8 : l.length > 8
  · simp [h8]
  · simp only [h8, decide_false, cond_false, if_false, List.drop_zero, Nat.lt_irrefl]
    by_cases h0 : chkL t l [] false = 0
    · rw [h0]; rfl
    · rw [decide_eq_false h0]; rfl
end Go.Ab
