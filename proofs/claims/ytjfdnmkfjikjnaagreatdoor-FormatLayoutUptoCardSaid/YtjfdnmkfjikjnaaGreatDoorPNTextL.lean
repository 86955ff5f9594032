/- The text of annotations: the program's and the specification's are the same. -/
import Derived.Test.YtjfdnmkfjikjnaaGreatDoorPNoteL
set_option linter.unusedVariables false
set_option linter.unusedSimpArgs false
set_option linter.unnecessarySimpa false
namespace Go.Ab
open Go
set_option maxRecDepth 100000
theorem kind_vals {name : List UInt8} (h : kindOf name ≠ 0) : name.length ≤ 10 ∧ kindOf name ≠ 6 ∧ kindOf name ≠ 8 := by
  by_cases hk : name ∈ knownNames
  · simp only [knownNames, List.mem_cons, List.not_mem_nil, or_false] at hk
    have e : ∀ k : Int, k ≠ 6 ∧ k ≠ 8 → name.length ≤ 10 → some (kindOf name) = some k → name.length ≤ 10 ∧ kindOf name ≠ 6 ∧ kindOf name ≠ 8 := fun k hk hl he => by cases he; exact ⟨hl, hk⟩
    rcases hk with rfl | rfl | rfl | rfl | rfl | rfl | rfl | rfl | rfl | rfl | rfl | rfl | rfl
    · exact e 1 (by decide) (by decide) (by kernel_rfl)
    · exact e 1 (by decide) (by decide) (by kernel_rfl)
    · exact e 1 (by decide) (by decide) (by kernel_rfl)
    · exact e 7 (by decide) (by decide) (by kernel_rfl)
    · exact e 7 (by decide) (by decide) (by kernel_rfl)
    · exact e 7 (by decide) (by decide) (by kernel_rfl)
    · exact e 7 (by decide) (by decide) (by kernel_rfl)
    · exact e 4 (by decide) (by decide) (by kernel_rfl)
    · exact e 4 (by decide) (by decide) (by kernel_rfl)
    · exact e 4 (by decide) (by decide) (by kernel_rfl)
    · exact e 4 (by decide) (by decide) (by kernel_rfl)
    · exact e 3 (by decide) (by decide) (by kernel_rfl)
    · exact e 3 (by decide) (by decide) (by kernel_rfl)
  · exact absurd (kindOf_unknown hk) h
theorem right_facts {n : PV} (h : rightN n = true) : (nName n).length ≤ 10 ∧ vKind (nVal n) ≠ 6 ∧ vKind (nVal n) ≠ 8 := by
  unfold rightN at h
  simp only [Bool.and_eq_true] at h
  obtain ⟨h1, h2⟩ := h
  have hk : kindOf (nName n) ≠ 0 := by simpa using h1
  have hv : vKind (nVal n) = kindOf (nName n) := by
    cases hb : (vKind (nVal n) == kindOf (nName n)) with
    | true => simpa using hb
    | false => rw [fitsV_kind hb] at h2; cases h2
  rw [hv]
  exact kind_vals hk
def textN (n : PV) : List UInt8 := (nName n ++ [32, 61, 32]) ++ textV (nVal n)
theorem textN_len {n : PV} (hs : smallN n) (h : rightN n = true) : (textN n).length ≤ 5000000 := by
  have h1 := (right_facts h).1
  have h2 := textV_len (nVal n) hs.1.2.1
  simp [textN]; omega
theorem note_loop (l : List PV) (hl : l.length ≤ 40) (hs : ∀ n, n ∈ l → smallN n) : ∀ (m i : Nat) (acc : List PV), l.length - i ≤ m → i ≤ l.length → acc.length + (l.length - i) ≤ 1000 →
    loopW (S231_4step 0) (acc, l, (l.length : Int), (i : Int)) = some (bif (l.drop i).all rightN then .inr (acc ++ (l.drop i).map fun n => PV.str (textN n)) else .inl []) := by
  intro m
  induction m with
  | zero =>
    intro i acc hm hi hb
    have hlt : ¬ i < l.length := by omega
    rw [List.drop_eq_nil_of_le (by omega)]
    exact loopW_end (by simp only [S231_4step, S231_4, declt, hlt, decide_false, cond_false, List.all_nil, cond_true, List.map_nil, List.append_nil])
  | succ m ih =>
    intro i acc hm hi hb
    by_cases hlt : i < l.length
    · have hmem : l.getD i .bad ∈ l := by rw [getD_of_lt hlt]; exact List.getElem_mem _
      have hsm := hs _ hmem
      rw [drop_cons hlt .bad, List.all_cons, List.map_cons]
      have hr := right_eq (l.getD i .bad) hsm
      cases hp : rightN (l.getD i .bad) with
      | false =>
        rw [hp] at hr
        refine loopW_end ?_
        simp only [S231_4step, S231_4, declt, inRange_nat, hlt, decide_true, cond_true, Int.toNat_natCast, hr, Option.bind_some, Bool.not_false, Bool.false_and, cond_false]
      | true =>
        rw [hp] at hr
        obtain ⟨hn, h6, h8⟩ := right_facts hp
        have ht := text_eq _ hsm.1 h6 h8
        have htl := textV_len (nVal (l.getD i .bad)) hsm.1.2.1
        have e0 : ((l.getD i .bad).fld 0).asStr = nName (l.getD i .bad) := rfl
        have e1 : (l.getD i .bad).fld 1 = nVal (l.getD i .bad) := rfl
        have l1 : decide ((nName (l.getD i .bad)).length + ([32, 61, 32] : List UInt8).length ≤ strMax) = true := leStr (by simp only [List.length_append, List.length_cons, List.length_nil]; omega)
        have l2 : decide ((nName (l.getD i .bad) ++ ([32, 61, 32] : List UInt8)).length + (textV (nVal (l.getD i .bad))).length ≤ strMax) = true := leStr (by simp only [List.length_append, List.length_cons, List.length_nil]; omega)
        have l3 : ∀ x : PV, decide (acc.length + [x].length ≤ accMax) = true := fun x => decide_eq_true (by unfold accMax; simp; omega)
        rw [Bool.true_and, loopW_go (x1 := (acc ++ [PV.str (textN (l.getD i .bad))], l, (l.length : Int), ((i + 1 : Nat) : Int))), ih (i + 1) _ (by omega) (by omega) (by simp; omega), List.append_assoc]
        · rfl
        · simp only [S231_4step, S231_4, declt, inRange_nat, hlt, decide_true, cond_true, Int.toNat_natCast, hr, Option.bind_some, Bool.not_true, cond_false, e0, e1, ht, l1, l2, l3, wadd1 (i := i) (by omega), textN]
    · rw [List.drop_eq_nil_of_le (by omega)]
      exact loopW_end (by simp only [S231_4step, S231_4, declt, hlt, decide_false, cond_false, List.all_nil, cond_true, List.map_nil, List.append_nil])
/-- The texts behind the first. -/
def restT : List PV → List UInt8
  | [] => []
  | n :: r => [44, 32] ++ textN n ++ restT r
theorem restT_len (l : List PV) (hs : ∀ n, n ∈ l → smallN n) (hr : l.all rightN = true) : (restT l).length ≤ 5000002 * l.length := by
  induction l with
  | nil => simp [restT]
  | cons n r ih =>
    simp only [List.all_cons, Bool.and_eq_true] at hr
    have h1 := textN_len (hs n (by simp)) hr.1
    have h2 := ih (fun x hx => hs x (by simp [hx])) hr.2
    simp [restT]; omega
theorem inter_eq (n : PV) (r : List PV) : ([44, 32] : List UInt8).intercalate ((n :: r).map textN) = textN n ++ restT r := by
  induction r generalizing n with
  | nil => simp [List.intercalate, restT]
  | cons x r ih =>
    have := ih x
    rw [restT, List.map_cons, List.map_cons]
    rw [List.map_cons] at this
    simp only [List.intercalate, List.intersperse_cons_cons, List.flatten_cons] at this ⊢
    rw [this]
    simp
noncomputable def textL : List PV → List UInt8
  | [] => []
  | n :: r => bif (n :: r).all rightN then [91] ++ (textN n ++ restT r) ++ [93] else []
theorem noteText_eq (l : List PV) (hl : l.length ≤ 40) (hs : ∀ n, n ∈ l → smallN n) : F231 0 l = some (textL l) := by
  have h := note_loop l hl hs l.length 0 [] (by omega) (by omega) (by simp; omega)
  unfold F231
  rw [show ((0 : Nat) : Int) = (0 : Int) from rfl] at h
  rw [loopQ0, h, List.drop_zero, List.nil_append]
  cases l with
  | nil => rfl
  | cons n r =>
    rw [show textL (n :: r) = bif (n :: r).all rightN then [91] ++ (textN n ++ restT r) ++ [93] else [] from rfl]
    cases hall : (n :: r).all rightN with
    | false => rfl
    | true =>
      have hall' := hall
      simp only [List.all_cons, Bool.and_eq_true] at hall'
      have h1 := textN_len (hs n (by simp)) hall'.1
      have h2 := restT_len r (fun x hx => hs x (by simp [hx])) hall'.2
      have hr40 : r.length ≤ 39 := by simp at hl; omega
      have hm : ((n :: r).map fun n => PV.str (textN n)).map PV.asStr = (n :: r).map textN := by rw [List.map_map]; rfl
      have hj : Ljoin 0 ((n :: r).map fun n => PV.str (textN n)) ([44, 32] : List UInt8) = some (textN n ++ restT r) := by
        unfold Ljoin
        rw [hm, inter_eq]
        have b1 : Nat.ble ((n :: r).map fun n => PV.str (textN n)).length 140737488355328 = true := by rw [Nat.ble_eq]; simp; omega
        have b2 : Nat.ble (textN n ++ restT r).length 140737488355328 = true := by rw [Nat.ble_eq]; simp; omega
        rw [b1, b2]; rfl
      have hz : ((((n :: r).map fun n => PV.str (textN n)).length : Int) == (0 : Int)) = false := by simp; omega
      have c1 : decide (([91] : List UInt8).length + (textN n ++ restT r).length ≤ strMax) = true := leStr (by simp only [List.length_append, List.length_cons, List.length_nil]; omega)
      have c2 : decide ((([91] : List UInt8) ++ (textN n ++ restT r)).length + ([93] : List UInt8).length ≤ strMax) = true := leStr (by simp only [List.length_append, List.length_cons, List.length_nil]; omega)
      simp only [cond_true, Option.bind_some, sumE_inr, hz, cond_false, hj, c1, c2]
end Go.Ab
