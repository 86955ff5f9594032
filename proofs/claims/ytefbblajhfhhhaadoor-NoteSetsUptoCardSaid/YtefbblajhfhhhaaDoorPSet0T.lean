/- Annotations: what one more does to a list (no program). -/
import Derived.Test.YtefbblajhfhhhaaDoorPFindT
import Derived.Sort.Walk0
set_option linter.unusedVariables false
set_option linter.unusedSimpArgs false
set_option linter.unnecessarySimpa false
namespace Go.Ab
open Go
/-- One more ahead of the first for which p holds, or at the end. -/
def insL (p : PV → Bool) (n : PV) : List PV → List PV
  | [] => [n]
  | x :: r => bif p x then n :: x :: r else x :: insL p n r
/-- The first for which p holds is another one. -/
def setF (p : PV → Bool) (n : PV) : List PV → List PV
  | [] => []
  | x :: r => bif p x then n :: r else x :: setF p n r
def aboveN (n x : PV) : Bool := !(Op.bytesLess (nName x) (nName n) || nName x == nName n)
def setL (l : List PV) (n : PV) : List PV := bif decide (idxN l (nName n) < 0) then insL (aboveN n) n l else setF (hasName (nName n)) n l
theorem idxFrom_neg (p : PV → Bool) : ∀ (l : List PV) (i : Nat), decide (idxFrom p l i < 0) = l.all fun x => !(p x) := by
  intro l
  induction l with
  | nil => intro i; simp [idxFrom]
  | cons x r ih =>
    intro i
    rw [idxFrom, List.all_cons]
    cases hp : p x with
    | true => rw [if_pos rfl]; simp
    | false => rw [if_neg (by simp), ih]; simp
theorem idxFrom_shift (p : PV → Bool) : ∀ (l : List PV) (i : Nat), (l.all (fun x => !(p x))) = false → idxFrom p l i = i + idxFrom p l 0 ∧ 0 ≤ idxFrom p l 0 := by
  intro l
  induction l with
  | nil => intro i h; simp at h
  | cons x r ih =>
    intro i h
    rw [idxFrom, idxFrom]
    cases hp : p x with
    | true => simp
    | false =>
      rw [List.all_cons, hp] at h
      simp only [Bool.not_false, Bool.true_and] at h
      obtain ⟨h1, h2⟩ := ih (i + 1) h
      obtain ⟨h3, h4⟩ := ih (0 + 1) h
      simp only [Bool.false_eq_true, if_false, h1, h3]
      omega
theorem setF_eq (p : PV → Bool) (n : PV) : ∀ (l : List PV), decide (idxFrom p l 0 < 0) = false → setF p n l = l.set (idxFrom p l 0).toNat n := by
  intro l
  induction l with
  | nil => intro h; simp [idxFrom] at h
  | cons x r ih =>
    intro h
    rw [idxFrom_neg, List.all_cons] at h
    rw [setF, idxFrom]
    cases hp : p x with
    | true => simp
    | false =>
      rw [hp] at h
      simp only [Bool.not_false, Bool.true_and] at h
      obtain ⟨h3, h4⟩ := idxFrom_shift p r (0 + 1) h
      have h5 := ih (by rw [idxFrom_neg]; exact h)
      simp only [cond_false, Bool.false_eq_true, if_false, h3, h5]
      rw [show (((0 + 1 : Nat) : Int) + idxFrom p r 0).toNat = (idxFrom p r 0).toNat + 1 by omega, List.set_cons_succ]
theorem insL_eq (p : PV → Bool) (n : PV) : ∀ (l : List PV), insL p n l = l.take (bif decide (idxFrom p l 0 < 0) then l.length else (idxFrom p l 0).toNat) ++ n :: l.drop (bif decide (idxFrom p l 0 < 0) then l.length else (idxFrom p l 0).toNat) := by
  intro l
  induction l with
  | nil => rfl
  | cons x r ih =>
    rw [insL]
    cases hp : p x with
    | true =>
      have e : idxFrom p (x :: r) 0 = 0 := by rw [idxFrom, if_pos hp]; rfl
      rw [e]; rfl
    | false =>
      have e : idxFrom p (x :: r) 0 = idxFrom p r (0 + 1) := by rw [idxFrom, hp]; simp
      rw [cond_false, e, ih, idxFrom_neg, idxFrom_neg]
      cases h : r.all fun x => !(p x) with
      | true => simp
      | false =>
        obtain ⟨h3, h4⟩ := idxFrom_shift p r (0 + 1) h
        rw [h3, show (((0 + 1 : Nat) : Int) + idxFrom p r 0).toNat = (idxFrom p r 0).toNat + 1 by omega]
        simp
theorem getD_find (p : PV → Bool) : ∀ (l : List PV), decide (idxFrom p l 0 < 0) = false → l.find? p = some (l.getD (idxFrom p l 0).toNat .bad) := by
  intro l
  induction l with
  | nil => intro h; simp [idxFrom] at h
  | cons x r ih =>
    intro h
    rw [idxFrom_neg, List.all_cons] at h
    rw [List.find?_cons, idxFrom]
    cases hp : p x with
    | true => simp
    | false =>
      rw [hp] at h
      simp only [Bool.not_false, Bool.true_and] at h
      obtain ⟨h3, h4⟩ := idxFrom_shift p r (0 + 1) h
      rw [ih (by rw [idxFrom_neg]; exact h)]
      simp only [Bool.false_eq_true, if_false, h3]
      rw [show (((0 + 1 : Nat) : Int) + idxFrom p r 0).toNat = (idxFrom p r 0).toNat + 1 by omega, List.getD_cons_succ]
theorem findN_eq (l : List PV) (name : List UInt8) : findN l name = match l.find? (hasName name) with | none => (zeroVal, false) | some x => (nVal x, true) := by
  unfold findN idxN
  cases h : decide (idxFrom (hasName name) l 0 < 0) with
  | true =>
    have h' := h
    rw [idxFrom_neg] at h
    have : l.find? (hasName name) = none := by
      rw [List.find?_eq_none]
      intro x hx
      have := List.all_eq_true.1 h x hx
      simpa using this
    rw [this]; rfl
  | false => rw [getD_find _ _ h]; rfl
theorem hasName_self (n : PV) : hasName (nName n) n = true := by simp [hasName]
theorem find_ins (p : PV → Bool) (q : PV → Bool) (n : PV) (hq : q n = true) : ∀ l : List PV, (l.all fun x => !(q x)) = true → (insL p n l).find? q = some n := by
  intro l
  induction l with
  | nil => intro _; simp [insL, hq]
  | cons x r ih =>
    intro h
    rw [List.all_cons, Bool.and_eq_true] at h
    rw [insL]
    cases p x with
    | true => simp [hq]
    | false =>
      have hx : q x = false := by simpa using h.1
      rw [cond_false, List.find?_cons, hx]
      exact ih h.2
theorem find_ins_other (p : PV → Bool) (q : PV → Bool) (n : PV) (hq : q n = false) : ∀ l : List PV, (insL p n l).find? q = l.find? q := by
  intro l
  induction l with
  | nil => simp [insL, hq]
  | cons x r ih =>
    rw [insL]
    cases p x with
    | true => rw [cond_true, List.find?_cons, hq]
    | false => rw [cond_false, List.find?_cons, List.find?_cons, ih]
theorem find_setF (q : PV → Bool) (n : PV) (hq : q n = true) : ∀ l : List PV, (l.all fun x => !(q x)) = false → (setF q n l).find? q = some n := by
  intro l
  induction l with
  | nil => intro h; simp at h
  | cons x r ih =>
    intro h
    rw [setF]
    cases hx : q x with
    | true => simp [hq]
    | false =>
      rw [List.all_cons, hx] at h
      rw [cond_false, List.find?_cons, hx]
      exact ih (by simpa using h)
theorem find_setF_other (p q : PV → Bool) (n : PV) (hq : q n = false) (hpq : ∀ x, p x = true → q x = false) : ∀ l : List PV, (setF p n l).find? q = l.find? q := by
  intro l
  induction l with
  | nil => rfl
  | cons x r ih =>
    rw [setF]
    cases hx : p x with
    | true => rw [cond_true, List.find?_cons, List.find?_cons, hq, hpq x hx]
    | false => rw [cond_false, List.find?_cons, List.find?_cons, ih]
theorem findN_set (l : List PV) (n : PV) : findN (setL l n) (nName n) = (nVal n, true) := by
  rw [findN_eq]
  unfold setL idxN
  rw [idxFrom_neg]
  cases h : l.all fun x => !(hasName (nName n) x) with
  | true => rw [cond_true, find_ins _ _ n (hasName_self n) l h]
  | false => rw [cond_false, find_setF _ n (hasName_self n) l h]
theorem findN_set_other (l : List PV) (n : PV) (name : List UInt8) (hne : (name == nName n) = false) : findN (setL l n) name = findN l name := by
  have hne' : name ≠ nName n := by simpa using hne
  have hq : hasName name n = false := by simp [hasName]; exact fun e => hne' e.symm
  rw [findN_eq, findN_eq]
  unfold setL
  cases decide (idxN l (nName n) < 0) with
  | true => rw [cond_true, find_ins_other _ _ n hq l]
  | false =>
    rw [cond_false, find_setF_other _ _ n hq (fun x hx => ?_) l]
    have hx : nName x = nName n := by simpa [hasName] using hx
    simp only [hasName, hx]
    simp; exact fun e => hne' e.symm
theorem setF_length (p : PV → Bool) (n : PV) : ∀ l : List PV, (setF p n l).length = l.length := by
  intro l
  induction l with
  | nil => rfl
  | cons x r ih => rw [setF]; cases p x <;> simp [ih]
theorem insL_length (p : PV → Bool) (n : PV) : ∀ l : List PV, (insL p n l).length = l.length + 1 := by
  intro l
  induction l with
  | nil => rfl
  | cons x r ih => rw [insL]; cases p x <;> simp [ih]
theorem setL_length (l : List PV) (n : PV) : (setL l n).length ≤ l.length + 1 := by
  unfold setL
  cases decide (idxN l (nName n) < 0) with
  | true => rw [cond_true, insL_length]; omega
  | false => rw [cond_false, setF_length]; omega
theorem setL_mem {l : List PV} {n x : PV} (h : x ∈ setL l n) : x = n ∨ x ∈ l := by
  have h1 : ∀ (p : PV → Bool) (l : List PV), x ∈ insL p n l → x = n ∨ x ∈ l := by
    intro p l
    induction l with
    | nil => intro h; simp [insL] at h; exact .inl h
    | cons y r ih =>
      intro h
      rw [insL] at h
      cases hp : p y with
      | true => rw [hp, cond_true] at h; exact List.mem_cons.1 h
      | false =>
        rw [hp, cond_false] at h
        rcases List.mem_cons.1 h with e | e
        · exact .inr (by simp [e])
        · exact (ih e).imp id (List.mem_cons_of_mem _)
  have h2 : ∀ (p : PV → Bool) (l : List PV), x ∈ setF p n l → x = n ∨ x ∈ l := by
    intro p l
    induction l with
    | nil => intro h; cases h
    | cons y r ih =>
      intro h
      rw [setF] at h
      cases hp : p y with
      | true =>
        rw [hp, cond_true] at h
        exact (List.mem_cons.1 h).imp id (List.mem_cons_of_mem _)
      | false =>
        rw [hp, cond_false] at h
        rcases List.mem_cons.1 h with e | e
        · exact .inr (by simp [e])
        · exact (ih e).imp id (List.mem_cons_of_mem _)
  unfold setL at h
  cases hh : decide (idxN l (nName n) < 0) with
  | true => rw [hh, cond_true] at h; exact h1 _ _ h
  | false => rw [hh, cond_false] at h; exact h2 _ _ h
/- What is accepted stays so. -/
def goodN (n : PV) (t : Int) : Prop := kindOf (nName n) ≠ 0 ∧ fitsT' (nName n) t ≠ false ∧ rightN n ≠ false
theorem chk1_iff (n : PV) (t : Int) (last : List UInt8) (ok : Bool) : chk1 n t last ok = 0 ↔ goodN n t ∧ (ok = true → Op.bytesLess (nName n) last = false ∧ (nName n == last) = false) := by
  unfold chk1 goodN
  cases ok <;> grind
theorem chk_setF (t : Int) (n : PV) (hn : goodN n t) : ∀ (l : List PV) (last : List UInt8) (ok : Bool), chkL t l last ok = 0 → chkL t (setF (hasName (nName n)) n l) last ok = 0 := by
  intro l
  induction l with
  | nil => intro last ok h; exact h
  | cons x r ih =>
    intro last ok h
    rw [chkL] at h
    split at h
    · rename_i h0
      rw [setF]
      cases hp : hasName (nName n) x with
      | true =>
        have e : nName x = nName n := by simpa [hasName] using hp
        rw [cond_true, chkL]
        rw [chk1_iff, e] at h0
        rw [if_pos ((chk1_iff _ _ _ _).2 ⟨hn, h0.2⟩), ← e]
        exact h
      | false =>
        rw [cond_false, chkL, if_pos h0]
        exact ih _ _ h
    · rename_i h0; exact absurd h h0
theorem chk_insL (t : Int) (n : PV) (hn : goodN n t) : ∀ (l : List PV) (last : List UInt8) (ok : Bool), chkL t l last ok = 0 → (l.all fun x => !(hasName (nName n) x)) = true → (ok = true → Op.bytesLess (nName n) last = false ∧ (nName n == last) = false) → chkL t (insL (aboveN n) n l) last ok = 0 := by
  intro l
  induction l with
  | nil =>
    intro last ok _ _ h2
    rw [insL, chkL, if_pos ((chk1_iff _ _ _ _).2 ⟨hn, h2⟩)]
    rfl
  | cons x r ih =>
    intro last ok h ha h2
    rw [List.all_cons, Bool.and_eq_true] at ha
    have hne : nName x ≠ nName n := by simpa [hasName] using ha.1
    rw [chkL] at h
    split at h
    · rename_i h0
      rw [insL]
      cases hp : aboveN n x with
      | true =>
        rw [cond_true, chkL, if_pos ((chk1_iff _ _ _ _).2 ⟨hn, h2⟩), chkL]
        rw [if_pos ((chk1_iff _ _ _ _).2 ⟨((chk1_iff _ _ _ _).1 h0).1, fun _ => ⟨?_, by simpa using hne⟩⟩)]
        · exact h
        · unfold aboveN at hp
          simp at hp
          exact hp.1
      | false =>
        rw [cond_false, chkL, if_pos h0]
        refine ih _ _ h ha.2 (fun _ => ⟨?_, by simpa using fun e => hne e.symm⟩)
        unfold aboveN at hp
        have hp : Op.bytesLess (nName x) (nName n) = true := by simpa [hne] using hp
        rw [Go.Proofs.bytesLess_eq] at hp ⊢
        have hp := of_decide_eq_true hp
        exact decide_eq_false (List.lt_asymm hp)
    · rename_i h0; exact absurd h h0
theorem check_set (t : Int) (l : List PV) (n : PV) (h1 : checkN l t = 0) (h2 : l.length < 8) (h3 : checkN [n] t = 0) : checkN (setL l n) t = 0 := by
  have hn : goodN n t := by
    unfold checkN at h3
    rw [if_neg (by simp), chkL] at h3
    split at h3
    · rename_i h0; exact ((chk1_iff _ _ _ _).1 h0).1
    · rename_i h0; exact absurd h3 h0
  unfold checkN at h1 ⊢
  rw [if_neg (by omega)] at h1
  rw [if_neg (by have := setL_length l n; omega)]
  unfold setL idxN
  rw [idxFrom_neg]
  cases h : l.all fun x => !(hasName (nName n) x) with
  | true => exact chk_insL t n hn l [] false h1 h (fun h => by cases h)
  | false => exact chk_setF t n hn l [] false h1
end Go.Ab
namespace Go.Ab
open Go
theorem above_loop (l : List PV) (n : PV) (hl : l.length ≤ 1048576) : ∀ (m i : Nat), l.length - i ≤ m → i ≤ l.length →
    loopW (S17_v1_3step 0) (l, (), (l.length : Int), (i : Int), n) = some (bif decide (idxFrom (aboveN n) (l.drop i) i = -1) then .inr n else .inl (idxFrom (aboveN n) (l.drop i) i, n)) := by
  intro m
  induction m with
  | zero =>
    intro i hm hi
    have hlt : ¬ i < l.length := by omega
    rw [List.drop_eq_nil_of_le (by omega)]
    exact loopW_end (by simp only [S17_v1_3step, S17_v1_3, declt, hlt, decide_false, cond_false]; rfl)
  | succ m ih =>
    intro i hm hi
    by_cases hlt : i < l.length
    · rw [drop_cons hlt .bad, idxFrom]
      have e : F18 0 (l.getD i .bad) () n = some (aboveN n (l.getD i .bad), n) := rfl
      by_cases hp : aboveN n (l.getD i .bad) = true
      · rw [if_pos hp, decide_eq_false (by omega)]
        refine loopW_end ?_
        simp only [S17_v1_3step, S17_v1_3, declt, inRange_nat, hlt, decide_true, cond_true, Int.toNat_natCast, e, Option.bind_some, hp]
        rfl
      · rw [if_neg hp, loopW_go (x1 := (l, (), (l.length : Int), ((i + 1 : Nat) : Int), n)), ih (i + 1) (by omega) (by omega)]
        rw [Bool.not_eq_true] at hp
        simp only [S17_v1_3step, S17_v1_3, declt, inRange_nat, hlt, decide_true, cond_true, Int.toNat_natCast, e, Option.bind_some, hp, cond_false, wadd1 (i := i) (by omega)]
    · rw [List.drop_eq_nil_of_le (by omega)]
      exact loopW_end (by simp only [S17_v1_3step, S17_v1_3, declt, hlt, decide_false, cond_false]; rfl)
theorem above_eq (l : List PV) (n : PV) (hl : l.length ≤ 1048576) : F17_v1 0 l () n = some (idxFrom (aboveN n) l 0, n) := by
  have h := above_loop l n hl l.length 0 (by omega) (by omega)
  unfold F17_v1
  rw [loopQ0, show (0 : Int) = ((0 : Nat) : Int) from rfl, h, List.drop_zero]
  by_cases h0 : idxFrom (aboveN n) l 0 = -1
  · rw [decide_eq_true h0, h0]; rfl
  · rw [decide_eq_false h0]; rfl
theorem set_eq (l : List PV) (n : PV) (hl : l.length ≤ 1048576) : F7 0 l n = some (setL l n) := by
  have hc : F15_v2 0 l = some ((), l) := by
    unfold F15_v2 F15_v1
    rw [decide_eq_true (by unfold accMax; omega)]; rfl
  have en : (n.fld 0).asStr = nName n := rfl
  unfold F7
  simp only [hc, Option.bind_some, en, index_eq l _ hl, above_eq l n hl]
  unfold setL
  cases h : decide (idxN l (nName n) < 0) with
  | false =>
    have h1 : decide (idxN l (nName n) ≥ 0) = true := by rw [decide_eq_false_iff_not] at h; rw [decide_eq_true_iff]; omega
    rw [h1, cond_true, idxN_in l _ h, cond_true, cond_false, setF_eq _ _ _ h]
    rfl
  | true =>
    have h1 : decide (idxN l (nName n) ≥ 0) = false := by rw [decide_eq_true_iff] at h; rw [decide_eq_false_iff_not]; omega
    rw [h1, cond_false, cond_true, insL_eq]
    rcases idxFrom_lt (p := aboveN n) (l := l) with h2 | ⟨j, h2, h3, _⟩
    · have h3 : decide ((1 : Nat) = 1 ∧ (0 : Int) ≤ (l.length : Int) ∧ (l.length : Int) ≤ (l.length : Int) ∧ l.length < 1073741824) = true := by rw [decide_eq_true_iff]; omega
      rw [decide_eq_true h2, cond_true, cond_true]
      unfold Lins
      rw [show [n].length = 1 from rfl, h3, cond_true, Option.bind_some, Int.toNat_natCast, List.append_assoc]
      rfl
    · have h4 : decide ((1 : Nat) = 1 ∧ (0 : Int) ≤ (j : Int) ∧ (j : Int) ≤ (l.length : Int) ∧ l.length < 1073741824) = true := by rw [decide_eq_true_iff]; omega
      have h5 : decide ((j : Int) < 0) = false := by rw [decide_eq_false_iff_not]; omega
      rw [h2, h5, cond_false, cond_false]
      unfold Lins
      rw [show [n].length = 1 from rfl, h4, cond_true, Option.bind_some, Int.toNat_natCast, List.append_assoc]
      rfl
/-- One more ahead of the first for which p holds. -/
def insX (p : PV → Bool) (n : PV) : List PV → List PV
  | [] => []
  | x :: r => bif p x then n :: x :: r else x :: insX p n r
theorem insL_insX (p : PV → Bool) (n : PV) : ∀ l : List PV, insL p n l = bif l.any p then insX p n l else insX p n l ++ [n] := by
  intro l
  induction l with
  | nil => rfl
  | cons x r ih =>
    rw [insL, insX, List.any_cons, ih]
    cases p x <;> cases r.any p <;> simp
theorem refSet_loopA (l : List PV) (n : PV) (hl : l.length ≤ 1048576) (at' : Int) (hat : at' < 0) : ∀ (m i : Nat) (d : Bool) (out : List PV), l.length - i ≤ m → i ≤ l.length → out.length ≤ i + d.toNat →
    loopW (S10_6step 0) (l, (), out, at', d, (i : Int), n) = some ((), out ++ (bif d then l.drop i else insX (aboveN n) n (l.drop i)), d || (l.drop i).any (aboveN n), n) := by
  intro m
  induction m with
  | zero =>
    intro i d out hm hi ho
    have hlt : ¬ i < l.length := by omega
    rw [List.drop_eq_nil_of_le (by omega)]
    refine loopW_end ?_
    simp only [S10_6step, S10_6, declt, hlt, decide_false, cond_false]
    cases d <;> simp [insX]
  | succ m ih =>
    intro i d out hm hi ho
    by_cases hlt : i < l.length
    · rw [drop_cons hlt .bad, insX, List.any_cons]
      have hne : ((i : Int) == at') = false := by simp; omega
      have hd : decide (at' < (0 : Int)) = true := by simpa using hat
      have c1 : ∀ (a b : PV) (o : List PV), o.length ≤ i + 1 → decide (o.length + [a].length ≤ accMax) = true := fun a b o h => by simp; unfold accMax; omega
      have c2 : ∀ (a b : PV), decide ((out ++ [a]).length + [b].length ≤ accMax) = true := fun a b => by have := Bool.toNat_le d; simp; unfold accMax; omega
      have en : (n.fld 0).asStr = nName n := rfl
      have ex : ((l.getD i .bad).fld 0).asStr = nName (l.getD i .bad) := rfl
      have ea : (!(Op.bytesLess (nName (l.getD i .bad)) (nName n) || nName (l.getD i .bad) == nName n)) = aboveN n (l.getD i .bad) := rfl
      have hir : imp (bif decide (at' < (0 : Int)) then (!d) else false) (decide (i < l.length)) = true := by simp [imp, hlt]
      cases d with
      | true =>
        rw [loopW_go (x1 := (l, (), out ++ [l.getD i .bad], at', true, ((i + 1 : Nat) : Int), n)), ih (i + 1) true _ (by omega) (by omega) (by simp at ho ⊢; omega)]
        · simp
        · simp only [S10_6step, S10_6, declt, inRange_nat, hlt, hne, hd, decide_true, cond_true, cond_false, Int.toNat_natCast, Bool.not_true, imp, Bool.not_false, Bool.true_or, c1 _ n out (Nat.le_trans ho (by simp)), wadd1 (i := i) (by omega)]
      | false =>
        cases hp : aboveN n (l.getD i .bad) with
        | true =>
          rw [loopW_go (x1 := (l, (), (out ++ [n]) ++ [l.getD i .bad], at', true, ((i + 1 : Nat) : Int), n)), ih (i + 1) true _ (by omega) (by omega) (by simp at ho ⊢; omega)]
          · simp
          · simp only [S10_6step, S10_6, declt, inRange_nat, hlt, hne, hd, decide_true, cond_true, cond_false, Int.toNat_natCast, Bool.not_false, imp, Bool.not_true, Bool.false_or, en, ex, ea, hp, c1 _ n out (Nat.le_trans ho (by simp)), c2, wadd1 (i := i) (by omega)]
        | false =>
          rw [loopW_go (x1 := (l, (), out ++ [l.getD i .bad], at', false, ((i + 1 : Nat) : Int), n)), ih (i + 1) false _ (by omega) (by omega) (by simp at ho ⊢; omega)]
          · simp
          · simp only [S10_6step, S10_6, declt, inRange_nat, hlt, hne, hd, decide_true, cond_true, cond_false, Int.toNat_natCast, Bool.not_false, imp, Bool.not_true, Bool.false_or, en, ex, ea, hp, c1 _ n out (Nat.le_trans ho (by simp)), wadd1 (i := i) (by omega)]
    · rw [List.drop_eq_nil_of_le (by omega)]
      refine loopW_end ?_
      simp only [S10_6step, S10_6, declt, hlt, decide_false, cond_false]
      cases d <;> simp [insX]
theorem refSet_loopB (l : List PV) (n : PV) (hl : l.length ≤ 1048576) (k : Nat) (hk : k < l.length) : ∀ (m i : Nat) (d : Bool) (out : List PV), l.length - i ≤ m → i ≤ l.length → out.length ≤ i + 1 →
    loopW (S10_6step 0) (l, (), out, (k : Int), d, (i : Int), n) = some ((), out ++ (l.set k n).drop i, d || decide (i ≤ k), n) := by
  intro m
  induction m with
  | zero =>
    intro i d out hm hi ho
    have hlt : ¬ i < l.length := by omega
    rw [List.drop_eq_nil_of_le (by simp; omega)]
    refine loopW_end ?_
    have hik : decide (i ≤ k) = false := by rw [decide_eq_false_iff_not]; omega
    simp only [S10_6step, S10_6, declt, hlt, decide_false, cond_false, hik, Bool.or_false, List.append_nil]
  | succ m ih =>
    intro i d out hm hi ho
    by_cases hlt : i < l.length
    · have hls : i < (l.set k n).length := by simpa using hlt
      rw [drop_cons hls .bad]
      have c1 : ∀ (a : PV), decide (out.length + [a].length ≤ accMax) = true := fun a => by simp; unfold accMax; omega
      have hd : decide ((k : Int) < (0 : Int)) = false := by rw [decide_eq_false_iff_not]; omega
      by_cases hik : i = k
      · subst hik
        have he : (l.set i n).getD i .bad = n := by simp [List.getD, hlt]
        rw [he, loopW_go (x1 := (l, (), out ++ [n], (i : Int), true, ((i + 1 : Nat) : Int), n)), ih (i + 1) true _ (by omega) (by omega) (by simp; omega)]
        · simp
        · have hbe : ((i : Int) == (i : Int)) = true := by simp
          simp only [S10_6step, S10_6, declt, hlt, hbe, decide_true, cond_true, c1, wadd1 (i := i) (by omega)]
      · have he : (l.set k n).getD i .bad = l.getD i .bad := by simp [List.getD, List.getElem?_set_ne (Ne.symm hik)]
        have hne : ((i : Int) == (k : Int)) = false := by simp; omega
        rw [he, loopW_go (x1 := (l, (), out ++ [l.getD i .bad], (k : Int), d, ((i + 1 : Nat) : Int), n)), ih (i + 1) d _ (by omega) (by omega) (by simp; omega)]
        · have : decide (i ≤ k) = decide (i + 1 ≤ k) := by rw [decide_eq_decide]; omega
          rw [this]; simp
        · simp only [S10_6step, S10_6, declt, inRange_nat, hlt, hne, hd, decide_true, cond_true, cond_false, Int.toNat_natCast, imp, Bool.not_true, Bool.not_false, Bool.true_or, c1, wadd1 (i := i) (by omega)]
    · rw [List.drop_eq_nil_of_le (by simp; omega)]
      refine loopW_end ?_
      have hik : decide (i ≤ k) = false := by rw [decide_eq_false_iff_not]; omega
      simp only [S10_6step, S10_6, declt, hlt, decide_false, cond_false, hik, Bool.or_false, List.append_nil]
theorem refSet_eq (l : List PV) (n : PV) (hl : l.length ≤ 1048576) : F10 0 l n = some (setL l n) := by
  have en : (n.fld 0).asStr = nName n := rfl
  unfold F10 setL
  simp only [en, refIndex_eq l _ hl, Option.bind_some]
  rw [loopQ0]
  rcases idxFrom_lt (p := hasName (nName n)) (l := l) with h2 | ⟨j, h2, h3, _⟩
  · have hA := refSet_loopA l n hl (idxN l (nName n)) h2 l.length 0 false [] (by omega) (by omega) (by simp)
    rw [show ((0 : Nat) : Int) = 0 from rfl] at hA
    rw [hA]
    have hdn : decide (idxN l (nName n) < 0) = true := by rw [decide_eq_true_iff]; exact h2
    rw [hdn, cond_true, insL_insX]
    simp only [List.drop_zero, cond_false, List.nil_append, Bool.false_or]
    have c1 : decide ((insX (aboveN n) n l).length + [n].length ≤ accMax) = true := by
      have h : (insX (aboveN n) n l).length ≤ l.length + 1 := by
        clear hA h2 hdn hl en
        induction l with
        | nil => simp [insX]
        | cons x r ih => rw [insX]; cases aboveN n x <;> simp <;> omega
      simp; unfold accMax; omega
    cases l.any (aboveN n) with
    | true => rfl
    | false => show (bif decide ((insX (aboveN n) n l).length + [n].length ≤ accMax) then _ else none) = _; rw [c1]; rfl
  · have h2 : idxN l (nName n) = (j : Int) := h2
    have hB := refSet_loopB l n hl j h3 l.length 0 false [] (by omega) (by omega) (by simp)
    rw [show ((0 : Nat) : Int) = 0 from rfl] at hB
    rw [h2, hB]
    have hdn : decide ((j : Int) < 0) = false := by rw [decide_eq_false_iff_not]; omega
    have hdn' : decide (idxFrom (hasName (nName n)) l 0 < 0) = false := by rw [show idxFrom (hasName (nName n)) l 0 = (j : Int) from h2]; exact hdn
    rw [hdn, cond_false, setF_eq _ _ _ hdn', show idxFrom (hasName (nName n)) l 0 = (j : Int) from h2, Int.toNat_natCast]
    simp only [Nat.zero_le, decide_true, Bool.or_true, List.drop_zero, List.nil_append]
    rfl
/-- The law: what Set returns, what is found in it. -/
theorem noteSets_true (l : List PV) (n : PV) (name : List UInt8) (hl : l.length ≤ 1048576) : F4 0 l n name = some true := by
  have hm : (setL l n).length ≤ 1048577 := by have := setL_length l n; omega
  unfold F4
  have en : (n.fld 0).asStr = nName n := rfl
  have ev : n.fld 1 = nVal n := rfl
  have hg : decide ((l.length : Int) > (40 : Int)) = decide (l.length > 40) := by rw [decide_eq_decide]; omega
  rw [hg]
  cases h40 : decide (l.length > 40) with
  | true => rfl
  | false =>
    have h40 : l.length ≤ 40 := by rw [decide_eq_false_iff_not] at h40; omega
    have hm : (setL l n).length ≤ 1048576 := by have := setL_length l n; omega
    simp only [cond_false, set_eq l n hl, refSet_eq l n hl, Option.bind_some, en, ev, find_eq _ _ hm, find_eq _ _ hl, refSame_eq _ _ hm, sameN_refl, findN_set, same_refl, Bool.not_true, cond_true, Bool.not_false]
    cases hne : (name == nName n) with
    | true => rfl
    | false =>
      have h1 : (findN (setL l n) name) = findN l name := findN_set_other l n name hne
      simp only [h1, same_refl, beq_self_eq_true, Bool.not_true, Bool.not_false, cond_true, cond_false, Option.bind_some]
      rfl
/-- The law: what is accepted stays so. -/
theorem noteStays_true (l : List PV) (n : PV) (t : Int) (hl : l.length ≤ 1048576) (hs : ∀ x, x ∈ l → smallN x) (hn : smallN n) : F3 0 l n t = some true := by
  unfold F3
  have hg : decide ((l.length : Int) > (40 : Int)) = decide (l.length > 40) := by rw [decide_eq_decide]; omega
  rw [hg]
  cases h40 : decide (l.length > 40) with
  | true => rfl
  | false =>
    have h40 : l.length ≤ 40 := by rw [decide_eq_false_iff_not] at h40; omega
    have hm : (setL l n).length ≤ 1048576 := by have := setL_length l n; omega
    have h1 := check_eq l t hl hs
    have h2 := check_eq [n] t (by simp) (fun x hx => by cases List.mem_singleton.1 hx; exact hn)
    have h3 := check_eq (setL l n) t hm (fun x hx => (setL_mem hx).elim (fun e => e ▸ hn) (hs x))
    have hge : decide ((l.length : Int) ≥ (8 : Int)) = decide (8 ≤ l.length) := by rw [decide_eq_decide]; omega
    simp only [cond_false, h1, set_eq l n hl, Option.bind_some, hge]
    by_cases c1 : checkN l t = 0
    · by_cases c2 : 8 ≤ l.length
      · simp [c1, c2]; rfl
      · by_cases c3 : checkN [n] t = 0
        · have c4 := check_set t l n c1 (by omega) c3
          simp [c1, c2, h2, c3, h3, c4]
          rfl
        · simp [c1, c2, h2, bneI c3]
          rfl
    · have : (checkN l t != (0 : Int)) = true := bneI c1
      simp [this]
      rfl
end Go.Ab
