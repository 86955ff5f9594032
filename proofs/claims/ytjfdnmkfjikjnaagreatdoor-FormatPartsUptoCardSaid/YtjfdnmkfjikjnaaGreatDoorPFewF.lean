/- few: it ends; sizes of parts. -/
import Derived.Test.YtjfdnmkfjikjnaaGreatDoorAbBridgeF
import Derived.Test.YtjfdnmkfjikjnaaGreatDoorGenF
import Derived.Test.YtjfdnmkfjikjnaaGreatDoorAbPlain
set_option linter.unusedVariables false
set_option linter.unusedSimpArgs false
set_option linter.unnecessarySimpa false
namespace Go.Ab
open Go
set_option maxRecDepth 100000
theorem bulk_parts (v : PV) : bulkPVs v.asList ≤ bulkPV v := by cases v <;> simp [PV.asList, bulkPVs, bulkPV]
theorem bulk_part (v : PV) (i : Nat) : bulkPV (v.fld i) ≤ bulkPV v := by
  unfold PV.fld
  cases v with
  | agg xs =>
    show bulkPV (xs.getD i .bad) ≤ bulkPVs xs + 1
    by_cases h : i < xs.length
    · have : xs.getD i .bad ∈ xs := by rw [getD_of_lt h]; exact List.getElem_mem h
      have := bulkPVs_mem this; omega
    · have : xs.getD i .bad = .bad := by simp [List.getD, List.getElem?_eq_none (Nat.le_of_not_lt h)]
      rw [this]; simp [bulkPV]
  | _ => simp [PV.parts, bulkPV]
theorem bmem {xs : List PV} {n i : Nat} (hb : bulkPVs xs ≤ n) (h : i < xs.length) : bulkPV (xs.getD i .bad) ≤ n := by
  have : xs.getD i .bad ∈ xs := by rw [getD_of_lt h]; exact List.getElem_mem h
  have := bulkPVs_mem this; omega
theorem bsub {v : PV} {n : Nat} (hb : bulkPV v ≤ n) (i : Nat) : bulkPVs (v.fld i).asList ≤ n := by
  have := bulk_part v i; have := bulk_parts (v.fld i); omega
theorem blen {v : PV} {n : Nat} (hb : bulkPV v ≤ n) (i : Nat) : (v.fld i).asList.length ≤ n := by
  have := bsub hb i; have := bulkPVs_length (v.fld i).asList; omega

/- few: it ends. -/
theorem size_tot (xs : List PV) (hb : xs.length ≤ 1048576) : ∃ n, F27 0 xs = some n := by
  obtain ⟨r, h1, _⟩ := loopW_tot (step := S27_4step 0) (fun x => xs.length - x.2.2.toNat) (fun x => x.1 = xs ∧ ∃ i : Nat, x.2.2 = (i : Int) ∧ i ≤ xs.length) (fun _ => True) (fun x hx => by
    obtain ⟨a, n, j⟩ := x
    have h1 : a = xs := hx.1
    obtain ⟨i, hj, hi⟩ := hx.2
    simp only at hj hi
    rw [h1, hj]
    by_cases hlt : i < xs.length
    · refine Or.inl ⟨(xs, _, ((i + 1 : Nat) : Int)), by simp only [S27_4step, S27_4, lt_int, inRange_nat, hlt, decide_true, cond_true, waddB i (by omega)]; rfl, ⟨rfl, i + 1, rfl, by omega⟩, ?_⟩
      show xs.length - ((i + 1 : Nat) : Int).toNat < xs.length - (i : Int).toNat
      omega
    · exact Or.inr ⟨n, by simp only [S27_4step, S27_4, lt_int, hlt, decide_false, cond_false], trivial⟩) (xs, 0, 0) ⟨rfl, 0, rfl, by omega⟩
  refine ⟨r, ?_⟩
  show (loopW (S27_4step 0) (xs, 0, 0)).bind _ = _
  rw [h1]; rfl
theorem few_6 (a : PV) (hb : bulkPV a ≤ 1048576) (n : Int) : ∃ r, loopQ 0 (S11_6step 0) ((), n, (0 : Int), a) = some r ∧ (match r with | .inl _ => True | .inr y => y.2.2 = a) := by
  have hl := blen hb 3
  refine loopW_tot (step := S11_6step 0) (fun x => (a.fld 3).asList.length - x.2.2.1.toNat) (fun x => x.2.2.2 = a ∧ ∃ i : Nat, x.2.2.1 = (i : Int) ∧ i ≤ (a.fld 3).asList.length) (fun r => match r with | .inl _ => True | .inr y => y.2.2 = a) (fun x hx => ?_) ((), n, 0, a) ⟨rfl, 0, rfl, by omega⟩
  obtain ⟨u, n, j, a'⟩ := x
  obtain ⟨ha, i, hj, hi⟩ := hx
  simp only at hj ha; subst hj; subst ha
  by_cases hlt : i < (a'.fld 3).asList.length
  · have hm : bulkPV ((a'.fld 3).asList.getD i .bad) ≤ 1048576 := bmem (bsub hb 3) hlt
    obtain ⟨k, hk⟩ := size_tot (((a'.fld 3).asList.getD i .bad).fld 3).asList (blen hm 3)
    have hs : S11_6step 0 ((), n, (i : Int), a') = (bif (bif (bif decide ((((((a'.fld 3).asList.getD i .bad).fld 1).asList.length : Int)) > (70 : Int)) then true else decide ((((((a'.fld 3).asList.getD i .bad).fld 2).asList.length : Int)) > (70 : Int))) then true else decide ((((((a'.fld 3).asList.getD i .bad).fld 3).asList.length : Int)) > (70 : Int))) then some (.inr (.inl (false, a'))) else some (.inl ((), IntKind.wrap .i64 (n + k), ((i + 1 : Nat) : Int), a'))) := by
      simp only [S11_6step, S11_6, lt_int, inRange_nat, hlt, decide_true, cond_true, imp, Int.toNat_natCast, waddB i (by omega), hk, Option.bind_some]
    cases hc : (bif (bif decide ((((((a'.fld 3).asList.getD i .bad).fld 1).asList.length : Int)) > (70 : Int)) then true else decide ((((((a'.fld 3).asList.getD i .bad).fld 2).asList.length : Int)) > (70 : Int))) then true else decide ((((((a'.fld 3).asList.getD i .bad).fld 3).asList.length : Int)) > (70 : Int))) with
    | true => rw [hc] at hs; exact Or.inr ⟨_, hs, trivial⟩
    | false =>
      rw [hc] at hs
      refine Or.inl ⟨_, hs, ⟨rfl, i + 1, rfl, by omega⟩, ?_⟩
      show (a'.fld 3).asList.length - ((i + 1 : Nat) : Int).toNat < (a'.fld 3).asList.length - (i : Int).toNat
      omega
  · exact Or.inr ⟨_, by simp only [S11_6step, S11_6, lt_int, hlt, decide_false, cond_false]; rfl, rfl⟩
theorem few_13 (a : PV) (hb : bulkPV a ≤ 1048576) (n : Int) : ∃ r, loopQ 0 (S11_13step 0) ((), n, (0 : Int), a) = some r ∧ (match r with | .inl _ => True | .inr y => y.2.2 = a) := by
  have hl := blen hb 4
  refine loopW_tot (step := S11_13step 0) (fun x => (a.fld 4).asList.length - x.2.2.1.toNat) (fun x => x.2.2.2 = a ∧ ∃ i : Nat, x.2.2.1 = (i : Int) ∧ i ≤ (a.fld 4).asList.length) (fun r => match r with | .inl _ => True | .inr y => y.2.2 = a) (fun x hx => ?_) ((), n, 0, a) ⟨rfl, 0, rfl, by omega⟩
  obtain ⟨u, n, j, a'⟩ := x
  obtain ⟨ha, i, hj, hi⟩ := hx
  simp only at hj ha; subst hj; subst ha
  by_cases hlt : i < (a'.fld 4).asList.length
  · have hm : bulkPV ((a'.fld 4).asList.getD i .bad) ≤ 1048576 := bmem (bsub hb 4) hlt
    have hs : S11_13step 0 ((), n, (i : Int), a') = (bif (bif decide ((((((a'.fld 4).asList.getD i .bad).fld 2).asList.length : Int)) > (70 : Int)) then true else decide ((((((a'.fld 4).asList.getD i .bad).fld 3).asList.length : Int)) > (70 : Int))) then some (.inr (.inl (false, a'))) else some (.inl ((), n, ((i + 1 : Nat) : Int), a'))) := by
      simp only [S11_13step, S11_13, lt_int, inRange_nat, hlt, decide_true, cond_true, imp, Int.toNat_natCast, waddB i (by omega)]
    cases hc : (bif decide ((((((a'.fld 4).asList.getD i .bad).fld 2).asList.length : Int)) > (70 : Int)) then true else decide ((((((a'.fld 4).asList.getD i .bad).fld 3).asList.length : Int)) > (70 : Int))) with
    | true => rw [hc] at hs; exact Or.inr ⟨_, hs, trivial⟩
    | false =>
      rw [hc] at hs
      refine Or.inl ⟨_, hs, ⟨rfl, i + 1, rfl, by omega⟩, ?_⟩
      show (a'.fld 4).asList.length - ((i + 1 : Nat) : Int).toNat < (a'.fld 4).asList.length - (i : Int).toNat
      omega
  · exact Or.inr ⟨_, by simp only [S11_13step, S11_13, lt_int, hlt, decide_false, cond_false]; rfl, rfl⟩
theorem few_18 (a : PV) (hb : bulkPV a ≤ 1048576) (n : Int) : ∃ r, loopQ 0 (S11_18step 0) ((), n, (0 : Int), a) = some r ∧ (match r with | .inl _ => True | .inr y => y.2 = a) := by
  have hl := blen hb 5
  refine loopW_tot (step := S11_18step 0) (fun x => (a.fld 5).asList.length - x.2.2.1.toNat) (fun x => x.2.2.2 = a ∧ ∃ i : Nat, x.2.2.1 = (i : Int) ∧ i ≤ (a.fld 5).asList.length) (fun r => match r with | .inl _ => True | .inr y => y.2 = a) (fun x hx => ?_) ((), n, 0, a) ⟨rfl, 0, rfl, by omega⟩
  obtain ⟨u, n, j, a'⟩ := x
  obtain ⟨ha, i, hj, hi⟩ := hx
  simp only at hj ha; subst hj; subst ha
  by_cases hlt : i < (a'.fld 5).asList.length
  · have hm : bulkPV ((a'.fld 5).asList.getD i .bad) ≤ 1048576 := bmem (bsub hb 5) hlt
    have hs : S11_18step 0 ((), n, (i : Int), a') = (bif (decide ((((((a'.fld 5).asList.getD i .bad).fld 1).asList.length : Int)) > (70 : Int))) then some (.inr (.inl (false, a'))) else some (.inl ((), n, ((i + 1 : Nat) : Int), a'))) := by
      simp only [S11_18step, S11_18, lt_int, inRange_nat, hlt, decide_true, cond_true, imp, Int.toNat_natCast, waddB i (by omega)]
    cases hc : (decide ((((((a'.fld 5).asList.getD i .bad).fld 1).asList.length : Int)) > (70 : Int))) with
    | true => rw [hc] at hs; exact Or.inr ⟨_, hs, trivial⟩
    | false =>
      rw [hc] at hs
      refine Or.inl ⟨_, hs, ⟨rfl, i + 1, rfl, by omega⟩, ?_⟩
      show (a'.fld 5).asList.length - ((i + 1 : Nat) : Int).toNat < (a'.fld 5).asList.length - (i : Int).toNat
      omega
  · exact Or.inr ⟨_, by simp only [S11_18step, S11_18, lt_int, hlt, decide_false, cond_false]; rfl, rfl⟩
theorem few_tot (a : PV) (hb : bulkPV a ≤ 1048576) : ∃ b, F11 0 a = some b := by
  unfold F11
  obtain ⟨k, hk⟩ := size_tot (a.fld 2).asList (blen hb 2)
  rw [hk]
  generalize (bif (bif _ then true else _) then true else _) = c
  cases c with
  | true => exact ⟨false, rfl⟩
  | false =>
    simp only [cond_false, Option.bind_some]
    obtain ⟨r1, h1, q1⟩ := few_6 a hb k
    rw [h1]
    simp only [Option.bind_some]
    cases r1 with
    | inl y => exact ⟨_, rfl⟩
    | inr y =>
      simp only at q1
      simp only [sumE_inr, q1]
      obtain ⟨r2, h2, q2⟩ := few_13 a hb y.2.1
      rw [h2]
      simp only [Option.bind_some]
      cases r2 with
      | inl y => exact ⟨_, rfl⟩
      | inr y =>
        simp only at q2
        simp only [sumE_inr, q2]
        obtain ⟨r3, h3, q3⟩ := few_18 a hb y.2.1
        rw [h3]
        simp only [Option.bind_some]
        cases r3 with
        | inl y => exact ⟨_, rfl⟩
        | inr y => exact ⟨_, rfl⟩
end Go.Ab
