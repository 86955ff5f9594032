/- Check, Print, Field, Type, Literal: the same in the program and the specification. -/
import Derived.Test.YtjfdnmkfjikjnaaGreatDoorPFileL
import Derived.Test.YtjfdnmkfjikjnaaGreatDoorAbBridgeF
import Derived.Test.YtjfdnmkfjikjnaaGreatDoorGenL
import Derived.Test.YtjfdnmkfjikjnaaGreatDoorAbPlain
import Derived.Test.YtjfdnmkfjikjnaaGreatDoorAbEqL
set_option linter.unusedVariables false
set_option linter.unusedSimpArgs false
set_option linter.unnecessarySimpa false
namespace Go.Ab
open Go
set_option maxRecDepth 100000
theorem errN_zero {e : Int} {l : List PV} {t : Int} (h : errN e l t = 0) : e = 0 ∧ checkN l t = 0 := by
  unfold errN at h
  by_cases he : e = 0
  · subst he; exact ⟨rfl, h⟩
  · rw [bneI he] at h; exact absurd h he
theorem errL_zero : ∀ (l : List PV) (e : Int), errL l e = 0 → e = 0 ∧ ∀ n, n ∈ l → checkN (n.fld 0).asList (n.fld 1).asInt = 0 := by
  intro l
  induction l with
  | nil => intro e h; exact ⟨h, fun n hn => by cases hn⟩
  | cons n r ih =>
    intro e h
    obtain ⟨h1, h2⟩ := ih _ h
    obtain ⟨h3, h4⟩ := errN_zero h1
    exact ⟨h3, fun x hx => by
      rcases List.mem_cons.1 hx with rfl | hx
      · exact h4
      · exact h2 x hx⟩
theorem checkN_few {l : List PV} {t : Int} (h : checkN l t = 0) : l.length ≤ 40 := by
  unfold checkN at h
  split at h
  · cases h
  · omega
theorem nt_few {f : PV} (h : ntFile f = 0) {n : PV} (hn : n ∈ nlFile f) : (n.fld 0).asList.length ≤ 40 := by
  rw [← errL_file] at h
  exact checkN_few ((errL_zero _ _ h).2 n hn)
theorem span_le {a b : Int} (hab : a ≤ b) {x : PV} (h : spanP a x = true) : spanP b x = true := by
  unfold spanP at *
  simp only [decide_eq_true_eq] at *
  omega
theorem row_ok {x : PV} (h : OkFld x) (ha : argFld x = true) (hn : (x.fld 8).asList.length ≤ 40) : RowOk x := by
  unfold argFld rangeF at ha
  simp only [Bool.and_eq_true, decide_eq_true_eq] at ha
  obtain ⟨⟨⟨⟨h1, h2, h3, h4, _⟩, _⟩, _⟩, _⟩ := ha
  exact ⟨h, h1, h2, h3, h4, hn⟩
/-- What has been checked can be printed. -/
theorem file_ok {f : PV} (h : OkFile f) (ha : argFile f = true) (hn : ntFile f = 0) (hc : cntFile f = true) : FileOk f := by
  unfold argFile at ha
  unfold cntFile cntTop at hc
  simp only [Bool.and_eq_true, decide_eq_true_eq, List.all_eq_true] at ha hc
  obtain ⟨⟨a1, a2⟩, a3⟩ := ha
  obtain ⟨⟨⟨⟨⟨⟨c1, c2⟩, c3⟩, c4⟩, c5⟩, c6⟩, c7⟩ := hc
  refine ⟨h, c1, c2, fun m hm => ?_, c3, fun m hm => ?_, c4, fun m hm => ?_⟩
  · have ho := h.msg m hm
    have hm1 := a1 m hm
    have hm2 := c5 m hm
    unfold argMsg at hm1
    unfold cntMsg at hm2
    simp only [Bool.and_eq_true, decide_eq_true_eq, List.all_eq_true] at hm1 hm2
    have hin : ∀ n, n ∈ nlMsg m → n ∈ nlFile f := fun n hn => by
      unfold nlFile
      exact List.mem_append_left _ (List.mem_append_left _ (List.mem_flatMap.2 ⟨m, hm, hn⟩))
    refine ⟨ho, fun x hx => row_ok (ho.field x hx) (hm1.1.1 x hx) ?_, hm2.1.1, hm2.1.2, fun x hx => span_le (by decide) (hm1.2 x hx), hm2.2, ?_⟩
    · exact nt_few (n := nv (x.fld 8).asList 2) hn (hin _ (List.mem_cons_of_mem _ (List.mem_map.2 ⟨x, hx, rfl⟩)))
    · exact nt_few (n := nv (m.fld 4).asList 1) hn (hin _ (List.mem_cons_self ..))
  · have ho := h.enum m hm
    have hm1 := a2 m hm
    have hm2 := c6 m hm
    unfold argEnum at hm1
    unfold cntEnum at hm2
    simp only [Bool.and_eq_true, decide_eq_true_eq, List.all_eq_true] at hm1 hm2
    have hin : ∀ n, n ∈ nlEnum m → n ∈ nlFile f := fun n hn => by
      unfold nlFile
      exact List.mem_append_left _ (List.mem_append_right _ (List.mem_flatMap.2 ⟨m, hm, hn⟩))
    refine ⟨ho, hm2.1, fun x hx => ?_, fun x hx => ?_, hm2.2, hm1.1, ?_⟩
    · have := hm1.2 x hx
      unfold argItem at this
      simp only [Bool.and_eq_true, decide_eq_true_eq] at this
      exact ⟨this.1, this.2⟩
    · exact nt_few (n := nv (x.fld 2).asList 4) hn (hin _ (List.mem_cons_of_mem _ (List.mem_map.2 ⟨x, hx, rfl⟩)))
    · exact nt_few (n := nv (m.fld 4).asList 3) hn (hin _ (List.mem_cons_self ..))
  · have ho := h.svc m hm
    have hm2 := c7 m hm
    unfold cntSvc at hm2
    simp only [decide_eq_true_eq] at hm2
    have hin : ∀ n, n ∈ nlSvc m → n ∈ nlFile f := fun n hn => by
      unfold nlFile
      exact List.mem_append_right _ (List.mem_flatMap.2 ⟨m, hm, hn⟩)
    refine ⟨ho, hm2, fun x hx => ?_, ?_⟩
    · exact nt_few (n := nv (x.fld 4).asList 6) hn (hin _ (List.mem_cons_of_mem _ (List.mem_map.2 ⟨x, hx, rfl⟩)))
    · exact nt_few (n := nv (m.fld 2).asList 5) hn (hin _ (List.mem_cons_self ..))
noncomputable def chkF (f : PV) : Int :=
  bif !nmFile f then 8 else bif !argFile f then 1 else bif !txFile f then 7 else bif ntFile f != 0 then ntFile f else bif !cntFile f then 3 else bif decide (((fileT f).length : Int) > 16384) then 3 else 0
theorem nlFile_len (f : PV) (h : OkFile f) : (nlFile f).length ≤ 100000000 := by
  have hm := h.many
  have e : ∀ (g : PV → List PV) (i : Nat), (∀ m, (g m).length = (m.fld i).asList.length + 1) → ∀ l : List PV, (l.flatMap g).length = parts1 l i := by
    intro g i hg l
    induction l with
    | nil => rfl
    | cons m r ih => rw [List.flatMap_cons, List.length_append, ih, hg]; rfl
  unfold nlFile
  rw [List.length_append, List.length_append, e nlMsg 1 (fun m => by simp [nlMsg]), e nlEnum 2 (fun m => by simp [nlEnum]), e nlSvc 1 (fun m => by simp [nlSvc])]
  omega
theorem chk_eq (f : PV) (h : OkFile f) : F12 0 f = some (chkF f) := by
  have q := checkAll_loop f (nlFile f) (nlFile_len f h) (nlFile_ok f h) (nlFile f).length 0 (by omega)
  rw [List.drop_zero, errL_file] at q
  unfold F12 chkF
  simp only [names_eq f h, Option.bind_some, numbers_eq f h, texts_eq f h, nl_eq f h, loopQ0]
  rw [show (0 : Int) = ((0 : Nat) : Int) from rfl, q]
  cases nmFile f with
  | false => rfl
  | true =>
    cases ha : argFile f with
    | false => rfl
    | true =>
      cases txFile f with
      | false => rfl
      | true =>
        by_cases hn : ntFile f = 0
        · simp only [hn, Bool.not_true, cond_false, beq_self_eq_true, cond_true, Option.bind_some, sumE_inr, counts_eq f h]
          cases hc : cntFile f with
          | false => rfl
          | true =>
            simp only [Bool.not_true, Bool.not_false, cond_true, cond_false, text_eq' f (file_ok h ha hn hc), Option.bind_some]
            show (bif decide (((fileT f).length : Int) > (16384 : Int)) then some (3 : Int) else some 0) = some (bif decide (((fileT f).length : Int) > 16384) then 3 else 0)
            cases decide (((fileT f).length : Int) > (16384 : Int)) <;> rfl
        · have e1 : (ntFile f == (0 : Int)) = false := beqI hn
          have e2 : (ntFile f != (0 : Int)) = true := bneI hn
          simp only [Bool.not_true, cond_false, e1, e2, Option.bind_some, sumE_inl]
          rw [show ((0 : Nat) : Int) = (0 : Int) from rfl, e2]
          rfl
theorem chk_zero {f : PV} (h : OkFile f) (hz : chkF f = 0) : FileOk f := by
  unfold chkF at hz
  cases h1 : nmFile f <;> rw [h1] at hz
  · cases hz
  cases h2 : argFile f <;> rw [h2] at hz
  · cases hz
  cases h3 : txFile f <;> rw [h3] at hz
  · cases hz
  simp only [Bool.not_true, cond_false] at hz
  by_cases hn : ntFile f = 0
  · rw [hn] at hz
    cases h4 : cntFile f <;> rw [h4] at hz
    · cases hz
    exact file_ok h h2 hn h4
  · rw [bneI hn] at hz
    exact absurd hz hn
theorem print_eq (f : PV) (h : OkFile f) : F15 0 f = some (bif chkF f != 0 then [] else fileT f) := by
  unfold F15
  rw [chk_eq f h, Option.bind_some]
  by_cases hz : chkF f = 0
  · rw [hz, text_eq' f (chk_zero h hz)]; rfl
  · rw [bneI hz]; rfl
end Go.Ab
namespace Go.Ab
open Go
set_option maxRecDepth 100000
theorem bulk_parts (v : PV) : bulkPVs v.asList ≤ bulkPV v := by cases v <;> simp [PV.asList, bulkPVs, bulkPV]
theorem bulk_part (v : PV) (i : Nat) : bulkPV (v.fld i) ≤ bulkPV v := by
  unfold PV.fld
  cases v with
  | agg xs =>
    show bulkPV (xs.getD i .bad) ≤ bulkPVs xs + 1
    by_cases h : i < xs.length
    · have : xs.getD i .bad ∈ xs := by rw [getD_of_lt h]; exact List.getElem_mem h
      have := bulkPVs_mem this; omega
    · have : xs.getD i .bad = .bad := by simp [List.getD, List.getElem?_eq_none (Nat.le_of_not_lt h)]
      rw [this]; simp [bulkPV]
  | _ => simp [PV.parts, bulkPV]
theorem bmem {xs : List PV} {n i : Nat} (hb : bulkPVs xs ≤ n) (h : i < xs.length) : bulkPV (xs.getD i .bad) ≤ n := by
  have : xs.getD i .bad ∈ xs := by rw [getD_of_lt h]; exact List.getElem_mem h
  have := bulkPVs_mem this; omega
theorem bsub {v : PV} {n : Nat} (hb : bulkPV v ≤ n) (i : Nat) : bulkPVs (v.fld i).asList ≤ n := by
  have := bulk_part v i; have := bulk_parts (v.fld i); omega
theorem blen {v : PV} {n : Nat} (hb : bulkPV v ≤ n) (i : Nat) : (v.fld i).asList.length ≤ n := by
  have := bsub hb i; have := bulkPVs_length (v.fld i).asList; omega
/- few: it ends. -/
theorem size_tot (xs : List PV) (hb : xs.length ≤ 1048576) : ∃ n, F27 0 xs = some n := by
  obtain ⟨r, h1, _⟩ := loopW_tot (step := S27_4step 0) (fun x => xs.length - x.2.2.toNat) (fun x => x.1 = xs ∧ ∃ i : Nat, x.2.2 = (i : Int) ∧ i ≤ xs.length) (fun _ => True) (fun x hx => by
    obtain ⟨a, n, j⟩ := x
    have h1 : a = xs := hx.1
    obtain ⟨i, hj, hi⟩ := hx.2
    simp only at hj hi
    rw [h1, hj]
    by_cases hlt : i < xs.length
    · refine Or.inl ⟨(xs, _, ((i + 1 : Nat) : Int)), by simp only [S27_4step, S27_4, lt_int, inRange_nat, hlt, decide_true, cond_true, waddB i (by omega)]; rfl, ⟨rfl, i + 1, rfl, by omega⟩, ?_⟩
      show xs.length - ((i + 1 : Nat) : Int).toNat < xs.length - (i : Int).toNat
      omega
    · exact Or.inr ⟨n, by simp only [S27_4step, S27_4, lt_int, hlt, decide_false, cond_false], trivial⟩) (xs, 0, 0) ⟨rfl, 0, rfl, by omega⟩
  refine ⟨r, ?_⟩
  show (loopW (S27_4step 0) (xs, 0, 0)).bind _ = _
  rw [h1]; rfl
theorem few_6 (a : PV) (hb : bulkPV a ≤ 1048576) (n : Int) : ∃ r, loopQ 0 (S11_6step 0) ((), n, (0 : Int), a) = some r ∧ (match r with | .inl _ => True | .inr y => y.2.2 = a) := by
  have hl := blen hb 3
  refine loopW_tot (step := S11_6step 0) (fun x => (a.fld 3).asList.length - x.2.2.1.toNat) (fun x => x.2.2.2 = a ∧ ∃ i : Nat, x.2.2.1 = (i : Int) ∧ i ≤ (a.fld 3).asList.length) (fun r => match r with | .inl _ => True | .inr y => y.2.2 = a) (fun x hx => ?_) ((), n, 0, a) ⟨rfl, 0, rfl, by omega⟩
  obtain ⟨u, n, j, a'⟩ := x
  obtain ⟨ha, i, hj, hi⟩ := hx
  simp only at hj ha; subst hj; subst ha
  by_cases hlt : i < (a'.fld 3).asList.length
  · have hm : bulkPV ((a'.fld 3).asList.getD i .bad) ≤ 1048576 := bmem (bsub hb 3) hlt
    obtain ⟨k, hk⟩ := size_tot (((a'.fld 3).asList.getD i .bad).fld 3).asList (blen hm 3)
    have hs : S11_6step 0 ((), n, (i : Int), a') = (bif (bif (bif decide ((((((a'.fld 3).asList.getD i .bad).fld 1).asList.length : Int)) > (70 : Int)) then true else decide ((((((a'.fld 3).asList.getD i .bad).fld 2).asList.length : Int)) > (70 : Int))) then true else decide ((((((a'.fld 3).asList.getD i .bad).fld 3).asList.length : Int)) > (70 : Int))) then some (.inr (.inl (false, a'))) else some (.inl ((), IntKind.wrap .i64 (n + k), ((i + 1 : Nat) : Int), a'))) := by
      simp only [S11_6step, S11_6, lt_int, inRange_nat, hlt, decide_true, cond_true, imp, Int.toNat_natCast, waddB i (by omega), hk, Option.bind_some]
    cases hc : (bif (bif decide ((((((a'.fld 3).asList.getD i .bad).fld 1).asList.length : Int)) > (70 : Int)) then true else decide ((((((a'.fld 3).asList.getD i .bad).fld 2).asList.length : Int)) > (70 : Int))) then true else decide ((((((a'.fld 3).asList.getD i .bad).fld 3).asList.length : Int)) > (70 : Int))) with
    | true => rw [hc] at hs; exact Or.inr ⟨_, hs, trivial⟩
    | false =>
      rw [hc] at hs
      refine Or.inl ⟨_, hs, ⟨rfl, i + 1, rfl, by omega⟩, ?_⟩
      show (a'.fld 3).asList.length - ((i + 1 : Nat) : Int).toNat < (a'.fld 3).asList.length - (i : Int).toNat
      omega
  · exact Or.inr ⟨_, by simp only [S11_6step, S11_6, lt_int, hlt, decide_false, cond_false]; rfl, rfl⟩
theorem few_13 (a : PV) (hb : bulkPV a ≤ 1048576) (n : Int) : ∃ r, loopQ 0 (S11_13step 0) ((), n, (0 : Int), a) = some r ∧ (match r with | .inl _ => True | .inr y => y.2.2 = a) := by
  have hl := blen hb 4
  refine loopW_tot (step := S11_13step 0) (fun x => (a.fld 4).asList.length - x.2.2.1.toNat) (fun x => x.2.2.2 = a ∧ ∃ i : Nat, x.2.2.1 = (i : Int) ∧ i ≤ (a.fld 4).asList.length) (fun r => match r with | .inl _ => True | .inr y => y.2.2 = a) (fun x hx => ?_) ((), n, 0, a) ⟨rfl, 0, rfl, by omega⟩
  obtain ⟨u, n, j, a'⟩ := x
  obtain ⟨ha, i, hj, hi⟩ := hx
  simp only at hj ha; subst hj; subst ha
  by_cases hlt : i < (a'.fld 4).asList.length
  · have hm : bulkPV ((a'.fld 4).asList.getD i .bad) ≤ 1048576 := bmem (bsub hb 4) hlt
    have hs : S11_13step 0 ((), n, (i : Int), a') = (bif (bif decide ((((((a'.fld 4).asList.getD i .bad).fld 2).asList.length : Int)) > (70 : Int)) then true else decide ((((((a'.fld 4).asList.getD i .bad).fld 3).asList.length : Int)) > (70 : Int))) then some (.inr (.inl (false, a'))) else some (.inl ((), n, ((i + 1 : Nat) : Int), a'))) := by
      simp only [S11_13step, S11_13, lt_int, inRange_nat, hlt, decide_true, cond_true, imp, Int.toNat_natCast, waddB i (by omega)]
    cases hc : (bif decide ((((((a'.fld 4).asList.getD i .bad).fld 2).asList.length : Int)) > (70 : Int)) then true else decide ((((((a'.fld 4).asList.getD i .bad).fld 3).asList.length : Int)) > (70 : Int))) with
    | true => rw [hc] at hs; exact Or.inr ⟨_, hs, trivial⟩
    | false =>
      rw [hc] at hs
      refine Or.inl ⟨_, hs, ⟨rfl, i + 1, rfl, by omega⟩, ?_⟩
      show (a'.fld 4).asList.length - ((i + 1 : Nat) : Int).toNat < (a'.fld 4).asList.length - (i : Int).toNat
      omega
  · exact Or.inr ⟨_, by simp only [S11_13step, S11_13, lt_int, hlt, decide_false, cond_false]; rfl, rfl⟩
theorem few_18 (a : PV) (hb : bulkPV a ≤ 1048576) (n : Int) : ∃ r, loopQ 0 (S11_18step 0) ((), n, (0 : Int), a) = some r ∧ (match r with | .inl _ => True | .inr y => y.2 = a) := by
  have hl := blen hb 5
  refine loopW_tot (step := S11_18step 0) (fun x => (a.fld 5).asList.length - x.2.2.1.toNat) (fun x => x.2.2.2 = a ∧ ∃ i : Nat, x.2.2.1 = (i : Int) ∧ i ≤ (a.fld 5).asList.length) (fun r => match r with | .inl _ => True | .inr y => y.2 = a) (fun x hx => ?_) ((), n, 0, a) ⟨rfl, 0, rfl, by omega⟩
  obtain ⟨u, n, j, a'⟩ := x
  obtain ⟨ha, i, hj, hi⟩ := hx
  simp only at hj ha; subst hj; subst ha
  by_cases hlt : i < (a'.fld 5).asList.length
  · have hm : bulkPV ((a'.fld 5).asList.getD i .bad) ≤ 1048576 := bmem (bsub hb 5) hlt
    have hs : S11_18step 0 ((), n, (i : Int), a') = (bif (decide ((((((a'.fld 5).asList.getD i .bad).fld 1).asList.length : Int)) > (70 : Int))) then some (.inr (.inl (false, a'))) else some (.inl ((), n, ((i + 1 : Nat) : Int), a'))) := by
      simp only [S11_18step, S11_18, lt_int, inRange_nat, hlt, decide_true, cond_true, imp, Int.toNat_natCast, waddB i (by omega)]
    cases hc : (decide ((((((a'.fld 5).asList.getD i .bad).fld 1).asList.length : Int)) > (70 : Int))) with
    | true => rw [hc] at hs; exact Or.inr ⟨_, hs, trivial⟩
    | false =>
      rw [hc] at hs
      refine Or.inl ⟨_, hs, ⟨rfl, i + 1, rfl, by omega⟩, ?_⟩
      show (a'.fld 5).asList.length - ((i + 1 : Nat) : Int).toNat < (a'.fld 5).asList.length - (i : Int).toNat
      omega
  · exact Or.inr ⟨_, by simp only [S11_18step, S11_18, lt_int, hlt, decide_false, cond_false]; rfl, rfl⟩
theorem few_tot (a : PV) (hb : bulkPV a ≤ 1048576) : ∃ b, F11 0 a = some b := by
  unfold F11
  obtain ⟨k, hk⟩ := size_tot (a.fld 2).asList (blen hb 2)
  rw [hk]
  generalize (bif (bif _ then true else _) then true else _) = c
  cases c with
  | true => exact ⟨false, rfl⟩
  | false =>
    simp only [cond_false, Option.bind_some]
    obtain ⟨r1, h1, q1⟩ := few_6 a hb k
    rw [h1]
    simp only [Option.bind_some]
    cases r1 with
    | inl y => exact ⟨_, rfl⟩
    | inr y =>
      simp only at q1
      simp only [sumE_inr, q1]
      obtain ⟨r2, h2, q2⟩ := few_13 a hb y.2.1
      rw [h2]
      simp only [Option.bind_some]
      cases r2 with
      | inl y => exact ⟨_, rfl⟩
      | inr y =>
        simp only at q2
        simp only [sumE_inr, q2]
        obtain ⟨r3, h3, q3⟩ := few_18 a hb y.2.1
        rw [h3]
        simp only [Option.bind_some]
        cases r3 with
        | inl y => exact ⟨_, rfl⟩
        | inr y => exact ⟨_, rfl⟩
end Go.Ab
namespace Go.Ab
open Go
set_option maxRecDepth 100000
end Go.Ab
namespace Go.Ab
open Go
set_option maxRecDepth 100000
/-- What follows does not begin with such a character. -/
def stopB (p : UInt8 → Bool) (s : List UInt8) : Prop := ∀ c r, s = c :: r → p c = false
/- Quoted texts. -/
/-- A byte's form. -/
def codeOk (b : UInt8) (c : List UInt8) : Prop := (c = [b] ∧ b ≠ 34 ∧ b ≠ 92) ∨ (b = 34 ∧ c = [92, 34]) ∨ (b = 92 ∧ c = [92, 92]) ∨ (b = 10 ∧ c = [92, 110]) ∨ (b = 9 ∧ c = [92, 116]) ∨ (b = 13 ∧ c = [92, 114]) ∨ c = 92 :: 120 :: hex2 b.toNat
inductive Codes : List UInt8 → List UInt8 → Prop
  | nil : Codes [] []
  | cons {b : UInt8} {c r q : List UInt8} : codeOk b c → Codes r q → Codes (b :: r) (c ++ q)
theorem codes_raw : ∀ (l : List UInt8) {r q : List UInt8}, (∀ b, b ∈ l → b ≠ 34 ∧ b ≠ 92) → Codes r q → Codes (l ++ r) (l ++ q) := by
  intro l
  induction l with
  | nil => intro r q _ h; exact h
  | cons b l ih =>
    intro r q hl h
    have h1 := hl b (by simp)
    show Codes (b :: (l ++ r)) ([b] ++ (l ++ q))
    exact .cons (Or.inl ⟨rfl, h1.1, h1.2⟩) (ih (fun x hx => hl x (by simp [hx])) h)
theorem byte_ne {s : List UInt8} {i : Nat} {k : UInt8} (h : byteAt s i ≠ k.toNat) : s.getD i 0 ≠ k := fun e => h (by unfold byteAt; rw [e])
theorem byte_is {s : List UInt8} {i : Nat} {k : UInt8} (h : byteAt s i = k.toNat) : s.getD i 0 = k := UInt8.toNat_inj.1 h
theorem quote_codes (s : List UInt8) : ∀ (m i : Nat), s.length - i ≤ m → Codes (s.drop i) (quoteFrom s i) := by
  intro m
  induction m with
  | zero =>
    intro i hm
    rw [List.drop_eq_nil_of_le (by omega), quoteFrom, if_neg (by omega)]
    exact .nil
  | succ m ih =>
    intro i hm
    by_cases hi : i < s.length
    · have hp := stepLen_pos s i
      have hr := ih (i + stepLen s i) (by omega)
      rw [quoteFrom, if_pos hi]
      unfold partAt
      have one : sizeAt s i ≤ 1 → stepLen s i = 1 := fun h => by unfold stepLen; split <;> omega
      have lone : ∀ c : List UInt8, byteAt s i < 128 ∨ sizeAt s i = 0 → codeOk (s.getD i 0) c → Codes (s.drop i) (c ++ quoteFrom s (i + stepLen s i)) := fun c hz hc => by
        have h1 : stepLen s i = 1 := one (by rcases hz with h | h; · rw [size_ascii s i h]; exact Nat.le_refl _
                                             · omega)
        rw [h1] at hr ⊢
        rw [drop_cons hi 0]
        exact .cons hc hr
      by_cases c1 : byteAt s i = 34
      · rw [if_pos c1]; exact lone _ (Or.inl (by omega)) (Or.inr (Or.inl ⟨byte_is c1, rfl⟩))
      rw [if_neg c1]
      by_cases c2 : byteAt s i = 92
      · rw [if_pos c2]; exact lone _ (Or.inl (by omega)) (Or.inr (Or.inr (Or.inl ⟨byte_is c2, rfl⟩)))
      rw [if_neg c2]
      by_cases c3 : byteAt s i = 10
      · rw [if_pos c3]; exact lone _ (Or.inl (by omega)) (Or.inr (Or.inr (Or.inr (Or.inl ⟨byte_is c3, rfl⟩))))
      rw [if_neg c3]
      by_cases c4 : byteAt s i = 9
      · rw [if_pos c4]; exact lone _ (Or.inl (by omega)) (Or.inr (Or.inr (Or.inr (Or.inr (Or.inl ⟨byte_is c4, rfl⟩)))))
      rw [if_neg c4]
      by_cases c5 : byteAt s i = 13
      · rw [if_pos c5]; exact lone _ (Or.inl (by omega)) (Or.inr (Or.inr (Or.inr (Or.inr (Or.inr (Or.inl ⟨byte_is c5, rfl⟩))))))
      rw [if_neg c5]
      by_cases c6 : byteAt s i < 32 ∨ byteAt s i = 127 ∨ sizeAt s i = 0
      · rw [if_pos c6]
        exact lone _ (by omega) (Or.inr (Or.inr (Or.inr (Or.inr (Or.inr (Or.inr rfl))))))
      · rw [if_neg c6]
        have h0 : sizeAt s i ≠ 0 := by omega
        have hst : stepLen s i = sizeAt s i := by unfold stepLen; rw [if_neg h0]
        rw [hst] at hr ⊢
        have e : s.drop i = (s.drop i).take (sizeAt s i) ++ s.drop (i + sizeAt s i) := by rw [← List.drop_drop, List.take_append_drop]
        rw [show Codes (s.drop i) _ = Codes ((s.drop i).take (sizeAt s i) ++ s.drop (i + sizeAt s i)) _ by rw [← e]]
        refine codes_raw _ (fun b hb => ?_) hr
        obtain ⟨j, hj, rfl⟩ := List.mem_iff_getElem.1 hb
        have hjs : j < sizeAt s i := by rw [List.length_take] at hj; omega
        have hjl : i + j < s.length := by rw [List.length_take, List.length_drop] at hj; omega
        have ej : ((s.drop i).take (sizeAt s i))[j] = s.getD (i + j) 0 := by
          rw [List.getElem_take, List.getElem_drop, getD_of_lt hjl]
        rw [ej]
        have big : byteAt s (i + j) ≠ 34 ∧ byteAt s (i + j) ≠ 92 := by
          have q0 : byteAt s (i + 0) = byteAt s i := rfl
          rcases sizeN_cases (s.length - i) (byteAt s i) (byteAt s (i + 1)) (byteAt s (i + 2)) (byteAt s (i + 3)) (by omega) with h | ⟨h, c⟩ | ⟨h, c⟩ | ⟨h, c⟩ | ⟨h, c⟩
          · exact absurd h h0
          · have h : sizeAt s i = 1 := h
            have : j = 0 := by omega
            subst this; omega
          · have h : sizeAt s i = 2 := h
            have : j = 0 ∨ j = 1 := by omega
            rcases this with rfl | rfl <;> omega
          · have h : sizeAt s i = 3 := h
            have : j = 0 ∨ j = 1 ∨ j = 2 := by omega
            rcases this with rfl | rfl | rfl <;> omega
          · have h : sizeAt s i = 4 := h
            have : j = 0 ∨ j = 1 ∨ j = 2 ∨ j = 3 := by omega
            rcases this with rfl | rfl | rfl | rfl <;> omega
        exact ⟨byte_ne big.1, byte_ne big.2⟩
    · rw [List.drop_eq_nil_of_le (by omega), quoteFrom, if_neg hi]
      exact .nil
/- Numerals. -/
def digC (c : UInt8) : Bool := decide (48 ≤ c.toNat ∧ c.toNat ≤ 57)
theorem decB_dig {u : Nat} (hu : u < 100000000000000000000) : ∀ c, c ∈ decB u → digC c = true := by
  rw [decB_eq hu]
  intro c hc
  exact decide_eq_true ((dec_facts u).1 c hc)
theorem decB_ne (u : Nat) : decB u ≠ [] := decF_ne 19 u
end Go.Ab
