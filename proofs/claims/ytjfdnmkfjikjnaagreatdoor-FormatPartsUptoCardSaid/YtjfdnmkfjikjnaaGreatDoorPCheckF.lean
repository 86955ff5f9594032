/- Check, Print, Field, Type, Literal: the same in the program and the specification. -/
import Derived.Test.YtjfdnmkfjikjnaaGreatDoorPFileF
set_option linter.unusedVariables false
set_option linter.unusedSimpArgs false
set_option linter.unnecessarySimpa false
namespace Go.Ab
open Go
set_option maxRecDepth 100000

theorem errN_zero {e : Int} {l : List PV} {t : Int} (h : errN e l t = 0) : e = 0 ∧ checkN l t = 0 := by
  unfold errN at h
  by_cases he : e = 0
  · subst he; exact ⟨rfl, h⟩
  · rw [bneI he] at h; exact absurd h he
theorem errL_zero : ∀ (l : List PV) (e : Int), errL l e = 0 → e = 0 ∧ ∀ n, n ∈ l → checkN (n.fld 0).asList (n.fld 1).asInt = 0 := by
  intro l
  induction l with
  | nil => intro e h; exact ⟨h, fun n hn => by cases hn⟩
  | cons n r ih =>
    intro e h
    obtain ⟨h1, h2⟩ := ih _ h
    obtain ⟨h3, h4⟩ := errN_zero h1
    exact ⟨h3, fun x hx => by
      rcases List.mem_cons.1 hx with rfl | hx
      · exact h4
      · exact h2 x hx⟩
theorem checkN_few {l : List PV} {t : Int} (h : checkN l t = 0) : l.length ≤ 40 := by
  unfold checkN at h
  split at h
  · cases h
  · omega
theorem nt_few {f : PV} (h : ntFile f = 0) {n : PV} (hn : n ∈ nlFile f) : (n.fld 0).asList.length ≤ 40 := by
  rw [← errL_file] at h
  exact checkN_few ((errL_zero _ _ h).2 n hn)
theorem span_le {a b : Int} (hab : a ≤ b) {x : PV} (h : spanP a x = true) : spanP b x = true := by
  unfold spanP at *
  simp only [decide_eq_true_eq] at *
  omega
theorem row_ok {x : PV} (h : OkFld x) (ha : argFld x = true) (hn : (x.fld 8).asList.length ≤ 40) : RowOk x := by
  unfold argFld rangeF at ha
  simp only [Bool.and_eq_true, decide_eq_true_eq] at ha
  obtain ⟨⟨⟨⟨h1, h2, h3, h4, _⟩, _⟩, _⟩, _⟩ := ha
  exact ⟨h, h1, h2, h3, h4, hn⟩
/-- What has been checked can be printed. -/
theorem file_ok {f : PV} (h : OkFile f) (ha : argFile f = true) (hn : ntFile f = 0) (hc : cntFile f = true) : FileOk f := by
  unfold argFile at ha
  unfold cntFile cntTop at hc
  simp only [Bool.and_eq_true, decide_eq_true_eq, List.all_eq_true] at ha hc
  obtain ⟨⟨a1, a2⟩, a3⟩ := ha
  obtain ⟨⟨⟨⟨⟨⟨c1, c2⟩, c3⟩, c4⟩, c5⟩, c6⟩, c7⟩ := hc
  refine ⟨h, c1, c2, fun m hm => ?_, c3, fun m hm => ?_, c4, fun m hm => ?_⟩
  · have ho := h.msg m hm
    have hm1 := a1 m hm
    have hm2 := c5 m hm
    unfold argMsg at hm1
    unfold cntMsg at hm2
    simp only [Bool.and_eq_true, decide_eq_true_eq, List.all_eq_true] at hm1 hm2
    have hin : ∀ n, n ∈ nlMsg m → n ∈ nlFile f := fun n hn => by
      unfold nlFile
      exact List.mem_append_left _ (List.mem_append_left _ (List.mem_flatMap.2 ⟨m, hm, hn⟩))
    refine ⟨ho, fun x hx => row_ok (ho.field x hx) (hm1.1.1 x hx) ?_, hm2.1.1, hm2.1.2, fun x hx => span_le (by decide) (hm1.2 x hx), hm2.2, ?_⟩
    · exact nt_few (n := nv (x.fld 8).asList 2) hn (hin _ (List.mem_cons_of_mem _ (List.mem_map.2 ⟨x, hx, rfl⟩)))
    · exact nt_few (n := nv (m.fld 4).asList 1) hn (hin _ (List.mem_cons_self ..))
  · have ho := h.enum m hm
    have hm1 := a2 m hm
    have hm2 := c6 m hm
    unfold argEnum at hm1
    unfold cntEnum at hm2
    simp only [Bool.and_eq_true, decide_eq_true_eq, List.all_eq_true] at hm1 hm2
    have hin : ∀ n, n ∈ nlEnum m → n ∈ nlFile f := fun n hn => by
      unfold nlFile
      exact List.mem_append_left _ (List.mem_append_right _ (List.mem_flatMap.2 ⟨m, hm, hn⟩))
    refine ⟨ho, hm2.1, fun x hx => ?_, fun x hx => ?_, hm2.2, hm1.1, ?_⟩
    · have := hm1.2 x hx
      unfold argItem at this
      simp only [Bool.and_eq_true, decide_eq_true_eq] at this
      exact ⟨this.1, this.2⟩
    · exact nt_few (n := nv (x.fld 2).asList 4) hn (hin _ (List.mem_cons_of_mem _ (List.mem_map.2 ⟨x, hx, rfl⟩)))
    · exact nt_few (n := nv (m.fld 4).asList 3) hn (hin _ (List.mem_cons_self ..))
  · have ho := h.svc m hm
    have hm2 := c7 m hm
    unfold cntSvc at hm2
    simp only [decide_eq_true_eq] at hm2
    have hin : ∀ n, n ∈ nlSvc m → n ∈ nlFile f := fun n hn => by
      unfold nlFile
      exact List.mem_append_right _ (List.mem_flatMap.2 ⟨m, hm, hn⟩)
    refine ⟨ho, hm2, fun x hx => ?_, ?_⟩
    · exact nt_few (n := nv (x.fld 4).asList 6) hn (hin _ (List.mem_cons_of_mem _ (List.mem_map.2 ⟨x, hx, rfl⟩)))
    · exact nt_few (n := nv (m.fld 2).asList 5) hn (hin _ (List.mem_cons_self ..))
noncomputable def chkF (f : PV) : Int :=
  bif !nmFile f then 8 else bif !argFile f then 1 else bif !txFile f then 7 else bif ntFile f != 0 then ntFile f else bif !cntFile f then 3 else bif decide (((fileT f).length : Int) > 16384) then 3 else 0
theorem nlFile_len (f : PV) (h : OkFile f) : (nlFile f).length ≤ 100000000 := by
  have hm := h.many
  have e : ∀ (g : PV → List PV) (i : Nat), (∀ m, (g m).length = (m.fld i).asList.length + 1) → ∀ l : List PV, (l.flatMap g).length = parts1 l i := by
    intro g i hg l
    induction l with
    | nil => rfl
    | cons m r ih => rw [List.flatMap_cons, List.length_append, ih, hg]; rfl
  unfold nlFile
  rw [List.length_append, List.length_append, e nlMsg 1 (fun m => by simp [nlMsg]), e nlEnum 2 (fun m => by simp [nlEnum]), e nlSvc 1 (fun m => by simp [nlSvc])]
  omega
theorem chk_eq (f : PV) (h : OkFile f) : F12 0 f = some (chkF f) := by
  have q := checkAll_loop f (nlFile f) (nlFile_len f h) (nlFile_ok f h) (nlFile f).length 0 (by omega)
  rw [List.drop_zero, errL_file] at q
  unfold F12 chkF
  simp only [names_eq f h, Option.bind_some, numbers_eq f h, texts_eq f h, nl_eq f h, loopQ0]
  rw [show (0 : Int) = ((0 : Nat) : Int) from rfl, q]
  cases nmFile f with
  | false => rfl
  | true =>
    cases ha : argFile f with
    | false => rfl
    | true =>
      cases txFile f with
      | false => rfl
      | true =>
        by_cases hn : ntFile f = 0
        · simp only [hn, Bool.not_true, cond_false, beq_self_eq_true, cond_true, Option.bind_some, sumE_inr, counts_eq f h]
          cases hc : cntFile f with
          | false => rfl
          | true =>
            simp only [Bool.not_true, Bool.not_false, cond_true, cond_false, text_eq' f (file_ok h ha hn hc), Option.bind_some]
            show (bif decide (((fileT f).length : Int) > (16384 : Int)) then some (3 : Int) else some 0) = some (bif decide (((fileT f).length : Int) > 16384) then 3 else 0)
            cases decide (((fileT f).length : Int) > (16384 : Int)) <;> rfl
        · have e1 : (ntFile f == (0 : Int)) = false := beqI hn
          have e2 : (ntFile f != (0 : Int)) = true := bneI hn
          simp only [Bool.not_true, cond_false, e1, e2, Option.bind_some, sumE_inl]
          rw [show ((0 : Nat) : Int) = (0 : Int) from rfl, e2]
          rfl
theorem refChk_eq (f : PV) (h : OkFile f) : F13 0 f = some (chkF f) := by
  unfold F13 chkF
  simp only [refNames_eq f h, Option.bind_some, refArguments_eq f h, utf_eq _ h.imports h.importS, loopQ0, refTexts_loop f h, refNt_eq f h, refCounts_eq f h]
  cases nmFile f with
  | false => rfl
  | true =>
    cases ha : argFile f with
    | false => rfl
    | true =>
      have et : (txL (f.fld 2).asList && (f.fld 3).asList.all txMsg) = txFile f := rfl
      simp only [et, Bool.not_true, cond_false]
      cases txFile f with
      | false => rfl
      | true =>
        by_cases hn : ntFile f = 0
        · simp only [hn, Bool.not_true, cond_false]
          cases hc : cntFile f with
          | false => rfl
          | true =>
            simp only [Bool.not_true, Bool.not_false, cond_true, cond_false, refText_eq' f (file_ok h ha hn hc), Option.bind_some]
            show (bif decide (((fileT f).length : Int) > (16384 : Int)) then some (3 : Int) else some 0) = some (bif decide (((fileT f).length : Int) > 16384) then 3 else 0)
            cases decide (((fileT f).length : Int) > (16384 : Int)) <;> rfl
        · have e2 : (ntFile f != (0 : Int)) = true := bneI hn
          simp only [Bool.not_true, cond_false, e2, cond_true]
theorem chk_zero {f : PV} (h : OkFile f) (hz : chkF f = 0) : FileOk f := by
  unfold chkF at hz
  cases h1 : nmFile f <;> rw [h1] at hz
  · cases hz
  cases h2 : argFile f <;> rw [h2] at hz
  · cases hz
  cases h3 : txFile f <;> rw [h3] at hz
  · cases hz
  simp only [Bool.not_true, cond_false] at hz
  by_cases hn : ntFile f = 0
  · rw [hn] at hz
    cases h4 : cntFile f <;> rw [h4] at hz
    · cases hz
    exact file_ok h h2 hn h4
  · rw [bneI hn] at hz
    exact absurd hz hn
theorem print_eq (f : PV) (h : OkFile f) : F15 0 f = some (bif chkF f != 0 then [] else fileT f) := by
  unfold F15
  rw [chk_eq f h, Option.bind_some]
  by_cases hz : chkF f = 0
  · rw [hz, text_eq' f (chk_zero h hz)]; rfl
  · rw [bneI hz]; rfl
theorem refPrint_eq (f : PV) (h : OkFile f) : F16 0 f = some (bif chkF f != 0 then [] else fileT f) := by
  unfold F16
  rw [refChk_eq f h, Option.bind_some]
  by_cases hz : chkF f = 0
  · rw [hz, refText_eq' f (chk_zero h hz)]; rfl
  · rw [bneI hz]; rfl
/- A field alone. -/
def lone1 (x : PV) : PV := PV.agg [(PV.str ([] : List UInt8)), (PV.str ([] : List UInt8)), (PV.slice []), (PV.slice [(PV.agg [(PV.str ([77] : List UInt8)), (PV.slice [x]), (PV.slice []), (PV.slice []), (PV.slice [])])]), (PV.slice []), (PV.slice [])]
theorem lone_ok (x : PV) (h : OkFld x) : OkFile (lone1 x) := by
  refine ⟨by simp [lone1, PV.fld, PV.parts, PV.asStr], by simp [lone1, PV.fld, PV.parts, PV.asList], fun y hy => by simp [lone1, PV.fld, PV.parts, PV.asList] at hy, by simp [lone1, PV.fld, PV.parts, PV.asList], fun y hy => ?_, by simp [lone1, PV.fld, PV.parts, PV.asList], fun y hy => by simp [lone1, PV.fld, PV.parts, PV.asList] at hy, by simp [lone1, PV.fld, PV.parts, PV.asList], fun y hy => by simp [lone1, PV.fld, PV.parts, PV.asList] at hy, by simp [parts1, lone1, PV.fld, PV.parts, PV.asList]⟩
  simp only [lone1, PV.fld, PV.parts, PV.asList, List.getD_cons_succ, List.getD_cons_zero, List.mem_singleton] at hy
  subst hy
  refine ⟨by simp [PV.fld, PV.parts, PV.asStr], by simp [PV.fld, PV.parts, PV.asList], fun y hy => ?_, by simp [PV.fld, PV.parts, PV.asList], by simp [PV.fld, PV.parts, PV.asList], fun y hy => by simp [PV.fld, PV.parts, PV.asList] at hy, by simp [PV.fld, PV.parts, PV.asList], fun y hy => by simp [PV.fld, PV.parts, PV.asList] at hy⟩
  simp only [PV.fld, PV.parts, PV.asList, List.getD_cons_succ, List.getD_cons_zero, List.mem_singleton] at hy
  subst hy
  exact h
theorem lone_row {x : PV} (h : OkFld x) (hz : chkF (lone1 x) = 0) : RowOk x :=
  ((chk_zero (lone_ok x h) hz).msg _ (List.mem_singleton.2 rfl)).rows x (List.mem_singleton.2 rfl)
theorem fieldAlone_eq (x : PV) (h : OkFld x) : F22 0 x = some (bif chkF (lone1 x) != 0 then [] else rowT x) := by
  have hc : F12 0 (lone1 x) = some (chkF (lone1 x)) := chk_eq _ (lone_ok x h)
  unfold lone1 at hc
  unfold F22
  rw [hc, Option.bind_some]
  show _ = some (bif chkF (lone1 x) != 0 then [] else rowT x)
  by_cases hz : chkF (lone1 x) = 0
  · have hz' := hz
    unfold lone1 at hz'
    rw [hz, hz', row_eq x (lone_row h hz)]; rfl
  · have hz' := hz
    unfold lone1 at hz'
    rw [bneI hz, bneI hz']; rfl
theorem refFieldAlone_eq (x : PV) (h : OkFld x) : F23 0 x = some (bif chkF (lone1 x) != 0 then [] else rowT x) := by
  have hc : F13 0 (lone1 x) = some (chkF (lone1 x)) := refChk_eq _ (lone_ok x h)
  unfold lone1 at hc
  unfold F23
  rw [hc, Option.bind_some]
  show _ = some (bif chkF (lone1 x) != 0 then [] else rowT x)
  by_cases hz : chkF (lone1 x) = 0
  · have hz' := hz
    unfold lone1 at hz'
    rw [hz, hz', refRow_eq x (lone_row h hz)]; rfl
  · have hz' := hz
    unfold lone1 at hz'
    rw [bneI hz, bneI hz']; rfl

/- The laws. -/
theorem formatChecks_true (f : PV) (h : OkFile f) (hf : ∃ b, F11 0 f = some b) : F3 0 f = some true := by
  obtain ⟨b, hb⟩ := hf
  unfold F3
  simp only [hb, Option.bind_some, chk_eq f h, refChk_eq f h, beq_self_eq_true, Lawake]
  cases b <;> rfl
theorem formatPrints_true (f : PV) (h : OkFile f) (hf : ∃ b, F11 0 f = some b) : F4 0 f = some true := by
  obtain ⟨b, hb⟩ := hf
  unfold F4
  simp only [hb, Option.bind_some, print_eq f h, refPrint_eq f h, beq_self_eq_true, Lawake]
  cases b <;> rfl
theorem formatParts_true (t v x : PV) (ht : (t.fld 1).asStr.length ≤ 1048576) (hv : smallV v) (h : OkFld x) : F6 0 t v x = some true := by
  unfold F6
  simp only [type_eq t ht, refType_eq t ht, lit_eq v hv, refLit_eq v hv, fieldAlone_eq x h, refFieldAlone_eq x h, Option.bind_some, beq_self_eq_true, cond_true, Lawake]
end Go.Ab
