/- The texts, annotations and counts of a file: the same in the program and the specification. -/
import Derived.Test.YtjfdnmkfjikjnaaGreatDoorPArgsA
set_option linter.unusedVariables false
set_option linter.unusedSimpArgs false
set_option linter.unnecessarySimpa false
namespace Go.Ab
open Go
set_option maxRecDepth 100000
/- Texts. -/
def txL (l : List PV) : Bool := l.all fun x => valid x.asStr
def txMsg (m : PV) : Bool := txL (m.fld 3).asList
def txFile (f : PV) : Bool := txL (f.fld 2).asList && (f.fld 3).asList.all txMsg
theorem txL_eq (l : List PV) (hl : l.length ≤ 1048576) : F95 0 l () = some (txL l) :=
  ev_tx l (fun x => valid x.asStr) hl fun x hx => valid_eq _
theorem texts_eq (f : PV) (h : OkFile f) : F30 0 f = some (txFile f) := by
  unfold F30 txFile
  simp only [txL_eq _ h.imports, Option.bind_some, ev_tm _ txMsg h.msgs fun x hx => by unfold F97; rw [txL_eq _ (h.msg x hx).gone]; rfl]
  cases txL (f.fld 2).asList <;> rfl
/- Counts. -/
def cntMsg (m : PV) : Bool := decide ((m.fld 1).asList.length ≤ 64) && decide ((m.fld 2).asList.length ≤ 16) && decide ((m.fld 3).asList.length ≤ 16)
def cntEnum (m : PV) : Bool := decide ((m.fld 2).asList.length ≤ 64) && decide ((m.fld 3).asList.length ≤ 16)
def cntSvc (m : PV) : Bool := decide ((m.fld 1).asList.length ≤ 64)
def cntTop (f : PV) : Bool := decide ((f.fld 2).asList.length ≤ 16) && decide ((f.fld 3).asList.length ≤ 64) && decide ((f.fld 4).asList.length ≤ 64) && decide ((f.fld 5).asList.length ≤ 64)
def cntFile (f : PV) : Bool := cntTop f && (f.fld 3).asList.all cntMsg && (f.fld 4).asList.all cntEnum && (f.fld 5).asList.all cntSvc
theorem le64 (n : Nat) : decide ((n : Int) ≤ (64 : Int)) = decide (n ≤ 64) := leI n 64
theorem le16 (n : Nat) : decide ((n : Int) ≤ (16 : Int)) = decide (n ≤ 16) := leI n 16
theorem cntMsg_eq (m : PV) : F99 0 m = some (cntMsg m) := by
  unfold F99 cntMsg
  have e : decide ((if (((m.fld 3).asList.length : Int)) > ((m.fld 2).asList.length : Int) then ((m.fld 3).asList.length : Int) else ((m.fld 2).asList.length : Int)) ≤ (16 : Int)) = (decide ((m.fld 2).asList.length ≤ 16) && decide ((m.fld 3).asList.length ≤ 16)) := by
    rw [← Bool.decide_and, decide_eq_decide]
    split <;> omega
  simp only [le64, e, condAnd, Bool.and_assoc]
theorem cntEnum_eq (m : PV) : F100 0 m = some (cntEnum m) := by
  unfold F100 cntEnum
  simp only [le64, le16, condAnd]
theorem cntSvc_eq (m : PV) : F101 0 m = some (cntSvc m) := by
  unfold F101 cntSvc
  simp only [le64]
theorem counts_eq (f : PV) (h : OkFile f) : F33 0 f = some (cntFile f) := by
  have e : (bif (decide (((f.fld 2).asList.length : Int) > (16 : Int))) then true else (decide ((if ((f.fld 5).asList.length : Int) > (if ((f.fld 4).asList.length : Int) > ((f.fld 3).asList.length : Int) then ((f.fld 4).asList.length : Int) else ((f.fld 3).asList.length : Int)) then ((f.fld 5).asList.length : Int) else (if ((f.fld 4).asList.length : Int) > ((f.fld 3).asList.length : Int) then ((f.fld 4).asList.length : Int) else ((f.fld 3).asList.length : Int))) > (64 : Int)))) = !cntTop f := by
    unfold cntTop
    rw [condOr]
    simp only [← Bool.decide_and, ← Bool.decide_or, ← decide_not, decide_eq_decide]
    split <;> split <;> omega
  unfold F33 cntFile
  simp only [e, ev_cm _ cntMsg h.msgs fun x hx => cntMsg_eq x, ev_ce _ cntEnum h.enums fun x hx => cntEnum_eq x, ev_cs _ cntSvc h.svcs fun x hx => cntSvc_eq x, Option.bind_some]
  cases cntTop f <;> cases (f.fld 3).asList.all cntMsg <;> cases (f.fld 4).asList.all cntEnum <;> rfl
/- Annotations. -/
noncomputable def errN (e : Int) (l : List PV) (t : Int) : Int := bif e != 0 then e else checkN l t
noncomputable def ntMsg (e : Int) (m : PV) : Int := (m.fld 1).asList.foldl (fun e x => errN e (x.fld 8).asList 2) (errN e (m.fld 4).asList 1)
noncomputable def ntEnum (e : Int) (m : PV) : Int := (m.fld 2).asList.foldl (fun e x => errN e (x.fld 2).asList 4) (errN e (m.fld 4).asList 3)
noncomputable def ntSvc (e : Int) (m : PV) : Int := (m.fld 1).asList.foldl (fun e x => errN e (x.fld 4).asList 6) (errN e (m.fld 2).asList 5)
noncomputable def ntFile (f : PV) : Int := (f.fld 5).asList.foldl ntSvc ((f.fld 4).asList.foldl ntEnum ((f.fld 3).asList.foldl ntMsg 0))
/-- Annotations, and what they annotate. -/
def nv (l : List PV) (t : Int) : PV := PV.agg [(PV.slice l), (PV.int t)]
def nlMsg (m : PV) : List PV := nv (m.fld 4).asList 1 :: (m.fld 1).asList.map fun x => nv (x.fld 8).asList 2
def nlEnum (m : PV) : List PV := nv (m.fld 4).asList 3 :: (m.fld 2).asList.map fun x => nv (x.fld 2).asList 4
def nlSvc (m : PV) : List PV := nv (m.fld 2).asList 5 :: (m.fld 1).asList.map fun x => nv (x.fld 4).asList 6
def nlFile (f : PV) : List PV := (f.fld 3).asList.flatMap nlMsg ++ (f.fld 4).asList.flatMap nlEnum ++ (f.fld 5).asList.flatMap nlSvc
theorem foldl_app {α : Type} (g : α → List PV) : ∀ (l : List α) (acc : List PV), l.foldl (fun acc x => acc ++ g x) acc = acc ++ l.flatMap g := by
  intro l
  induction l with
  | nil => intro acc; simp
  | cons x r ih => intro acc; rw [List.foldl_cons, ih]; simp
theorem foldl_one {α : Type} (g : α → PV) : ∀ (l : List α) (acc : List PV), l.foldl (fun acc x => acc ++ [g x]) acc = acc ++ l.map g := by
  intro l
  induction l with
  | nil => intro acc; simp
  | cons x r ih => intro acc; rw [List.foldl_cons, ih]; simp
theorem parts1_cons {l : List PV} {k i : Nat} (hk : k < l.length) : parts1 (l.drop k) i = ((l.getD k .bad).fld i).asList.length + 1 + parts1 (l.drop (k + 1)) i := by
  rw [drop_cons hk .bad]; rfl
theorem accOk {b : List PV} {x : PV} (h : b.length ≤ 100000000) : decide (b.length + [x].length ≤ accMax) = true := decide_eq_true (by unfold accMax; simp; omega)
theorem nlM_in (f m : PV) (ms : List PV) (n i : Int) (xs : List PV) (hx : xs.length ≤ 1048576) (acc : List PV) (ha : acc.length + xs.length ≤ 100000000) :
    loopW (S31_8step 0) ((), acc, ms, n, i, xs, (xs.length : Int), (0 : Int), f, m) = some ((), acc ++ xs.map (fun x => nv (x.fld 8).asList 2), ms, n, i, f, m) := by
  have q := loopW_foldl (step := S31_8step 0) (fun k (acc : List PV) => ((), acc, ms, n, i, xs, (xs.length : Int), (k : Int), f, m)) (fun acc => ((), acc, ms, n, i, f, m)) xs .bad (fun acc x => acc ++ [nv (x.fld 8).asList 2]) (fun k acc => acc.length + (xs.length - k) ≤ 100000000) (fun k acc hk hI => by
    refine ⟨?_, by simp; omega⟩
    simp only [S31_8step, S31_8, declt, inRange_nat, hk, decide_true, cond_true, Int.toNat_natCast, accOk (show acc.length ≤ 100000000 by omega), wadd' (i := k) (by omega)]
    rfl) (fun acc _ => by
    simp only [S31_8step, S31_8, declt, Nat.lt_irrefl, decide_false, cond_false]) xs.length 0 acc (by omega) (by omega)
  rw [List.drop_zero, foldl_one] at q
  exact q.1
theorem nlE_in (f m : PV) (ms : List PV) (n i : Int) (xs : List PV) (hx : xs.length ≤ 1048576) (acc : List PV) (ha : acc.length + xs.length ≤ 100000000) :
    loopW (S31_18step 0) ((), acc, ms, n, i, xs, (xs.length : Int), (0 : Int), f, m) = some ((), acc ++ xs.map (fun x => nv (x.fld 2).asList 4), ms, n, i, f, m) := by
  have q := loopW_foldl (step := S31_18step 0) (fun k (acc : List PV) => ((), acc, ms, n, i, xs, (xs.length : Int), (k : Int), f, m)) (fun acc => ((), acc, ms, n, i, f, m)) xs .bad (fun acc x => acc ++ [nv (x.fld 2).asList 4]) (fun k acc => acc.length + (xs.length - k) ≤ 100000000) (fun k acc hk hI => by
    refine ⟨?_, by simp; omega⟩
    simp only [S31_18step, S31_18, declt, inRange_nat, hk, decide_true, cond_true, Int.toNat_natCast, accOk (show acc.length ≤ 100000000 by omega), wadd' (i := k) (by omega)]
    rfl) (fun acc _ => by
    simp only [S31_18step, S31_18, declt, Nat.lt_irrefl, decide_false, cond_false]) xs.length 0 acc (by omega) (by omega)
  rw [List.drop_zero, foldl_one] at q
  exact q.1
theorem nlS_in (f m : PV) (ms : List PV) (n i : Int) (xs : List PV) (hx : xs.length ≤ 1048576) (acc : List PV) (ha : acc.length + xs.length ≤ 100000000) :
    loopW (S31_28step 0) (acc, ms, n, i, xs, (xs.length : Int), (0 : Int), f, m) = some (acc ++ xs.map (fun x => nv (x.fld 4).asList 6), ms, n, i, f, m) := by
  have q := loopW_foldl (step := S31_28step 0) (fun k (acc : List PV) => (acc, ms, n, i, xs, (xs.length : Int), (k : Int), f, m)) (fun acc => (acc, ms, n, i, f, m)) xs .bad (fun acc x => acc ++ [nv (x.fld 4).asList 6]) (fun k acc => acc.length + (xs.length - k) ≤ 100000000) (fun k acc hk hI => by
    refine ⟨?_, by simp; omega⟩
    simp only [S31_28step, S31_28, declt, inRange_nat, hk, decide_true, cond_true, Int.toNat_natCast, accOk (show acc.length ≤ 100000000 by omega), wadd' (i := k) (by omega)]
    rfl) (fun acc _ => by
    simp only [S31_28step, S31_28, declt, Nat.lt_irrefl, decide_false, cond_false]) xs.length 0 acc (by omega) (by omega)
  rw [List.drop_zero, foldl_one] at q
  exact q.1
theorem nl_eq (f : PV) (h : OkFile f) : F31 0 f = some (nlFile f) := by
  have hmany := h.many
  have n1 := loopW_foldl (step := S31_4step 0) (fun k (acc : List PV) => ((), acc, (f.fld 3).asList, ((f.fld 3).asList.length : Int), (k : Int), f)) (fun acc => ((), acc, f)) (f.fld 3).asList .bad (fun acc m => acc ++ nlMsg m) (fun k acc => acc.length + parts1 ((f.fld 3).asList.drop k) 1 ≤ 7000000 - parts1 (f.fld 4).asList 2 - parts1 (f.fld 5).asList 1) (fun k acc hk hI => by
    have ho := h.msg _ (getD_mem hk .bad)
    have hl := h.msgs
    have hp := parts1_cons (i := 1) hk
    have hf := ho.fields
    refine ⟨?_, by simp only [List.length_append, nlMsg, List.length_cons, List.length_map]; omega⟩
    simp only [S31_4step, S31_4, declt, inRange_nat, hk, decide_true, cond_true, Int.toNat_natCast, accOk (show acc.length ≤ 100000000 by omega), loopQ0, nlM_in f _ _ _ _ _ hf _ (show (acc ++ [PV.agg [(PV.slice (((f.fld 3).asList.getD k .bad).fld 4).asList), (PV.int (1 : Int))]]).length + _ ≤ 100000000 by simp only [List.length_append, List.length_singleton]; omega), Option.bind_some, wadd' (i := k) (by omega)]
    rw [List.append_assoc]
    rfl) (fun acc _ => by
    simp only [S31_4step, S31_4, declt, Nat.lt_irrefl, decide_false, cond_false]) (f.fld 3).asList.length 0 [] (by omega) (by rw [List.drop_zero]; simp; omega)
  rw [List.drop_zero, foldl_app, List.nil_append, List.drop_length] at n1
  have b1 : ((f.fld 3).asList.flatMap nlMsg).length + 0 ≤ 7000000 - parts1 (f.fld 4).asList 2 - parts1 (f.fld 5).asList 1 := n1.2
  have n2 := loopW_foldl (step := S31_14step 0) (fun k (acc : List PV) => ((), acc, (f.fld 4).asList, ((f.fld 4).asList.length : Int), (k : Int), f)) (fun acc => ((), acc, f)) (f.fld 4).asList .bad (fun acc m => acc ++ nlEnum m) (fun k acc => acc.length + parts1 ((f.fld 4).asList.drop k) 2 ≤ 7000000 + parts1 (f.fld 4).asList 2) (fun k acc hk hI => by
    have ho := h.enum _ (getD_mem hk .bad)
    have hl := h.enums
    have hp := parts1_cons (i := 2) hk
    have hf := ho.items
    refine ⟨?_, by simp only [List.length_append, nlEnum, List.length_cons, List.length_map]; omega⟩
    simp only [S31_14step, S31_14, declt, inRange_nat, hk, decide_true, cond_true, Int.toNat_natCast, accOk (show acc.length ≤ 100000000 by omega), loopQ0, nlE_in f _ _ _ _ _ hf _ (show (acc ++ [PV.agg [(PV.slice (((f.fld 4).asList.getD k .bad).fld 4).asList), (PV.int (3 : Int))]]).length + _ ≤ 100000000 by simp only [List.length_append, List.length_singleton]; omega), Option.bind_some, wadd' (i := k) (by omega)]
    rw [List.append_assoc]
    rfl) (fun acc _ => by
    simp only [S31_14step, S31_14, declt, Nat.lt_irrefl, decide_false, cond_false]) (f.fld 4).asList.length 0 ((f.fld 3).asList.flatMap nlMsg) (by omega) (by rw [List.drop_zero]; omega)
  rw [List.drop_zero, foldl_app, List.drop_length] at n2
  have b2 : ((f.fld 3).asList.flatMap nlMsg ++ (f.fld 4).asList.flatMap nlEnum).length + 0 ≤ 7000000 + parts1 (f.fld 4).asList 2 := n2.2
  have n3 := loopW_foldl (step := S31_24step 0) (fun k (acc : List PV) => (acc, (f.fld 5).asList, ((f.fld 5).asList.length : Int), (k : Int), f)) (fun acc => (acc, f)) (f.fld 5).asList .bad (fun acc m => acc ++ nlSvc m) (fun k acc => acc.length + parts1 ((f.fld 5).asList.drop k) 1 ≤ 7000000 + parts1 (f.fld 4).asList 2 + parts1 (f.fld 5).asList 1) (fun k acc hk hI => by
    have ho := h.svc _ (getD_mem hk .bad)
    have hl := h.svcs
    have hp := parts1_cons (i := 1) hk
    have hf := ho.meths
    refine ⟨?_, by simp only [List.length_append, nlSvc, List.length_cons, List.length_map]; omega⟩
    simp only [S31_24step, S31_24, declt, inRange_nat, hk, decide_true, cond_true, Int.toNat_natCast, accOk (show acc.length ≤ 100000000 by omega), loopQ0, nlS_in f _ _ _ _ _ hf _ (show (acc ++ [PV.agg [(PV.slice (((f.fld 5).asList.getD k .bad).fld 2).asList), (PV.int (5 : Int))]]).length + _ ≤ 100000000 by simp only [List.length_append, List.length_singleton]; omega), Option.bind_some, wadd' (i := k) (by omega)]
    rw [List.append_assoc]
    rfl) (fun acc _ => by
    simp only [S31_24step, S31_24, declt, Nat.lt_irrefl, decide_false, cond_false]) (f.fld 5).asList.length 0 ((f.fld 3).asList.flatMap nlMsg ++ (f.fld 4).asList.flatMap nlEnum) (by omega) (by rw [List.drop_zero]; omega)
  rw [List.drop_zero, foldl_app] at n3
  unfold F31 nlFile
  rw [show (0 : Int) = ((0 : Nat) : Int) from rfl]
  simp only [loopQ0, n1.1, n2.1, n3.1, Option.bind_some]
/-- The first error among annotations. -/
noncomputable def errL (l : List PV) (e : Int) : Int := l.foldl (fun e n => errN e (n.fld 0).asList (n.fld 1).asInt) e
theorem errL_keep : ∀ (l : List PV) (e : Int), e ≠ 0 → errL l e = e := by
  intro l
  induction l with
  | nil => intro e _; rfl
  | cons n r ih =>
    intro e he
    have h1 : errN e (n.fld 0).asList (n.fld 1).asInt = e := by unfold errN; rw [bneI he]; rfl
    show errL r (errN e (n.fld 0).asList (n.fld 1).asInt) = e
    rw [h1]; exact ih e he
theorem errL_app (a b : List PV) (e : Int) : errL (a ++ b) e = errL b (errL a e) := List.foldl_append
theorem errL_msg (m : PV) (e : Int) : errL (nlMsg m) e = ntMsg e m := by
  unfold errL nlMsg ntMsg
  rw [List.foldl_cons, List.foldl_map]; rfl
theorem errL_enum (m : PV) (e : Int) : errL (nlEnum m) e = ntEnum e m := by
  unfold errL nlEnum ntEnum
  rw [List.foldl_cons, List.foldl_map]; rfl
theorem errL_svc (m : PV) (e : Int) : errL (nlSvc m) e = ntSvc e m := by
  unfold errL nlSvc ntSvc
  rw [List.foldl_cons, List.foldl_map]; rfl
theorem errL_flat (g : PV → List PV) (k : Int → PV → Int) (h : ∀ m e, errL (g m) e = k e m) : ∀ (l : List PV) (e : Int), errL (l.flatMap g) e = l.foldl k e := by
  intro l
  induction l with
  | nil => intro e; rfl
  | cons m r ih => intro e; rw [List.flatMap_cons, errL_app, h, ih, List.foldl_cons]
theorem errL_file (f : PV) : errL (nlFile f) 0 = ntFile f := by
  unfold nlFile ntFile
  rw [errL_app, errL_app, errL_flat nlMsg ntMsg errL_msg, errL_flat nlEnum ntEnum errL_enum, errL_flat nlSvc ntSvc errL_svc]
/-- Each element is annotations that are small. -/
def NvOk (n : PV) : Prop := (n.fld 0).asList.length ≤ 1048576 ∧ ∀ x, x ∈ (n.fld 0).asList → smallN x
theorem nlFile_ok (f : PV) (h : OkFile f) : ∀ n, n ∈ nlFile f → NvOk n := by
  intro n hn
  unfold nlFile at hn
  rcases List.mem_append.1 hn with hn | hn
  · rcases List.mem_append.1 hn with hn | hn
    · obtain ⟨m, hm, hn⟩ := List.mem_flatMap.1 hn
      have ho := h.msg m hm
      rcases List.mem_cons.1 hn with rfl | hn
      · exact ⟨ho.notes, ho.note⟩
      · obtain ⟨x, hx, rfl⟩ := List.mem_map.1 hn
        exact ⟨(ho.field x hx).notes, (ho.field x hx).note⟩
    · obtain ⟨m, hm, hn⟩ := List.mem_flatMap.1 hn
      have ho := h.enum m hm
      rcases List.mem_cons.1 hn with rfl | hn
      · exact ⟨ho.notes, ho.note⟩
      · obtain ⟨x, hx, rfl⟩ := List.mem_map.1 hn
        exact ⟨(ho.item x hx).notes, (ho.item x hx).note⟩
  · obtain ⟨m, hm, hn⟩ := List.mem_flatMap.1 hn
    have ho := h.svc m hm
    rcases List.mem_cons.1 hn with rfl | hn
    · exact ⟨ho.notes, ho.note⟩
    · obtain ⟨x, hx, rfl⟩ := List.mem_map.1 hn
      exact ⟨(ho.meth x hx).notes, (ho.meth x hx).note⟩
theorem checkAll_loop (f : PV) (l : List PV) (hl : l.length ≤ 100000000) (hs : ∀ n, n ∈ l → NvOk n) : ∀ (k i : Nat), i + k = l.length → loopW (S12_9step 0) ((), l, (l.length : Int), (i : Int), f) = some (bif errL (l.drop i) 0 == 0 then .inr ((), f) else .inl (errL (l.drop i) 0, f)) := by
  intro k
  induction k with
  | zero =>
    intro i hi
    have : i = l.length := by omega
    subst this
    rw [List.drop_length]
    exact loopW_end (by simp only [S12_9step, S12_9, declt, Nat.lt_irrefl, decide_false, cond_false]; rfl)
  | succ k ih =>
    intro i hi
    have hlt : i < l.length := by omega
    have ho := hs _ (getD_mem hlt .bad)
    have hc := check_eq (((l.getD i .bad).fld 0).asList) ((l.getD i .bad).fld 1).asInt ho.1 ho.2
    have he : errL (l.drop i) 0 = errL (l.drop (i + 1)) (checkN ((l.getD i .bad).fld 0).asList ((l.getD i .bad).fld 1).asInt) := by
      rw [drop_cons hlt .bad]; rfl
    rw [he]
    by_cases h0 : checkN ((l.getD i .bad).fld 0).asList ((l.getD i .bad).fld 1).asInt = 0
    · rw [h0] at hc ⊢
      rw [← ih (i + 1) (by omega)]
      refine loopW_go ?_
      simp only [S12_9step, S12_9, declt, inRange_nat, hlt, decide_true, cond_true, Int.toNat_natCast, hc, Option.bind_some, wadd' (i := i) (by omega)]
      rfl
    · rw [errL_keep _ _ h0, beqI h0]
      refine loopW_end ?_
      simp only [S12_9step, S12_9, declt, inRange_nat, hlt, decide_true, cond_true, Int.toNat_natCast, hc, Option.bind_some, bneI h0]
      rfl
end Go.Ab
