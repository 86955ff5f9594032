/- format.every: all elements of a list pass a test. -/
import Derived.Test.YtjfdnmkfjikjnaaGreatDoorPName0L
import Derived.Test.YtjfdnmkfjikjnaaGreatDoorPValsL
set_option linter.unusedVariables false
set_option linter.unusedSimpArgs false
set_option linter.unnecessarySimpa false
namespace Go.Ab
open Go
set_option maxRecDepth 100000
theorem evG (l : List PV) (p : PV → Bool) (E1 : PV → Option (Bool × Unit)) (step : (List PV × Unit × Int × Int × Unit) → Option ((List PV × Unit × Int × Int × Unit) ⊕ ((Int × Unit) ⊕ Unit))) (hl : l.length ≤ 1048576) (h : ∀ x, x ∈ l → E1 x = some (!p x, ()))
    (hs : ∀ a : Int, step (l, (), (l.length : Int), a, ()) = bif decide (a < (l.length : Int)) then (bif inRange a l.length then (E1 (l.getD a.toNat .bad)).bind fun y => bif y.1 then some (.inr (.inl (a, ()))) else some (.inl (l, (), (l.length : Int), (IntKind.wrap .i64 (a + (1 : Int))), ())) else none) else some (.inr (.inr ()))) :
    ((((loopW step (l, (), (l.length : Int), (0 : Int), ())).bind fun z => sumE (fun y => some (y.1, ())) (fun _ => some ((-1 : Int), ())) z).bind fun y => some (decide (y.1 ≥ (0 : Int)), ())).bind fun y => some (!y.1)) = some (l.all p) := by
  obtain ⟨r, h1, h2, h3⟩ := loopW_first (step := step) (fun i => (l, (), (l.length : Int), (i : Int), ())) l.length (fun i => p (l.getD i .bad)) (fun i => (Sum.inl ((i : Int), ()) : (Int × Unit) ⊕ Unit)) (Sum.inr ()) (fun i hi => by
    simp only [hs, lt_int, inRange_nat, hi, decide_true, cond_true, Int.toNat_natCast, h _ (getD_mem hi .bad), Option.bind_some, wadd' (i := i) (by omega)]
    cases p (l.getD i .bad) <;> rfl) (by simp only [hs, lt_int, Nat.lt_irrefl, decide_false, cond_false]) l.length 0 (by omega)
  rw [allF_of] at h2 h3
  rw [show (0 : Int) = ((0 : Nat) : Int) from rfl, h1]
  cases ha : l.all p with
  | true => rw [h2 ha]; rfl
  | false =>
    obtain ⟨j, _, _, rfl⟩ := h3 ha
    simp [sumE]
theorem ev_nf (l : List PV) (p : PV → Bool) (hl : l.length ≤ 1048576) (h : ∀ x, x ∈ l → F76 0 x = some (p x)) : F75 0 l () = some (l.all p) :=
  evG l p (fun x => F186 0 x () ()) (S261_3step 0) hl (fun x hx => by show (F76 0 x).bind _ = _; rw [h x hx]; rfl) (fun _ => rfl)
theorem ev_nm (l : List PV) (p : PV → Bool) (hl : l.length ≤ 1048576) (h : ∀ x, x ∈ l → F74 0 x = some (p x)) : F73 0 l () = some (l.all p) :=
  evG l p (fun x => F184 0 x () ()) (S260_3step 0) hl (fun x hx => by show (F74 0 x).bind _ = _; rw [h x hx]; rfl) (fun _ => rfl)
theorem ev_ni (l : List PV) (p : PV → Bool) (hl : l.length ≤ 1048576) (h : ∀ x, x ∈ l → F82 0 x = some (p x)) : F81 0 l () = some (l.all p) :=
  evG l p (fun x => F192 0 x () ()) (S264_3step 0) hl (fun x hx => by show (F82 0 x).bind _ = _; rw [h x hx]; rfl) (fun _ => rfl)
theorem ev_ne (l : List PV) (p : PV → Bool) (hl : l.length ≤ 1048576) (h : ∀ x, x ∈ l → F80 0 x = some (p x)) : F79 0 l () = some (l.all p) :=
  evG l p (fun x => F190 0 x () ()) (S263_3step 0) hl (fun x hx => by show (F80 0 x).bind _ = _; rw [h x hx]; rfl) (fun _ => rfl)
theorem ev_nd (l : List PV) (p : PV → Bool) (hl : l.length ≤ 1048576) (h : ∀ x, x ∈ l → F86 0 x = some (p x)) : F85 0 l () = some (l.all p) :=
  evG l p (fun x => F196 0 x () ()) (S266_3step 0) hl (fun x hx => by show (F86 0 x).bind _ = _; rw [h x hx]; rfl) (fun _ => rfl)
theorem ev_ns (l : List PV) (p : PV → Bool) (hl : l.length ≤ 1048576) (h : ∀ x, x ∈ l → F84 0 x = some (p x)) : F83 0 l () = some (l.all p) :=
  evG l p (fun x => F194 0 x () ()) (S265_3step 0) hl (fun x hx => by show (F84 0 x).bind _ = _; rw [h x hx]; rfl) (fun _ => rfl)
theorem ev_af (l : List PV) (p : PV → Bool) (hl : l.length ≤ 1048576) (h : ∀ x, x ∈ l → F88 0 x = some (p x)) : F75_v1 0 l () = some (l.all p) :=
  evG l p (fun x => F186_v1 0 x () ()) (S261_v1_3step 0) hl (fun x hx => by show (F88 0 x).bind _ = _; rw [h x hx]; rfl) (fun _ => rfl)
theorem ev_am (l : List PV) (p : PV → Bool) (hl : l.length ≤ 1048576) (h : ∀ x, x ∈ l → F87 0 x = some (p x)) : F73_v1 0 l () = some (l.all p) :=
  evG l p (fun x => F184_v1 0 x () ()) (S260_v1_3step 0) hl (fun x hx => by show (F87 0 x).bind _ = _; rw [h x hx]; rfl) (fun _ => rfl)
theorem ev_ai (l : List PV) (p : PV → Bool) (hl : l.length ≤ 1048576) (h : ∀ x, x ∈ l → F92 0 x = some (p x)) : F81_v1 0 l () = some (l.all p) :=
  evG l p (fun x => F192_v1 0 x () ()) (S264_v1_3step 0) hl (fun x hx => by show (F92 0 x).bind _ = _; rw [h x hx]; rfl) (fun _ => rfl)
theorem ev_ae (l : List PV) (p : PV → Bool) (hl : l.length ≤ 1048576) (h : ∀ x, x ∈ l → F91 0 x = some (p x)) : F79_v1 0 l () = some (l.all p) :=
  evG l p (fun x => F190_v1 0 x () ()) (S263_v1_3step 0) hl (fun x hx => by show (F91 0 x).bind _ = _; rw [h x hx]; rfl) (fun _ => rfl)
theorem ev_ad (l : List PV) (p : PV → Bool) (hl : l.length ≤ 1048576) (h : ∀ x, x ∈ l → F94 0 x = some (p x)) : F85_v1 0 l () = some (l.all p) :=
  evG l p (fun x => F196_v1 0 x () ()) (S266_v1_3step 0) hl (fun x hx => by show (F94 0 x).bind _ = _; rw [h x hx]; rfl) (fun _ => rfl)
theorem ev_as (l : List PV) (p : PV → Bool) (hl : l.length ≤ 1048576) (h : ∀ x, x ∈ l → F93 0 x = some (p x)) : F83_v1 0 l () = some (l.all p) :=
  evG l p (fun x => F194_v1 0 x () ()) (S265_v1_3step 0) hl (fun x hx => by show (F93 0 x).bind _ = _; rw [h x hx]; rfl) (fun _ => rfl)
theorem ev_tx (l : List PV) (p : PV → Bool) (hl : l.length ≤ 1048576) (h : ∀ x, x ∈ l → F96 0 x.asStr = some (p x)) : F95 0 l () = some (l.all p) :=
  evG l p (fun x => F201 0 x.asStr () ()) (S258_v1_3step 0) hl (fun x hx => by show (F96 0 x.asStr).bind _ = _; rw [h x hx]; rfl) (fun _ => rfl)
theorem ev_tm (l : List PV) (p : PV → Bool) (hl : l.length ≤ 1048576) (h : ∀ x, x ∈ l → F97 0 x = some (p x)) : F73_v2 0 l () = some (l.all p) :=
  evG l p (fun x => F184_v2 0 x () ()) (S260_v2_3step 0) hl (fun x hx => by show (F97 0 x).bind _ = _; rw [h x hx]; rfl) (fun _ => rfl)
theorem ev_cm (l : List PV) (p : PV → Bool) (hl : l.length ≤ 1048576) (h : ∀ x, x ∈ l → F99 0 x = some (p x)) : F73_v3 0 l () = some (l.all p) :=
  evG l p (fun x => F184_v3 0 x () ()) (S260_v3_3step 0) hl (fun x hx => by show (F99 0 x).bind _ = _; rw [h x hx]; rfl) (fun _ => rfl)
theorem ev_ce (l : List PV) (p : PV → Bool) (hl : l.length ≤ 1048576) (h : ∀ x, x ∈ l → F100 0 x = some (p x)) : F79_v2 0 l () = some (l.all p) :=
  evG l p (fun x => F190_v2 0 x () ()) (S263_v2_3step 0) hl (fun x hx => by show (F100 0 x).bind _ = _; rw [h x hx]; rfl) (fun _ => rfl)
theorem ev_cs (l : List PV) (p : PV → Bool) (hl : l.length ≤ 1048576) (h : ∀ x, x ∈ l → F101 0 x = some (p x)) : F83_v2 0 l () = some (l.all p) :=
  evG l p (fun x => F194_v2 0 x () ()) (S265_v2_3step 0) hl (fun x hx => by show (F101 0 x).bind _ = _; rw [h x hx]; rfl) (fun _ => rfl)
end Go.Ab
namespace Go.Ab
open Go
set_option maxRecDepth 100000
/- Words of kinds. -/
noncomputable def kw (k : Int) : List UInt8 := (F48 0 k).getD []
theorem kind8 {k : Int} (h : 1 ≤ k) (h2 : k ≤ 8) : k = 1 ∨ k = 2 ∨ k = 3 ∨ k = 4 ∨ k = 5 ∨ k = 6 ∨ k = 7 ∨ k = 8 := by omega
theorem kw_out {k : Int} (h : k < 1 ∨ 8 < k) : F48 0 k = some [] ∧ F46 0 k = some [] := by
  have e : (bif (decide (k < (1 : Int))) then true else (decide (k > (8 : Int)))) = true := by
    rcases h with h | h
    · rw [decide_eq_true h]; rfl
    · rw [decide_eq_false (by omega), decide_eq_true (by omega)]; rfl
  unfold F48 F46
  rw [e]
  exact ⟨rfl, rfl⟩
theorem refKw_eq (k : Int) : F48 0 k = some (kw k) := by
  unfold kw
  by_cases h : k < 1 ∨ 8 < k
  · rw [(kw_out h).1]; rfl
  · rcases kind8 (k := k) (by omega) (by omega) with rfl | rfl | rfl | rfl | rfl | rfl | rfl | rfl <;> rfl
theorem kw_eq (k : Int) : F46 0 k = some (kw k) := by
  rw [← refKw_eq]
  by_cases h : k < 1 ∨ 8 < k
  · rw [(kw_out h).1, (kw_out h).2]
  · rcases kind8 (k := k) (by omega) (by omega) with rfl | rfl | rfl | rfl | rfl | rfl | rfl | rfl
    all_goals (refine Eq.trans (b := _) ?_ rfl; kernel_rfl)
theorem kw_len (k : Int) : (kw k).length ≤ 10 := by
  unfold kw
  by_cases h : k < 1 ∨ 8 < k
  · rw [(kw_out h).1]; simp
  · rcases kind8 (k := k) (by omega) (by omega) with rfl | rfl | rfl | rfl | rfl | rfl | rfl | rfl <;> decide
def plainK (k : Int) : Bool := decide (1 ≤ k) && decide (k ≤ 8)
theorem plain_eq (k : Int) : F45 0 k = some (plainK k) := by
  unfold F45 plainK
  have : decide (k ≥ (1 : Int)) = decide (1 ≤ k) := rfl
  rw [this]
  cases decide (1 ≤ k) <;> rfl
/-- Is this none of the words? -/
noncomputable def noKw (s : List UInt8) : Bool := allF (fun i => !(kw ((i : Int) + 1) == s)) 0 8
theorem words_at : ((List.range 8).all fun i => (((F126 0).getD .bad).fld i).asStr == kw ((i : Int) + 1)) = true := by kernel_rfl
theorem word_at {i : Nat} (h : i < 8) : (((F126 0).getD .bad).fld i).asStr = kw ((i : Int) + 1) := by
  have := List.all_eq_true.1 words_at i (List.mem_range.2 h)
  simpa using this
theorem kind0_eq (s : List UInt8) : ∃ k, F188 0 s = some k ∧ (k == (0 : Int)) = noKw s := by
  have hw : F126 0 = some ((F126 0).getD .bad) := rfl
  obtain ⟨r, h1, h2, h3⟩ := loopW_first (step := S188_3step 0) (fun i => (s, (F126 0).getD .bad, (i : Int))) 8 (fun i => !(kw ((i : Int) + 1) == s)) (fun i => (Sum.inl ((i : Int) + 1) : Int ⊕ Unit)) (Sum.inr ()) (fun i hi => by
    have h8 : decide ((i : Int) < (8 : Int)) = true := decide_eq_true (by omega)
    have hww : IntKind.wrap .i64 ((i : Int) + (1 : Int)) = (i : Int) + 1 := wrap64 (by omega) (by omega)
    have hr : inRange (i : Int) 8 = true := by rw [inRange_nat]; exact decide_eq_true hi
    simp only [S188_3step, S188_3, h8, hr, cond_true, Int.toNat_natCast, word_at hi, hww]
    cases (kw ((i : Int) + 1) == s) <;> rfl) rfl 8 0 (by omega)
  unfold F188
  rw [hw, Option.bind_some, loopQ0, show (0 : Int) = ((0 : Nat) : Int) from rfl, h1]
  unfold noKw
  cases ha : allF (fun i => !(kw ((i : Int) + 1) == s)) 0 8 with
  | true => exact ⟨0, by rw [h2 ha]; rfl, rfl⟩
  | false =>
    obtain ⟨j, _, _, rfl⟩ := h3 ha
    exact ⟨(j : Int) + 1, rfl, by show (((j : Int) + 1) == 0) = false; rw [beq_eq_false_iff_ne]; omega⟩
theorem isType_eq (s : List UInt8) (hs : s.length ≤ 1048576) : F47 0 s = some (typeP s) := by
  have ht : F128 0 s ([46] : List UInt8) = some (match s with | [] => [] | c :: r => bif c == 46 then r else c :: r) := by
    unfold F128 F220 F277
    cases s with
    | nil => rfl
    | cons c r =>
      have e1 : decide (((c :: r).length : Int) ≥ (([46] : List UInt8).length : Int)) = true := decide_eq_true (by simp only [List.length_cons, List.length_nil]; omega)
      have e2 : decide ((0 : Int) ≤ (0 : Int) ∧ (0 : Int) ≤ (([46] : List UInt8).length : Int) ∧ (([46] : List UInt8).length : Int) ≤ ((c :: r).length : Int)) = true := decide_eq_true (by simp only [List.length_cons, List.length_nil]; omega)
      have e3 : decide ((0 : Int) ≤ (([46] : List UInt8).length : Int) ∧ (([46] : List UInt8).length : Int) ≤ ((c :: r).length : Int) ∧ ((c :: r).length : Int) ≤ ((c :: r).length : Int)) = true := decide_eq_true (by simp only [List.length_cons, List.length_nil]; omega)
      have e4 : (((c :: r).take (([46] : List UInt8).length : Int).toNat).drop (0 : Int).toNat == ([46] : List UInt8)) = (c == 46) := by
        show ([c] == ([46] : List UInt8)) = _
        simp
      have e5 : (((c :: r).take ((c :: r).length : Int).toNat).drop (([46] : List UInt8).length : Int).toNat) = r := by
        show ((c :: r).take (c :: r).length).drop 1 = r
        rw [List.take_length]; rfl
      simp only [e1, e2, e3, e4, e5, imp, cond_true, Option.bind_some]
      cases (c == 46) <;> rfl
  unfold F47
  rw [ht, Option.bind_some]
  cases s with
  | nil => rw [isFull_eq _ (by simp)]; rfl
  | cons c r =>
    have hl : (bif c == 46 then r else c :: r).length ≤ 1048576 := by
      simp only [List.length_cons] at hs
      cases (c == 46)
      · simp only [cond_false, List.length_cons]; omega
      · simp only [cond_true]; omega
    simp only [isFull_eq _ hl, Option.bind_some, typeP]
    cases (c == 46) <;> rfl
/- Names. -/
noncomputable def tnP (t : PV) : Bool := bif plainK (t.fld 0).asInt then (t.fld 1).asStr == [] else typeP (t.fld 1).asStr && noKw (t.fld 1).asStr
theorem typeName_eq (t : PV) (hs : (t.fld 1).asStr.length ≤ 1048576) : F78 0 t = some (tnP t) := by
  obtain ⟨k, h1, h2⟩ := kind0_eq (t.fld 1).asStr
  unfold F78 tnP
  simp only [plain_eq, Option.bind_some, isType_eq _ hs, h1]
  cases plainK (t.fld 0).asInt with
  | true => rfl
  | false =>
    cases typeP (t.fld 1).asStr with
    | false => rfl
    | true => simp only [cond_true, cond_false, Option.bind_some, h2, Bool.true_and]
/-- What is known of the sizes of a field. -/
structure OkFld (x : PV) : Prop where
  name : (x.fld 1).asStr.length ≤ 1048576
  type : ((x.fld 4).fld 1).asStr.length ≤ 1048576
  union : (x.fld 5).asStr.length ≤ 1048576
  dflt : smallV (x.fld 7)
  notes : (x.fld 8).asList.length ≤ 1048576
  note : ∀ n, n ∈ (x.fld 8).asList → smallN n
structure OkMsg (m : PV) : Prop where
  name : (m.fld 0).asStr.length ≤ 1048576
  fields : (m.fld 1).asList.length ≤ 1048576
  field : ∀ x, x ∈ (m.fld 1).asList → OkFld x
  spans : (m.fld 2).asList.length ≤ 1048576
  gone : (m.fld 3).asList.length ≤ 1048576
  goneS : ∀ x, x ∈ (m.fld 3).asList → x.asStr.length ≤ 1048576
  notes : (m.fld 4).asList.length ≤ 1048576
  note : ∀ n, n ∈ (m.fld 4).asList → smallN n
structure OkItem (x : PV) : Prop where
  name : (x.fld 0).asStr.length ≤ 1048576
  notes : (x.fld 2).asList.length ≤ 1048576
  note : ∀ n, n ∈ (x.fld 2).asList → smallN n
structure OkEnum (m : PV) : Prop where
  name : (m.fld 0).asStr.length ≤ 1048576
  items : (m.fld 2).asList.length ≤ 1048576
  item : ∀ x, x ∈ (m.fld 2).asList → OkItem x
  spans : (m.fld 3).asList.length ≤ 1048576
  notes : (m.fld 4).asList.length ≤ 1048576
  note : ∀ n, n ∈ (m.fld 4).asList → smallN n
structure OkMeth (x : PV) : Prop where
  name : (x.fld 0).asStr.length ≤ 1048576
  inn : (x.fld 1).asStr.length ≤ 1048576
  out : (x.fld 2).asStr.length ≤ 1048576
  notes : (x.fld 4).asList.length ≤ 1048576
  note : ∀ n, n ∈ (x.fld 4).asList → smallN n
structure OkSvc (m : PV) : Prop where
  name : (m.fld 0).asStr.length ≤ 1048576
  meths : (m.fld 1).asList.length ≤ 1048576
  meth : ∀ x, x ∈ (m.fld 1).asList → OkMeth x
  notes : (m.fld 2).asList.length ≤ 1048576
  note : ∀ n, n ∈ (m.fld 2).asList → smallN n
def parts1 (l : List PV) (i : Nat) : Nat := (l.map fun m => (m.fld i).asList.length + 1).sum
structure OkFile (f : PV) : Prop where
  space : (f.fld 1).asStr.length ≤ 1048576
  imports : (f.fld 2).asList.length ≤ 1048576
  importS : ∀ x, x ∈ (f.fld 2).asList → x.asStr.length ≤ 1048576
  msgs : (f.fld 3).asList.length ≤ 1048576
  msg : ∀ x, x ∈ (f.fld 3).asList → OkMsg x
  enums : (f.fld 4).asList.length ≤ 1048576
  enum : ∀ x, x ∈ (f.fld 4).asList → OkEnum x
  svcs : (f.fld 5).asList.length ≤ 1048576
  svc : ∀ x, x ∈ (f.fld 5).asList → OkSvc x
  many : parts1 (f.fld 3).asList 1 + parts1 (f.fld 4).asList 2 + parts1 (f.fld 5).asList 1 ≤ 7000000
noncomputable def nmFld (x : PV) : Bool := simpP (x.fld 1).asStr && ((x.fld 5).asStr == [] || simpP (x.fld 5).asStr) && tnP (x.fld 4)
noncomputable def nmMsg (m : PV) : Bool := defP (m.fld 0).asStr && (m.fld 1).asList.all nmFld
noncomputable def nmItem (x : PV) : Bool := simpP (x.fld 0).asStr
noncomputable def nmEnum (m : PV) : Bool := defP (m.fld 0).asStr && (m.fld 2).asList.all nmItem
def strm : List UInt8 := [115, 116, 114, 101, 97, 109]
noncomputable def nmMeth (x : PV) : Bool := simpP (x.fld 0).asStr && typeP (x.fld 1).asStr && typeP (x.fld 2).asStr && !((x.fld 1).asStr == strm) && !((x.fld 2).asStr == strm)
noncomputable def nmSvc (m : PV) : Bool := defP (m.fld 0).asStr && (m.fld 1).asList.all nmMeth
noncomputable def nmFile (f : PV) : Bool := ((f.fld 1).asStr == [] || defP (f.fld 1).asStr) && (f.fld 3).asList.all nmMsg && (f.fld 4).asList.all nmEnum && (f.fld 5).asList.all nmSvc
theorem nmFld_eq (x : PV) (h : OkFld x) : F76 0 x = some (nmFld x) := by
  unfold F76 nmFld
  simp only [isPart2_eq, Option.bind_some, typeName_eq _ h.type]
  generalize simpP (x.fld 1).asStr = a
  generalize simpP (x.fld 5).asStr = b
  generalize ((x.fld 5).asStr == ([] : List UInt8)) = c
  generalize tnP (x.fld 4) = d
  cases a <;> cases b <;> cases c <;> cases d <;> rfl
theorem nmMsg_eq (m : PV) (h : OkMsg m) : F74 0 m = some (nmMsg m) := by
  unfold F74 nmMsg
  simp only [isDef_eq _ h.name, Option.bind_some, ev_nf _ nmFld h.fields fun x hx => nmFld_eq x (h.field x hx)]
  cases defP (m.fld 0).asStr <;> rfl
theorem nmItem_eq (x : PV) : F82 0 x = some (nmItem x) := by
  unfold F82 nmItem
  simp only [isPart2_eq, Option.bind_some]
theorem nmEnum_eq (m : PV) (h : OkEnum m) : F80 0 m = some (nmEnum m) := by
  unfold F80 nmEnum
  simp only [isDef_eq _ h.name, Option.bind_some, ev_ni _ nmItem h.items fun x hx => nmItem_eq x]
  cases defP (m.fld 0).asStr <;> rfl
theorem nmMeth_eq (x : PV) (h : OkMeth x) : F86 0 x = some (nmMeth x) := by
  unfold F86 nmMeth strm
  simp only [isPart2_eq, Option.bind_some, isType_eq _ h.inn, isType_eq _ h.out]
  generalize simpP (x.fld 0).asStr = a
  generalize typeP (x.fld 1).asStr = b
  generalize typeP (x.fld 2).asStr = c
  generalize ((x.fld 1).asStr == ([115, 116, 114, 101, 97, 109] : List UInt8)) = d
  generalize ((x.fld 2).asStr == ([115, 116, 114, 101, 97, 109] : List UInt8)) = e
  cases a <;> cases b <;> cases c <;> cases d <;> cases e <;> rfl
theorem nmSvc_eq (m : PV) (h : OkSvc m) : F84 0 m = some (nmSvc m) := by
  unfold F84 nmSvc
  simp only [isDef_eq _ h.name, Option.bind_some, ev_nd _ nmMeth h.meths fun x hx => nmMeth_eq x (h.meth x hx)]
  cases defP (m.fld 0).asStr <;> rfl
theorem names_eq (f : PV) (h : OkFile f) : F28 0 f = some (nmFile f) := by
  unfold F28 nmFile
  simp only [isDef_eq _ h.space, Option.bind_some, ev_nm _ nmMsg h.msgs fun x hx => nmMsg_eq x (h.msg x hx), ev_ne _ nmEnum h.enums fun x hx => nmEnum_eq x (h.enum x hx), ev_ns _ nmSvc h.svcs fun x hx => nmSvc_eq x (h.svc x hx)]
  generalize ((f.fld 1).asStr == ([] : List UInt8)) = a
  generalize defP (f.fld 1).asStr = b
  generalize (f.fld 3).asList.all nmMsg = c
  generalize (f.fld 4).asList.all nmEnum = d
  generalize (f.fld 5).asList.all nmSvc = e
  cases a <;> cases b <;> cases c <;> cases d <;> cases e <;> rfl
end Go.Ab
