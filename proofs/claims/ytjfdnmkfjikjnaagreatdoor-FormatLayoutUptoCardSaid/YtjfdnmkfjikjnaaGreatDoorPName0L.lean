/- Names: parts, full names, keywords; loops that look for the first. -/
import Derived.Test.YtjfdnmkfjikjnaaGreatDoorAbPrsF
import Derived.Test.YtjfdnmkfjikjnaaGreatDoorAbPlain
import Derived.Test.YtjfdnmkfjikjnaaGreatDoorPUtfL
import Derived.Test.YtjfdnmkfjikjnaaGreatDoorAbUtf
set_option linter.unusedVariables false
set_option linter.unusedSimpArgs false
set_option linter.unnecessarySimpa false
namespace Go.Ab
open Go
theorem allF_list {α : Type} (f : α → Bool) (d : α) : ∀ (xs pre : List α), allF (fun i => f ((pre ++ xs).getD i d)) pre.length xs.length = xs.all f := by
  intro xs
  induction xs with
  | nil => intro pre; rfl
  | cons x r ih =>
    intro pre
    simp only [List.length_cons, allF, List.all_cons]
    have e1 : (pre ++ x :: r).getD pre.length d = x := by simp [List.getD]
    rw [e1]
    have := ih (pre ++ [x])
    rw [show pre ++ x :: r = pre ++ [x] ++ r by simp, ← this]
    simp
theorem allF_of {α : Type} (f : α → Bool) (d : α) (xs : List α) : allF (fun i => f (xs.getD i d)) 0 xs.length = xs.all f := allF_list f d xs []
/-- A loop that looks for the first place where a test fails. -/
theorem loopW_first {σ τ : Type} {step : σ → Option (σ ⊕ τ)} (st : Nat → σ) (n : Nat) (p : Nat → Bool) (bad : Nat → τ) (good : τ) (hstep : ∀ i, i < n → step (st i) = some (bif p i then .inl (st (i + 1)) else .inr (bad i))) (hend : step (st n) = some (.inr good)) :
    ∀ k i, i + k = n → ∃ r, loopW step (st i) = some r ∧ (allF p i k = true → r = good) ∧ (allF p i k = false → ∃ j, i ≤ j ∧ j < n ∧ r = bad j) := by
  intro k
  induction k with
  | zero =>
    intro i hi
    have : i = n := by omega
    subst this
    exact ⟨good, loopW_end hend, fun _ => rfl, fun h => by simp [allF] at h⟩
  | succ k ih =>
    intro i hi
    have h := hstep i (by omega)
    simp only [allF]
    cases hp : p i with
    | true =>
      rw [hp] at h
      obtain ⟨r, h1, h2, h3⟩ := ih (i + 1) (by omega)
      refine ⟨r, by rw [loopW_go h, h1], fun h => h2 (by simpa using h), fun h => ?_⟩
      obtain ⟨j, a, b, c⟩ := h3 (by simpa using h)
      exact ⟨j, by omega, b, c⟩
    | false =>
      rw [hp] at h
      exact ⟨bad i, loopW_end h, fun h => by simp at h, fun _ => ⟨i, Nat.le_refl _, by omega, rfl⟩⟩
/-- A loop that gathers, element by element. -/
theorem loopW_foldl {σ τ α β : Type} {step : σ → Option (σ ⊕ τ)} (mk : Nat → β → σ) (out : β → τ) (xs : List α) (d : α) (f : β → α → β) (I : Nat → β → Prop)
    (hstep : ∀ i b, i < xs.length → I i b → step (mk i b) = some (.inl (mk (i + 1) (f b (xs.getD i d)))) ∧ I (i + 1) (f b (xs.getD i d))) (hend : ∀ b, I xs.length b → step (mk xs.length b) = some (.inr (out b))) :
    ∀ k i b, i + k = xs.length → I i b → loopW step (mk i b) = some (out ((xs.drop i).foldl f b)) ∧ I xs.length ((xs.drop i).foldl f b) := by
  intro k
  induction k with
  | zero =>
    intro i b hi hI
    have : i = xs.length := by omega
    subst this
    rw [List.drop_length]
    exact ⟨loopW_end (hend b hI), hI⟩
  | succ k ih =>
    intro i b hi hI
    have hlt : i < xs.length := by omega
    obtain ⟨h1, h2⟩ := hstep i b hlt hI
    rw [loopW_go h1, drop_cons hlt d, List.foldl_cons]
    exact ih (i + 1) _ (by omega) h2
def lowB (b : Nat) : Bool := decide (97 ≤ b ∧ b ≤ 122)
def capB (b : Nat) : Bool := decide (65 ≤ b ∧ b ≤ 90)
def digB (b : Nat) : Bool := decide (48 ≤ b ∧ b ≤ 57)
def letB (b : UInt8) : Bool := lowB b.toNat || capB b.toNat
def alnB (b : UInt8) : Bool := lowB b.toNat || capB b.toNat || digB b.toNat || decide (b.toNat = 95)
theorem let_aln {b : UInt8} (h : letB b = true) : alnB b = true := by
  unfold letB at h; unfold alnB; rw [h]; rfl
/-- A part of a name. -/
def partP (s : List UInt8) : Bool :=
  match s with
  | [] => false
  | c :: r => decide (r.length + 1 ≤ 40) && letB c && r.all alnB
/-- A full name. -/
def fullP (s : List UInt8) : Bool := decide (s.length ≤ 120) && (splitP 46 s).all partP
/-- The name of a type. -/
def typeP (s : List UInt8) : Bool :=
  match s with
  | [] => fullP []
  | c :: r => bif c == 46 then fullP r else fullP (c :: r)
end Go.Ab
namespace Go.Ab
open Go
set_option maxRecDepth 100000
theorem getD_mem {α : Type} {l : List α} {i : Nat} (h : i < l.length) (d : α) : l.getD i d ∈ l := by rw [getD_of_lt h]; exact List.getElem_mem h
theorem wadd' {i : Nat} (h : i ≤ 9223372036854775000) : IntKind.wrap .i64 ((i : Int) + 1) = ((i + 1 : Nat) : Int) := wadd1 (by omega)
theorem geI (a b : Nat) : decide ((a : Int) ≥ (b : Int)) = decide (b ≤ a) := by rw [decide_eq_decide]; omega
theorem leI (a b : Nat) : decide ((a : Int) ≤ (b : Int)) = decide (a ≤ b) := by rw [decide_eq_decide]; omega
theorem neB (a b : Nat) : ((a : Int) != (b : Int)) = !decide (a = b) := by
  by_cases h : a = b
  · subst h; simp
  · have : (a : Int) ≠ (b : Int) := by omega
    simp [h, this]
theorem eqB (a b : Nat) : ((a : Int) == (b : Int)) = decide (a = b) := by
  by_cases h : a = b
  · subst h; simp
  · have : (a : Int) ≠ (b : Int) := by omega
    simp [h, this]
theorem byteB (b c : UInt8) : decide (b.toNat = c.toNat) = (b == c) := by
  by_cases h : b = c
  · subst h; simp
  · have : b.toNat ≠ c.toNat := fun e => h (UInt8.toNat_inj.1 e)
    rw [decide_eq_false this]; symm; simpa using h
/- Parts. -/
/-- The class of a byte. -/
def clsN (b : Nat) : Int := bif lowB b then 1 else bif capB b then 2 else bif digB b then 3 else bif decide (b = 95) then 4 else 0
theorem class_eq (b : Nat) : F262 0 (b : Int) = some (clsN b) := by
  unfold F262 clsN
  rw [show (97 : Int) = ((97 : Nat) : Int) from rfl, show (122 : Int) = ((122 : Nat) : Int) from rfl, show (65 : Int) = ((65 : Nat) : Int) from rfl, show (90 : Int) = ((90 : Nat) : Int) from rfl, show (48 : Int) = ((48 : Nat) : Int) from rfl, show (57 : Int) = ((57 : Nat) : Int) from rfl, show (95 : Int) = ((95 : Nat) : Int) from rfl]
  simp only [geI, leI, eqB, lowB, capB, digB, Bool.decide_and]
  cases decide (97 ≤ b) <;> cases decide (b ≤ 122) <;> cases decide (65 ≤ b) <;> cases decide (b ≤ 90) <;> cases decide (48 ≤ b) <;> cases decide (b ≤ 57) <;> cases decide (b = 95) <;> rfl
theorem cls_high {b : Nat} (h : 128 ≤ b) : clsN b = 0 := by
  have h1 : lowB b = false := decide_eq_false (by omega)
  have h2 : capB b = false := decide_eq_false (by omega)
  have h3 : digB b = false := decide_eq_false (by omega)
  have h4 : decide (b = 95) = false := decide_eq_false (by omega)
  simp only [clsN, h1, h2, h3, h4, cond_false]
theorem cls0 (b : UInt8) : (clsN b.toNat == 0) = !alnB b := by
  unfold clsN alnB
  cases lowB b.toNat <;> cases capB b.toNat <;> cases digB b.toNat <;> cases decide (b.toNat = 95) <;> rfl
theorem cls12 (b : UInt8) : (bif (clsN b.toNat != 1) then (clsN b.toNat != 2) else false) = !letB b := by
  unfold clsN letB
  cases lowB b.toNat <;> cases capB b.toNat <;> cases digB b.toNat <;> cases decide (b.toNat = 95) <;> rfl
/-- Is this byte right at this place? -/
def okAt (i : Nat) (b : UInt8) : Bool := alnB b && (!decide (i = 0) || letB b)
def okFrom : Nat → List UInt8 → Bool
  | _, [] => true
  | i, b :: r => okAt i b && okFrom (i + 1) r
theorem okFrom_pos : ∀ (r : List UInt8) (i : Nat), okFrom (i + 1) r = r.all alnB := by
  intro r
  induction r with
  | nil => intro i; rfl
  | cons b r ih =>
    intro i
    rw [okFrom, ih, List.all_cons, okAt, decide_eq_false (by omega)]
    simp
theorem part_loop (s : List UInt8) : ∀ (m i : Nat), s.length - i ≤ m → i ≤ s.length → ∃ z, loopW (S187_3step 0) (s, (), s, (i : Int)) = some (bif okFrom i (s.drop i) then .inr (s, z) else .inl (false, z)) := by
  intro m
  induction m with
  | zero =>
    intro i hm hi
    have hlt : ¬ i < s.length := by omega
    rw [List.drop_eq_nil_of_le (by omega)]
    exact ⟨_, loopW_end (by simp only [S187_3step, S187_3, Int.toNat_natCast, hlt, decide_false, cond_false]; rfl)⟩
  | succ m ih =>
    intro i hm hi
    by_cases hlt : i < s.length
    · have e0 : ((i : Int) == (0 : Int)) = decide (i = 0) := eqB i 0
      rw [drop_cons hlt 0, okFrom]
      by_cases ha : byteAt s i < 128
      · have hd := decode_ascii s i ha
        have hc : F262 0 (byteAt s i : Int) = some (clsN (s.getD i 0).toNat) := class_eq _
        cases hok : okAt i (s.getD i 0) with
        | true =>
          obtain ⟨z, hz⟩ := ih (i + 1) (by omega) (by omega)
          refine ⟨z, ?_⟩
          rw [Bool.true_and, ← hz]
          refine loopW_go ?_
          unfold okAt at hok
          simp only [S187_3step, S187_3, Int.toNat_natCast, hlt, decide_true, cond_true, decode_eq, hd, hc, Option.bind_some, cls0, e0]
          cases h1 : alnB (s.getD i 0) with
          | false => rw [h1] at hok; cases hok
          | true =>
            rw [h1] at hok
            cases h2 : decide (i = 0) with
            | false => rfl
            | true =>
              rw [h2] at hok
              have h3 := cls12 (s.getD i 0)
              have h4 : letB (s.getD i 0) = true := by simpa using hok
              rw [h4] at h3
              simp only [Bool.not_true, cond_false, cond_true]
              rw [h3]
              rfl
        | false =>
          refine ⟨(s, ((i + 1 : Nat) : Int)), loopW_end ?_⟩
          unfold okAt at hok
          simp only [S187_3step, S187_3, Int.toNat_natCast, hlt, decide_true, cond_true, decode_eq, hd, hc, Option.bind_some, cls0, e0, Bool.false_and, cond_false]
          cases h1 : alnB (s.getD i 0) with
          | false => rfl
          | true =>
            rw [h1] at hok
            cases h2 : decide (i = 0) with
            | false => rw [h2] at hok; simp at hok
            | true =>
              rw [h2] at hok
              have h3 := cls12 (s.getD i 0)
              have h4 : letB (s.getD i 0) = false := by simpa using hok
              rw [h4] at h3
              simp only [Bool.not_true, cond_false, cond_true]
              rw [h3]
              rfl
      · have hh := decode_high s i (by omega)
        have hc := class_eq (decodeAt s i).1
        rw [cls_high hh] at hc
        have hok : okAt i (s.getD i 0) = false := by
          unfold okAt alnB lowB capB digB
          have : byteAt s i = (s.getD i 0).toNat := rfl
          rw [← this, decide_eq_false (by omega), decide_eq_false (by omega), decide_eq_false (by omega), decide_eq_false (by omega)]
          rfl
        refine ⟨(s, ((i + (decodeAt s i).2 : Nat) : Int)), loopW_end ?_⟩
        rw [hok]
        simp only [S187_3step, S187_3, Int.toNat_natCast, hlt, decide_true, cond_true, decode_eq, hc, Option.bind_some, Bool.false_and, cond_false]
        rfl
    · rw [List.drop_eq_nil_of_le (by omega)]
      exact ⟨_, loopW_end (by simp only [S187_3step, S187_3, Int.toNat_natCast, hlt, decide_false, cond_false]; rfl)⟩
theorem isPart_eq (s : List UInt8) : F187 0 s = some (partP s) := by
  obtain ⟨z, hz⟩ := part_loop s s.length 0 (by omega) (by omega)
  unfold F187
  rw [loopQ0, hz, List.drop_zero]
  cases s with
  | nil => rfl
  | cons c r =>
    rw [okFrom, okFrom_pos]
    have e1 : decide (((c :: r).length : Int) ≥ (1 : Int)) = true := decide_eq_true (by simp only [List.length_cons]; omega)
    have e2 : decide (((c :: r).length : Int) ≤ (40 : Int)) = decide (r.length + 1 ≤ 40) := leI _ 40
    have e3 : okAt 0 c = letB c := by
      unfold okAt
      cases h : letB c with
      | true => rw [let_aln h]; rfl
      | false => simp
    rw [e3, partP]
    cases letB c <;> cases r.all alnB <;> simp only [Bool.and_false, Bool.and_true, Bool.false_and, Bool.true_and, cond_true, cond_false, Option.bind_some, sumE_inl, sumE_inr, e1, e2]
/- Full names. -/
theorem full_loop (s : List UInt8) (xs : List (List UInt8)) (hx : xs.length ≤ 9223372036854770000) : loopW (S127_3step 0) (s, xs.map PV.str, ((xs.map PV.str).length : Int), ((0 : Nat) : Int)) = some (bif xs.all partP then .inr s else .inl false) := by
  have h := loopW_all (step := S127_3step 0) (fun i => (s, xs.map PV.str, ((xs.map PV.str).length : Int), (i : Int))) (xs.map PV.str).length (fun i => partP ((xs.map PV.str).getD i .bad).asStr) (Sum.inl false : Bool ⊕ List UInt8) (Sum.inr s) (fun i hi => by
    have hi' : i < xs.length := by simpa using hi
    simp only [S127_3step, S127_3, lt_int, inRange_nat, hi, decide_true, cond_true, Int.toNat_natCast, isPart_eq, Option.bind_some, wadd' (i := i) (by omega)]
    cases partP ((xs.map PV.str).getD i .bad).asStr <;> rfl) (by
    simp only [S127_3step, S127_3, lt_int, Nat.lt_irrefl, decide_false, cond_false]) (xs.map PV.str).length 0 (by omega)
  rw [allF_of (fun x : PV => partP x.asStr), List.all_map] at h
  exact h
theorem splitP_len (c : UInt8) : ∀ s, (splitP c s).length ≤ s.length + 1 := by
  intro s
  induction s with
  | nil => simp [splitP]
  | cons b r ih =>
    simp only [splitP]
    cases (b == c)
    · simp only [cond_false]
      split
      · rename_i h; rw [h] at ih; simp at ih ⊢; omega
      · simp
    · simp; omega
theorem lsplit_eq (s : List UInt8) (hs : s.length ≤ 1048576) : Lsplit 0 s ([46] : List UInt8) = some ((splitP 46 s).map PV.str) := by
  unfold Lsplit
  have : Nat.blt s.length 4294967281 = true := by rw [Nat.blt_eq]; omega
  simp only [this, cond_true]
theorem isFull_eq (s : List UInt8) (hs : s.length ≤ 1048576) : F127 0 s = some (fullP s) := by
  have hl := splitP_len 46 s
  unfold F127 fullP
  have e : decide ((s.length : Int) ≤ (120 : Int)) = decide (s.length ≤ 120) := leI _ 120
  rw [lsplit_eq s hs, Option.bind_some, loopQ0, show (0 : Int) = ((0 : Nat) : Int) from rfl, full_loop s _ (by omega)]
  cases (splitP 46 s).all partP
  · simp [sumE]
  · simp [sumE, e]
/- Keywords. -/
noncomputable def wordP (s : List UInt8) : Bool := (F210 0 s).getD false
theorem refWord_eq (s : List UInt8) : F210 0 s = some (wordP s) := by
  unfold wordP
  simp only [F210, condSome, Option.getD_some]
theorem word_eq (s : List UInt8) : F182 0 s = some (wordP s) := by
  rw [← refWord_eq]; rfl
noncomputable def simpP (s : List UInt8) : Bool := partP s && !wordP s
theorem isPart2_eq (s : List UInt8) : F77 0 s = some (simpP s) := by
  unfold F77 simpP
  rw [isPart_eq, Option.bind_some, word_eq]
  cases partP s <;> rfl
/-- The name of a definition. -/
noncomputable def defP (s : List UInt8) : Bool := fullP s && (splitP 46 s).all fun x => !wordP x
theorem contWord_eq (xs : List (List UInt8)) (hx : xs.length ≤ 9223372036854770000) : F180 0 (xs.map PV.str) () = some (!xs.all fun x => !wordP x) := by
  have h := loopW_first (step := S258_3step 0) (fun i => (xs.map PV.str, (), ((xs.map PV.str).length : Int), (i : Int))) (xs.map PV.str).length (fun i => !wordP ((xs.map PV.str).getD i .bad).asStr) (fun i => (Sum.inl (i : Int) : Int ⊕ Unit)) (Sum.inr ()) (fun i hi => by
    have hi' : i < xs.length := by simpa using hi
    simp only [S258_3step, S258_3, lt_int, inRange_nat, hi, decide_true, cond_true, Int.toNat_natCast, word_eq, Option.bind_some, wadd' (i := i) (by omega)]
    cases wordP ((xs.map PV.str).getD i .bad).asStr <;> rfl) (by
    simp only [S258_3step, S258_3, lt_int, Nat.lt_irrefl, decide_false, cond_false]) (xs.map PV.str).length 0 (by omega)
  rw [allF_of (fun x : PV => !wordP x.asStr), List.all_map] at h
  obtain ⟨r, h1, h2, h3⟩ := h
  unfold F180 F258
  rw [loopQ0, show (0 : Int) = ((0 : Nat) : Int) from rfl, h1]
  cases ha : xs.all fun x => !wordP x with
  | true => rw [h2 ha]; rfl
  | false =>
    obtain ⟨j, _, _, rfl⟩ := h3 ha
    simp [sumE]
theorem isDef_eq (s : List UInt8) (hs : s.length ≤ 1048576) : F72 0 s = some (defP s) := by
  have hl := splitP_len 46 s
  unfold F72 defP
  rw [isFull_eq s hs, Option.bind_some]
  cases fullP s with
  | false => rfl
  | true =>
    simp only [cond_true, lsplit_eq s hs, Option.bind_some, contWord_eq _ (show (splitP 46 s).length ≤ _ by omega), Bool.not_not, Bool.true_and]
end Go.Ab
