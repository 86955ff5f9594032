/- Names: parts, full names, keywords; loops that look for the first. -/
import Derived.Test.YtjfdnmkfjikjnaaGreatDoorAbFmtF
import Derived.Test.YtjfdnmkfjikjnaaGreatDoorAbPlain
set_option linter.unusedVariables false
set_option linter.unusedSimpArgs false
set_option linter.unnecessarySimpa false
namespace Go.Ab
open Go
theorem allF_list {α : Type} (f : α → Bool) (d : α) : ∀ (xs pre : List α), allF (fun i => f ((pre ++ xs).getD i d)) pre.length xs.length = xs.all f := by
  intro xs
  induction xs with
  | nil => intro pre; rfl
  | cons x r ih =>
    intro pre
    simp only [List.length_cons, allF, List.all_cons]
    have e1 : (pre ++ x :: r).getD pre.length d = x := by simp [List.getD]
    rw [e1]
    have := ih (pre ++ [x])
    rw [show pre ++ x :: r = pre ++ [x] ++ r by simp, ← this]
    simp
theorem allF_of {α : Type} (f : α → Bool) (d : α) (xs : List α) : allF (fun i => f (xs.getD i d)) 0 xs.length = xs.all f := allF_list f d xs []
/-- A loop that looks for the first place where a test fails. -/
theorem loopW_first {σ τ : Type} {step : σ → Option (σ ⊕ τ)} (st : Nat → σ) (n : Nat) (p : Nat → Bool) (bad : Nat → τ) (good : τ) (hstep : ∀ i, i < n → step (st i) = some (bif p i then .inl (st (i + 1)) else .inr (bad i))) (hend : step (st n) = some (.inr good)) :
    ∀ k i, i + k = n → ∃ r, loopW step (st i) = some r ∧ (allF p i k = true → r = good) ∧ (allF p i k = false → ∃ j, i ≤ j ∧ j < n ∧ r = bad j) := by
  intro k
  induction k with
  | zero =>
    intro i hi
    have : i = n := by omega
    subst this
    exact ⟨good, loopW_end hend, fun _ => rfl, fun h => by simp [allF] at h⟩
  | succ k ih =>
    intro i hi
    have h := hstep i (by omega)
    simp only [allF]
    cases hp : p i with
    | true =>
      rw [hp] at h
      obtain ⟨r, h1, h2, h3⟩ := ih (i + 1) (by omega)
      refine ⟨r, by rw [loopW_go h, h1], fun h => h2 (by simpa using h), fun h => ?_⟩
      obtain ⟨j, a, b, c⟩ := h3 (by simpa using h)
      exact ⟨j, by omega, b, c⟩
    | false =>
      rw [hp] at h
      exact ⟨bad i, loopW_end h, fun h => by simp at h, fun _ => ⟨i, Nat.le_refl _, by omega, rfl⟩⟩
/-- A loop that gathers, element by element. -/
theorem loopW_foldl {σ τ α β : Type} {step : σ → Option (σ ⊕ τ)} (mk : Nat → β → σ) (out : β → τ) (xs : List α) (d : α) (f : β → α → β) (I : Nat → β → Prop)
    (hstep : ∀ i b, i < xs.length → I i b → step (mk i b) = some (.inl (mk (i + 1) (f b (xs.getD i d)))) ∧ I (i + 1) (f b (xs.getD i d))) (hend : ∀ b, I xs.length b → step (mk xs.length b) = some (.inr (out b))) :
    ∀ k i b, i + k = xs.length → I i b → loopW step (mk i b) = some (out ((xs.drop i).foldl f b)) ∧ I xs.length ((xs.drop i).foldl f b) := by
  intro k
  induction k with
  | zero =>
    intro i b hi hI
    have : i = xs.length := by omega
    subst this
    rw [List.drop_length]
    exact ⟨loopW_end (hend b hI), hI⟩
  | succ k ih =>
    intro i b hi hI
    have hlt : i < xs.length := by omega
    obtain ⟨h1, h2⟩ := hstep i b hlt hI
    rw [loopW_go h1, drop_cons hlt d, List.foldl_cons]
    exact ih (i + 1) _ (by omega) h2
def lowB (b : Nat) : Bool := decide (97 ≤ b ∧ b ≤ 122)
def capB (b : Nat) : Bool := decide (65 ≤ b ∧ b ≤ 90)
def digB (b : Nat) : Bool := decide (48 ≤ b ∧ b ≤ 57)
def letB (b : UInt8) : Bool := lowB b.toNat || capB b.toNat
def alnB (b : UInt8) : Bool := lowB b.toNat || capB b.toNat || digB b.toNat || decide (b.toNat = 95)
theorem let_aln {b : UInt8} (h : letB b = true) : alnB b = true := by
  unfold letB at h; unfold alnB; rw [h]; rfl
/-- A part of a name. -/
def partP (s : List UInt8) : Bool :=
  match s with
  | [] => false
  | c :: r => decide (r.length + 1 ≤ 40) && letB c && r.all alnB
/-- A full name. -/
def fullP (s : List UInt8) : Bool := decide (s.length ≤ 120) && (splitP 46 s).all partP
/-- The name of a type. -/
def typeP (s : List UInt8) : Bool :=
  match s with
  | [] => fullP []
  | c :: r => bif c == 46 then fullP r else fullP (c :: r)
end Go.Ab
