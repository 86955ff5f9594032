/- Loops over places of a list, and lists that are compared part by part. -/
import Derived.Test.YtjfdnmkfjikjnaaGreatDoorAbPlain
set_option linter.unusedVariables false
set_option linter.unusedSimpArgs false
set_option linter.unnecessarySimpa false
namespace Go.Ab
open Go

/-- All of k places from i on. -/
def allF (p : Nat → Bool) : Nat → Nat → Bool
  | _, 0 => true
  | i, k + 1 => p i && allF p (i + 1) k

theorem lt_int (i n : Nat) : decide ((i : Int) < (n : Int)) = decide (i < n) := by
  by_cases h : i < n
  · simp [h]
  · simp [h]

/-- A loop that goes on while a test holds. -/
theorem loopW_all {σ τ : Type} {step : σ → Option (σ ⊕ τ)} (st : Nat → σ) (n : Nat) (p : Nat → Bool) (bad good : τ) (hstep : ∀ i, i < n → step (st i) = some (bif p i then .inl (st (i + 1)) else .inr bad)) (hend : step (st n) = some (.inr good)) :
    ∀ k i, i + k = n → loopW step (st i) = some (bif allF p i k then good else bad) := by
  intro k
  induction k with
  | zero =>
    intro i hi
    have : i = n := by omega
    subst this
    simp only [allF, cond_true]
    exact loopW_end hend
  | succ k ih =>
    intro i hi
    have h := hstep i (by omega)
    simp only [allF]
    cases hp : p i with
    | true =>
      rw [hp] at h
      rw [loopW_go h, ih (i + 1) (by omega)]
      simp
    | false =>
      rw [hp] at h
      rw [loopW_end h]
      simp

/-- A loop whose flag says whether it goes on. -/
theorem loopW_flag {σ τ : Type} {step : σ → Option (σ ⊕ τ)} (st : Bool → Nat → σ) (n : Nat) (p : Nat → Bool) (out : Bool → τ) (hstep : ∀ i, i < n → step (st true i) = some (.inl (st (p i) (i + 1)))) (hoff : ∀ i, step (st false i) = some (.inr (out false))) (hend : step (st true n) = some (.inr (out true))) :
    ∀ k i b, i + k = n → loopW step (st b i) = some (out (b && allF p i k)) := by
  intro k
  induction k with
  | zero =>
    intro i b hi
    have : i = n := by omega
    subst this
    cases b with
    | true => simp only [allF, Bool.and_true]; exact loopW_end hend
    | false => simp only [Bool.false_and]; exact loopW_end (hoff i)
  | succ k ih =>
    intro i b hi
    cases b with
    | true =>
      rw [loopW_go (hstep i (by omega)), ih (i + 1) _ (by omega)]
      simp only [allF, Bool.true_and]
    | false => simp only [Bool.false_and]; exact loopW_end (hoff i)

/-- A loop that ends. -/
theorem loopW_tot {σ τ : Type} {step : σ → Option (σ ⊕ τ)} (m : σ → Nat) (I : σ → Prop) (Q : τ → Prop) (h : ∀ x, I x → (∃ x', step x = some (.inl x') ∧ I x' ∧ m x' < m x) ∨ ∃ r, step x = some (.inr r) ∧ Q r) (x : σ) (hx : I x) : ∃ r, loopW step x = some r ∧ Q r := by
  suffices H : ∀ n x, m x ≤ n → I x → ∃ r, loopW step x = some r ∧ Q r from H _ x (Nat.le_refl _) hx
  intro n
  induction n with
  | zero =>
    intro x hm hx
    rcases h x hx with ⟨x', _, _, h3⟩ | ⟨r, h1, h2⟩
    · omega
    · exact ⟨r, loopW_end h1, h2⟩
  | succ n ih =>
    intro x hm hx
    rcases h x hx with ⟨x', h1, h2, h3⟩ | ⟨r, h1, h2⟩
    · rw [loopW_go h1]; exact ih x' (by omega) h2
    · exact ⟨r, loopW_end h1, h2⟩

/-- Two lists are the same, part by part. -/
def eqL {α : Type} (f : α → α → Bool) : List α → List α → Bool
  | [], [] => true
  | x :: xs, y :: ys => f x y && eqL f xs ys
  | _, _ => false
theorem eqL_len {α : Type} {f : α → α → Bool} : ∀ {xs ys : List α}, xs.length ≠ ys.length → eqL f xs ys = false := by
  intro xs
  induction xs with
  | nil => intro ys h; cases ys with
    | nil => exact absurd rfl h
    | cons => rfl
  | cons x r ih => intro ys h; cases ys with
    | nil => rfl
    | cons y q => simp only [eqL]; rw [ih (by simpa using h)]; simp
theorem eqL_symm {α : Type} {f : α → α → Bool} (hf : ∀ x y, f x y = f y x) : ∀ xs ys : List α, eqL f xs ys = eqL f ys xs := by
  intro xs
  induction xs with
  | nil => intro ys; cases ys <;> rfl
  | cons x r ih => intro ys; cases ys with
    | nil => rfl
    | cons y q => simp only [eqL]; rw [hf, ih]
theorem eqL_refl {α : Type} {f : α → α → Bool} (hf : ∀ x, f x x = true) : ∀ xs : List α, eqL f xs xs = true := by
  intro xs
  induction xs with
  | nil => rfl
  | cons x r ih => simp only [eqL]; rw [hf, ih]; rfl
theorem eqL_all {α : Type} {f : α → α → Bool} (d : α) : ∀ (xs ys : List α) (pre1 pre2 : List α), pre1.length = pre2.length → xs.length = ys.length →
    allF (fun i => f ((pre1 ++ xs).getD i d) ((pre2 ++ ys).getD i d)) pre1.length xs.length = eqL f xs ys := by
  intro xs
  induction xs with
  | nil => intro ys p q hp h; cases ys with
    | nil => rfl
    | cons => simp at h
  | cons x r ih =>
    intro ys p q hp h
    cases ys with
    | nil => simp at h
    | cons y s =>
      simp only [List.length_cons, allF, eqL]
      have e1 : (p ++ x :: r).getD p.length d = x := by simp [List.getD]
      have e2 : (q ++ y :: s).getD p.length d = y := by rw [hp]; simp [List.getD]
      rw [e1, e2]
      have := ih s (p ++ [x]) (q ++ [y]) (by simp [hp]) (by simpa using h)
      rw [show p ++ x :: r = p ++ [x] ++ r by simp, show q ++ y :: s = q ++ [y] ++ s by simp]
      rw [← this]
      simp
theorem eqL_of {α : Type} {f : α → α → Bool} (d : α) {xs ys : List α} (h : xs.length = ys.length) : allF (fun i => f (xs.getD i d) (ys.getD i d)) 0 xs.length = eqL f xs ys := by
  exact eqL_all (f := f) d xs ys [] [] rfl h
theorem neLen (a b : List PV) : ((a.length : Int) != (b.length : Int)) = !decide (a.length = b.length) := by
  by_cases h : a.length = b.length
  · simp [h]
  · have : ¬ ((a.length : Int) = (b.length : Int)) := by omega
    simp [h, bne, this]
theorem eqLen (a b : List PV) : ((a.length : Int) == (b.length : Int)) = decide (a.length = b.length) := by
  by_cases h : a.length = b.length
  · simp [h]
  · have : ¬ ((a.length : Int) = (b.length : Int)) := by omega
    simp [h, this]
theorem beqC {α : Type} [BEq α] [LawfulBEq α] (a b : α) : (a == b) = (b == a) := by
  cases h : (a == b) with
  | true => have := eq_of_beq h; subst this; simp
  | false => cases h2 : (b == a) with
    | false => rfl
    | true => have := eq_of_beq h2; subst this; simp at h
theorem condAnd (a b : Bool) : (bif a then b else false) = (a && b) := by cases a <;> rfl
theorem condOr (a b : Bool) : (bif a then true else b) = (a || b) := by cases a <;> rfl
theorem condSome {α : Type} (a : Bool) (x y : α) : (bif a then some x else some y) = some (bif a then x else y) := by cases a <;> rfl
theorem wadd (i : Nat) (h : i ≤ 1048576) : IntKind.wrap .i64 ((i : Int) + 1) = ((i + 1 : Nat) : Int) := by
  rw [show (i : Int) + 1 = ((i + 1 : Nat) : Int) by omega]; exact wrap64_nat (by omega)
end Go.Ab
