/- Plain laws: small tools. -/
import Derived.Test.YtefbblajhfhhhaaDoorAbLoop
import Derived.IntWalk
set_option linter.unusedVariables false
set_option linter.unusedSimpArgs false
set_option linter.unnecessarySimpa false
namespace Go.Ab
open Go

theorem wrap64 {n : Int} (h0 : -9223372036854775808 ≤ n) (h1 : n ≤ 9223372036854775807) : IntKind.wrap .i64 n = n := IntWalk.i64_in n ⟨h0, h1⟩
theorem wrap64_nat {n : Nat} (h : n ≤ 9223372036854775807) : IntKind.wrap .i64 (n : Int) = (n : Int) := IntWalk.i64_in n ⟨by omega, by omega⟩
theorem inRange_nat (i n : Nat) : inRange (i : Int) n = decide (i < n) := by
  unfold inRange
  by_cases h : i < n
  · simp [h]
  · simp [h]
theorem cond_push {α β : Type} (f : α → β) (b : Bool) (x y : α) : (bif b then f x else f y) = f (bif b then x else y) := by cases b <;> rfl
theorem getD_of_lt {α : Type} {l : List α} {i : Nat} {d : α} (h : i < l.length) : l.getD i d = l[i] := by simp [List.getD, h]
theorem drop_cons {α : Type} {l : List α} {i : Nat} (h : i < l.length) (d : α) : l.drop i = l.getD i d :: l.drop (i + 1) := by rw [getD_of_lt h]; exact List.drop_eq_getElem_cons h

/-- A loop that goes down by a measure. -/
theorem loopW_ind {σ τ : Type} {step : σ → Option (σ ⊕ τ)} (m : σ → Nat) (I : σ → Prop) (g : σ → τ) (h : ∀ x, I x → (∃ x', step x = some (.inl x') ∧ I x' ∧ m x' < m x ∧ g x' = g x) ∨ step x = some (.inr (g x))) (x : σ) (hx : I x) : loopW step x = some (g x) := by
  suffices H : ∀ n x, m x ≤ n → I x → loopW step x = some (g x) from H _ x (Nat.le_refl _) hx
  intro n
  induction n with
  | zero =>
    intro x hm hx
    rcases h x hx with ⟨x', _, _, h3, _⟩ | h1
    · omega
    · exact loopW_end h1
  | succ n ih =>
    intro x hm hx
    rcases h x hx with ⟨x', h1, h2, h3, h4⟩ | h1
    · rw [loopW_go h1, ih x' (by omega) h2, h4]
    · exact loopW_end h1

theorem sumE_inl {α β γ : Type} (f : α → γ) (g : β → γ) (a : α) : sumE f g (.inl a) = f a := rfl
theorem sumE_inr {α β γ : Type} (f : α → γ) (g : β → γ) (b : β) : sumE f g (.inr b) = g b := rfl
end Go.Ab
namespace Go.Ab
open Go

/-- All of k places from i on. -/
def allF (p : Nat → Bool) : Nat → Nat → Bool
  | _, 0 => true
  | i, k + 1 => p i && allF p (i + 1) k

theorem lt_int (i n : Nat) : decide ((i : Int) < (n : Int)) = decide (i < n) := by
  by_cases h : i < n
  · simp [h]
  · simp [h]

/-- A loop that goes on while a test holds. -/
theorem loopW_all {σ τ : Type} {step : σ → Option (σ ⊕ τ)} (st : Nat → σ) (n : Nat) (p : Nat → Bool) (bad good : τ) (hstep : ∀ i, i < n → step (st i) = some (bif p i then .inl (st (i + 1)) else .inr bad)) (hend : step (st n) = some (.inr good)) :
    ∀ k i, i + k = n → loopW step (st i) = some (bif allF p i k then good else bad) := by
  intro k
  induction k with
  | zero =>
    intro i hi
    have : i = n := by omega
    subst this
    simp only [allF, cond_true]
    exact loopW_end hend
  | succ k ih =>
    intro i hi
    have h := hstep i (by omega)
    simp only [allF]
    cases hp : p i with
    | true =>
      rw [hp] at h
      rw [loopW_go h, ih (i + 1) (by omega)]
      simp
    | false =>
      rw [hp] at h
      rw [loopW_end h]
      simp

/-- A loop whose flag says whether it goes on. -/
theorem loopW_flag {σ τ : Type} {step : σ → Option (σ ⊕ τ)} (st : Bool → Nat → σ) (n : Nat) (p : Nat → Bool) (out : Bool → τ) (hstep : ∀ i, i < n → step (st true i) = some (.inl (st (p i) (i + 1)))) (hoff : ∀ i, step (st false i) = some (.inr (out false))) (hend : step (st true n) = some (.inr (out true))) :
    ∀ k i b, i + k = n → loopW step (st b i) = some (out (b && allF p i k)) := by
  intro k
  induction k with
  | zero =>
    intro i b hi
    have : i = n := by omega
    subst this
    cases b with
    | true => simp only [allF, Bool.and_true]; exact loopW_end hend
    | false => simp only [Bool.false_and]; exact loopW_end (hoff i)
  | succ k ih =>
    intro i b hi
    cases b with
    | true =>
      rw [loopW_go (hstep i (by omega)), ih (i + 1) _ (by omega)]
      simp only [allF, Bool.true_and]
    | false => simp only [Bool.false_and]; exact loopW_end (hoff i)

/-- A loop that ends. -/
theorem loopW_tot {σ τ : Type} {step : σ → Option (σ ⊕ τ)} (m : σ → Nat) (I : σ → Prop) (Q : τ → Prop) (h : ∀ x, I x → (∃ x', step x = some (.inl x') ∧ I x' ∧ m x' < m x) ∨ ∃ r, step x = some (.inr r) ∧ Q r) (x : σ) (hx : I x) : ∃ r, loopW step x = some r ∧ Q r := by
  suffices H : ∀ n x, m x ≤ n → I x → ∃ r, loopW step x = some r ∧ Q r from H _ x (Nat.le_refl _) hx
  intro n
  induction n with
  | zero =>
    intro x hm hx
    rcases h x hx with ⟨x', _, _, h3⟩ | ⟨r, h1, h2⟩
    · omega
    · exact ⟨r, loopW_end h1, h2⟩
  | succ n ih =>
    intro x hm hx
    rcases h x hx with ⟨x', h1, h2, h3⟩ | ⟨r, h1, h2⟩
    · rw [loopW_go h1]; exact ih x' (by omega) h2
    · exact ⟨r, loopW_end h1, h2⟩

theorem beqC {α : Type} [BEq α] [LawfulBEq α] (a b : α) : (a == b) = (b == a) := by
  cases h : (a == b) with
  | true => have := eq_of_beq h; subst this; simp
  | false => cases h2 : (b == a) with
    | false => rfl
    | true => have := eq_of_beq h2; subst this; simp at h
theorem condAnd (a b : Bool) : (bif a then b else false) = (a && b) := by cases a <;> rfl
theorem condOr (a b : Bool) : (bif a then true else b) = (a || b) := by cases a <;> rfl
theorem condSome {α : Type} (a : Bool) (x y : α) : (bif a then some x else some y) = some (bif a then x else y) := by cases a <;> rfl
theorem waddB (i : Nat) (h : i ≤ 1000000000000) : IntKind.wrap .i64 ((i : Int) + 1) = ((i + 1 : Nat) : Int) := by
  rw [show (i : Int) + 1 = ((i + 1 : Nat) : Int) by omega]; exact wrap64_nat (by omega)
end Go.Ab
