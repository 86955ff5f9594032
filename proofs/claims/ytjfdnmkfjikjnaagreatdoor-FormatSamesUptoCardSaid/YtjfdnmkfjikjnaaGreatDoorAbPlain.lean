/- Plain laws: small tools. -/
import Derived.Test.YtjfdnmkfjikjnaaGreatDoorAbLoop
import Derived.IntWalk
set_option linter.unusedVariables false
set_option linter.unusedSimpArgs false
set_option linter.unnecessarySimpa false
namespace Go.Ab
open Go

theorem wrap64 {n : Int} (h0 : -9223372036854775808 ≤ n) (h1 : n ≤ 9223372036854775807) : IntKind.wrap .i64 n = n := IntWalk.i64_in n ⟨h0, h1⟩
theorem wrap64_nat {n : Nat} (h : n ≤ 9223372036854775807) : IntKind.wrap .i64 (n : Int) = (n : Int) := IntWalk.i64_in n ⟨by omega, by omega⟩
theorem inRange_nat (i n : Nat) : inRange (i : Int) n = decide (i < n) := by
  unfold inRange
  by_cases h : i < n
  · simp [h]
  · simp [h]
theorem cond_push {α β : Type} (f : α → β) (b : Bool) (x y : α) : (bif b then f x else f y) = f (bif b then x else y) := by cases b <;> rfl
theorem getD_of_lt {α : Type} {l : List α} {i : Nat} {d : α} (h : i < l.length) : l.getD i d = l[i] := by simp [List.getD, h]
theorem drop_cons {α : Type} {l : List α} {i : Nat} (h : i < l.length) (d : α) : l.drop i = l.getD i d :: l.drop (i + 1) := by rw [getD_of_lt h]; exact List.drop_eq_getElem_cons h

/-- A loop that goes down by a measure. -/
theorem loopW_ind {σ τ : Type} {step : σ → Option (σ ⊕ τ)} (m : σ → Nat) (I : σ → Prop) (g : σ → τ) (h : ∀ x, I x → (∃ x', step x = some (.inl x') ∧ I x' ∧ m x' < m x ∧ g x' = g x) ∨ step x = some (.inr (g x))) (x : σ) (hx : I x) : loopW step x = some (g x) := by
  suffices H : ∀ n x, m x ≤ n → I x → loopW step x = some (g x) from H _ x (Nat.le_refl _) hx
  intro n
  induction n with
  | zero =>
    intro x hm hx
    rcases h x hx with ⟨x', _, _, h3, _⟩ | h1
    · omega
    · exact loopW_end h1
  | succ n ih =>
    intro x hm hx
    rcases h x hx with ⟨x', h1, h2, h3, h4⟩ | h1
    · rw [loopW_go h1, ih x' (by omega) h2, h4]
    · exact loopW_end h1

theorem sumE_inl {α β γ : Type} (f : α → γ) (g : β → γ) (a : α) : sumE f g (.inl a) = f a := rfl
theorem sumE_inr {α β γ : Type} (f : α → γ) (g : β → γ) (b : β) : sumE f g (.inr b) = g b := rfl
end Go.Ab
