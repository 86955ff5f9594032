/- Lists that are compared part by part. -/
import Derived.Test.YtcpkdafleaddlaaGreatDoorAbPlain
import Derived.Lib.ParseIntB
import Derived.Lib.ItoaNum
import Derived.KernelRfl
set_option linter.unusedVariables false
set_option linter.unusedSimpArgs false
set_option linter.unnecessarySimpa false
namespace Go.Ab
open Go
/-- Two lists are the same, part by part. -/
def eqL {α : Type} (f : α → α → Bool) : List α → List α → Bool
  | [], [] => true
  | x :: xs, y :: ys => f x y && eqL f xs ys
  | _, _ => false
theorem eqL_len {α : Type} {f : α → α → Bool} : ∀ {xs ys : List α}, xs.length ≠ ys.length → eqL f xs ys = false := by
  intro xs
  induction xs with
  | nil => intro ys h; cases ys with
    | nil => exact absurd rfl h
    | cons => rfl
  | cons x r ih => intro ys h; cases ys with
    | nil => rfl
    | cons y q => simp only [eqL]; rw [ih (by simpa using h)]; simp
theorem eqL_symm {α : Type} {f : α → α → Bool} (hf : ∀ x y, f x y = f y x) : ∀ xs ys : List α, eqL f xs ys = eqL f ys xs := by
  intro xs
  induction xs with
  | nil => intro ys; cases ys <;> rfl
  | cons x r ih => intro ys; cases ys with
    | nil => rfl
    | cons y q => simp only [eqL]; rw [hf, ih]
theorem eqL_refl {α : Type} {f : α → α → Bool} (hf : ∀ x, f x x = true) : ∀ xs : List α, eqL f xs xs = true := by
  intro xs
  induction xs with
  | nil => rfl
  | cons x r ih => simp only [eqL]; rw [hf, ih]; rfl
theorem eqL_all {α : Type} {f : α → α → Bool} (d : α) : ∀ (xs ys : List α) (pre1 pre2 : List α), pre1.length = pre2.length → xs.length = ys.length →
    allF (fun i => f ((pre1 ++ xs).getD i d) ((pre2 ++ ys).getD i d)) pre1.length xs.length = eqL f xs ys := by
  intro xs
  induction xs with
  | nil => intro ys p q hp h; cases ys with
    | nil => rfl
    | cons => simp at h
  | cons x r ih =>
    intro ys p q hp h
    cases ys with
    | nil => simp at h
    | cons y s =>
      simp only [List.length_cons, allF, eqL]
      have e1 : (p ++ x :: r).getD p.length d = x := by simp [List.getD]
      have e2 : (q ++ y :: s).getD p.length d = y := by rw [hp]; simp [List.getD]
      rw [e1, e2]
      have := ih s (p ++ [x]) (q ++ [y]) (by simp [hp]) (by simpa using h)
      rw [show p ++ x :: r = p ++ [x] ++ r by simp, show q ++ y :: s = q ++ [y] ++ s by simp]
      rw [← this]
      simp
theorem eqL_of {α : Type} {f : α → α → Bool} (d : α) {xs ys : List α} (h : xs.length = ys.length) : allF (fun i => f (xs.getD i d) (ys.getD i d)) 0 xs.length = eqL f xs ys := by
  exact eqL_all (f := f) d xs ys [] [] rfl h
theorem neLen (a b : List PV) : ((a.length : Int) != (b.length : Int)) = !decide (a.length = b.length) := by
  by_cases h : a.length = b.length
  · simp [h]
  · have : ¬ ((a.length : Int) = (b.length : Int)) := by omega
    simp [h, bne, this]
theorem eqLen (a b : List PV) : ((a.length : Int) == (b.length : Int)) = decide (a.length = b.length) := by
  by_cases h : a.length = b.length
  · simp [h]
  · have : ¬ ((a.length : Int) = (b.length : Int)) := by omega
    simp [h, this]
end Go.Ab
namespace Go.Ab
open Go

def isDig (c : UInt8) : Prop := 48 ≤ c.toNat ∧ c.toNat ≤ 57
def valD (acc : Nat) : List UInt8 → Nat
  | [] => acc
  | c :: r => valD (acc * 10 + (c.toNat - 48)) r
theorem valD_append (l m : List UInt8) : ∀ acc, valD acc (l ++ m) = valD (valD acc l) m := by
  induction l with
  | nil => intro acc; rfl
  | cons c r ih => intro acc; exact ih _
theorem valD_ge (l : List UInt8) : ∀ acc, acc ≤ valD acc l := by
  induction l with
  | nil => intro acc; exact Nat.le_refl _
  | cons c r ih => intro acc; exact Nat.le_trans (show acc ≤ acc * 10 + (c.toNat - 48) by omega) (ih _)
theorem dig_all : ((List.range 10).all fun d => (UInt8.ofNat (48 + d)).toNat == 48 + d) = true := by kernel_rfl
theorem dig_toNat {d : Nat} (h : d < 10) : (UInt8.ofNat (48 + d)).toNat = 48 + d := by
  have := List.all_eq_true.1 dig_all d (List.mem_range.2 h)
  simpa using this
/-- A numeral: its digits, its value, its first digit. -/
theorem dec_facts (u : Nat) : (∀ c, c ∈ Lib.decDigits u → isDig c) ∧ valD 0 (Lib.decDigits u) = u ∧ Lib.decDigits u ≠ [] ∧ (u ≠ 0 → ∀ c, (Lib.decDigits u).head? = some c → c.toNat ≠ 48) := by
  induction u using Nat.strongRecOn with
  | _ u ih =>
    have e := Lib.decDigits.eq_1 u
    by_cases h : u < 10
    · rw [dif_pos h] at e
      rw [e]
      refine ⟨fun c hc => ?_, ?_, by simp, fun h0 c hc => ?_⟩
      · have := List.mem_singleton.1 hc; subst this; unfold isDig; rw [dig_toNat h]; omega
      · have hx := dig_toNat h
        generalize UInt8.ofNat (48 + u) = x at hx
        show 0 * 10 + (x.toNat - 48) = u
        omega
      · have := Option.some.inj hc; subst this; rw [dig_toNat h]; omega
    · rw [dif_neg h] at e
      obtain ⟨h1, h2, h3, h4⟩ := ih (u / 10) (by omega)
      have hm : u % 10 < 10 := Nat.mod_lt _ (by decide)
      rw [e]
      refine ⟨fun c hc => ?_, ?_, by simp, fun h0 c hc => ?_⟩
      · rcases List.mem_append.1 hc with hc | hc
        · exact h1 c hc
        · have := List.mem_singleton.1 hc; subst this; unfold isDig; rw [dig_toNat hm]; omega
      · have hx := dig_toNat hm
        generalize UInt8.ofNat (48 + u % 10) = x at hx
        rw [valD_append, h2]
        show u / 10 * 10 + (x.toNat - 48) = u
        omega
      · refine h4 (by omega) c ?_
        rw [List.head?_append] at hc
        cases hh : (Lib.decDigits (u / 10)).head? with
        | none => exact absurd (List.head?_eq_none_iff.1 hh) h3
        | some x => rw [hh] at hc; simpa using hc
theorem parseM_ok (M : Nat) (hM : M < 18446744073709551616) : ∀ (l : List UInt8) (acc : Nat), (∀ c, c ∈ l → isDig c) → valD acc l ≤ M → Lib.parseUintM M acc l = .ok (valD acc l) := by
  intro l
  induction l with
  | nil => intro acc _ _; rfl
  | cons c r ih =>
    intro acc hd hv
    have hc := hd c (by simp)
    have hv' : valD (acc * 10 + (c.toNat - 48)) r ≤ M := hv
    have hs : acc * 10 + (c.toNat - 48) ≤ M := Nat.le_trans (valD_ge r _) hv'
    have b1 : ¬ 1844674407370955162 ≤ acc := by clear hv hv' ih hd; unfold isDig at hc; omega
    have b2 : ¬ M < acc * 10 + (c.toNat - 48) := Nat.not_lt.2 hs
    have e : Lib.parseUintM M acc (c :: r) = Lib.parseUintM M (acc * 10 + (c.toNat - 48)) r := by
      rw [Lib.parseUintM, if_pos (show 48 ≤ c.toNat ∧ c.toNat ≤ 57 from hc), if_neg b1, if_neg b2]
    rw [e]
    exact ih _ (fun x hx => hd x (by simp [hx])) hv
theorem parseUint_dec {u : Nat} (hu : u < 18446744073709551616) : Lib.parseUintB 64 (Lib.decDigits u) = .ok u := by
  obtain ⟨h1, h2, h3, _⟩ := dec_facts u
  unfold Lib.parseUintB
  rw [if_neg h3, parseM_ok _ (by decide) _ _ h1 (by rw [h2]; omega), h2]
theorem parseUint_neg (l : List UInt8) : Lib.parseUintB 64 (45 :: l) = Lib.NumEnd.syntax := by
  unfold Lib.parseUintB
  rw [if_neg (by simp)]
  unfold Lib.parseUintM
  rw [if_neg (by decide)]
theorem parseInt_dec {u : Nat} (hu : u < 18446744073709551616) : Lib.parseIntB 64 (Lib.decDigits u) = if 9223372036854775808 ≤ u then .range else .ok (u : Int) := by
  obtain ⟨h1, h2, h3, _⟩ := dec_facts u
  cases hd : Lib.decDigits u with
  | nil => exact absurd hd h3
  | cons c r =>
    have hc := h1 c (by rw [hd]; simp)
    unfold isDig at hc
    have hp := parseUint_dec hu
    rw [hd] at hp
    unfold Lib.parseIntB
    have n43 : ¬ c.toNat = 43 := by omega
    have n45 : ¬ c.toNat = 45 := by omega
    simp only [n43, n45, or_self, if_false, hp, not_false_eq_true, true_and, false_and]
theorem parseInt_neg {u : Nat} (hu : u < 18446744073709551616) : Lib.parseIntB 64 (45 :: Lib.decDigits u) = if 9223372036854775808 < u then .range else .ok (-(u : Int)) := by
  have hp := parseUint_dec hu
  unfold Lib.parseIntB
  have e : (45 : UInt8).toNat = 45 := rfl
  simp only [e, or_true, if_true, hp, not_true_eq_false, false_and, if_false, true_and]
end Go.Ab
