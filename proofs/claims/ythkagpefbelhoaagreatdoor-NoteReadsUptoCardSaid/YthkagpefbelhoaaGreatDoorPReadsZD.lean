/- Annotations read from tokens: the program's and the specification's are the same. -/
import Derived.Test.YthkagpefbelhoaaGreatDoorPScaZD
import Derived.Test.YthkagpefbelhoaaGreatDoorPSameZD
set_option linter.unusedVariables false
set_option linter.unusedSimpArgs false
set_option linter.unnecessarySimpa false
namespace Go.Ab
open Go
set_option maxRecDepth 100000

/-- Two loops that keep pace. -/
theorem loopW_two {σ σ' τ : Type} {step1 : σ → Option (σ ⊕ τ)} {step2 : σ' → Option (σ' ⊕ τ)} (m : σ → Nat) (R : σ → σ' → Prop) (Q : τ → Prop)
    (h : ∀ x y, R x y → (∃ x' y', step1 x = some (.inl x') ∧ step2 y = some (.inl y') ∧ R x' y' ∧ m x' < m x) ∨ (∃ r, step1 x = some (.inr r) ∧ step2 y = some (.inr r) ∧ Q r)) :
    ∀ x y, R x y → ∃ r, loopW step1 x = some r ∧ loopW step2 y = some r ∧ Q r := by
  have H : ∀ n x y, m x ≤ n → R x y → ∃ r, loopW step1 x = some r ∧ loopW step2 y = some r ∧ Q r := by
    intro n
    induction n with
    | zero =>
      intro x y hm hr
      rcases h x y hr with ⟨x', y', h1, h2, h3, h4⟩ | ⟨r, h1, h2, h3⟩
      · omega
      · exact ⟨r, loopW_end h1, loopW_end h2, h3⟩
    | succ n ih =>
      intro x y hm hr
      rcases h x y hr with ⟨x', y', h1, h2, h3, h4⟩ | ⟨r, h1, h2, h3⟩
      · rw [loopW_go h1, loopW_go h2]
        exact ih x' y' (by omega) h3
      · exact ⟨r, loopW_end h1, loopW_end h2, h3⟩
  exact fun x y hr => H (m x) x y (Nat.le_refl _) hr

theorem bneE {α : Type} [BEq α] [LawfulBEq α] {a b : α} (h : a = b) : (a != b) = false := by subst h; simp

/- Tokens. -/
def tKind (t : PV) : Int := (t.fld 0).asInt
def tText (t : PV) : List UInt8 := (t.fld 1).asStr
def tNum (t : PV) : Int := (t.fld 2).asInt
def sgn (t : List PV) (i : Nat) (s : List UInt8) : Bool := decide (i < t.length) && ((tKind (t.getD i .bad) == 4) && (tText (t.getD i .bad) == s))
theorem is_nat (t : List PV) (i : Nat) (s : List UInt8) : F14 0 t (i : Int) s = some (sgn t i s) := by
  unfold F14 sgn
  have h0 : decide ((i : Int) ≥ 0) = true := decide_eq_true (by omega)
  have e0 : ((t.getD i .bad).fld 0).asInt = tKind (t.getD i .bad) := rfl
  have e1 : ((t.getD i .bad).fld 1).asStr = tText (t.getD i .bad) := rfl
  by_cases hlt : i < t.length
  · simp only [h0, declt, hlt, decide_true, cond_true, imp, inRange_nat, Int.toNat_natCast, e0, e1, Bool.true_and]
    cases (tKind (t.getD i .bad) == 4) <;> simp
  · simp only [h0, declt, hlt, decide_false, cond_true, cond_false, imp, Bool.not_false, Bool.false_and, cond_same]
theorem sign_is (t : List PV) (a : Int) (s : List UInt8) : F16 0 t a s = F14 0 t a s := rfl
theorem sgn_lt {t : List PV} {i : Nat} {s : List UInt8} (h : sgn t i s = true) : i < t.length := by
  unfold sgn at h
  simp only [Bool.and_eq_true, decide_eq_true_eq] at h
  exact h.1
theorem kindAt_nat (t : List PV) (i : Nat) : F29 0 t (i : Int) = some (if i < t.length then tKind (t.getD i .bad) else 0) := by
  unfold F29
  have h0 : decide ((i : Int) < 0) = false := decide_eq_false (by omega)
  have e0 : ((t.getD i .bad).fld 0).asInt = tKind (t.getD i .bad) := rfl
  by_cases hlt : i < t.length
  · have h1 : decide ((i : Int) ≥ (t.length : Int)) = false := decide_eq_false (by omega)
    simp only [h0, h1, cond_false, inRange_nat, hlt, decide_true, cond_true, Int.toNat_natCast, e0, if_true]
  · have h1 : decide ((i : Int) ≥ (t.length : Int)) = true := decide_eq_true (by omega)
    simp only [h0, h1, cond_false, cond_true, hlt, if_false]

/- Numbers. -/
theorem u64nat (n : Int) : ∃ u : Nat, u < 18446744073709551616 ∧ IntKind.wrap .u64 n = (u : Int) := by
  refine ⟨(n % 18446744073709551616).toNat, by omega, ?_⟩
  rw [IntKind.wrap_u64]; omega
theorem fmt_ok (u : Nat) (hu : u < 18446744073709551616) : F39 0 (u : Int) 10 = some (Lib.decDigits u) := by
  have hf : Lfmtu 0 (u : Int) (10 : Int) = some (decB u) := by
    unfold Lfmtu
    have d0 : decide ((0 : Int) ≤ (u : Int)) = true := decide_eq_true (by omega)
    have d1 : decide ((u : Int) ≤ 18446744073709551615) = true := decide_eq_true (by omega)
    simp [d0, d1]
  unfold F39
  rw [hf, Option.bind_some, decB_eq (by omega)]
/-- What stands for a value. -/
def RV (t : List PV) (i : Nat) (x : Option (PV × Int × Int)) : Prop := ∃ v q e, x = some (v, q, e) ∧ (e = 0 → ∃ j : Nat, q = (j : Int) ∧ i < j ∧ j ≤ t.length)
theorem num_at (k : Int) (hk : k = 3 ∨ k = 4) (t : List PV) (ht : t.length ≤ 500) (i : Nat) (hi : i ≤ 600) : RV t i (F58 0 k t (i : Int)) ∧ F31 0 t (i : Int) k = F58 0 k t (i : Int) := by
  have tail : ∀ (neg : Bool) (j : Nat), j ≤ 601 → i ≤ j →
      RV t i (bif ((if j < t.length then tKind (t.getD j .bad) else 0) != (2 : Int)) then some (zeroV, (j : Int), (2 : Int)) else
        bif inRange (j : Int) t.length then
        (F39 0 (IntKind.wrap .u64 ((t.getD (j : Int).toNat .bad).fld 2).asInt) (10 : Int)).bind fun y9 =>
        bif decide ((if neg = true then [45] else ([] : List UInt8)).length + y9.length ≤ strMax) then
        (F57 0 k ((if neg = true then [45] else ([] : List UInt8)) ++ y9)).bind fun y10 =>
        bif (y10.2 != (0 : Int)) then some (zeroV, (j : Int), y10.2) else some (y10.1, (IntKind.wrap .i64 ((j : Int) + (1 : Int))), (0 : Int))
        else none else none) ∧
      (bif imp (!(decide ((j : Int) ≥ (t.length : Int)))) (inRange (j : Int) t.length) then
        bif (bif (decide ((j : Int) ≥ (t.length : Int))) then true else (((t.getD (j : Int).toNat .bad).fld 0).asInt != (2 : Int))) then some (zeroV, (j : Int), (2 : Int)) else
        bif inRange (j : Int) t.length then
        (F60 0 (IntKind.wrap .u64 ((t.getD (j : Int).toNat .bad).fld 2).asInt)).bind fun y9 =>
        bif decide ((if neg = true then [45] else ([] : List UInt8)).length + y9.length ≤ strMax) then
        (F59 0 k ((if neg = true then [45] else ([] : List UInt8)) ++ y9)).bind fun y10 =>
        bif (y10.2 != (0 : Int)) then some (zeroV, (j : Int), y10.2) else some (y10.1, (IntKind.wrap .i64 ((j : Int) + (1 : Int))), (0 : Int))
        else none else none else none) =
      (bif ((if j < t.length then tKind (t.getD j .bad) else 0) != (2 : Int)) then some (zeroV, (j : Int), (2 : Int)) else
        bif inRange (j : Int) t.length then
        (F39 0 (IntKind.wrap .u64 ((t.getD (j : Int).toNat .bad).fld 2).asInt) (10 : Int)).bind fun y9 =>
        bif decide ((if neg = true then [45] else ([] : List UInt8)).length + y9.length ≤ strMax) then
        (F57 0 k ((if neg = true then [45] else ([] : List UInt8)) ++ y9)).bind fun y10 =>
        bif (y10.2 != (0 : Int)) then some (zeroV, (j : Int), y10.2) else some (y10.1, (IntKind.wrap .i64 ((j : Int) + (1 : Int))), (0 : Int))
        else none else none) := by
    intro neg j hj hij
    by_cases hlt : j < t.length
    · have h1 : decide ((j : Int) ≥ (t.length : Int)) = false := decide_eq_false (by omega)
      have e0 : ((t.getD j .bad).fld 0).asInt = tKind (t.getD j .bad) := rfl
      obtain ⟨u, hu, hw⟩ := u64nat ((t.getD j .bad).fld 2).asInt
      have hd := digits_eq u hu
      rw [decB_eq (by omega)] at hd
      have hlen := dec_len u hu
      have hs : (if neg = true then [45] else ([] : List UInt8)) ++ Lib.decDigits u = signed neg (Lib.decDigits u) := by cases neg <;> rfl
      have hl : decide ((if neg = true then [45] else ([] : List UInt8)).length + (Lib.decDigits u).length ≤ strMax) = true := leStr (by cases neg <;> simp <;> omega)
      simp only [hlt, if_true, h1, Bool.not_false, imp, cond_true, cond_false, inRange_nat, decide_true, Int.toNat_natCast, e0, hw, fmt_ok u hu, hd, Option.bind_some, hl, hs, parse_ok k hk neg u hu, refParse_ok k hk neg u hu, and_true]
      by_cases h2 : tKind (t.getD j .bad) = 2
      · have b2 : (tKind (t.getD j .bad) != 2) = false := bneE h2
        simp only [b2, cond_false]
        by_cases h0 : (numV k neg u).2 = 0
        · have b0 : ((numV k neg u).2 != 0) = false := bneE h0
          refine ⟨_, _, _, by rw [b0, cond_false], fun _ => ⟨j + 1, wadd1 (by omega), by omega, by omega⟩⟩
        · have b0 : ((numV k neg u).2 != 0) = true := bne_iff_ne.2 h0
          exact ⟨_, _, _, by rw [b0, cond_true], fun h => absurd h h0⟩
      · have b2 : (tKind (t.getD j .bad) != 2) = true := bne_iff_ne.2 h2
        exact ⟨_, _, _, by rw [b2, cond_true], fun h => by cases h⟩
    · have h1 : decide ((j : Int) ≥ (t.length : Int)) = true := decide_eq_true (by omega)
      have b2 : ((0 : Int) != 2) = true := rfl
      simp only [hlt, if_false, h1, Bool.not_true, imp, cond_true, cond_false, b2, Bool.not_false, cond_same]
      exact ⟨⟨_, _, _, rfl, fun h => by cases h⟩, by trivial⟩
  unfold F58 F31
  rw [sign_is, is_nat]
  simp only [Option.bind_some]
  cases hs : sgn t i [45] with
  | true =>
    obtain ⟨h1, h2⟩ := tail true (i + 1) (by omega) (by omega)
    have hw : IntKind.wrap .i64 ((i : Int) + 1) = ((i + 1 : Nat) : Int) := wadd1 (by omega)
    simp only [cond_true, hw, kindAt_nat, Option.bind_some]
    exact ⟨h1, h2⟩
  | false =>
    obtain ⟨h1, h2⟩ := tail false i (by omega) (by omega)
    simp only [cond_false, kindAt_nat, Option.bind_some]
    exact ⟨h1, h2⟩

/- Values. -/
theorem parse_true : F57 0 1 [116, 114, 117, 101] = some (mkV 1 1, 0) := rfl
theorem parse_false : F57 0 1 [102, 97, 108, 115, 101] = some (mkV 1 0, 0) := rfl
theorem text_small (s : List UInt8) (h : s.length ≤ 1048576) (k : Int) : smallV (PV.agg [(PV.int k), (PV.int (0 : Int)), (PV.str s), (PV.slice []), (PV.slice []), (PV.slice []), (PV.slice [])]) := ⟨Nat.zero_le _, h, (by show (0 : Int) ≤ 0; decide), (by show (0 : Int) < 18446744073709551616; decide)⟩
theorem value_at (k : Int) (hk : k = 1 ∨ k = 7 ∨ k = 3 ∨ k = 4) (t : List PV) (ht : t.length ≤ 500) (i : Nat) (hi : i ≤ 600) :
    RV t i (F30 0 k t (i : Int)) ∧ F18 0 t (i : Int) k = F30 0 k t (i : Int) := by
  have e1 : ((t.getD i .bad).fld 1).asStr = tText (t.getD i .bad) := rfl
  have e0 : ((t.getD i .bad).fld 0).asInt = tKind (t.getD i .bad) := rfl
  unfold F30 F18
  rcases hk with rfl | rfl | hk
  · -- bool
    have c1 : ((1 : Int) == 1) = true := rfl
    have c4 : ((1 : Int) == 4) = false := rfl
    have c3 : ((1 : Int) == 3) = false := rfl
    have c7 : ((1 : Int) == 7) = false := rfl
    simp only [c1, c4, c3, c7, cond_true, cond_false, kindAt_nat, Option.bind_some]
    by_cases hlt : i < t.length
    · have h1 : decide ((i : Int) ≥ (t.length : Int)) = false := decide_eq_false (by omega)
      simp only [hlt, if_true, h1, cond_false, inRange_nat, decide_true, cond_true, Int.toNat_natCast, e0, e1, imp, cond_same]
      by_cases hn : tKind (t.getD i .bad) = 1
      · have b1 : (tKind (t.getD i .bad) == 1) = true := beq_iff_eq.2 hn
        have b2 : (tKind (t.getD i .bad) != 1) = false := bneE hn
        simp only [b1, b2, cond_true, cond_false]
        have hw : IntKind.wrap .i64 ((i : Int) + 1) = ((i + 1 : Nat) : Int) := wadd1 (by omega)
        by_cases ht1 : tText (t.getD i .bad) = [116, 114, 117, 101]
        · have b3 : (tText (t.getD i .bad) == [116, 114, 117, 101]) = true := beq_iff_eq.2 ht1
          simp only [b3, cond_true, Bool.not_true, cond_false, ht1, parse_true, Option.bind_some, hw, and_true]
          exact ⟨⟨_, _, _, rfl, fun _ => ⟨i + 1, rfl, by omega, by omega⟩⟩, by trivial⟩
        · have b3 : (tText (t.getD i .bad) == [116, 114, 117, 101]) = false := beq_eq_false_iff_ne.2 ht1
          by_cases ht2 : tText (t.getD i .bad) = [102, 97, 108, 115, 101]
          · have b4 : (tText (t.getD i .bad) == [102, 97, 108, 115, 101]) = true := beq_iff_eq.2 ht2
            simp only [b3, b4, cond_true, Bool.not_true, Bool.not_false, cond_false, ht2, parse_false, Option.bind_some, hw]
            exact ⟨⟨_, _, _, rfl, fun _ => ⟨i + 1, rfl, by omega, by omega⟩⟩, by trivial⟩
          · have b4 : (tText (t.getD i .bad) == [102, 97, 108, 115, 101]) = false := beq_eq_false_iff_ne.2 ht2
            simp only [b3, b4, cond_true, Bool.not_false, cond_false, Option.bind_some]
            exact ⟨⟨_, _, _, rfl, fun h => by cases h⟩, by trivial⟩
      · have b1 : (tKind (t.getD i .bad) == 1) = false := beq_eq_false_iff_ne.2 hn
        have b2 : (tKind (t.getD i .bad) != 1) = true := bne_iff_ne.2 hn
        simp only [b1, b2, cond_true, cond_false, cond_same, Bool.not_true, Bool.not_false, Option.bind_some]
        exact ⟨⟨_, _, _, rfl, fun h => by cases h⟩, by trivial⟩
    · have h1 : decide ((i : Int) ≥ (t.length : Int)) = true := decide_eq_true (by omega)
      have z1 : ((0 : Int) == 1) = false := rfl
      simp only [hlt, if_false, h1, cond_true, cond_false, z1, imp, Bool.not_false, cond_same, Option.bind_some]
      exact ⟨⟨_, _, _, rfl, fun h => by cases h⟩, by trivial⟩
  · -- text
    have c1 : ((7 : Int) == 1) = false := rfl
    have c4 : ((7 : Int) == 4) = false := rfl
    have c3 : ((7 : Int) == 3) = false := rfl
    have c7 : ((7 : Int) == 7) = true := rfl
    simp only [c1, c4, c3, c7, cond_true, cond_false, kindAt_nat, Option.bind_some, imp, Bool.not_false, cond_same]
    by_cases hlt : i < t.length
    · have h1 : decide ((i : Int) ≥ (t.length : Int)) = false := decide_eq_false (by omega)
      simp only [hlt, if_true, h1, cond_false, inRange_nat, decide_true, cond_true, Int.toNat_natCast, e0, e1]
      by_cases hn : tKind (t.getD i .bad) = 3
      · have b1 : (tKind (t.getD i .bad) == 3) = true := beq_iff_eq.2 hn
        have b2 : (tKind (t.getD i .bad) != 3) = false := bneE hn
        have hw : IntKind.wrap .i64 ((i : Int) + 1) = ((i + 1 : Nat) : Int) := wadd1 (by omega)
        simp only [b1, b2, cond_true, cond_false]
        by_cases hL : ((tText (t.getD i .bad)).length : Int) > 4096
        · have b5 : decide (((tText (t.getD i .bad)).length : Int) > 4096) = true := decide_eq_true hL
          simp only [b5, cond_true]
          exact ⟨⟨_, _, _, rfl, fun h => by cases h⟩, by trivial⟩
        · have b5 : decide (((tText (t.getD i .bad)).length : Int) > 4096) = false := decide_eq_false hL
          have hsm := text_small (tText (t.getD i .bad)) (by omega) 7
          simp only [b5, cond_false, fitsV_eq _ _ hsm, refFitsV_eq _ _ hsm, Option.bind_some, hw]
          cases fitsV 7 (PV.agg [(PV.int 7), (PV.int (0 : Int)), (PV.str (tText (t.getD i .bad))), (PV.slice []), (PV.slice []), (PV.slice []), (PV.slice [])]) with
          | true => exact ⟨⟨_, _, _, rfl, fun _ => ⟨i + 1, rfl, by omega, by omega⟩⟩, by trivial⟩
          | false => exact ⟨⟨_, _, _, rfl, fun h => by cases h⟩, by trivial⟩
      · have b1 : (tKind (t.getD i .bad) == 3) = false := beq_eq_false_iff_ne.2 hn
        have b2 : (tKind (t.getD i .bad) != 3) = true := bne_iff_ne.2 hn
        simp only [b1, b2, cond_true, cond_false]
        exact ⟨⟨_, _, _, rfl, fun h => by cases h⟩, by trivial⟩
    · have h1 : decide ((i : Int) ≥ (t.length : Int)) = true := decide_eq_true (by omega)
      have z1 : ((0 : Int) == 3) = false := rfl
      simp only [hlt, if_false, h1, cond_true, cond_false, z1]
      exact ⟨⟨_, _, _, rfl, fun h => by cases h⟩, by trivial⟩
  · -- numbers
    obtain ⟨n1, n2⟩ := num_at k hk t ht i hi
    obtain ⟨v, q, e, hn, hq⟩ := n1
    rw [hn] at n2
    have c1 : (k == 1) = false := by rcases hk with rfl | rfl <;> rfl
    have c7 : (k == 7) = false := by rcases hk with rfl | rfl <;> rfl
    have c43 : (bif (k == 4) then true else (k == 3)) = true := by rcases hk with rfl | rfl <;> rfl
    simp only [c1, c7, c43, cond_true, cond_false, imp, Bool.not_false, cond_same, Option.bind_some, hn, n2, and_true]
    exact ⟨_, _, _, rfl, hq⟩

/- The annotations. -/
theorem kind_four {name : List UInt8} (h : kindOf name ≠ 0) : kindOf name = 1 ∨ kindOf name = 7 ∨ kindOf name = 3 ∨ kindOf name = 4 := by
  by_cases hk : name ∈ knownNames
  · simp only [knownNames, List.mem_cons, List.not_mem_nil, or_false] at hk
    have e : ∀ k : Int, (k = 1 ∨ k = 7 ∨ k = 3 ∨ k = 4) → some (kindOf name) = some k → kindOf name = 1 ∨ kindOf name = 7 ∨ kindOf name = 3 ∨ kindOf name = 4 := fun k hk he => by cases he; exact hk
    rcases hk with rfl | rfl | rfl | rfl | rfl | rfl | rfl | rfl | rfl | rfl | rfl | rfl | rfl
    · exact e 1 (by decide) (by kernel_rfl)
    · exact e 1 (by decide) (by kernel_rfl)
    · exact e 1 (by decide) (by kernel_rfl)
    · exact e 7 (by decide) (by kernel_rfl)
    · exact e 7 (by decide) (by kernel_rfl)
    · exact e 7 (by decide) (by kernel_rfl)
    · exact e 7 (by decide) (by kernel_rfl)
    · exact e 4 (by decide) (by kernel_rfl)
    · exact e 4 (by decide) (by kernel_rfl)
    · exact e 4 (by decide) (by kernel_rfl)
    · exact e 4 (by decide) (by kernel_rfl)
    · exact e 3 (by decide) (by kernel_rfl)
    · exact e 3 (by decide) (by kernel_rfl)
  · exact absurd (kindOf_unknown hk) h

/-- The program's place is one ahead of the specification's. -/
def Pace (t : List PV) (x y : List PV × Int × List PV) : Prop := ∃ (i : Nat) (acc : List PV), i ≤ t.length ∧ acc.length ≤ i ∧ x = (t, (i : Int), acc) ∧ y = (t, ((i + 1 : Nat) : Int), acc)
theorem reads_loop (t : List PV) (ht : t.length ≤ 500) : ∀ x y, Pace t x y → ∃ r, loopW (S6_5step 0) x = some r ∧ loopW (S7_6step 0) y = some r ∧ r.1.length ≤ 1048576 := by
  refine loopW_two (fun x => t.length - x.2.1.toNat) (Pace t) (fun r : List PV × Int × Int => r.1.length ≤ 1048576) ?_
  rintro _ _ ⟨i, acc, hi, hacc, rfl, rfl⟩
  have hw : IntKind.wrap .i64 ((i : Int) + 1) = ((i + 1 : Nat) : Int) := wadd1 (by omega)
  have e1 : ((t.getD (i + 1) .bad).fld 1).asStr = tText (t.getD (i + 1) .bad) := rfl
  have e0 : ((t.getD (i + 1) .bad).fld 0).asInt = tKind (t.getD (i + 1) .bad) := rfl
  simp only [S6_5step, S6_5, S7_6step, S7_6, F15, hw, kindAt_nat, Option.bind_some, sign_is]
  by_cases hlt : i + 1 < t.length
  · have h1 : decide (((i + 1 : Nat) : Int) ≥ (t.length : Int)) = false := decide_eq_false (by omega)
    simp only [hlt, if_true, h1, cond_false, inRange_nat, decide_true, cond_true, Int.toNat_natCast, e0, e1, imp, cond_same]
    by_cases hn : tKind (t.getD (i + 1) .bad) = 1
    · have b2 : (tKind (t.getD (i + 1) .bad) != 1) = false := bneE hn
      simp only [b2, cond_false, kind_eq, refKind_eq, Option.bind_some]
      by_cases hk : kindOf (tText (t.getD (i + 1) .bad)) = 0
      · have b3 : (kindOf (tText (t.getD (i + 1) .bad)) == 0) = true := beq_iff_eq.2 hk
        simp only [b3, cond_true, Option.bind_some]
        exact .inr ⟨_, rfl, rfl, by simp⟩
      · have b3 : (kindOf (tText (t.getD (i + 1) .bad)) == 0) = false := beq_eq_false_iff_ne.2 hk
        have hw2 : IntKind.wrap .i64 (((i + 1 : Nat) : Int) + 1) = ((i + 2 : Nat) : Int) := wadd1 (by omega)
        have hw3 : IntKind.wrap .i64 (((i + 1 : Nat) : Int) + 2) = ((i + 3 : Nat) : Int) := by
          rw [show ((i + 1 : Nat) : Int) + 2 = ((i + 3 : Nat) : Int) by omega]; exact wrap64_nat (by omega)
        have hw4 : IntKind.wrap .i64 (((i + 2 : Nat) : Int) + 1) = ((i + 3 : Nat) : Int) := wadd1 (by omega)
        simp only [b3, cond_false, hw2, is_nat, Option.bind_some]
        cases hs : sgn t (i + 2) [61] with
        | false =>
          have hm : (if (t.length : Int) < ((i + 2 : Nat) : Int) then (t.length : Int) else ((i + 2 : Nat) : Int)) = ((i + 2 : Nat) : Int) := if_neg (by omega)
          simp only [Bool.not_false, cond_true, Option.bind_some, hm]
          exact .inr ⟨_, rfl, rfl, by simp⟩
        | true =>
          have hlt2 := sgn_lt hs
          obtain ⟨⟨v, q, e, hv, hq⟩, hv2⟩ := value_at _ (kind_four hk) t ht (i + 3) (by omega)
          rw [hv] at hv2
          simp only [Bool.not_true, cond_false, hw3, hw4, hv, hv2, Option.bind_some]
          by_cases he : e = 0
          · obtain ⟨j, rfl, hj1, hj2⟩ := hq he
            have b5 : (e != 0) = false := bneE he
            have l3 : ∀ x : PV, decide (acc.length + [x].length ≤ accMax) = true := fun x => decide_eq_true (by unfold accMax; simp; omega)
            have hwj : IntKind.wrap .i64 ((j : Int) + 1) = ((j + 1 : Nat) : Int) := wadd1 (by omega)
            simp only [b5, cond_false, l3, cond_true, is_nat, Option.bind_some, hwj]
            cases hs1 : sgn t j [93] with
            | true => exact .inr ⟨_, rfl, rfl, by simp; omega⟩
            | false =>
              cases hs2 : sgn t j [44] with
              | true =>
                refine .inl ⟨_, _, rfl, rfl, ⟨j, acc ++ [PV.agg [PV.str (tText (t.getD (i + 1) .bad)), v]], hj2, by simp; omega, rfl, rfl⟩, ?_⟩
                have := sgn_lt hs2
                simp only [Int.toNat_natCast]
                omega
              | false => exact .inr ⟨_, rfl, rfl, by simp⟩
          · have b5 : (e != 0) = true := bne_iff_ne.2 he
            simp only [b5, cond_true]
            exact .inr ⟨_, rfl, rfl, by simp⟩
    · have b2 : (tKind (t.getD (i + 1) .bad) != 1) = true := bne_iff_ne.2 hn
      simp only [b2, cond_true, Option.bind_some]
      exact .inr ⟨_, rfl, rfl, by simp⟩
  · have h1 : decide (((i + 1 : Nat) : Int) ≥ (t.length : Int)) = true := decide_eq_true (by omega)
    have z1 : ((0 : Int) != 1) = true := rfl
    simp only [hlt, if_false, h1, cond_true, z1, imp, Bool.not_true, cond_false, Bool.not_false, Option.bind_some, cond_same]
    exact .inr ⟨_, rfl, rfl, by simp⟩
theorem read_eq (t : List PV) (ht : t.length ≤ 500) (a : Int) : ∃ r, F6 0 t a = some r ∧ F7 0 t a = some r ∧ r.1.length ≤ 1048576 := by
  unfold F6 F7
  rw [sign_is]
  by_cases h0 : 0 ≤ a
  · obtain ⟨i, rfl⟩ : ∃ i : Nat, a = (i : Int) := ⟨a.toNat, by omega⟩
    rw [is_nat]
    cases hs : sgn t i [91] with
    | false => exact ⟨_, rfl, rfl, by simp⟩
    | true =>
      have hlt := sgn_lt hs
      have hw : IntKind.wrap .i64 ((i : Int) + 1) = ((i + 1 : Nat) : Int) := wadd1 (by omega)
      obtain ⟨r, h1, h2, h3⟩ := reads_loop t ht _ _ ⟨i, [], by omega, by simp, rfl, rfl⟩
      refine ⟨r, ?_, ?_, h3⟩
      · simp only [Option.bind_some, Bool.not_true, cond_false, loopQ0, h1]
      · simp only [Option.bind_some, Bool.not_true, cond_false, loopQ0, hw, h2]
  · have hf : F14 0 t a [91] = some false := by
      unfold F14
      have d : decide (a ≥ 0) = false := decide_eq_false (by omega)
      simp only [d, cond_false, imp, Bool.not_false, cond_true, cond_same]
    rw [hf]
    exact ⟨_, rfl, rfl, by simp⟩

/-- The law: annotations read from tokens. -/
theorem noteReads_true (t : List PV) (a : Int) (ht : t.length ≤ 1048576) : F3 0 t a = some true := by
  unfold F3
  by_cases h : t.length > 500
  · have : decide ((t.length : Int) > 500) = true := decide_eq_true (by omega)
    rw [this]
    rfl
  · have : decide ((t.length : Int) > 500) = false := decide_eq_false (by omega)
    obtain ⟨r, h1, h2, h3⟩ := read_eq t (by omega) a
    simp only [this, cond_false, h1, h2, Option.bind_some, refSame_eq r.1 r.1 h3, sameN_refl, beq_self_eq_true, cond_true]
    rfl
end Go.Ab
