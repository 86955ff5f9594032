/- The texts of scalars and of annotations: the program's and the specification's are the same. -/
import Derived.Test.YtjfdnmkfjikjnaaGreatDoorPNoteF
import Derived.Test.YtjfdnmkfjikjnaaGreatDoorPQuoteF
set_option linter.unusedVariables false
set_option linter.unusedSimpArgs false
set_option linter.unnecessarySimpa false
namespace Go.Ab
open Go
set_option maxRecDepth 100000

theorem dig (d : Nat) (h : d < 10) : [PV.int (IntKind.wrap .u8 (IntKind.wrap .u64 ((48 : Int) + (d : Int))))].map byteOfPV = [UInt8.ofNat (48 + d)] := by
  have : IntKind.wrap .u8 (IntKind.wrap .u64 ((48 : Int) + (d : Int))) = ((48 + d : Nat) : Int) := by
    rw [IntKind.wrap_u64, IntKind.wrap_u8]; omega
  rw [this]
  rfl
def preD (u : Nat) : List UInt8 := if u < 10 then [] else Lib.decDigits (u / 10)
theorem preD_eq (u : Nat) : preD u ++ [UInt8.ofNat (48 + u % 10)] = Lib.decDigits u := by
  have e := Lib.decDigits.eq_1 u
  unfold preD
  rw [e]
  by_cases h : u < 10
  · rw [if_pos h, dif_pos h, Nat.mod_eq_of_lt h]; rfl
  · rw [if_neg h, dif_neg h]
theorem decimal_loop : ∀ (k u : Nat) (acc : List UInt8), u < 10 ^ (k + 1) → u < 18446744073709551616 → acc.length + k ≤ 1000 → loopW (S146_3step 0) ((u : Int), acc) = some (preD u ++ acc) := by
  intro k
  induction k with
  | zero =>
    intro u acc hu _ _
    have hd : decide ((u : Int) ≥ (10 : Int)) = false := decide_eq_false (by omega)
    rw [preD, if_pos (by omega)]
    exact loopW_end (by simp only [S146_3step, S146_3, hd, cond_false]; rfl)
  | succ k ih =>
    intro u acc hu h64 hb
    by_cases h : u < 10
    · have hd : decide ((u : Int) ≥ (10 : Int)) = false := decide_eq_false (by omega)
      rw [preD, if_pos h]
      exact loopW_end (by simp only [S146_3step, S146_3, hd, cond_false]; rfl)
    · have hd : decide ((u : Int) ≥ (10 : Int)) = true := decide_eq_true (by omega)
      have hw : IntKind.wrap .u64 ((u : Int).tdiv (10 : Int)) = ((u / 10 : Nat) : Int) := by
        rw [show (u : Int).tdiv (10 : Int) = ((u / 10 : Nat) : Int) from rfl, IntKind.wrap_u64]; omega
      have hm : ((u / 10 : Nat) : Int).tmod (10 : Int) = ((u / 10 % 10 : Nat) : Int) := rfl
      have hp : preD u ++ acc = preD (u / 10) ++ (UInt8.ofNat (48 + u / 10 % 10) :: acc) := by
        have := preD_eq (u / 10)
        rw [show preD u = Lib.decDigits (u / 10) by rw [preD, if_neg h], ← this, List.append_assoc]; rfl
      rw [hp, ← ih (u / 10) (UInt8.ofNat (48 + u / 10 % 10) :: acc) (by rw [Nat.pow_succ] at hu; omega) (by omega) (by simp; omega)]
      refine loopW_go ?_
      have hl : decide ([UInt8.ofNat (48 + u / 10 % 10)].length + acc.length ≤ strMax) = true := leStr (by simp; omega)
      simp only [S146_3step, S146_3, hd, hw, hm, dig _ (Nat.mod_lt _ (by decide : 0 < 10)), hl, cond_true]
      rfl
theorem decimal_eq (u : Nat) (hu : u < 18446744073709551616) : F146 0 (u : Int) = some (decB u) := by
  unfold F146
  have hm : ((u : Nat) : Int).tmod (10 : Int) = ((u % 10 : Nat) : Int) := rfl
  rw [hm, dig _ (Nat.mod_lt _ (by decide : 0 < 10)), loopQ0, decimal_loop 19 u _ (by omega) hu (by simp), preD_eq, decB_eq (by omega)]
  rfl

theorem decF_len : ∀ (f u : Nat), (decF f u).length ≤ f := by
  intro f
  induction f with
  | zero => intro u; simp [decF]
  | succ f ih =>
    intro u
    unfold decF
    cases Nat.ble u 9 with
    | true => simp
    | false => have := ih (u / 10); simp; omega
theorem decB_len (u : Nat) : (decB u).length ≤ 20 := decF_len 20 u
theorem itoaB_len (n : Int) : (itoaB n).length ≤ 21 := by
  unfold itoaB
  have h1 := decB_len n.natAbs
  have h2 := decB_len n.toNat
  cases decide (n < 0) with
  | true => simp; omega
  | false => simp; omega

/-- A scalar's text; doubles and bytes apart. -/
def textV (v : PV) : List UInt8 :=
  bif fitsV (vKind v) v then
    (bif vKind v == 1 then (bif vBits v == 1 then [116, 114, 117, 101] else [102, 97, 108, 115, 101])
    else bif vKind v == 2 then itoaB (IntKind.wrap .i64 (vBits v)) else bif vKind v == 3 then itoaB (IntKind.wrap .i64 (vBits v)) else bif vKind v == 7 then quote (vText v) else decB (vBits v).toNat)
  else []
theorem litoa_ok (n : Int) (h0 : -9223372036854775808 ≤ n) (h1 : n ≤ 9223372036854775807) : Litoa 0 n = some (itoaB n) := by
  unfold Litoa
  rw [decide_eq_true h0, decide_eq_true h1]; rfl
theorem wrapI (u : Nat) (hu : u < 18446744073709551616) : -9223372036854775808 ≤ IntKind.wrap .i64 (u : Int) ∧ IntKind.wrap .i64 (u : Int) ≤ 9223372036854775807 := by
  rw [IntKind.wrap_i64]; omega
theorem text_eq (v : PV) (hs : smallV v) (h6 : vKind v ≠ 6) (h8 : vKind v ≠ 8) : F53 0 v = some (textV v) := by
  obtain ⟨_, ht, hb0, hb1⟩ := hs
  obtain ⟨u, hu⟩ : ∃ u : Nat, vBits v = (u : Int) := ⟨(vBits v).toNat, (Int.toNat_of_nonneg hb0).symm⟩
  have hu64 : u < 18446744073709551616 := by omega
  have hi := wrapI u hu64
  have e0 : (v.fld 0).asInt = vKind v := rfl
  have e1 : (v.fld 1).asInt = vBits v := rfl
  have e2 : (v.fld 2).asStr = vText v := rfl
  have k6 : (vKind v == (6 : Int)) = false := beqI h6
  have k8 : (vKind v == (8 : Int)) = false := beqI h8
  have hf0 : Lfmtu 0 (u : Int) (10 : Int) = some (decB u) := by
    unfold Lfmtu
    rw [decide_eq_true (by omega), decide_eq_true (by omega)]
    simp
  have hf : Lfmt 0 (u : Int) (10 : Int) = some (decB u) := hf0
  unfold F53 textV
  simp only [e0, e1, e2, fitsV_eq _ _ ⟨by assumption, ht, hb0, hb1⟩, Option.bind_some, k6, k8, cond_false, quote_eq _ ht, hu, litoa_ok _ hi.1 hi.2, F139, hf, Int.toNat_natCast, F135, F225]
  generalize itoaB (IntKind.wrap .i64 (u : Int)) = x1
  generalize quote (vText v) = x2
  generalize decB u = x3
  generalize fitsV (vKind v) v = q0
  generalize (vKind v == (1 : Int)) = q1
  generalize (vKind v == (2 : Int)) = q2
  generalize (vKind v == (3 : Int)) = q3
  generalize (vKind v == (7 : Int)) = q7
  generalize ((u : Int) == (1 : Int)) = q
  cases q0 <;> cases q1 <;> cases q2 <;> cases q3 <;> cases q7 <;> cases q <;> rfl
theorem refText_eq (v : PV) (hs : smallV v) (h6 : vKind v ≠ 6) (h8 : vKind v ≠ 8) : F57 0 v = some (textV v) := by
  obtain ⟨_, ht, hb0, hb1⟩ := hs
  obtain ⟨u, hu⟩ : ∃ u : Nat, vBits v = (u : Int) := ⟨(vBits v).toNat, (Int.toNat_of_nonneg hb0).symm⟩
  have hu64 : u < 18446744073709551616 := by omega
  have e0 : (v.fld 0).asInt = vKind v := rfl
  have e1 : (v.fld 1).asInt = vBits v := rfl
  have e2 : (v.fld 2).asStr = vText v := rfl
  have k6 : (vKind v == (6 : Int)) = false := beqI h6
  have k8 : (vKind v == (8 : Int)) = false := beqI h8
  have hsg : (bif decide ((u : Int) ≥ (9223372036854775808 : Int)) then (F146 0 (IntKind.wrap .u64 (0 - (u : Int)))).bind fun y13 => bif decide (([45] : List UInt8).length + y13.length ≤ strMax) then some (([45] : List UInt8) ++ y13) else none
      else some (decB u)) = some (itoaB (IntKind.wrap .i64 (u : Int))) := by
    unfold itoaB
    by_cases h : u < 9223372036854775808
    · have d1 : decide ((u : Int) ≥ (9223372036854775808 : Int)) = false := decide_eq_false (by omega)
      have d2 : IntKind.wrap .i64 (u : Int) = (u : Int) := by rw [IntKind.wrap_i64]; omega
      have d3 : decide ((u : Int) < 0) = false := decide_eq_false (by omega)
      simp only [d1, d2, d3, cond_false, Int.toNat_natCast]
    · have hw : IntKind.wrap .u64 (0 - (u : Int)) = ((18446744073709551616 - u : Nat) : Int) := by rw [IntKind.wrap_u64]; omega
      have hl := decB_len (18446744073709551616 - u)
      have d1 : decide ((u : Int) ≥ (9223372036854775808 : Int)) = true := decide_eq_true (by omega)
      have d2 : IntKind.wrap .i64 (u : Int) = (u : Int) - 18446744073709551616 := by rw [IntKind.wrap_i64]; omega
      have d3 : decide ((u : Int) - 18446744073709551616 < 0) = true := decide_eq_true (by omega)
      have d4 : ((u : Int) - 18446744073709551616).natAbs = 18446744073709551616 - u := by omega
      have d5 := decimal_eq (18446744073709551616 - u) (by omega)
      simp only [d1, d2, d3, d4, hw, d5, cond_true, Option.bind_some]
      generalize decB (18446744073709551616 - u) = x at hl
      rw [leStr (by simp; omega)]
      rfl
  unfold F57 textV
  simp only [e0, e1, e2, refFitsV_eq _ _ ⟨by assumption, ht, hb0, hb1⟩, Option.bind_some, k6, k8, cond_false, refQuote_eq _ ht, hu, hsg, decimal_eq u hu64, Int.toNat_natCast]
  generalize itoaB (IntKind.wrap .i64 (u : Int)) = x1
  generalize quote (vText v) = x2
  generalize decB u = x3
  generalize fitsV (vKind v) v = q0
  generalize (vKind v == (1 : Int)) = q1
  generalize (vKind v == (2 : Int)) = q2
  generalize (vKind v == (3 : Int)) = q3
  generalize (vKind v == (7 : Int)) = q7
  generalize ((u : Int) == (1 : Int)) = q
  cases q0 <;> cases q1 <;> cases q2 <;> cases q3 <;> cases q7 <;> cases q <;> rfl
theorem textV_len (v : PV) (hs : (vText v).length ≤ 1048576) : (textV v).length ≤ 4194400 := by
  have h1 := quote_len (vText v)
  have h2 := decB_len (vBits v).toNat
  have h3 := itoaB_len (IntKind.wrap .i64 (vBits v))
  unfold textV
  cases fitsV (vKind v) v <;> cases (vKind v == (1 : Int)) <;> cases (vKind v == (2 : Int)) <;> cases (vKind v == (3 : Int)) <;> cases (vKind v == (7 : Int)) <;> cases (vBits v == (1 : Int)) <;> simp only [cond_true, cond_false, List.length_cons, List.length_nil] <;> omega
end Go.Ab
