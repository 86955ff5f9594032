/- The texts of scalars and of annotations: the program's and the specification's are the same. -/
import Derived.Test.YtjfdnmkfjikjnaaGreatDoorPNoteA
import Derived.Test.YtjfdnmkfjikjnaaGreatDoorPQuoteA
set_option linter.unusedVariables false
set_option linter.unusedSimpArgs false
set_option linter.unnecessarySimpa false
namespace Go.Ab
open Go
set_option maxRecDepth 100000
theorem decF_len : ∀ (f u : Nat), (decF f u).length ≤ f := by
  intro f
  induction f with
  | zero => intro u; simp [decF]
  | succ f ih =>
    intro u
    unfold decF
    cases Nat.ble u 9 with
    | true => simp
    | false => have := ih (u / 10); simp; omega
theorem decB_len (u : Nat) : (decB u).length ≤ 20 := decF_len 20 u
theorem itoaB_len (n : Int) : (itoaB n).length ≤ 21 := by
  unfold itoaB
  have h1 := decB_len n.natAbs
  have h2 := decB_len n.toNat
  cases decide (n < 0) with
  | true => simp; omega
  | false => simp; omega
/-- A scalar's text; doubles and bytes apart. -/
def textV (v : PV) : List UInt8 :=
  bif fitsV (vKind v) v then
    (bif vKind v == 1 then (bif vBits v == 1 then [116, 114, 117, 101] else [102, 97, 108, 115, 101])
    else bif vKind v == 2 then itoaB (IntKind.wrap .i64 (vBits v)) else bif vKind v == 3 then itoaB (IntKind.wrap .i64 (vBits v)) else bif vKind v == 7 then quote (vText v) else decB (vBits v).toNat)
  else []
theorem litoa_ok (n : Int) (h0 : -9223372036854775808 ≤ n) (h1 : n ≤ 9223372036854775807) : Litoa 0 n = some (itoaB n) := by
  unfold Litoa
  rw [decide_eq_true h0, decide_eq_true h1]; rfl
theorem wrapI (u : Nat) (hu : u < 18446744073709551616) : -9223372036854775808 ≤ IntKind.wrap .i64 (u : Int) ∧ IntKind.wrap .i64 (u : Int) ≤ 9223372036854775807 := by
  rw [IntKind.wrap_i64]; omega
theorem text_eq (v : PV) (hs : smallV v) (h6 : vKind v ≠ 6) (h8 : vKind v ≠ 8) : F53 0 v = some (textV v) := by
  obtain ⟨_, ht, hb0, hb1⟩ := hs
  obtain ⟨u, hu⟩ : ∃ u : Nat, vBits v = (u : Int) := ⟨(vBits v).toNat, (Int.toNat_of_nonneg hb0).symm⟩
  have hu64 : u < 18446744073709551616 := by omega
  have hi := wrapI u hu64
  have e0 : (v.fld 0).asInt = vKind v := rfl
  have e1 : (v.fld 1).asInt = vBits v := rfl
  have e2 : (v.fld 2).asStr = vText v := rfl
  have k6 : (vKind v == (6 : Int)) = false := beqI h6
  have k8 : (vKind v == (8 : Int)) = false := beqI h8
  have hf0 : Lfmtu 0 (u : Int) (10 : Int) = some (decB u) := by
    unfold Lfmtu
    rw [decide_eq_true (by omega), decide_eq_true (by omega)]
    simp
  have hf : Lfmt 0 (u : Int) (10 : Int) = some (decB u) := hf0
  unfold F53 textV
  simp only [e0, e1, e2, fitsV_eq _ _ ⟨by assumption, ht, hb0, hb1⟩, Option.bind_some, k6, k8, cond_false, quote_eq _ ht, hu, litoa_ok _ hi.1 hi.2, F139, hf, Int.toNat_natCast, F135, F225]
  generalize itoaB (IntKind.wrap .i64 (u : Int)) = x1
  generalize quote (vText v) = x2
  generalize decB u = x3
  generalize fitsV (vKind v) v = q0
  generalize (vKind v == (1 : Int)) = q1
  generalize (vKind v == (2 : Int)) = q2
  generalize (vKind v == (3 : Int)) = q3
  generalize (vKind v == (7 : Int)) = q7
  generalize ((u : Int) == (1 : Int)) = q
  cases q0 <;> cases q1 <;> cases q2 <;> cases q3 <;> cases q7 <;> cases q <;> rfl
theorem textV_len (v : PV) (hs : (vText v).length ≤ 1048576) : (textV v).length ≤ 4194400 := by
  have h1 := quote_len (vText v)
  have h2 := decB_len (vBits v).toNat
  have h3 := itoaB_len (IntKind.wrap .i64 (vBits v))
  unfold textV
  cases fitsV (vKind v) v <;> cases (vKind v == (1 : Int)) <;> cases (vKind v == (2 : Int)) <;> cases (vKind v == (3 : Int)) <;> cases (vKind v == (7 : Int)) <;> cases (vBits v == (1 : Int)) <;> simp only [cond_true, cond_false, List.length_cons, List.length_nil] <;> omega
end Go.Ab
