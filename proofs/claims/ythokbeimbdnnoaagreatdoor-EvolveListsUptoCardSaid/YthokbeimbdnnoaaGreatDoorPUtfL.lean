/- UTF-8: what the printed functions compute. -/
import Derived.Test.YthokbeimbdnnoaaGreatDoorAbUtf
import Derived.Test.YthokbeimbdnnoaaGreatDoorGenEl
import Derived.Test.YthokbeimbdnnoaaGreatDoorPOrdL
set_option linter.unusedVariables false
set_option linter.unusedSimpArgs false
set_option linter.unnecessarySimpa false
namespace Go.Ab
open Go
theorem wadd {i k : Nat} (h : i + k ≤ 9223372036854775807) : IntKind.wrap .i64 ((i : Int) + (k : Int)) = ((i + k : Nat) : Int) := by rw [← Int.natCast_add]; exact wrap64_nat h
theorem wadd1 {i : Nat} (h : i + 1 ≤ 9223372036854775807) : IntKind.wrap .i64 ((i : Int) + (1 : Int)) = ((i + 1 : Nat) : Int) := wadd (k := 1) h
theorem wadd2 {i : Nat} (h : i + 2 ≤ 9223372036854775807) : IntKind.wrap .i64 ((i : Int) + (2 : Int)) = ((i + 2 : Nat) : Int) := wadd (k := 2) h
theorem gb {α : Type} (b c : Bool) (k : Bool → Option α) : ((bif b then some c else some false).bind k) = k (b && c) := by cases b <;> rfl
theorem gand (b c : Bool) : (bif b then (b && c) else false) = (b && c) := by cases b <;> rfl
theorem cond_same {α : Type} (b : Bool) (x : α) : (bif b then x else x) = x := by cases b <;> rfl
theorem declt (a b : Nat) : decide ((a : Int) < (b : Int)) = decide (a < b) := by simp
/-- Byte i is there, between these. -/
def betw (s : List UInt8) (i lo hi : Nat) : Bool := decide (i < s.length ∧ lo ≤ byteAt s i ∧ byteAt s i ≤ hi)
theorem between_eq (s : List UInt8) (i lo hi : Nat) : F172 0 s (i : Int) (lo : Int) (hi : Int) = some (betw s i lo hi) := by
  have e2 : ((s.getD i 0).toNat : Int) = (byteAt s i : Int) := rfl
  by_cases h : i < s.length
  · simp only [F172, declt, inRange_nat, h, decide_true, cond_true, imp, Int.toNat_natCast, e2, betw, true_and, ge_iff_le, Int.ofNat_le, Bool.decide_and]
    cases decide (lo ≤ byteAt s i) <;> rfl
  · simp only [F172, declt, inRange_nat, h, decide_false, cond_false, cond_true, imp, Bool.not_false, betw, false_and]
def contsB (s : List UInt8) : Nat → Nat → Bool
  | _, 0 => true
  | i, n + 1 => betw s i 128 191 && contsB s (i + 1) n
theorem tail_loop : ∀ (m : Nat) (s : List UInt8) (i n k : Nat), n - k = m → k ≤ n → i + n ≤ 9223372036854775800 → loopW (S171_3step 0) (s, (i : Int), (n : Int), (k : Int)) = some (bif contsB s (i + k) (n - k) then .inr () else .inl false) := by
  intro m
  induction m with
  | zero =>
    intro s i n k hm hk hs
    have hkn : k = n := by omega
    subst hkn
    rw [loopW_end (y := .inr ())]
    · simp [contsB]
    · simp [S171_3step, S171_3]
  | succ m ih =>
    intro s i n k hm hk hs
    have hlt : k < n := by omega
    have hb : F172 0 s ((i + k : Nat) : Int) (128 : Int) (191 : Int) = some (betw s (i + k) 128 191) := between_eq s (i + k) 128 191
    have e : n - k = (n - (k + 1)) + 1 := by omega
    rw [e, contsB]
    cases hc : betw s (i + k) 128 191 with
    | false =>
      rw [loopW_end (y := .inl false)]
      · rfl
      · rw [hc] at hb
        simp only [S171_3step, S171_3, declt, hlt, decide_true, cond_true, wadd (i := i) (k := k) (by omega), hb, Option.bind_some, Bool.not_false]
    | true =>
      rw [loopW_go (x1 := (s, (i : Int), (n : Int), ((k + 1 : Nat) : Int)))]
      · rw [ih s i n (k + 1) (by omega) (by omega) hs]
        rfl
      · rw [hc] at hb
        simp only [S171_3step, S171_3, declt, hlt, decide_true, cond_true, wadd (i := i) (k := k) (by omega), hb, Option.bind_some, Bool.not_true, cond_false, wadd1 (i := k) (by omega)]
theorem tail_eq (s : List UInt8) (i n : Nat) (hs : i + n ≤ 9223372036854775800) : F171 0 s (i : Int) (n : Int) = some (contsB s i n) := by
  have h := tail_loop n s i n 0 (by omega) (by omega) hs
  unfold F171
  rw [loopQ0]
  have e : ((0 : Nat) : Int) = (0 : Int) := rfl
  rw [← e, h]
  simp only [Nat.add_zero, Nat.sub_zero]
  cases contsB s i n <;> rfl
theorem step_if {c : Bool} {p : Prop} [Decidable p] {rest : Option Int} {x r : Nat} (h : c = true ↔ p) (h2 : rest = some (r : Int)) : (bif c then some (x : Int) else rest) = some ((if p then x else r : Nat) : Int) := by
  by_cases hp : p
  · rw [h.2 hp]; simp [hp]
  · have : c = false := by cases c with | false => rfl | true => exact absurd (h.1 rfl) hp
    rw [this]; simp [hp, h2]
theorem size_eq (s : List UInt8) (i : Nat) (hi : i < s.length) (hs : s.length ≤ 9223372036854775000) : F109 0 s (i : Int) = some (sizeAt s i : Int) := by
  have e2 : ((s.getD i 0).toNat : Int) = (byteAt s i : Int) := rfl
  have t11 : F171 0 s ((i + 1 : Nat) : Int) (1 : Int) = some (contsB s (i + 1) 1) := tail_eq s (i + 1) 1 (by omega)
  have t12 : F171 0 s ((i + 1 : Nat) : Int) (2 : Int) = some (contsB s (i + 1) 2) := tail_eq s (i + 1) 2 (by omega)
  have t13 : F171 0 s ((i + 1 : Nat) : Int) (3 : Int) = some (contsB s (i + 1) 3) := tail_eq s (i + 1) 3 (by omega)
  have t21 : F171 0 s ((i + 2 : Nat) : Int) (1 : Int) = some (contsB s (i + 2) 1) := tail_eq s (i + 2) 1 (by omega)
  have t22 : F171 0 s ((i + 2 : Nat) : Int) (2 : Int) = some (contsB s (i + 2) 2) := tail_eq s (i + 2) 2 (by omega)
  have b0 : F172 0 s ((i + 1 : Nat) : Int) (160 : Int) (191 : Int) = some (betw s (i + 1) 160 191) := between_eq s (i + 1) 160 191
  have b1 : F172 0 s ((i + 1 : Nat) : Int) (128 : Int) (159 : Int) = some (betw s (i + 1) 128 159) := between_eq s (i + 1) 128 159
  have b2 : F172 0 s ((i + 1 : Nat) : Int) (144 : Int) (191 : Int) = some (betw s (i + 1) 144 191) := between_eq s (i + 1) 144 191
  have b3 : F172 0 s ((i + 1 : Nat) : Int) (128 : Int) (143 : Int) = some (betw s (i + 1) 128 143) := between_eq s (i + 1) 128 143
  unfold F109
  simp only [inRange_nat, hi, decide_true, cond_true, Int.toNat_natCast, e2, wadd1 (i := i) (by omega), wadd2 (i := i) (by omega), t11, t12, t13, t21, t22, b0, b1, b2, b3, gb, gand]
  unfold sizeAt sizeN
  have nl : ∀ k, (i + k < s.length) = (k < s.length - i) := fun k => propext ⟨fun h => by omega, fun h => by omega⟩
  simp only [contsB, betw, Bool.and_true, Nat.add_assoc, Nat.reduceAdd, nl, ← Bool.decide_and]
  generalize byteAt s i = c0 at *
  generalize byteAt s (i + 1) = c1 at *
  generalize byteAt s (i + 2) = c2 at *
  generalize byteAt s (i + 3) = c3 at *
  generalize s.length - i = n at *
  clear t11 t12 t13 t21 t22 b0 b1 b2 b3 nl e2
  have hc : ∀ (k : Nat), (((c0 : Int) == (k : Int)) = true ↔ c0 = k) := fun k => by simp; omega
  have hd : ∀ (k : Nat), (((c0 : Int) != (k : Int)) = true ↔ c0 ≠ k) := fun k => by simp; omega
  have ci : ∀ (a b : Bool), ((bif a then b else false) = true ↔ a = true ∧ b = true) := fun a b => by cases a <;> simp
  refine step_if (x := 1) (by simp only [decide_eq_true_eq]; omega) ?_
  refine step_if (x := 2) (by simp only [ci, Bool.and_eq_true, decide_eq_true_eq]; omega) ?_
  refine step_if (x := 3) (by have := hc 224; simp only [ci, Bool.and_eq_true, decide_eq_true_eq]; rw [show ((c0 : Int) == 224) = ((c0 : Int) == ((224 : Nat) : Int)) from rfl, this]; omega) ?_
  refine step_if (x := 3) (by have := hc 237; simp only [ci, Bool.and_eq_true, decide_eq_true_eq]; rw [show ((c0 : Int) == 237) = ((c0 : Int) == ((237 : Nat) : Int)) from rfl, this]; omega) ?_
  refine step_if (x := 3) (by have := hd 237; simp only [ci, Bool.and_eq_true, decide_eq_true_eq]; rw [show ((c0 : Int) != 237) = ((c0 : Int) != ((237 : Nat) : Int)) from rfl, this]; omega) ?_
  refine step_if (x := 4) (by have := hc 240; simp only [ci, Bool.and_eq_true, decide_eq_true_eq]; rw [show ((c0 : Int) == 240) = ((c0 : Int) == ((240 : Nat) : Int)) from rfl, this]; omega) ?_
  refine step_if (x := 4) (by simp only [ci, Bool.and_eq_true, decide_eq_true_eq]; omega) ?_
  refine step_if (x := 4) (by have := hc 244; simp only [ci, Bool.and_eq_true, decide_eq_true_eq]; rw [show ((c0 : Int) == 244) = ((c0 : Int) == ((244 : Nat) : Int)) from rfl, this]; omega) ?_
  rfl
theorem hasPrefix3 (s : List UInt8) : F227 0 s ([239, 191, 189] : List UInt8) = some (decide ((s.length : Int) ≥ 3) && (s.take 3 == ([239, 191, 189] : List UInt8))) := by
  unfold F227 F257
  have e : ((([239, 191, 189] : List UInt8).length : Nat) : Int) = (3 : Int) := rfl
  simp only [e]
  by_cases h : (3 : Int) ≤ (s.length : Int)
  · have h2 : decide ((0 : Int) ≤ 0 ∧ (0 : Int) ≤ 3 ∧ (3 : Int) ≤ (s.length : Int)) = true := by simp; omega
    simp only [h2, imp, ge_iff_le, h, decide_true, cond_true, Option.bind_some, Bool.true_and]
    rfl
  · simp only [imp, ge_iff_le, h, decide_false, cond_false, Bool.not_false, cond_same, cond_true, Option.bind_some, Bool.false_and]
theorem wrong_eq (s : List UInt8) (i : Nat) (hi : i < s.length) : F166 0 s (i : Int) ((decodeAt s i).1 : Int) = some (decide (sizeAt s i = 0)) := by
  unfold F166
  have h2 : decide ((0 : Int) ≤ (i : Int) ∧ (i : Int) ≤ (s.length : Int) ∧ (s.length : Int) ≤ (s.length : Int)) = true := by simp; omega
  have h3 := hasFFFD s i (by omega)
  have h4 := sizeAt_decode s i hi
  have hp := (decodeN_pos (s.length - i) (byteAt s i) (byteAt s (i + 1)) (byteAt s (i + 2)) (byteAt s (i + 3))).1
  by_cases hc : (decodeAt s i).1 = 65533
  · have hcb : (((decodeAt s i).1 : Int) == (65533 : Int)) = true := by simp; omega
    simp only [hcb, h2, imp, cond_true, Int.toNat_natCast, hasPrefix3, h3, Option.bind_some]
    rw [h4]
    by_cases hf : 2 < s.length - i ∧ byteAt s i = 239 ∧ byteAt s (i + 1) = 191 ∧ byteAt s (i + 2) = 189
    · simp only [hf, and_self, decide_true, Bool.not_true, not_true_eq_false, and_false, if_false]
      have : (decodeAt s i).2 ≠ 0 := by grind [decodeAt]
      simp [this]
    grind
  · have hcb : (((decodeAt s i).1 : Int) == (65533 : Int)) = false := by simp; omega
    simp only [hcb, imp, cond_true, cond_false, Bool.not_false, Option.bind_some]
    rw [h4, if_neg (by simp [hc])]
    have : (decodeAt s i).2 ≠ 0 := by grind [decodeAt]
    simp [this]
end Go.Ab
namespace Go.Ab
open Go
set_option maxRecDepth 100000
theorem nbeq (a b : Nat) : ((a : Int) == (b : Int)) = decide (a = b) := by
  by_cases h : a = b
  · simp [h]
  · simp [h]; omega
theorem leStr {n : Nat} (h : n ≤ 4611686018427387904) : decide (n ≤ strMax) = true := decide_eq_true h
theorem escape_all : ((List.range 256).all fun b => F167 0 (b : Int) == some (92 :: 120 :: hex2 b)) = true := by kernel_rfl
theorem escape_eq {b : Nat} (h : b < 256) : F167 0 (b : Int) = some (92 :: 120 :: hex2 b) := by
  have := List.all_eq_true.1 escape_all b (List.mem_range.2 h)
  simpa using this
theorem pair_all : ((List.range 256).all fun b => F110 0 (b : Int) == some (hex2 b)) = true := by kernel_rfl
theorem pair_eq {b : Nat} (h : b < 256) : F110 0 (b : Int) = some (hex2 b) := by
  have := List.all_eq_true.1 pair_all b (List.mem_range.2 h)
  simpa using this
/-- A part's form, in the program. -/
theorem form_eq (s : List UInt8) (i : Nat) (hi : i < s.length) : F103 0 s (i : Int) ((decodeAt s i).1 : Int) = some (partAt s i) := by
  unfold F103 partAt
  have hw := wrong_eq s i hi
  have hb : ((s.getD ((i : Int)).toNat 0).toNat : Int) = (byteAt s i : Int) := rfl
  have he := escape_eq (byteAt_lt s i)
  have hr : inRange (i : Int) s.length = true := by rw [inRange_nat, decide_eq_true hi]
  have k34 : (((decodeAt s i).1 : Int) == (34 : Int)) = decide ((decodeAt s i).1 = 34) := nbeq _ 34
  have k92 : (((decodeAt s i).1 : Int) == (92 : Int)) = decide ((decodeAt s i).1 = 92) := nbeq _ 92
  have k10 : (((decodeAt s i).1 : Int) == (10 : Int)) = decide ((decodeAt s i).1 = 10) := nbeq _ 10
  have k9 : (((decodeAt s i).1 : Int) == (9 : Int)) = decide ((decodeAt s i).1 = 9) := nbeq _ 9
  have k13 : (((decodeAt s i).1 : Int) == (13 : Int)) = decide ((decodeAt s i).1 = 13) := nbeq _ 13
  have k127 : (((decodeAt s i).1 : Int) == (127 : Int)) = decide ((decodeAt s i).1 = 127) := nbeq _ 127
  have k32 : decide (((decodeAt s i).1 : Int) < (32 : Int)) = decide ((decodeAt s i).1 < 32) := declt _ 32
  simp only [k34, k92, k10, k9, k13, k127, k32, hw, hr, hb, he, cond_true, Option.bind_some]
  by_cases ha : byteAt s i < 128
  · rw [decode_ascii s i ha, size_ascii s i ha]
    have hw1 := encode_decode s i hi (by rw [size_ascii s i ha]; decide)
    rw [decode_ascii s i ha, size_ascii s i ha] at hw1
    simp only [hw1]
    by_cases c1 : byteAt s i = 34
    · simp [c1]
    by_cases c2 : byteAt s i = 92
    · simp [c2]
    by_cases c3 : byteAt s i = 10
    · simp [c3]
    by_cases c4 : byteAt s i = 9
    · simp [c4]
    by_cases c5 : byteAt s i = 13
    · simp [c5]
    simp only [c1, c2, c3, c4, c5, decide_false, cond_false, if_false]
    by_cases c6 : byteAt s i < 32
    · simp [c6]
    · by_cases c7 : byteAt s i = 127
      · simp [c7]
      · simp [c6, c7]
  · have hh := decode_high s i (by omega)
    have d1 : decide ((decodeAt s i).1 = 34) = false := decide_eq_false (by omega)
    have d2 : decide ((decodeAt s i).1 = 92) = false := decide_eq_false (by omega)
    have d3 : decide ((decodeAt s i).1 = 10) = false := decide_eq_false (by omega)
    have d4 : decide ((decodeAt s i).1 = 9) = false := decide_eq_false (by omega)
    have d5 : decide ((decodeAt s i).1 = 13) = false := decide_eq_false (by omega)
    have d6 : decide ((decodeAt s i).1 = 127) = false := decide_eq_false (by omega)
    have d7 : decide ((decodeAt s i).1 < 32) = false := decide_eq_false (by omega)
    have e1 : ¬ byteAt s i = 34 := by omega
    have e2 : ¬ byteAt s i = 92 := by omega
    have e3 : ¬ byteAt s i = 10 := by omega
    have e4 : ¬ byteAt s i = 9 := by omega
    have e5 : ¬ byteAt s i = 13 := by omega
    have e6 : ¬ byteAt s i = 127 := by omega
    have e7 : ¬ byteAt s i < 32 := by omega
    simp only [d1, d2, d3, d4, d5, d6, d7, e1, e2, e3, e4, e5, e6, e7, cond_false, Bool.not_false, cond_true, Option.bind_some, if_false, false_or]
    by_cases h0 : sizeAt s i = 0
    · simp [h0]
    · simp only [h0, decide_false, cond_false, if_false]
      rw [encode_decode s i hi h0]
theorem quote_loop (s : List UInt8) : ∀ (m i : Nat) (acc : List UInt8), s.length - i ≤ m → i ≤ s.length → acc.length + 4 * (s.length - i) ≤ 140737488355328 →
    ∃ z, loopW (S53_5step 0) (s, (), (), acc, s, (i : Int)) = some ((), acc ++ quoteFrom s i, s, z) := by
  intro m
  induction m with
  | zero =>
    intro i acc hm hi hb
    have hlt : ¬ i < s.length := by omega
    rw [quoteFrom, if_neg hlt]
    refine ⟨(i : Int), loopW_end ?_⟩
    simp only [S53_5step, S53_5, Int.toNat_natCast, hlt, decide_false, cond_false, List.append_nil]
  | succ m ih =>
    intro i acc hm hi hb
    by_cases hlt : i < s.length
    · have hp := partAt_le s i hlt
      have hl := stepLen_le s i hlt
      have hl1 := stepLen_pos s i
      obtain ⟨z, hz⟩ := ih (i + stepLen s i) (acc ++ partAt s i) (by omega) (by omega) (by rw [List.length_append]; omega)
      refine ⟨z, ?_⟩
      rw [quoteFrom, if_pos hlt, ← List.append_assoc, ← hz]
      refine loopW_go ?_
      have hw : Nat.ble (acc.length + (partAt s i).length) 140737488355328 = true := by rw [Nat.ble_eq]; omega
      simp only [S53_5step, S53_5, Int.toNat_natCast, hlt, decide_true, cond_true, decode_eq, form_eq s i hlt, width_eq s i hlt, Option.bind_some, LwriteString, hw]
    · have hlt' : ¬ i < s.length := hlt
      rw [quoteFrom, if_neg hlt]
      refine ⟨(i : Int), loopW_end ?_⟩
      simp only [S53_5step, S53_5, Int.toNat_natCast, hlt, decide_false, cond_false, List.append_nil]
theorem quote_len (s : List UInt8) : (quote s).length ≤ 4 * s.length + 2 := by
  have := quoteFrom_len s s.length 0 (by omega)
  simp [quote]; omega
theorem quote_eq (s : List UInt8) (hs : s.length ≤ 1048576) : F53 0 s = some (quote s) := by
  obtain ⟨z, hz⟩ := quote_loop s s.length 0 [34] (by omega) (by omega) (by simp; omega)
  have hq := quoteFrom_len s s.length 0 (by omega)
  unfold F53
  have w1 : LwriteString 0 ([34] : List UInt8) [] = some (1, .nilIface, [34]) := rfl
  have w2 : Nat.ble (([34] ++ quoteFrom s 0).length + 1) 140737488355328 = true := by rw [Nat.ble_eq]; simp; omega
  simp only [w1, Option.bind_some, loopQ0, hz]
  simp only [LwriteString, List.length_cons, List.length_nil, Nat.zero_add, w2, cond_true, Option.bind_some, Lstring]
  simp [quote]
theorem refQuote_step (s : List UInt8) (hs : s.length ≤ 9223372036854775000) (i : Nat) (acc : List UInt8) (hi : i < s.length) (hb : acc.length ≤ 4611686018427380000) :
    S57_4step 0 (s, acc, (i : Int)) = some (.inl (s, acc ++ partAt s i, ((i + stepLen s i : Nat) : Int))) := by
  have hz := sizeAt_le s i hi
  have hbb : ((s.getD i 0).toNat : Int) = (byteAt s i : Int) := rfl
  have hr : inRange (i : Int) s.length = true := by rw [inRange_nat, decide_eq_true hi]
  have k34 : ((byteAt s i : Int) == (34 : Int)) = decide (byteAt s i = 34) := nbeq _ 34
  have k92 : ((byteAt s i : Int) == (92 : Int)) = decide (byteAt s i = 92) := nbeq _ 92
  have k10 : ((byteAt s i : Int) == (10 : Int)) = decide (byteAt s i = 10) := nbeq _ 10
  have k9 : ((byteAt s i : Int) == (9 : Int)) = decide (byteAt s i = 9) := nbeq _ 9
  have k13 : ((byteAt s i : Int) == (13 : Int)) = decide (byteAt s i = 13) := nbeq _ 13
  have k127 : ((byteAt s i : Int) == (127 : Int)) = decide (byteAt s i = 127) := nbeq _ 127
  have k32 : decide ((byteAt s i : Int) < (32 : Int)) = decide (byteAt s i < 32) := declt _ 32
  have k0 : ((sizeAt s i : Int) == (0 : Int)) = decide (sizeAt s i = 0) := nbeq _ 0
  have w1 : IntKind.wrap .i64 ((i : Int) + (1 : Int)) = ((i + 1 : Nat) : Int) := wadd1 (by omega)
  have w2 : IntKind.wrap .i64 ((i : Int) + (sizeAt s i : Int)) = ((i + sizeAt s i : Nat) : Int) := wadd (by omega)
  have hsl : decide ((0 : Int) ≤ (i : Int) ∧ (i : Int) ≤ ((i + sizeAt s i : Nat) : Int) ∧ ((i + sizeAt s i : Nat) : Int) ≤ (s.length : Int)) = true := decide_eq_true (by omega)
  have htk : (s.take (i + sizeAt s i)).drop i = (s.drop i).take (sizeAt s i) := by rw [List.drop_take]; congr 1; omega
  have hst : (bif decide (sizeAt s i = 0) then ((i + 1 : Nat) : Int) else ((i + sizeAt s i : Nat) : Int)) = ((i + stepLen s i : Nat) : Int) := by
    unfold stepLen
    by_cases h : sizeAt s i = 0
    · simp [h]
    · simp [h]
  have hfin : ∀ t : List UInt8, (bif decide (sizeAt s i = 0) then some (Sum.inl (s, t, ((i + 1 : Nat) : Int))) else some (Sum.inl (s, t, ((i + sizeAt s i : Nat) : Int)))) = (some (.inl (s, t, ((i + stepLen s i : Nat) : Int))) : Option (((List UInt8) × (List UInt8) × Int) ⊕ (((List UInt8))))) := by
    intro t
    rw [← hst]
    cases decide (sizeAt s i = 0) <;> rfl
  simp only [S57_4step, S57_4, declt, hi, decide_true, cond_true, size_eq s i hi hs, Option.bind_some, hr, hbb, k34, k92, k10, k9, k13, k127, k32, k0, w1, w2, hsl, Int.toNat_natCast, htk, pair_eq (byteAt_lt s i)]
  unfold partAt
  have l2 : ∀ a b : UInt8, decide (acc.length + [a, b].length ≤ strMax) = true := fun a b => leStr (by simp; omega)
  have l4 : ∀ a b c d : UInt8, decide ((acc ++ [a, b]).length + [c, d].length ≤ strMax) = true := fun a b c d => leStr (by simp; omega)
  have ls : decide (acc.length + ((s.drop i).take (sizeAt s i)).length ≤ strMax) = true := leStr (by simp; omega)
  have l5 : decide (acc.length + 2 + 2 ≤ strMax) = true := leStr (by omega)
  simp only [l2, ls, hex2, l4, cond_true, hfin]
  by_cases c1 : byteAt s i = 34
  · simp [c1]
  by_cases c2 : byteAt s i = 92
  · simp [c2]
  by_cases c3 : byteAt s i = 10
  · simp [c3]
  by_cases c4 : byteAt s i = 9
  · simp [c4]
  by_cases c5 : byteAt s i = 13
  · simp [c5]
  simp only [c1, c2, c3, c4, c5, decide_false, cond_false, if_false]
  by_cases c6 : byteAt s i < 32
  · simp [c6, l5]
  · by_cases c7 : byteAt s i = 127
    · simp [c7, l5]
    · by_cases c8 : sizeAt s i = 0
      · simp [c6, c7, c8, l5]
      · simp [c6, c7, c8]
theorem refQuote_loop (s : List UInt8) (hs : s.length ≤ 1048576) : ∀ (m i : Nat) (acc : List UInt8), s.length - i ≤ m → i ≤ s.length → acc.length + 4 * (s.length - i) ≤ 140737488355328 →
    loopW (S57_4step 0) (s, acc, (i : Int)) = some (acc ++ quoteFrom s i) := by
  intro m
  induction m with
  | zero =>
    intro i acc hm hi hb
    have hlt : ¬ i < s.length := by omega
    rw [quoteFrom, if_neg hlt]
    refine loopW_end ?_
    simp only [S57_4step, S57_4, declt, hlt, decide_false, cond_false, List.append_nil]
  | succ m ih =>
    intro i acc hm hi hb
    by_cases hlt : i < s.length
    · have hp := partAt_le s i hlt
      have hl := stepLen_le s i hlt
      have hl1 := stepLen_pos s i
      rw [quoteFrom, if_pos hlt, ← List.append_assoc, ← ih (i + stepLen s i) (acc ++ partAt s i) (by omega) (by omega) (by rw [List.length_append]; omega)]
      exact loopW_go (refQuote_step s (by omega) i acc hlt (by omega))
    · rw [quoteFrom, if_neg hlt]
      refine loopW_end ?_
      simp only [S57_4step, S57_4, declt, hlt, decide_false, cond_false, List.append_nil]
theorem refQuote_eq (s : List UInt8) (hs : s.length ≤ 1048576) : F57 0 s = some (quote s) := by
  have hz := refQuote_loop s hs s.length 0 [34] (by omega) (by omega) (by simp; omega)
  have hq := quoteFrom_len s s.length 0 (by omega)
  unfold F57
  rw [loopQ0, show (0 : Int) = ((0 : Nat) : Int) from rfl, hz, Option.bind_some, leStr (by simp; omega)]
  simp [quote]
end Go.Ab
namespace Go.Ab
open Go
set_option maxRecDepth 100000

theorem dig (d : Nat) (h : d < 10) : [PV.int (IntKind.wrap .u8 (IntKind.wrap .u64 ((48 : Int) + (d : Int))))].map byteOfPV = [UInt8.ofNat (48 + d)] := by
  have : IntKind.wrap .u8 (IntKind.wrap .u64 ((48 : Int) + (d : Int))) = ((48 + d : Nat) : Int) := by
    rw [IntKind.wrap_u64, IntKind.wrap_u8]; omega
  rw [this]
  rfl
def preD (u : Nat) : List UInt8 := if u < 10 then [] else Lib.decDigits (u / 10)
theorem preD_eq (u : Nat) : preD u ++ [UInt8.ofNat (48 + u % 10)] = Lib.decDigits u := by
  have e := Lib.decDigits.eq_1 u
  unfold preD
  rw [e]
  by_cases h : u < 10
  · rw [if_pos h, dif_pos h, Nat.mod_eq_of_lt h]; rfl
  · rw [if_neg h, dif_neg h]
theorem decimal_loop : ∀ (k u : Nat) (acc : List UInt8), u < 10 ^ (k + 1) → u < 18446744073709551616 → acc.length + k ≤ 1000 → loopW (S105_3step 0) ((u : Int), acc) = some (preD u ++ acc) := by
  intro k
  induction k with
  | zero =>
    intro u acc hu _ _
    have hd : decide ((u : Int) ≥ (10 : Int)) = false := decide_eq_false (by omega)
    rw [preD, if_pos (by omega)]
    exact loopW_end (by simp only [S105_3step, S105_3, hd, cond_false]; rfl)
  | succ k ih =>
    intro u acc hu h64 hb
    by_cases h : u < 10
    · have hd : decide ((u : Int) ≥ (10 : Int)) = false := decide_eq_false (by omega)
      rw [preD, if_pos h]
      exact loopW_end (by simp only [S105_3step, S105_3, hd, cond_false]; rfl)
    · have hd : decide ((u : Int) ≥ (10 : Int)) = true := decide_eq_true (by omega)
      have hw : IntKind.wrap .u64 ((u : Int).tdiv (10 : Int)) = ((u / 10 : Nat) : Int) := by
        rw [show (u : Int).tdiv (10 : Int) = ((u / 10 : Nat) : Int) from rfl, IntKind.wrap_u64]; omega
      have hm : ((u / 10 : Nat) : Int).tmod (10 : Int) = ((u / 10 % 10 : Nat) : Int) := rfl
      have hp : preD u ++ acc = preD (u / 10) ++ (UInt8.ofNat (48 + u / 10 % 10) :: acc) := by
        have := preD_eq (u / 10)
        rw [show preD u = Lib.decDigits (u / 10) by rw [preD, if_neg h], ← this, List.append_assoc]; rfl
      rw [hp, ← ih (u / 10) (UInt8.ofNat (48 + u / 10 % 10) :: acc) (by rw [Nat.pow_succ] at hu; omega) (by omega) (by simp; omega)]
      refine loopW_go ?_
      have hl : decide ([UInt8.ofNat (48 + u / 10 % 10)].length + acc.length ≤ strMax) = true := leStr (by simp; omega)
      simp only [S105_3step, S105_3, hd, hw, hm, dig _ (Nat.mod_lt _ (by decide : 0 < 10)), hl, cond_true]
      rfl
theorem decimal_eq (u : Nat) (hu : u < 18446744073709551616) : F105 0 (u : Int) = some (decB u) := by
  unfold F105
  have hm : ((u : Nat) : Int).tmod (10 : Int) = ((u % 10 : Nat) : Int) := rfl
  rw [hm, dig _ (Nat.mod_lt _ (by decide : 0 < 10)), loopQ0, decimal_loop 19 u _ (by omega) hu (by simp), preD_eq, decB_eq (by omega)]
  rfl

theorem decF_len : ∀ (f u : Nat), (decF f u).length ≤ f := by
  intro f
  induction f with
  | zero => intro u; simp [decF]
  | succ f ih =>
    intro u
    unfold decF
    cases Nat.ble u 9 with
    | true => simp
    | false => have := ih (u / 10); simp; omega
theorem decB_len (u : Nat) : (decB u).length ≤ 20 := decF_len 20 u
theorem itoaB_len (n : Int) : (itoaB n).length ≤ 21 := by
  unfold itoaB
  have h1 := decB_len n.natAbs
  have h2 := decB_len n.toNat
  cases decide (n < 0) with
  | true => simp; omega
  | false => simp; omega

theorem litoa_ok (n : Int) (h0 : -9223372036854775808 ≤ n) (h1 : n ≤ 9223372036854775807) : Litoa 0 n = some (itoaB n) := by
  unfold Litoa
  rw [decide_eq_true h0, decide_eq_true h1]; rfl

theorem num_text {n : Int} (h0 : -9223372036854775808 ≤ n) (h1 : n ≤ 9223372036854775807) : F56 0 (PV.agg [PV.int (3 : Int), PV.int (IntKind.wrap .u64 n), PV.str ([] : List UInt8), PV.slice [], PV.slice [], PV.slice [], PV.slice []]) = some (itoaB n) := by
  have hw : IntKind.wrap .u64 n = if n < 0 then n + 18446744073709551616 else n := by
    rw [IntKind.wrap_u64]; split <;> omega
  generalize hv : PV.agg [PV.int (3 : Int), PV.int (IntKind.wrap .u64 n), PV.str ([] : List UInt8), PV.slice [], PV.slice [], PV.slice [], PV.slice []] = v
  have e0 : (v.fld 0).asInt = 3 := by rw [← hv]; rfl
  have e1 : (v.fld 1).asInt = IntKind.wrap .u64 n := by rw [← hv]; rfl
  have e2 : (v.fld 2).asStr = [] := by rw [← hv]; rfl
  have e3 : (v.fld 3).asList = [] := by rw [← hv]; rfl
  have e4 : (v.fld 4).asList = [] := by rw [← hv]; rfl
  have e5 : (v.fld 5).asList = [] := by rw [← hv]; rfl
  have e6 : (v.fld 6).asList = [] := by rw [← hv]; rfl
  have hlone : F169 0 v = some true := by
    simp only [F169, e3, e4, e5, e6]; rfl
  have hf : F104 0 3 v = some true := by
    have hi : F168 0 3 = some true := rfl
    have ht : F170 0 3 = some false := rfl
    simp only [F104, hi, ht, hlone, e0, e2, Option.bind_some]
    rfl
  unfold F56
  simp only [e0, e1, hf, Option.bind_some, Bool.not_true, cond_false, show ((3 : Int) == (1 : Int)) = false from rfl, show ((3 : Int) == (2 : Int)) = false from rfl, show ((3 : Int) == (3 : Int)) = true from rfl, cond_true]
  rw [hw]
  unfold itoaB
  by_cases hn : n < 0
  · rw [if_pos hn]
    have hd : decide (n + 18446744073709551616 ≥ (9223372036854775808 : Int)) = true := decide_eq_true (by omega)
    have hw2 : IntKind.wrap .u64 (0 - (n + 18446744073709551616)) = ((n.natAbs : Nat) : Int) := by rw [IntKind.wrap_u64]; omega
    have hl := decB_len n.natAbs
    have h2 : decide (([45] : List UInt8).length + (decB n.natAbs).length ≤ strMax) = true := leStr (by simp; omega)
    rw [hd, cond_true, hw2, decimal_eq _ (by omega)]
    simp only [Option.bind_some, h2, cond_true, decide_eq_true hn]
    rfl
  · rw [if_neg hn]
    have hd : decide (n ≥ (9223372036854775808 : Int)) = false := decide_eq_false (by omega)
    obtain ⟨u, hu⟩ : ∃ u : Nat, n = (u : Int) := ⟨n.toNat, by omega⟩
    subst hu
    rw [hd, cond_false, decimal_eq _ (by omega)]
    simp only [Option.bind_some, decide_eq_false hn, cond_false, Int.toNat_natCast]

/- Words. -/
theorem word_all : ((List.range 22).all fun i => match F51 0 ((i + 1 : Nat) : Int), F55 0 ((i + 1 : Nat) : Int) with | some w, some w' => w == w' && Nat.ble w.length 20 | _, _ => false) = true := by kernel_rfl
theorem word_eq (k : Int) : ∃ w, F51 0 k = some w ∧ F55 0 k = some w ∧ w.length ≤ 20 := by
  by_cases h : 1 ≤ k ∧ k ≤ 22
  · obtain ⟨i, hi, rfl⟩ : ∃ i : Nat, i < 22 ∧ k = ((i + 1 : Nat) : Int) := ⟨(k - 1).toNat, by omega, by omega⟩
    have := List.all_eq_true.1 word_all i (List.mem_range.2 hi)
    split at this
    · rename_i w w' h1 h2
      simp only [Bool.and_eq_true, beq_iff_eq] at this
      obtain ⟨rfl, h3⟩ := this
      exact ⟨w, h1, h2, Nat.le_of_ble_eq_true h3⟩
    · cases this
  · refine ⟨[117, 110, 107, 110, 111, 119, 110], ?_, ?_, by decide⟩
    · unfold F51
      by_cases h1 : k < 1
      · rw [decide_eq_true h1]; rfl
      · have h2 : k > 22 := by omega
        rw [decide_eq_false h1, decide_eq_true h2]; rfl
    · unfold F55
      by_cases h1 : k < 1
      · rw [decide_eq_true h1]; rfl
      · have h2 : k > 22 := by omega
        rw [decide_eq_false h1]
        simp only [List.length_cons, List.length_nil, cond_false]
        rw [decide_eq_true (show k > (((0 + 1 + 1 + 1 + 1 + 1 + 1 + 1 + 1 + 1 + 1 + 1 + 1 + 1 + 1 + 1 + 1 + 1 + 1 + 1 + 1 + 1 + 1 : Nat)) : Int) by omega)]
        rfl

/- A line. -/
def wordC (k : Int) : List UInt8 := (F51 0 k).getD []
theorem wordC_eq (k : Int) : F51 0 k = some (wordC k) ∧ F55 0 k = some (wordC k) ∧ (wordC k).length ≤ 20 := by
  obtain ⟨w, h1, h2, h3⟩ := word_eq k
  have : wordC k = w := by rw [wordC, h1]; rfl
  rw [this]; exact ⟨h1, h2, h3⟩
def lineC (x : PV) : List UInt8 := wordC (chK x) ++ [32] ++ chD x ++ [32] ++ itoaB (chN x) ++ [32] ++ quote (chO x) ++ [32] ++ quote (chW x) ++ [10]
theorem foldl_text : ∀ (l : List PV) (acc : List UInt8), l.foldl (fun a x => a ++ lineC x) acc = acc ++ (l.map lineC).flatten := by
  intro l
  induction l with
  | nil => intro acc; simp
  | cons x l ih => intro acc; rw [List.foldl_cons, ih]; simp
theorem lineC_len {x : PV} (hd : (chD x).length ≤ 500) (ho : (chO x).length ≤ 500) (hw : (chW x).length ≤ 500) : (lineC x).length ≤ 5000 := by
  have h1 := (wordC_eq (chK x)).2.2
  have h2 := itoaB_len (chN x)
  have h3 := quote_len (chO x)
  have h4 := quote_len (chW x)
  simp only [lineC, List.length_append, List.length_cons, List.length_nil]
  omega
def NumOk (xs : List PV) : Prop := ∀ x, x ∈ xs → -9223372036854775808 ≤ chN x ∧ chN x ≤ 9223372036854775807

theorem ljoin_ok (xs : List PV) (sep : List UInt8) (h1 : xs.length ≤ 1000000) (h2 : (sep.intercalate (xs.map PV.asStr)).length ≤ 1000000) : Ljoin 0 xs sep = some (sep.intercalate (xs.map PV.asStr)) := by
  unfold Ljoin
  rw [Nat.ble_eq_true_of_le (show xs.length ≤ 140737488355328 by omega), Nat.ble_eq_true_of_le (show (sep.intercalate (xs.map PV.asStr)).length ≤ 140737488355328 by omega)]
  rfl
theorem lwrite_ok (z acc : List UInt8) (h : acc.length + z.length ≤ 100000000) : LwriteString 0 z acc = some ((z.length : Int), .nilIface, acc ++ z) := by
  unfold LwriteString
  rw [Nat.ble_eq_true_of_le (show acc.length + z.length ≤ 140737488355328 by omega)]
  rfl
theorem join5 (a b c d e : List UInt8) (h : a.length + b.length + c.length + d.length + e.length ≤ 900000) : Ljoin 0 [PV.str a, PV.str b, PV.str c, PV.str d, PV.str e] [32] = some (a ++ [32] ++ b ++ [32] ++ c ++ [32] ++ d ++ [32] ++ e) := by
  have e1 : ([32] : List UInt8).intercalate (([PV.str a, PV.str b, PV.str c, PV.str d, PV.str e] : List PV).map PV.asStr) = a ++ [32] ++ b ++ [32] ++ c ++ [32] ++ d ++ [32] ++ e := by
    simp [List.intercalate, List.intersperse, PV.asStr]
  rw [ljoin_ok _ _ (by simp only [List.length_cons, List.length_nil]; omega) (by rw [e1]; simp only [List.length_append, List.length_cons, List.length_nil]; omega), e1]
theorem text_step {xs : List PV} (h : Sm xs) (hn : NumOk xs) {i : Nat} {acc : List UInt8} (hi : i < xs.length) (hI : acc.length ≤ 5000 * i) :
    S18_4step 0 ((), xs, (xs.length : Int), ((i : Nat) : Int), acc) = some (.inl ((), xs, (xs.length : Int), ((i + 1 : Nat) : Int), acc ++ lineC xs[i])) := by
  have hlen := h.len
  have hm := h.str xs[i] (List.getElem_mem hi)
  have hnum := hn xs[i] (List.getElem_mem hi)
  obtain ⟨w1, _, w3⟩ := wordC_eq (chK xs[i])
  have l2 := itoaB_len (chN xs[i])
  have l3 := quote_len (chO xs[i])
  have l4 := quote_len (chW xs[i])
  have hd : decide ((i : Int) < (xs.length : Int)) = true := decide_eq_true (by omega)
  have q3 : F53 0 ((xs[i].fld 3).asStr) = some (quote (chO xs[i])) := quote_eq _ (by have := hm.2.1; show (chO xs[i]).length ≤ _; omega)
  have q4 : F53 0 ((xs[i].fld 4).asStr) = some (quote (chW xs[i])) := quote_eq _ (by have := hm.2.2; show (chW xs[i]).length ≤ _; omega)
  have k0 : F51 0 ((xs[i].fld 0).asInt) = some (wordC (chK xs[i])) := w1
  have k2 : Litoa 0 ((xs[i].fld 2).asInt) = some (itoaB (chN xs[i])) := litoa_ok _ hnum.1 hnum.2
  have hD : ((xs[i].fld 1).asStr) = chD xs[i] := rfl
  have hD5 := hm.1
  unfold lineC
  generalize wordC (chK xs[i]) = w at *
  generalize itoaB (chN xs[i]) = t at *
  generalize hq3 : quote (chO xs[i]) = p at *
  generalize hq4 : quote (chW xs[i]) = q at *
  have ho := hm.2.1
  have hw := hm.2.2
  have hj := join5 w (chD xs[i]) t p q (by omega)
  have hb : decide ((w ++ [32] ++ chD xs[i] ++ [32] ++ t ++ [32] ++ p ++ [32] ++ q).length + ([10] : List UInt8).length ≤ strMax) = true := leStr (by simp only [List.length_append, List.length_cons, List.length_nil]; omega)
  have hws := lwrite_ok (w ++ [32] ++ chD xs[i] ++ [32] ++ t ++ [32] ++ p ++ [32] ++ q ++ [10]) acc (by simp only [List.length_append, List.length_cons, List.length_nil]; omega)
  simp only [S18_4step, S18_4, hd, cond_true, inRange_nat, decide_eq_true hi, Int.toNat_natCast, getD_of_lt hi, k0, k2, q3, q4, hD, Option.bind_some, hj, hb, hws, waddB i (by omega)]
theorem text_list {xs : List PV} (h : Sm xs) (hn : NumOk xs) : F18 0 xs = some ((xs.map lineC).flatten) := by
  have hlen := h.len
  obtain ⟨h1, _⟩ := loopW_fold (step := S18_4step 0) (fun i acc => ((), xs, (xs.length : Int), ((i : Nat) : Int), acc)) xs (fun a x => a ++ lineC x) (fun a => ((), a)) (fun i acc => acc.length ≤ 5000 * i)
    (fun i acc hi hI => by
      have hm := h.str xs[i] (List.getElem_mem hi)
      have hll := lineC_len hm.1 hm.2.1 hm.2.2
      exact ⟨text_step h hn hi hI, by simp only [List.length_append]; omega⟩)
    (fun acc _ => by
      have hd : decide (((xs.length : Nat) : Int) < (xs.length : Int)) = false := decide_eq_false (by omega)
      simp only [S18_4step, S18_4, hd, cond_false]) xs.length 0 [] (by omega) (by simp)
  rw [List.drop_zero, foldl_text, List.nil_append] at h1
  generalize (xs.map lineC).flatten = z at *
  have h1' : loopQ 0 (S18_4step 0) ((), xs, (xs.length : Int), (0 : Int), []) = some ((), z) := h1
  unfold F18
  rw [h1', Option.bind_some]
  show (Lstring 0 z).bind _ = _
  unfold Lstring
  rw [Option.bind_some]

theorem rtext_list {xs : List PV} (h : Sm xs) (hn : NumOk xs) : F19 0 xs = some ((xs.map lineC).flatten) := by
  have hlen := h.len
  obtain ⟨h1, _⟩ := loopW_fold (step := S19_4step 0) (fun i acc => (acc, xs, (xs.length : Int), ((i : Nat) : Int))) xs (fun a x => a ++ lineC x) (fun a => a) (fun i acc => acc.length ≤ 5000 * i)
    (fun i acc hi hI => by
      have hm := h.str xs[i] (List.getElem_mem hi)
      have hnum := hn xs[i] (List.getElem_mem hi)
      obtain ⟨_, w2, w3⟩ := wordC_eq (chK xs[i])
      have l2 := itoaB_len (chN xs[i])
      have l3 := quote_len (chO xs[i])
      have l4 := quote_len (chW xs[i])
      have hll := lineC_len hm.1 hm.2.1 hm.2.2
      have hd : decide ((i : Int) < (xs.length : Int)) = true := decide_eq_true (by omega)
      refine ⟨?_, by simp only [List.length_append]; omega⟩
      have q3 : F57 0 ((xs[i].fld 3).asStr) = some (quote (chO xs[i])) := refQuote_eq _ (by have := hm.2.1; show (chO xs[i]).length ≤ _; omega)
      have q4 : F57 0 ((xs[i].fld 4).asStr) = some (quote (chW xs[i])) := refQuote_eq _ (by have := hm.2.2; show (chW xs[i]).length ≤ _; omega)
      have k0 : F55 0 ((xs[i].fld 0).asInt) = some (wordC (chK xs[i])) := w2
      have k2 : F56 0 (PV.agg [PV.int (3 : Int), PV.int (IntKind.wrap .u64 ((xs[i].fld 2).asInt)), PV.str ([] : List UInt8), PV.slice [], PV.slice [], PV.slice [], PV.slice []]) = some (itoaB (chN xs[i])) := num_text hnum.1 hnum.2
      have hD : ((xs[i].fld 1).asStr) = chD xs[i] := rfl
      simp only [S19_4step, S19_4, hd, cond_true, inRange_nat, decide_eq_true hi, Int.toNat_natCast, getD_of_lt hi, k0, k2, q3, q4, hD, Option.bind_some]
      have b : ∀ (p q : List UInt8), p.length + q.length ≤ 4611686018427387904 → decide (p.length + q.length ≤ strMax) = true := fun p q h => leStr h
      rw [b _ _ (by simp only [List.length_append, List.length_cons, List.length_nil]; omega), cond_true,
        b _ _ (by simp only [List.length_append, List.length_cons, List.length_nil]; omega), cond_true,
        b _ _ (by simp only [List.length_append, List.length_cons, List.length_nil]; omega), cond_true,
        b _ _ (by simp only [List.length_append, List.length_cons, List.length_nil]; omega), cond_true,
        b _ _ (by simp only [List.length_append, List.length_cons, List.length_nil]; omega), cond_true,
        b _ _ (by simp only [List.length_append, List.length_cons, List.length_nil]; omega), cond_true,
        b _ _ (by simp only [List.length_append, List.length_cons, List.length_nil]; omega), cond_true,
        b _ _ (by simp only [List.length_append, List.length_cons, List.length_nil]; omega), cond_true,
        b _ _ (by simp only [List.length_append, List.length_cons, List.length_nil]; omega), cond_true,
        b _ _ (by simp only [List.length_append, List.length_cons, List.length_nil]; omega), cond_true, waddB i (by omega)]
      rfl)
    (fun acc _ => by
      have hd : decide (((xs.length : Nat) : Int) < (xs.length : Int)) = false := decide_eq_false (by omega)
      simp only [S19_4step, S19_4, hd, cond_false]) xs.length 0 [] (by omega) (by simp)
  rw [List.drop_zero, foldl_text, List.nil_append] at h1
  have h1' : loopQ 0 (S19_4step 0) (([] : List UInt8), xs, (xs.length : Int), (0 : Int)) = some ((xs.map lineC).flatten) := h1
  unfold F19
  rw [h1']
  rfl

/- The law. -/
theorem allF_get {p : Nat → Bool} : ∀ (k i : Nat), allF p i k = true → ∀ j, i ≤ j → j < i + k → p j = true := by
  intro k
  induction k with
  | zero => intro i _ j h1 h2; omega
  | succ k ih =>
    intro i h j h1 h2
    unfold allF at h
    cases hp : p i with
    | false => rw [hp] at h; cases h
    | true =>
      rw [hp] at h
      by_cases hj : j = i
      · subst hj; exact hp
      · exact ih (i + 1) h j (by omega) (by omega)
def small500 (x : PV) : Bool := bif (bif (decide (((chD x).length : Int) > (500 : Int))) then true else (decide (((chO x).length : Int) > (500 : Int)))) then true else (decide (((chW x).length : Int) > (500 : Int)))
theorem plain_lists {xs : List PV} {d : List UInt8} (hn : NumOk xs) : F4 0 xs d = some true := by
  have ha : Lawake36 0 = some true := rfl
  unfold F4
  by_cases h200 : (xs.length : Int) > 200
  · rw [decide_eq_true h200, cond_true, ha]; rfl
  · rw [decide_eq_false h200, cond_false]
    have hlen : xs.length ≤ 200 := by omega
    have hl := loopW_all (step := S4_5step 0) (fun i => (xs, d, xs, (xs.length : Int), ((i : Nat) : Int))) xs.length (fun i => !(small500 (xs.getD i .bad))) (.inl true) (.inr (xs, d)) (fun i hi => by
      have hd : decide ((i : Int) < (xs.length : Int)) = true := decide_eq_true (by omega)
      simp only [S4_5step, S4_5, hd, cond_true, inRange_nat, decide_eq_true hi, Int.toNat_natCast, ha, Option.bind_some, waddB i (by omega)]
      change (bif small500 (xs.getD i .bad) then _ else _) = _
      cases small500 (xs.getD i .bad) <;> rfl) (by
      have hd : decide (((xs.length : Nat) : Int) < (xs.length : Int)) = false := decide_eq_false (by omega)
      simp only [S4_5step, S4_5, hd, cond_false]) xs.length 0 (by omega)
    have hl' : loopQ 0 (S4_5step 0) (xs, d, xs, (xs.length : Int), (0 : Int)) = some (bif allF (fun i => !(small500 (xs.getD i .bad))) 0 xs.length then .inr (xs, d) else .inl true) := hl
    rw [hl']
    cases hall : allF (fun i => !(small500 (xs.getD i .bad))) 0 xs.length with
    | false => rfl
    | true =>
      have hs : Sm xs := by
        refine ⟨hlen, fun x hx => ?_⟩
        obtain ⟨i, hi, rfl⟩ := List.mem_iff_getElem.1 hx
        have := allF_get _ _ hall i (by omega) (by omega)
        rw [getD_of_lt hi] at this
        simp only [small500, Bool.not_eq_true'] at this
        by_cases h1 : ((chD xs[i]).length : Int) > 500
        · rw [decide_eq_true h1] at this; simp at this
        · by_cases h2 : ((chO xs[i]).length : Int) > 500
          · rw [decide_eq_true h2] at this; simp at this
          · by_cases h3 : ((chW xs[i]).length : Int) > 500
            · rw [decide_eq_true h3] at this; simp at this
            · exact ⟨by omega, by omega, by omega⟩
      obtain ⟨ys, b1, b2, b3⟩ := backs hs
      obtain ⟨zs, o1, o2, o3⟩ := of_list d hs
      simp only [cond_true, Option.bind_some, sumE_inr, b1, b2, same_self ys b3, text_list hs hn, rtext_list hs hn, o1, o2, same_self zs o3, beq_self_eq_true, ha]
end Go.Ab
