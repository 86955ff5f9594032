/- The scanner on texts that are written token by token. -/
import Derived.Test.YtjfdnmkfjikjnaaGreatDoorPReadL
set_option linter.unusedVariables false
set_option linter.unusedSimpArgs false
set_option linter.unnecessarySimpa false
namespace Go.Ab
open Go
set_option maxRecDepth 100000
/- Bytes. -/
theorem sl_drop {α : Type} (l : List α) (i : Nat) : (l.take ((l.length : Int)).toNat).drop ((i : Int)).toNat = l.drop i := by simp
theorem sl_in {α : Type} (l : List α) {i : Nat} (h : i ≤ l.length) : decide (0 ≤ (i : Int) ∧ (i : Int) ≤ (l.length : Int) ∧ (l.length : Int) ≤ (l.length : Int)) = true := decide_eq_true (by omega)
theorem letter_eq (c : UInt8) : F237 0 (c.toNat : Int) = some (letB c) := by
  unfold F237 letB lowB capB
  rw [show (97 : Int) = ((97 : Nat) : Int) from rfl, show (122 : Int) = ((122 : Nat) : Int) from rfl, show (65 : Int) = ((65 : Nat) : Int) from rfl, show (90 : Int) = ((90 : Nat) : Int) from rfl]
  simp only [geI, leI, Bool.decide_and]
  cases decide (97 ≤ c.toNat) <;> cases decide (c.toNat ≤ 122) <;> cases decide (65 ≤ c.toNat) <;> cases decide (c.toNat ≤ 90) <;> rfl
theorem digit_eq (c : UInt8) : F238 0 (c.toNat : Int) = some (digC c) := by
  unfold F238 digC
  rw [show (48 : Int) = ((48 : Nat) : Int) from rfl, show (57 : Int) = ((57 : Nat) : Int) from rfl]
  simp only [geI, leI, Bool.decide_and]
  cases decide (48 ≤ c.toNat) <;> cases decide (c.toNat ≤ 57) <;> rfl
theorem goes_eq (c : UInt8) : F242 0 (c.toNat : Int) = some (alnB c) := by
  unfold F242
  have h : ((c.toNat : Int) == (95 : Int)) = decide (c.toNat = 95) := eqB c.toNat 95
  rw [letter_eq, Option.bind_some, digit_eq, h]
  unfold letB digC alnB digB
  cases lowB c.toNat || capB c.toNat <;> simp
/- Runs. -/
def runN (p : UInt8 → Bool) (l : List UInt8) : Nat := (l.takeWhile p).length
theorem runN_le (p : UInt8 → Bool) (l : List UInt8) : runN p l ≤ l.length := by
  unfold runN
  induction l with
  | nil => simp
  | cons c r ih => rw [List.takeWhile_cons]; split <;> simp <;> omega
theorem runN_cons (p : UInt8 → Bool) (c : UInt8) (r : List UInt8) : runN p (c :: r) = if p c = true then runN p r + 1 else 0 := by
  unfold runN
  rw [List.takeWhile_cons]
  split <;> simp
theorem run_loop {p : UInt8 → Bool} {step : (List UInt8 × Unit × Int) → Option ((List UInt8 × Unit × Int) ⊕ Int)} (s : List UInt8)
    (hs : ∀ i : Nat, i < s.length → step (s, (), (i : Int)) = some (bif p (s.getD i 0) then .inl (s, (), ((i + 1 : Nat) : Int)) else .inr (i : Int)))
    (he : step (s, (), (s.length : Int)) = some (.inr (s.length : Int))) : ∀ m i : Nat, s.length - i ≤ m → i ≤ s.length → loopW step (s, (), (i : Int)) = some ((i + runN p (s.drop i) : Nat) : Int) := by
  intro m
  induction m with
  | zero =>
    intro i hm hi
    have : i = s.length := by omega
    subst this
    rw [loopW_end he, List.drop_length]; rfl
  | succ m ih =>
    intro i hm hi
    by_cases hlt : i < s.length
    · rw [drop_cons hlt 0, runN_cons]
      cases hp : p (s.getD i 0) with
      | true =>
        have h := hs i hlt
        rw [hp] at h
        rw [loopW_go h, ih (i + 1) (by omega) (by omega)]
        simp only [if_true]
        congr 2; omega
      | false =>
        have h := hs i hlt
        rw [hp] at h
        rw [loopW_end h]
        simp
    · have : i = s.length := by omega
      subst this
      rw [loopW_end he, List.drop_length]; rfl
theorem run_goes (s : List UInt8) (hl : s.length ≤ 1048576) : F162_v1 0 s () = some ((runN alnB s : Nat) : Int) := by
  have h := run_loop (p := alnB) (step := S162_v1_3step 0) s (fun i hi => by
    simp only [S162_v1_3step, S162_v1_3, declt, hi, decide_true, inRange_nat, imp, cond_true, Int.toNat_natCast, goes_eq, Option.bind_some, Bool.not_true, Bool.false_or, Bool.true_or, wadd' (show i ≤ 9223372036854775000 by omega)]
    cases alnB (s.getD i 0) <;> rfl) (by
    simp only [S162_v1_3step, S162_v1_3, declt, Nat.lt_irrefl, decide_false, inRange_nat, imp, cond_false, Bool.not_false, Bool.true_or, cond_true, Option.bind_some]) s.length 0 (by omega) (by omega)
  unfold F162_v1
  rw [loopQ0, show (0 : Int) = ((0 : Nat) : Int) from rfl, h, List.drop_zero, Nat.zero_add]; rfl
theorem run_digit (s : List UInt8) (hl : s.length ≤ 1048576) : F162_v2 0 s () = some ((runN digC s : Nat) : Int) := by
  have h := run_loop (p := digC) (step := S162_v2_3step 0) s (fun i hi => by
    simp only [S162_v2_3step, S162_v2_3, declt, hi, decide_true, inRange_nat, imp, cond_true, Int.toNat_natCast, digit_eq, Option.bind_some, Bool.not_true, Bool.false_or, Bool.true_or, wadd' (show i ≤ 9223372036854775000 by omega)]
    cases digC (s.getD i 0) <;> rfl) (by
    simp only [S162_v2_3step, S162_v2_3, declt, Nat.lt_irrefl, decide_false, inRange_nat, imp, cond_false, Bool.not_false, Bool.true_or, cond_true, Option.bind_some]) s.length 0 (by omega) (by omega)
  unfold F162_v2
  rw [loopQ0, show (0 : Int) = ((0 : Nat) : Int) from rfl, h, List.drop_zero, Nat.zero_add]; rfl
theorem runN_all {p : UInt8 → Bool} : ∀ {l s : List UInt8}, (∀ c, c ∈ l → p c = true) → stopB p s → runN p (l ++ s) = l.length := by
  intro l
  induction l with
  | nil =>
    intro s _ hs
    cases s with
    | nil => rfl
    | cons c r => rw [List.nil_append, runN_cons, hs c r rfl]; rfl
  | cons c l ih =>
    intro s hl hs
    rw [List.cons_append, runN_cons, hl c (by simp), if_pos rfl, ih (fun x hx => hl x (by simp [hx])) hs]
    rfl
/- Names. -/
/-- How many bytes of a name stand here, behind its first dot. -/
def eat : List UInt8 → Nat
  | [] => 0
  | c :: r => if alnB c = true then eat r + 1 else if c = 46 then (match r with | d :: _ => if letB d = true then eat r + 1 else 0 | [] => 0) else 0
theorem eat_cons (c : UInt8) (r : List UInt8) : eat (c :: r) = if alnB c = true then eat r + 1 else if c = 46 then (match r with | d :: _ => if letB d = true then eat r + 1 else 0 | [] => 0) else 0 := by
  rw [eat.eq_def]
theorem eat_run : ∀ l : List UInt8, eat l = runN alnB l + eat (l.drop (runN alnB l)) := by
  intro l
  induction l with
  | nil => rfl
  | cons c r ih =>
    rw [runN_cons]
    by_cases h : alnB c = true
    · rw [if_pos h, List.drop_succ_cons]
      have : eat (c :: r) = eat r + 1 := by rw [eat_cons, if_pos h]
      rw [this, ih]; omega
    · rw [if_neg h, List.drop_zero]; omega
theorem run_stop (p : UInt8 → Bool) : ∀ (l : List UInt8) (c : UInt8) (r : List UInt8), l.drop (runN p l) = c :: r → p c = false := by
  intro l
  induction l with
  | nil => intro c r h; simp at h
  | cons x l ih =>
    intro c r h
    rw [runN_cons] at h
    by_cases hx : p x = true
    · rw [if_pos hx, List.drop_succ_cons] at h
      exact ih c r h
    · rw [if_neg hx, List.drop_zero] at h
      simp only [List.cons.injEq] at h
      rw [← h.1]
      simpa using hx
theorem nameLen_end (s : List UInt8) (hl : s.length ≤ 1048576) (i : Nat) (hi : i ≤ s.length) (hend : s.length ≤ i + runN alnB (s.drop i) + 1) : loopW (S241_5step 0) (s, (i : Int)) = some ((i + eat (s.drop i) : Nat) : Int) := by
  have hk := runN_le alnB (s.drop i)
  rw [List.length_drop] at hk
  have hr := run_goes (s.drop i) (by rw [List.length_drop]; omega)
  have he := eat_run (s.drop i)
  have hst := run_stop alnB (s.drop i)
  rw [List.drop_drop] at he hst
  generalize runN alnB (s.drop i) = k at hk hr he hst hend
  have e3 : IntKind.wrap .i64 ((i : Int) + ((k : Nat) : Int)) = ((i + k : Nat) : Int) := by rw [wrap64 (by omega) (by omega)]; omega
  have hw : IntKind.wrap .i64 (((i + k : Nat) : Int) + 1) = ((i + k + 1 : Nat) : Int) := wadd' (by omega)
  have e2 : decide (((i + k + 1 : Nat) : Int) ≥ (s.length : Int)) = true := decide_eq_true (by omega)
  have h0 : eat (s.drop (i + k)) = 0 := by
    cases hd : s.drop (i + k) with
    | nil => rfl
    | cons c r =>
      have hl := congrArg List.length hd
      rw [List.length_drop, List.length_cons] at hl
      have : r = [] := List.eq_nil_of_length_eq_zero (by omega)
      subst this
      have hc := hst c [] hd
      rw [eat_cons, hc]
      simp
  refine (loopW_end (y := ((i + k : Nat) : Int)) ?_).trans (by rw [he, h0]; rfl)
  simp only [S241_5step, S241_5, sl_in s hi, cond_true, sl_drop, hr, Option.bind_some, e3, hw, e2, imp, Bool.not_true, Bool.not_false, Bool.true_or, cond_false, cond_same]
theorem nameLen_loop (s : List UInt8) (hl : s.length ≤ 1048576) : ∀ m i : Nat, s.length - i ≤ m → i ≤ s.length → loopW (S241_5step 0) (s, (i : Int)) = some ((i + eat (s.drop i) : Nat) : Int) := by
  intro m
  induction m with
  | zero =>
    intro i hm hi
    exact nameLen_end s hl i hi (by omega)
  | succ m ih =>
    intro i hm hi
    by_cases hend : s.length ≤ i + runN alnB (s.drop i) + 1
    · exact nameLen_end s hl i hi hend
    · have hk := runN_le alnB (s.drop i)
      rw [List.length_drop] at hk
      have hr := run_goes (s.drop i) (by rw [List.length_drop]; omega)
      have he := eat_run (s.drop i)
      have hst := run_stop alnB (s.drop i)
      rw [List.drop_drop] at he hst
      generalize runN alnB (s.drop i) = k at hk hr he hst hend
      have e3 : IntKind.wrap .i64 ((i : Int) + ((k : Nat) : Int)) = ((i + k : Nat) : Int) := by rw [wrap64 (by omega) (by omega)]; omega
      have hw : IntKind.wrap .i64 (((i + k : Nat) : Int) + 1) = ((i + k + 1 : Nat) : Int) := wadd' (by omega)
      have e2 : decide (((i + k + 1 : Nat) : Int) ≥ (s.length : Int)) = false := decide_eq_false (by omega)
      have lt1 : i + k < s.length := by omega
      have lt2 : i + k + 1 < s.length := by omega
      have hd := drop_cons lt1 (0 : UInt8)
      have hd2 := drop_cons lt2 (0 : UInt8)
      have hc := hst _ _ hd
      have step : S241_5step 0 (s, (i : Int)) = some (bif (s.getD (i + k) 0 == 46) && letB (s.getD (i + k + 1) 0) then .inl (s, ((i + k + 1 : Nat) : Int)) else .inr ((i + k : Nat) : Int)) := by
        have hb : (((s.getD (i + k) 0).toNat : Int) != (46 : Int)) = !(s.getD (i + k) 0 == 46) := by
          rw [show (46 : Int) = (((46 : UInt8).toNat : Nat) : Int) from rfl, neB, byteB]
        simp only [S241_5step, S241_5, sl_in s hi, cond_true, sl_drop, hr, Option.bind_some, e3, hw, e2, imp, Bool.not_true, Bool.not_false, Bool.false_or, Bool.true_or, cond_false, inRange_nat, lt1, lt2, decide_true, Int.toNat_natCast, List.take_length, hb, Bool.or_true, letter_eq]
        cases (s.getD (i + k) 0 == 46) <;> cases letB (s.getD (i + k + 1) 0) <;> simp
      by_cases hg : ((s.getD (i + k) 0 == 46) && letB (s.getD (i + k + 1) 0)) = true
      · rw [hg] at step
        rw [loopW_go step, ih (i + k + 1) (by omega) (by omega), he, hd, eat_cons, hc]
        simp only [Bool.and_eq_true, beq_iff_eq] at hg
        rw [if_neg (by simp), if_pos hg.1, hd2]
        simp only [hg.2, if_true]
        rw [← hd2]
        congr 2; omega
      · have hg : ((s.getD (i + k) 0 == 46) && letB (s.getD (i + k + 1) 0)) = false := by simpa using hg
        rw [hg] at step
        rw [loopW_end step, he, hd, eat_cons, hc]
        have : (if s.getD (i + k) 0 = 46 then (match s.drop (i + k + 1) with | d :: _ => if letB d = true then eat (s.drop (i + k + 1)) + 1 else 0 | [] => 0) else 0) = 0 := by
          split
          · rename_i h46
            rw [hd2]
            rw [h46] at hg
            have : letB (s.getD (i + k + 1) 0) = false := by simpa using hg
            simp only [this]
            simp
          · rfl
        rw [if_neg (by simp), this]; rfl
/-- What may stand behind a name. -/
def endN (s : List UInt8) : Prop := ∀ c r, s = c :: r → alnB c = false ∧ c ≠ 46
theorem eat_end {s : List UInt8} (h : endN s) : eat s = 0 := by
  cases s with
  | nil => rfl
  | cons c r =>
    obtain ⟨h1, h2⟩ := h c r rfl
    rw [eat_cons, h1, if_neg (by simp), if_neg h2]
theorem eat_parts : ∀ (t h : List UInt8) (q : List (List UInt8)) (s : List UInt8), splitP 46 t = h :: q → (∀ c, c ∈ h → alnB c = true) → q.all partP = true → endN s → eat (t ++ s) = t.length := by
  intro t
  induction t with
  | nil => intro h q s _ _ _ hs; exact eat_end hs
  | cons b r ih =>
    intro h q s e hh hq hs
    simp only [splitP] at e
    cases hb : (b == 46) with
    | true =>
      rw [hb] at e
      simp only [cond_true, List.cons.injEq] at e
      have hb : b = 46 := by simpa using hb
      subst hb
      have hne := splitP_ne 46 r
      cases hsp : splitP 46 r with
      | nil => exact absurd hsp hne
      | cons x y =>
        rw [← e.2, hsp] at hq
        simp only [List.all_cons, Bool.and_eq_true] at hq
        have hi := ih x y s hsp (part_chars hq.1) hq.2 hs
        have hr : ∃ d z, r = d :: z ∧ letB d = true := by
          cases x with
          | nil => exact absurd hq.1 (by simp [partP])
          | cons d x =>
            have hd : letB d = true := by
              have := hq.1
              unfold partP at this
              simp only [Bool.and_eq_true] at this
              exact this.1.2
            cases r with
            | nil => simp [splitP] at hsp
            | cons d' z =>
              simp only [splitP] at hsp
              cases hd' : (d' == 46) with
              | true => rw [hd'] at hsp; simp at hsp
              | false =>
                rw [hd'] at hsp
                simp only [cond_false] at hsp
                split at hsp
                · simp only [List.cons.injEq] at hsp
                  exact ⟨d', z, rfl, by rw [hsp.1.1]; exact hd⟩
                · simp only [List.cons.injEq] at hsp
                  exact ⟨d', z, rfl, by rw [hsp.1.1]; exact hd⟩
        obtain ⟨d, z, rfl, hd⟩ := hr
        have : eat ((46 : UInt8) :: ((d :: z) ++ s)) = eat ((d :: z) ++ s) + 1 := by
          rw [eat_cons, if_neg (by decide), if_pos rfl]
          simp only [List.cons_append, hd, if_true]
        rw [List.cons_append, this, hi]; rfl
    | false =>
      rw [hb] at e
      simp only [cond_false] at e
      have hne := splitP_ne 46 r
      cases hsp : splitP 46 r with
      | nil => exact absurd hsp hne
      | cons x y =>
        rw [hsp] at e
        simp only [List.cons.injEq] at e
        have hb2 : alnB b = true := hh b (by rw [← e.1]; simp)
        have hi := ih x y s hsp (fun c hc => hh c (by rw [← e.1]; simp [hc])) (by rw [e.2]; exact hq) hs
        rw [List.cons_append, eat_cons, if_pos hb2, hi]; rfl
theorem eat_full {t s : List UInt8} (h : fullP t = true) (hs : endN s) : eat (t ++ s) = t.length := by
  unfold fullP at h
  simp only [Bool.and_eq_true] at h
  cases hsp : splitP 46 t with
  | nil => exact absurd hsp (splitP_ne 46 t)
  | cons x y =>
    rw [hsp] at h
    simp only [List.all_cons, Bool.and_eq_true] at h
    exact eat_parts t x y s hsp (part_chars h.2.1) h.2.2 hs
theorem full_first {t : List UInt8} (h : fullP t = true) : ∃ c r, t = c :: r ∧ letB c = true := by
  unfold fullP at h
  simp only [Bool.and_eq_true] at h
  cases t with
  | nil => exact absurd h.2 (by simp [splitP, partP])
  | cons c r =>
    refine ⟨c, r, rfl, ?_⟩
    have h2 := h.2
    simp only [splitP] at h2
    cases hc : (c == 46) with
    | true => rw [hc] at h2; simp [partP] at h2
    | false =>
      rw [hc] at h2
      simp only [cond_false] at h2
      split at h2 <;> simp only [List.all_cons, Bool.and_eq_true] at h2 <;> (have h3 := h2.1; unfold partP at h3; simp only [Bool.and_eq_true] at h3; exact h3.1.2)
end Go.Ab
namespace Go.Ab
open Go
set_option maxRecDepth 100000
theorem drop_at {α : Type} {l : List α} {i : Nat} {c : α} {r : List α} (d : α) (h : l.drop i = c :: r) : i < l.length ∧ l.getD i d = c ∧ l.drop (i + 1) = r := by
  have hi : i < l.length := by
    have := congrArg List.length h
    simp only [List.length_drop, List.length_cons] at this
    omega
  rw [drop_cons hi d] at h
  simp only [List.cons.injEq] at h
  exact ⟨hi, h.1, h.2⟩
theorem bqI {c k : UInt8} {n : Int} (h : n = ((k.toNat : Nat) : Int)) : ((c.toNat : Int) == n) = (c == k) := by rw [h, eqB, byteB]
theorem in0 {α : Type} (c : α) (r : List α) : inRange (0 : Int) (c :: r).length = true := by
  rw [show (0 : Int) = ((0 : Nat) : Int) from rfl, inRange_nat]; simp
/- Signs. -/
def signC (c : UInt8) : Bool := decide (0 ≤ Lib.indexByte ([123, 125, 91, 93, 40, 41, 60, 62, 61, 59, 44, 64, 45] : List UInt8) c)
theorem sign_eq (c : UInt8) : F239 0 [c] = some (signC c) := rfl
theorem pre2 (c : UInt8) (r : List UInt8) (h : c ≠ 47) : F236 0 (c :: r) ([47, 47] : List UInt8) = some false := by
  unfold F236 F277
  have e : ((([47, 47] : List UInt8).length : Nat) : Int) = (2 : Int) := rfl
  simp only [e]
  by_cases hl : (2 : Int) ≤ ((c :: r).length : Int)
  · have h2 : decide ((0 : Int) ≤ 0 ∧ (0 : Int) ≤ 2 ∧ (2 : Int) ≤ ((c :: r).length : Int)) = true := decide_eq_true ⟨by omega, by omega, hl⟩
    have h3 : (((c :: r).take (2 : Int).toNat).drop (0 : Int).toNat == ([47, 47] : List UInt8)) = false := by
      rw [beq_eq_false_iff_ne]
      intro q
      have q : c :: r.take 1 = [47, 47] := q
      simp only [List.cons.injEq] at q
      exact h q.1
    rw [decide_eq_true (show ((c :: r).length : Int) ≥ (2 : Int) from hl)]
    simp only [h2, h3, imp, cond_true, Option.bind_some, Bool.not_true]
  · simp only [imp, ge_iff_le, hl, decide_false, cond_false, Bool.not_false, cond_same, cond_true, Option.bind_some, Bool.false_and]
/- What begins here. -/
theorem state_space {c : UInt8} (r : List UInt8) (h : c = 32 ∨ c = 10) : F161 0 (c :: r) = some 1 := by
  unfold F161
  rw [in0]
  rcases h with rfl | rfl <;> rfl
def startN (c : UInt8) (r : List UInt8) : Bool := letB c || (c == 46 && (match r with | d :: _ => letB d | [] => false))
def noSp (c : UInt8) : Prop := c ≠ 32 ∧ c ≠ 9 ∧ c ≠ 13 ∧ c ≠ 10 ∧ c ≠ 47
theorem state_eq (c : UInt8) (r : List UInt8) (h : noSp c) : F161 0 (c :: r) = some (bif startN c r then 3 else bif digC c then 4 else bif c == 34 then 5 else bif signC c then 6 else 0) := by
  obtain ⟨h1, h2, h3, h4, h5⟩ := h
  have g : ∀ k : UInt8, c ≠ k → (c == k) = false := fun k h => beq_eq_false_iff_ne.2 h
  have e1 : (((c :: r).take (1 : Int).toNat).drop (0 : Int).toNat) = [c] := rfl
  have e2 : decide ((0 : Int) ≤ (0 : Int) ∧ (0 : Int) ≤ (1 : Int) ∧ (1 : Int) ≤ ((c :: r).length : Int)) = true := decide_eq_true (by simp only [List.length_cons]; omega)
  have e3 : (c :: r).getD (0 : Int).toNat 0 = c := rfl
  unfold F161
  simp only [in0, e1, e2, e3, cond_true, bqI (c := c) (k := 32) (n := 32) rfl, bqI (c := c) (k := 9) (n := 9) rfl, bqI (c := c) (k := 13) (n := 13) rfl, bqI (c := c) (k := 10) (n := 10) rfl, bqI (c := c) (k := 46) (n := 46) rfl, bqI (c := c) (k := 34) (n := 34) rfl, g 32 h1, g 9 h2, g 13 h3, g 10 h4, cond_false, pre2 c r h5, Option.bind_some, letter_eq, digit_eq, sign_eq]
  unfold startN
  cases r with
  | nil =>
    have d1 : decide ((([c] : List UInt8).length : Int) > (1 : Int)) = false := rfl
    simp only [d1, cond_same, imp, Bool.not_false, Bool.true_or, Bool.or_true, cond_true, cond_false, Option.bind_some, Bool.and_false, Bool.or_false]
    cases letB c <;> cases (c == 46) <;> cases digC c <;> cases (c == 34) <;> cases signC c <;> rfl
  | cons d r =>
    have d1 : decide (((c :: d :: r).length : Int) > (1 : Int)) = true := decide_eq_true (by simp only [List.length_cons]; omega)
    have d2 : inRange (1 : Int) (c :: d :: r).length = true := by rw [show (1 : Int) = ((1 : Nat) : Int) from rfl, inRange_nat]; simp
    have d3 : (c :: d :: r).getD (1 : Int).toNat 0 = d := rfl
    simp only [d1, d2, d3, imp, letter_eq, cond_same, Bool.true_or, Bool.or_true, cond_true]
    cases letB c <;> cases (c == 46) <;> cases digC c <;> cases (c == 34) <;> cases signC c <;> cases letB d <;> rfl
/- Names. -/
theorem let_noSp {c : UInt8} (h : letB c = true) : noSp c := by
  refine ⟨?_, ?_, ?_, ?_, ?_⟩ <;> rintro rfl <;> exact absurd h (by decide)
theorem type_parts {t : List UInt8} (h : typeP t = true) : (∃ c r, t = c :: r ∧ letB c = true ∧ fullP t = true) ∨ ∃ d r, t = 46 :: d :: r ∧ letB d = true ∧ fullP (d :: r) = true := by
  cases t with
  | nil => exact absurd h (by decide)
  | cons c r =>
    have h : (bif c == 46 then fullP r else fullP (c :: r)) = true := h
    cases hc : (c == 46) with
    | true =>
      rw [hc] at h
      have hc : c = 46 := by simpa using hc
      subst hc
      obtain ⟨d, z, rfl, hd⟩ := full_first h
      exact Or.inr ⟨d, z, rfl, hd, h⟩
    | false =>
      rw [hc] at h
      obtain ⟨d, z, e, hd⟩ := full_first h
      simp only [List.cons.injEq] at e
      exact Or.inl ⟨c, r, rfl, by rw [e.1]; exact hd, h⟩
theorem state_name {t : List UInt8} (h : typeP t = true) (s : List UInt8) : F161 0 (t ++ s) = some 3 := by
  rcases type_parts h with ⟨c, r, rfl, hc, _⟩ | ⟨d, r, rfl, hd, _⟩
  · rw [List.cons_append, state_eq _ _ (let_noSp hc)]
    unfold startN
    rw [hc]; rfl
  · rw [List.cons_append, List.cons_append, state_eq _ _ ⟨by decide, by decide, by decide, by decide, by decide⟩]
    have : startN 46 (d :: (r ++ s)) = true := by
      unfold startN
      simp [hd]
    rw [this]; rfl
theorem nameLen_eq {t s : List UInt8} (h : typeP t = true) (hs : endN s) (hl : (t ++ s).length ≤ 1048576) : F241 0 (t ++ s) = some ((t.length : Nat) : Int) := by
  have hle : t.length ≤ (t ++ s).length := by simp
  rcases type_parts h with ⟨c, r, rfl, hc, hf⟩ | ⟨d, r, rfl, hd, hf⟩
  · have h0 := nameLen_loop (c :: r ++ s) hl (c :: r ++ s).length 0 (by omega) (by omega)
    have h46 : ((((c :: r ++ s).getD (0 : Int).toNat 0).toNat : Int) == (46 : Int)) = false := by
      show ((c.toNat : Int) == (46 : Int)) = false
      rw [bqI (c := c) (k := 46) (n := 46) rfl, beq_eq_false_iff_ne]
      rintro rfl
      exact absurd hc (by decide)
    rw [List.drop_zero, eat_full hf hs, Nat.zero_add] at h0
    unfold F241
    rw [List.cons_append, in0, ← List.cons_append, h46, cond_true, cond_false, loopQ0, show (0 : Int) = ((0 : Nat) : Int) from rfl, h0]; rfl
  · have h0 := nameLen_loop (46 :: d :: r ++ s) hl (46 :: d :: r ++ s).length 1 (by omega) (by simp)
    rw [show (46 :: d :: r ++ s).drop 1 = (d :: r) ++ s from rfl, eat_full hf hs] at h0
    unfold F241
    rw [List.cons_append, in0, ← List.cons_append, show (((((46 : UInt8) :: d :: r ++ s).getD (0 : Int).toNat 0).toNat : Int) == (46 : Int)) = true from rfl, cond_true, cond_true, loopQ0, show (1 : Int) = ((1 : Nat) : Int) from rfl, h0, Option.bind_some, show 1 + (d :: r).length = (46 :: d :: r).length by simp; omega]
theorem trim_full (s : List UInt8) (hs : s.length ≤ 1048576) : ∃ y, F128 0 s ([46] : List UInt8) = some y ∧ F127 0 y = some (typeP s) := by
  have h := isType_eq s hs
  unfold F47 at h
  cases ht : F128 0 s ([46] : List UInt8) with
  | none => rw [ht] at h; cases h
  | some y =>
    rw [ht, Option.bind_some] at h
    cases hf : F127 0 y with
    | none => rw [hf] at h; cases h
    | some b =>
      rw [hf] at h
      simp at h
      exact ⟨y, rfl, by rw [hf, h]⟩
theorem readName_eq {t s : List UInt8} (h : typeP t = true) (hs : endN s) (hl : (t ++ s).length ≤ 1048576) : F167 0 (t ++ s) = some (PV.agg [PV.int 1, PV.str t, PV.int 0, PV.int 0], ((t.length : Nat) : Int), 0) := by
  have e1 : decide ((0 : Int) ≤ (0 : Int) ∧ (0 : Int) ≤ ((t.length : Nat) : Int) ∧ ((t.length : Nat) : Int) ≤ ((t ++ s).length : Int)) = true := decide_eq_true (by rw [List.length_append]; omega)
  have e2 : ((t ++ s).take ((t.length : Nat) : Int).toNat).drop (0 : Int).toNat = t := by
    rw [Int.toNat_natCast, List.take_left]; rfl
  obtain ⟨y, h1, h2⟩ := trim_full t (by rw [List.length_append] at hl; omega)
  unfold F167
  simp only [nameLen_eq h hs hl, Option.bind_some, e1, e2, cond_true, h1, h2, h, Bool.not_true, cond_false]
/- Numerals. -/
def endI (s : List UInt8) : Prop := ∀ c r, s = c :: r → alnB c = false
theorem dig_aln {c : UInt8} (h : digC c = true) : alnB c = true := by
  unfold digC at h; unfold alnB digB; rw [h]; simp
theorem endI_dig {s : List UInt8} (h : endI s) : stopB digC s := fun c r e => by
  have := h c r e
  cases hd : digC c with
  | false => rfl
  | true => rw [dig_aln hd] at this; cases this
theorem dig_noSp {c : UInt8} (h : digC c = true) : noSp c ∧ letB c = false ∧ (c == 46) = false := by
  have hl : letB c = false := by
    cases hl : letB c with
    | false => rfl
    | true =>
      exfalso
      unfold digC at h
      unfold letB lowB capB at hl
      simp only [Bool.or_eq_true, decide_eq_true_eq] at h hl
      omega
  refine ⟨⟨?_, ?_, ?_, ?_, ?_⟩, hl, ?_⟩
  all_goals first | (rintro rfl; exact absurd h (by decide)) | (rw [beq_eq_false_iff_ne]; rintro rfl; exact absurd h (by decide))
theorem decB_first {u : Nat} (hu : u < 18446744073709551616) : ∃ c r, decB u = c :: r ∧ digC c = true ∧ (r ≠ [] → c ≠ 48) := by
  have h2 := decB_dig (u := u) (by omega)
  have hd := dec_facts u
  rw [← decB_eq (by omega)] at hd
  cases h : decB u with
  | nil => exact absurd h (decB_ne u)
  | cons c r =>
    refine ⟨c, r, rfl, h2 c (by rw [h]; simp), fun hr => ?_⟩
    by_cases h0 : u = 0
    · subst h0
      have : decB 0 = [48] := rfl
      rw [this] at h
      simp only [List.cons.injEq] at h
      exact absurd h.2.symm hr
    · have := hd.2.2.2 h0 c (by rw [h]; rfl)
      rintro rfl
      exact this rfl
theorem state_int {u : Nat} (hu : u < 18446744073709551616) (s : List UInt8) : F161 0 (decB u ++ s) = some 4 := by
  obtain ⟨c, r, e, hc, _⟩ := decB_first hu
  obtain ⟨h1, h2, h3⟩ := dig_noSp hc
  rw [e, List.cons_append, state_eq _ _ h1]
  unfold startN
  rw [h2, h3, hc]; rfl
theorem readInt_eq {u : Nat} (hu : u < 18446744073709551616) {s : List UInt8} (hs : endI s) (hl : (decB u ++ s).length ≤ 1048576) : ∃ tok, F168 0 (decB u ++ s) = some (tok, (((decB u).length : Nat) : Int), 0) := by
  obtain ⟨c, r, e, hc, h48⟩ := decB_first hu
  have hr := run_digit (decB u ++ s) hl
  rw [runN_all (decB_dig (u := u) (by omega)) (endI_dig hs)] at hr
  have e1 : decide ((0 : Int) ≤ (0 : Int) ∧ (0 : Int) ≤ (((decB u).length : Nat) : Int) ∧ (((decB u).length : Nat) : Int) ≤ ((decB u ++ s).length : Int)) = true := decide_eq_true (by rw [List.length_append]; omega)
  have e2 : ((decB u ++ s).take (((decB u).length : Nat) : Int).toNat).drop (0 : Int).toNat = decB u := by
    rw [Int.toNat_natCast, List.take_left]; rfl
  have hp : LparseUint 0 (decB u) 10 64 = some ((u : Int), true) := by
    have hb : Nat.ble (decB u).length 281474976710656 = true := by
      have := decB_len u
      rw [Nat.ble_eq]; omega
    unfold LparseUint
    rw [hb, decB_eq (by omega), parseUint_dec hu]; rfl
  have i0 : inRange (0 : Int) (decB u ++ s).length = true := by rw [e, List.cons_append, in0]
  have g0 : (bif decide ((((decB u).length : Nat) : Int) > (1 : Int)) then ((((decB u ++ s).getD (0 : Int).toNat 0).toNat : Int) == (48 : Int)) else false) = false := by
    cases r with
    | nil => rw [e]; rfl
    | cons d r =>
      have : ((((decB u ++ s).getD (0 : Int).toNat 0).toNat : Int) == (48 : Int)) = false := by
        rw [e]
        show ((c.toNat : Int) == (48 : Int)) = false
        rw [bqI (c := c) (k := 48) (n := 48) rfl, beq_eq_false_iff_ne]
        exact h48 (by simp)
      rw [this]; simp
  have g1 : ∀ b : Bool, (bif b then true else true) = true := fun b => by cases b <;> rfl
  unfold F168
  simp only [hr, Option.bind_some, i0, g0, imp, Bool.not_false, cond_same, cond_true, Bool.or_true, g1]
  cases s with
  | nil =>
    have x7 : decide ((((decB u).length : Nat) : Int) < ((decB u ++ []).length : Int)) = false := decide_eq_false (by simp)
    simp only [x7, cond_false, cond_same, Bool.not_false, Bool.true_or, Bool.or_true, cond_true, Option.bind_some, e1, e2, hp, Bool.not_true, g1]
    exact ⟨_, rfl⟩
  | cons a s =>
    have x7 : decide ((((decB u).length : Nat) : Int) < ((decB u ++ a :: s).length : Int)) = true := decide_eq_true (by simp; omega)
    have x8 : inRange (((decB u).length : Nat) : Int) (decB u ++ a :: s).length = true := by rw [inRange_nat]; simp
    have x9 : (decB u ++ a :: s).getD (((decB u).length : Nat) : Int).toNat 0 = a := by
      rw [Int.toNat_natCast]; simp [List.getD]
    simp only [x7, x8, x9, cond_true, cond_false, cond_same, Bool.true_or, goes_eq, hs a s rfl, Option.bind_some, e1, e2, hp, Bool.not_true, g1]
    exact ⟨_, rfl⟩
end Go.Ab
namespace Go.Ab
open Go
set_option maxRecDepth 100000
/- Texts. -/
theorem value_all : ((List.range 16).all fun h => (F292 0 ((hexd h).toNat : Int)) == some (h : Int)) = true := by kernel_rfl
theorem value_eq {h : Nat} (hh : h < 16) : F292 0 ((hexd h).toNat : Int) = some (h : Int) := by
  have := List.all_eq_true.1 value_all h (List.mem_range.2 hh)
  simpa using this
theorem or_all : ((List.range 256).all fun b => IntKind.wrap .u8 (bitsI .or .i64 (IntKind.wrap .i64 (((b / 16 : Nat) : Int) * 2 ^ (min (4 : Int).toNat (IntKind.bits .i64)))) ((b % 16 : Nat) : Int)) == (b : Int)) = true := by kernel_rfl
theorem or_eq {b : Nat} (h : b < 256) : IntKind.wrap .u8 (bitsI .or .i64 (IntKind.wrap .i64 (((b / 16 : Nat) : Int) * 2 ^ (min (4 : Int).toNat (IntKind.bits .i64)))) ((b % 16 : Nat) : Int)) = (b : Int) := by
  have := List.all_eq_true.1 or_all b (List.mem_range.2 h)
  simpa using this
theorem esc2 {src : List UInt8} {i : Nat} {e : UInt8} {q : List UInt8} (hl : src.length ≤ 1048576) (h : src.drop i = 92 :: e :: q) {v : Int} (hv : F291 0 ((e.toNat : Nat) : Int) = some (v, true)) : F244 0 src (i : Int) = some (v, 2) := by
  obtain ⟨h1, _, h2⟩ := drop_at 0 h
  obtain ⟨h3, h4, _⟩ := drop_at 0 h2
  have w1 : IntKind.wrap .i64 ((i : Int) + 1) = ((i + 1 : Nat) : Int) := wadd' (by omega)
  have d1 : decide (((i + 1 : Nat) : Int) ≥ (src.length : Int)) = false := decide_eq_false (by omega)
  have d2 : inRange ((i + 1 : Nat) : Int) src.length = true := by rw [inRange_nat]; exact decide_eq_true h3
  unfold F244
  simp only [w1, d1, d2, cond_true, cond_false, Int.toNat_natCast, h4, hv, Option.bind_some]
theorem escX {src : List UInt8} {i : Nat} {b : UInt8} {q : List UInt8} (hl : src.length ≤ 1048576) (h : src.drop i = 92 :: 120 :: (hex2 b.toNat ++ q)) : F244 0 src (i : Int) = some ((b.toNat : Int), 4) := by
  have h : src.drop i = 92 :: 120 :: hexd (b.toNat / 16) :: hexd (b.toNat % 16) :: q := h
  have hb := b.toNat_lt
  obtain ⟨h1, _, h2⟩ := drop_at 0 h
  obtain ⟨h3, h4, h5⟩ := drop_at 0 h2
  obtain ⟨h6, h7, h8⟩ := drop_at 0 h5
  obtain ⟨h9, h10, _⟩ := drop_at 0 h8
  have w1 : IntKind.wrap .i64 ((i : Int) + 1) = ((i + 1 : Nat) : Int) := wadd' (by omega)
  have w2 : IntKind.wrap .i64 ((i : Int) + 2) = ((i + 1 + 1 : Nat) : Int) := by rw [wrap64 (by omega) (by omega)]; omega
  have w3 : IntKind.wrap .i64 ((i : Int) + 3) = ((i + 1 + 1 + 1 : Nat) : Int) := by rw [wrap64 (by omega) (by omega)]; omega
  have d1 : decide (((i + 1 : Nat) : Int) ≥ (src.length : Int)) = false := decide_eq_false (by omega)
  have d3 : decide (((i + 1 + 1 + 1 : Nat) : Int) ≥ (src.length : Int)) = false := decide_eq_false (by omega)
  have r1 : inRange ((i + 1 : Nat) : Int) src.length = true := by rw [inRange_nat]; exact decide_eq_true h3
  have r2 : inRange ((i + 1 + 1 : Nat) : Int) src.length = true := by rw [inRange_nat]; exact decide_eq_true h6
  have r3 : inRange ((i + 1 + 1 + 1 : Nat) : Int) src.length = true := by rw [inRange_nat]; exact decide_eq_true h9
  have hp : F291 0 (((120 : UInt8).toNat : Nat) : Int) = some (0, false) := rfl
  have hx : ((((120 : UInt8).toNat : Nat) : Int) != (120 : Int)) = false := rfl
  have v1 := value_eq (h := b.toNat / 16) (by omega)
  have v2 := value_eq (h := b.toNat % 16) (by omega)
  have n1 : decide (((b.toNat / 16 : Nat) : Int) < 0) = false := decide_eq_false (by omega)
  have n2 : decide (((b.toNat % 16 : Nat) : Int) < 0) = false := decide_eq_false (by omega)
  unfold F244
  simp only [w1, w2, w3, d1, d3, r1, r2, r3, cond_true, cond_false, Int.toNat_natCast, h4, h7, h10, hp, hx, v1, v2, n1, n2, imp, Bool.not_false, Bool.true_or, cond_same, Option.bind_some, or_eq hb]
theorem unq_step {src : List UInt8} (hl : src.length ≤ 1048576) {i : Nat} {acc : List PV} (ha : acc.length ≤ i) {b : UInt8} {c q : List UInt8} (hc : codeOk b c) (h : src.drop i = c ++ q) : S169_6step 0 (src, acc, (i : Int)) = some (.inl (src, acc ++ [PV.int (b.toNat : Int)], ((i + c.length : Nat) : Int))) := by
  have ne : c ≠ [] := by
    rcases hc with ⟨rfl, _⟩ | ⟨_, rfl⟩ | ⟨_, rfl⟩ | ⟨_, rfl⟩ | ⟨_, rfl⟩ | ⟨_, rfl⟩ | rfl <;> simp
  have hi : i < src.length := by
    have := congrArg List.length h
    rw [List.length_drop, List.length_append] at this
    have : 0 < c.length := List.length_pos_iff.2 ne
    omega
  have e1 : decide ((i : Int) < (src.length : Int)) = true := decide_eq_true (by omega)
  have e2 : inRange (i : Int) src.length = true := by rw [inRange_nat]; exact decide_eq_true hi
  have ea : ∀ x : PV, decide (acc.length + [x].length ≤ accMax) = true := fun x => decide_eq_true (by simp only [List.length_cons, List.length_nil]; unfold accMax; omega)
  have esc : ∀ (e : UInt8) (r : List UInt8) (v : Int), src.drop i = 92 :: e :: r → F244 0 src (i : Int) = some (v, 2) → S169_6step 0 (src, acc, (i : Int)) = some (.inl (src, acc ++ [PV.int v], ((i + 2 : Nat) : Int))) := fun e r v hd hv => by
    obtain ⟨_, h4, _⟩ := drop_at 0 hd
    have w : IntKind.wrap .i64 ((i : Int) + 2) = ((i + 2 : Nat) : Int) := by rw [wrap64 (by omega) (by omega)]; omega
    simp only [S169_6step, S169_6, e1, e2, ea, h4, hv, w, imp, cond_true, cond_false, Bool.not_true, Bool.true_or, cond_same, Option.bind_some, Int.toNat_natCast]
    rfl
  rcases hc with ⟨rfl, b1, b2⟩ | ⟨rfl, rfl⟩ | ⟨rfl, rfl⟩ | ⟨rfl, rfl⟩ | ⟨rfl, rfl⟩ | ⟨rfl, rfl⟩ | rfl
  · obtain ⟨_, h4, _⟩ := drop_at 0 (show src.drop i = b :: q from h)
    have w : IntKind.wrap .i64 ((i : Int) + 1) = ((i + 1 : Nat) : Int) := wadd' (by omega)
    have g1 : ((b.toNat : Int) != (34 : Int)) = true := by
      show (!((b.toNat : Int) == (34 : Int))) = true
      rw [bqI (c := b) (k := 34) (n := 34) rfl, beq_eq_false_iff_ne.2 b1]; rfl
    have g2 : ((b.toNat : Int) == (92 : Int)) = false := by rw [bqI (c := b) (k := 92) (n := 92) rfl]; exact beq_eq_false_iff_ne.2 b2
    simp only [S169_6step, S169_6, e1, e2, ea, h4, w, g1, g2, imp, cond_true, cond_false, Bool.not_true, Bool.true_or, cond_same, Option.bind_some, Int.toNat_natCast]
    rfl
  · exact esc _ _ _ h (esc2 hl h rfl)
  · exact esc _ _ _ h (esc2 hl h rfl)
  · exact esc _ _ _ h (esc2 hl h rfl)
  · exact esc _ _ _ h (esc2 hl h rfl)
  · exact esc _ _ _ h (esc2 hl h rfl)
  · have hv := escX (b := b) (q := q) hl h
    obtain ⟨_, h4, _⟩ := drop_at 0 (show src.drop i = 92 :: (120 :: (hex2 b.toNat ++ q)) from h)
    have w : IntKind.wrap .i64 ((i : Int) + 4) = ((i + 4 : Nat) : Int) := by rw [wrap64 (by omega) (by omega)]; omega
    simp only [S169_6step, S169_6, e1, e2, ea, h4, hv, w, imp, cond_true, cond_false, Bool.not_true, Bool.true_or, cond_same, Option.bind_some, Int.toNat_natCast]
    rfl
theorem unq_loop {src : List UInt8} (hl : src.length ≤ 1048576) {a x : List UInt8} (hc : Codes a x) : ∀ (i : Nat) (acc : List PV) (s : List UInt8), src.drop i = x ++ 34 :: s → acc.length ≤ i → loopW (S169_6step 0) (src, acc, (i : Int)) = some (.inr (src, acc ++ a.map (fun c => PV.int (c.toNat : Int)), ((i + x.length : Nat) : Int))) := by
  induction hc with
  | nil =>
    intro i acc s h ha
    obtain ⟨hi, h4, _⟩ := drop_at 0 (show src.drop i = 34 :: s from h)
    have e1 : decide ((i : Int) < (src.length : Int)) = true := decide_eq_true (by omega)
    have e2 : inRange (i : Int) src.length = true := by rw [inRange_nat]; exact decide_eq_true hi
    have g1 : ((((34 : UInt8).toNat : Nat) : Int) != (34 : Int)) = false := rfl
    refine (loopW_end (y := .inr (src, acc, (i : Int))) ?_).trans (by simp)
    simp only [S169_6step, S169_6, e1, e2, h4, g1, imp, cond_true, cond_false, Bool.not_true, Bool.true_or, cond_same, Option.bind_some, Int.toNat_natCast]
  | @cons b c r q hb hr ih =>
    intro i acc s h ha
    rw [List.append_assoc] at h
    have st := unq_step hl ha hb h
    have hn : src.drop (i + c.length) = q ++ 34 :: s := by
      rw [← List.drop_drop, h, List.drop_left]
    have hp : 0 < c.length := by
      rcases hb with ⟨rfl, _⟩ | ⟨_, rfl⟩ | ⟨_, rfl⟩ | ⟨_, rfl⟩ | ⟨_, rfl⟩ | ⟨_, rfl⟩ | rfl <;> simp
    rw [loopW_go st, ih (i + c.length) _ s hn (by simp; omega)]
    simp [Nat.add_assoc]
theorem unquote_eq {a : List UInt8} (ha : a.length ≤ 1048576) (s : List UInt8) (hl : (quote a ++ s).length ≤ 1048576) : F169 0 (quote a ++ s) = some (a, (((quote a).length : Nat) : Int), 0) := by
  have hq : quote a = 34 :: (quoteFrom a 0 ++ [34]) := by unfold quote; rfl
  have hlen : (quote a).length = (quoteFrom a 0).length + 2 := by rw [hq]; simp
  have hc := quote_codes a a.length 0 (by omega)
  rw [List.drop_zero] at hc
  have hd : (quote a ++ s).drop 1 = quoteFrom a 0 ++ 34 :: s := by rw [hq]; simp
  have lp : loopW (S169_6step 0) (quote a ++ s, [], (1 : Int)) = some (.inr (quote a ++ s, [] ++ a.map (fun c : UInt8 => PV.int (c.toNat : Int)), ((1 + (quoteFrom a 0).length : Nat) : Int))) := unq_loop hl hc 1 [] s hd (by simp)
  have hall : (quote a ++ s).length = (quoteFrom a 0).length + 2 + s.length := by rw [List.length_append, hlen]
  have e0 : ((quote a ++ s) == ([] : List UInt8)) = false := by rw [hq]; rfl
  have e1 : inRange (0 : Int) (quote a ++ s).length = true := by rw [hq, List.cons_append, in0]
  have e2 : ((((quote a ++ s).getD (0 : Int).toNat 0).toNat : Int) != (34 : Int)) = false := by rw [hq]; rfl
  have e3 : ([] ++ a.map (fun c : UInt8 => PV.int (c.toNat : Int))).map byteOfPV = a := by
    rw [List.nil_append, List.map_map]
    refine (List.map_congr_left (g := id) (fun x _ => byte_back x)).trans (List.map_id _)
  have e4 : decide (((1 + (quoteFrom a 0).length : Nat) : Int) ≥ ((quote a ++ s).length : Int)) = false := decide_eq_false (by omega)
  have w : IntKind.wrap .i64 (((1 + (quoteFrom a 0).length : Nat) : Int) + 1) = (((quote a).length : Nat) : Int) := by rw [wadd' (by omega), hlen]; congr 1; omega
  have e5 : decide (0 ≤ (0 : Int) ∧ (0 : Int) ≤ (((quote a).length : Nat) : Int) ∧ (((quote a).length : Nat) : Int) ≤ ((quote a ++ s).length : Int)) = true := decide_eq_true (by omega)
  have e6 : ((quote a ++ s).take (((quote a).length : Nat) : Int).toNat).drop (0 : Int).toNat = quote a := by
    rw [Int.toNat_natCast, List.take_left]; rfl
  unfold F169
  rw [loopQ0, lp]
  simp only [e0, e1, e2, imp, Bool.not_false, Bool.true_or, cond_same, cond_true, cond_false, Option.bind_some, sumE_inr, e3, e4, quote_eq a ha, w, e5, e6, beq_self_eq_true, Bool.not_true]
/- Tokens. -/
inductive Tok : List UInt8 → List UInt8 → Prop
  | name {t s : List UInt8} : typeP t = true → endN s → Tok t s
  | int {u : Nat} {s : List UInt8} : u < 18446744073709551616 → endI s → Tok (decB u) s
  | text {t s : List UInt8} : t.length ≤ 1048576 → Tok (quote t) s
  | sign {c : UInt8} {s : List UInt8} : signC c = true → Tok [c] s
theorem sign_all : ((List.range 256).all fun n => !signC (UInt8.ofNat n) || (!(n == 32) && !(n == 9) && !(n == 13) && !(n == 10) && !(n == 47) && !(n == 46) && !(n == 34) && !letB (UInt8.ofNat n) && !digC (UInt8.ofNat n))) = true := by kernel_rfl
theorem sign_facts {c : UInt8} (h : signC c = true) : noSp c ∧ letB c = false ∧ (c == 46) = false ∧ (c == 34) = false ∧ digC c = false := by
  have := List.all_eq_true.1 sign_all c.toNat (List.mem_range.2 c.toNat_lt)
  rw [show UInt8.ofNat c.toNat = c by simp] at this
  rw [h] at this
  simp only [Bool.not_true, Bool.false_or, Bool.and_eq_true, Bool.not_eq_true', beq_eq_false_iff_ne] at this
  obtain ⟨⟨⟨⟨⟨⟨⟨⟨h1, h2⟩, h3⟩, h4⟩, h5⟩, h6⟩, h7⟩, h8⟩, h9⟩ := this
  refine ⟨⟨?_, ?_, ?_, ?_, ?_⟩, h8, ?_, ?_, h9⟩
  all_goals first | (rintro rfl; contradiction) | (rw [beq_eq_false_iff_ne]; rintro rfl; contradiction)
theorem state_text (t s : List UInt8) : F161 0 (quote t ++ s) = some 5 := by
  have hq : quote t ++ s = 34 :: (quoteFrom t 0 ++ [34] ++ s) := by unfold quote; rfl
  rw [hq, state_eq _ _ ⟨by decide, by decide, by decide, by decide, by decide⟩]; rfl
theorem state_sign {c : UInt8} (h : signC c = true) (s : List UInt8) : F161 0 ([c] ++ s) = some 6 := by
  obtain ⟨h1, h2, h3, h4, h5⟩ := sign_facts h
  rw [List.singleton_append, state_eq _ _ h1]
  unfold startN
  rw [h2, h3, h4, h5, h]; rfl
theorem tok_state {t s : List UInt8} (h : Tok t s) : ∃ k : Int, F161 0 (t ++ s) = some k ∧ (k == 1) = false ∧ (k == 2) = false := by
  cases h with
  | name h1 h2 => exact ⟨3, state_name h1 s, rfl, rfl⟩
  | int h1 h2 => exact ⟨4, state_int h1 s, rfl, rfl⟩
  | text h1 => exact ⟨5, state_text _ s, rfl, rfl⟩
  | sign h1 => exact ⟨6, state_sign h1 s, rfl, rfl⟩
theorem tok_ne {t s : List UInt8} (h : Tok t s) : t ≠ [] := by
  cases h with
  | name h1 h2 => rintro rfl; exact absurd h1 (by decide)
  | int h1 h2 => exact decB_ne _
  | text h1 => unfold quote; simp
  | sign h1 => simp
theorem tok_read {t s : List UInt8} (h : Tok t s) (hl : (t ++ s).length ≤ 1048576) : ∃ tok, F69 0 (t ++ s) = some (tok, ((t.length : Nat) : Int), 0) := by
  cases h with
  | name h1 h2 =>
    unfold F69
    rw [state_name h1 s, Option.bind_some, show ((3 : Int) == 3) = true from rfl, cond_true, readName_eq h1 h2 hl]
    exact ⟨_, rfl⟩
  | int h1 h2 =>
    obtain ⟨tok, e⟩ := readInt_eq h1 h2 hl
    unfold F69
    rw [state_int h1 s, Option.bind_some, show ((4 : Int) == 3) = false from rfl, cond_false, show ((4 : Int) == 4) = true from rfl, cond_true, e]
    exact ⟨_, rfl⟩
  | text h1 =>
    unfold F69
    rw [state_text, Option.bind_some, show ((5 : Int) == 3) = false from rfl, cond_false, show ((5 : Int) == 4) = false from rfl, cond_false, show ((5 : Int) == 5) = true from rfl, cond_true, unquote_eq h1 s hl]
    exact ⟨_, rfl⟩
  | @sign c s h1 =>
    have e : decide ((0 : Int) ≤ (0 : Int) ∧ (0 : Int) ≤ (1 : Int) ∧ (1 : Int) ≤ (([c] ++ s).length : Int)) = true := decide_eq_true (by simp; omega)
    unfold F69
    rw [state_sign h1 s, Option.bind_some, e]
    exact ⟨_, rfl⟩
/- The whole. -/
inductive Toks : List UInt8 → Prop
  | nil : Toks []
  | sp {c : UInt8} {s : List UInt8} : c = 32 ∨ c = 10 → Toks s → Toks (c :: s)
  | tok {t s : List UInt8} : Tok t s → Toks s → Toks (t ++ s)
def atTok (s : List UInt8) : Prop := s = [] ∨ ∃ t r, s = t ++ r ∧ Tok t r ∧ Toks r
theorem skip_loop {src : List UInt8} (hl : src.length ≤ 1048576) {s : List UInt8} (h : Toks s) : ∀ i : Nat, src.drop i = s → i ≤ src.length → ∃ k z, loopW (S67_3step 0) (src, (i : Int)) = some z ∧ (z = .inl ((k : Nat) : Int) ∨ z = .inr ((k : Nat) : Int)) ∧ i ≤ k ∧ k ≤ src.length ∧ atTok (src.drop k) := by
  induction h with
  | nil =>
    intro i hd hi
    have hlen : src.length ≤ i := by
      have := congrArg List.length hd
      simp only [List.length_drop, List.length_nil] at this
      omega
    have e1 : decide ((i : Int) < (src.length : Int)) = false := decide_eq_false (by omega)
    refine ⟨i, .inr (i : Int), loopW_end ?_, Or.inr rfl, Nat.le_refl _, hi, Or.inl hd⟩
    simp only [S67_3step, S67_3, e1, cond_false]
  | @sp c s hc hs ih =>
    intro i hd hi
    obtain ⟨hi2, _, hn⟩ := drop_at 0 hd
    have e1 : decide ((i : Int) < (src.length : Int)) = true := decide_eq_true (by omega)
    have st : S67_3step 0 (src, (i : Int)) = some (.inl (src, ((i + 1 : Nat) : Int))) := by
      simp only [S67_3step, S67_3, e1, sl_in src hi, cond_true, sl_drop, hd, state_space s hc, Option.bind_some, wadd' (show i ≤ 9223372036854775000 by omega)]
      rfl
    obtain ⟨k, z, h1, h2, h3, h4, h5⟩ := ih (i + 1) hn (by omega)
    exact ⟨k, z, by rw [loopW_go st, h1], h2, by omega, h4, h5⟩
  | @tok t s ht hs ih =>
    intro i hd hi
    have hi2 : i < src.length := by
      have := congrArg List.length hd
      have := List.length_pos_iff.2 (tok_ne ht)
      simp only [List.length_drop, List.length_append] at *
      omega
    have e1 : decide ((i : Int) < (src.length : Int)) = true := decide_eq_true (by omega)
    obtain ⟨k, q1, q2, q3⟩ := tok_state ht
    refine ⟨i, .inl (i : Int), loopW_end ?_, Or.inl rfl, Nat.le_refl _, hi, Or.inr ⟨t, s, hd, ht, hs⟩⟩
    simp only [S67_3step, S67_3, e1, sl_in src hi, cond_true, sl_drop, hd, q1, q2, q3, Option.bind_some, cond_false]
theorem skip_eq {s : List UInt8} (hl : s.length ≤ 1048576) (h : Toks s) : ∃ k : Nat, F67 0 s = some (k : Int) ∧ k ≤ s.length ∧ atTok (s.drop k) := by
  obtain ⟨k, z, h1, h2, _, h4, h5⟩ := skip_loop hl h 0 rfl (by omega)
  refine ⟨k, ?_, h4, h5⟩
  unfold F67
  rw [loopQ0, show (0 : Int) = ((0 : Nat) : Int) from rfl, h1]
  rcases h2 with rfl | rfl <;> rfl
theorem scan_loop {src : List UInt8} (hl : src.length ≤ 16384) : ∀ (m i : Nat) (acc : List PV) (line : Int), src.length - i ≤ m → i ≤ src.length → acc.length ≤ i → Toks (src.drop i) → ∃ l, loopW (S25_7step 0) (src, acc, line, (i : Int)) = some (.inl l) := by
  intro m
  induction m with
  | zero =>
    intro i acc line hm hi ha ht
    have e1 : decide ((i : Int) < (src.length : Int)) = false := decide_eq_false (by omega)
    exact ⟨acc, loopW_end (by simp only [S25_7step, S25_7, e1, cond_false])⟩
  | succ m ih =>
    intro i acc line hm hi ha ht
    by_cases hlt : i < src.length
    · have e1 : decide ((i : Int) < (src.length : Int)) = true := decide_eq_true (by omega)
      obtain ⟨k, h1, h2, h3⟩ := skip_eq (by rw [List.length_drop]; omega) ht
      rw [List.length_drop] at h2
      rw [List.drop_drop] at h3
      have w1 : IntKind.wrap .i64 ((i : Int) + (k : Int)) = ((i + k : Nat) : Int) := by rw [wrap64 (by omega) (by omega)]; omega
      have e2 : decide (0 ≤ (i : Int) ∧ (i : Int) ≤ ((i + k : Nat) : Int) ∧ ((i + k : Nat) : Int) ≤ (src.length : Int)) = true := decide_eq_true (by omega)
      have cnt : ∀ l : List UInt8, ∃ n : Int, Lcount 0 l ([10] : List UInt8) = some n := fun l => ⟨_, rfl⟩
      obtain ⟨n, hn⟩ := cnt ((src.take (((i + k : Nat) : Int)).toNat).drop ((i : Int)).toNat)
      by_cases hend : i + k = src.length
      · have e3 : (((i + k : Nat) : Int) == (src.length : Int)) = true := by rw [hend]; simp
        refine ⟨acc, loopW_end ?_⟩
        simp only [S25_7step, S25_7, e1, sl_in src hi, cond_true, sl_drop, h1, w1, e2, hn, e3, Option.bind_some]
      · have e3 : (((i + k : Nat) : Int) == (src.length : Int)) = false := by rw [beq_eq_false_iff_ne]; omega
        rcases h3 with h3 | ⟨t, r, h3, ht, hr⟩
        · have := congrArg List.length h3
          simp only [List.length_drop, List.length_nil] at this
          omega
        · have hlen := congrArg List.length h3
          rw [List.length_drop, List.length_append] at hlen
          have hpos := List.length_pos_iff.2 (tok_ne ht)
          obtain ⟨tok, hk⟩ := tok_read ht (by rw [← h3, List.length_drop]; omega)
          rw [← h3] at hk
          have w2 : IntKind.wrap .i64 (((i + k : Nat) : Int) + ((t.length : Nat) : Int)) = ((i + k + t.length : Nat) : Int) := by rw [wrap64 (by omega) (by omega)]; omega
          have e4 : decide (0 ≤ ((i + k : Nat) : Int) ∧ ((i + k : Nat) : Int) ≤ ((i + k + t.length : Nat) : Int) ∧ ((i + k + t.length : Nat) : Int) ≤ (src.length : Int)) = true := decide_eq_true (by omega)
          have ea : ∀ x : PV, decide (acc.length + [x].length ≤ accMax) = true := fun x => decide_eq_true (by simp only [List.length_cons, List.length_nil]; unfold accMax; omega)
          obtain ⟨n2, hn2⟩ := cnt ((src.take (((i + k + t.length : Nat) : Int)).toNat).drop (((i + k : Nat) : Int)).toNat)
          have z0 : ((0 : Int) != (0 : Int)) = false := rfl
          have hd : src.drop (i + k + t.length) = r := by rw [← List.drop_drop, h3, List.drop_left]
          have st : ∃ tk line2, S25_7step 0 (src, acc, line, (i : Int)) = some (.inl (src, acc ++ [tk], line2, ((i + k + t.length : Nat) : Int))) := by
            simp only [S25_7step, S25_7, e1, sl_in src hi, sl_in src (show i + k ≤ src.length by omega), cond_true, cond_false, sl_drop, h1, w1, w2, e2, e4, ea, hn, hn2, hk, z0, e3, Option.bind_some]
            exact ⟨_, _, rfl⟩
          obtain ⟨tk, line2, st⟩ := st
          obtain ⟨l, hl2⟩ := ih (i + k + t.length) (acc ++ [tk]) line2 (by omega) (by omega) (by simp; omega) (by rw [hd]; exact hr)
          exact ⟨l, by rw [loopW_go st, hl2]⟩
    · have e1 : decide ((i : Int) < (src.length : Int)) = false := decide_eq_false (by omega)
      exact ⟨acc, loopW_end (by simp only [S25_7step, S25_7, e1, cond_false])⟩
theorem scan_ok {s : List UInt8} (hl : s.length ≤ 16384) (h : Toks s) : ∃ l, F25 0 s = some (l, 0, 0) := by
  obtain ⟨l, h1⟩ := scan_loop hl s.length 0 [] 1 (by omega) (by omega) (by simp) h
  have e : decide ((s.length : Int) > (16384 : Int)) = false := decide_eq_false (by omega)
  refine ⟨l, ?_⟩
  unfold F25
  rw [e, cond_false, loopQ0, show (0 : Int) = ((0 : Nat) : Int) from rfl, h1]; rfl
end Go.Ab
