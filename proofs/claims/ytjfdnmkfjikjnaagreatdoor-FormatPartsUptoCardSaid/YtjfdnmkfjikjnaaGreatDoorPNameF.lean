/- Names: what the printed functions compute. -/
import Derived.Test.YtjfdnmkfjikjnaaGreatDoorPUtfF
import Derived.Test.YtjfdnmkfjikjnaaGreatDoorPName0F
import Derived.Test.YtjfdnmkfjikjnaaGreatDoorAbUtf
set_option linter.unusedVariables false
set_option linter.unusedSimpArgs false
set_option linter.unnecessarySimpa false
namespace Go.Ab
open Go
set_option maxRecDepth 100000

theorem getD_mem {α : Type} {l : List α} {i : Nat} (h : i < l.length) (d : α) : l.getD i d ∈ l := by rw [getD_of_lt h]; exact List.getElem_mem h
theorem wadd' {i : Nat} (h : i ≤ 9223372036854775000) : IntKind.wrap .i64 ((i : Int) + 1) = ((i + 1 : Nat) : Int) := wadd1 (by omega)
theorem geI (a b : Nat) : decide ((a : Int) ≥ (b : Int)) = decide (b ≤ a) := by rw [decide_eq_decide]; omega
theorem leI (a b : Nat) : decide ((a : Int) ≤ (b : Int)) = decide (a ≤ b) := by rw [decide_eq_decide]; omega
theorem gtI (a b : Nat) : decide ((a : Int) > (b : Int)) = decide (b < a) := by rw [decide_eq_decide]; omega
theorem neB (a b : Nat) : ((a : Int) != (b : Int)) = !decide (a = b) := by
  by_cases h : a = b
  · subst h; simp
  · have : (a : Int) ≠ (b : Int) := by omega
    simp [h, this]
theorem eqB (a b : Nat) : ((a : Int) == (b : Int)) = decide (a = b) := by
  by_cases h : a = b
  · subst h; simp
  · have : (a : Int) ≠ (b : Int) := by omega
    simp [h, this]

theorem byteB (b c : UInt8) : decide (b.toNat = c.toNat) = (b == c) := by
  by_cases h : b = c
  · subst h; simp
  · have : b.toNat ≠ c.toNat := fun e => h (UInt8.toNat_inj.1 e)
    rw [decide_eq_false this]; symm; simpa using h
/- Parts. -/
/-- The class of a byte. -/
def clsN (b : Nat) : Int := bif lowB b then 1 else bif capB b then 2 else bif digB b then 3 else bif decide (b = 95) then 4 else 0
theorem class_eq (b : Nat) : F262 0 (b : Int) = some (clsN b) := by
  unfold F262 clsN
  rw [show (97 : Int) = ((97 : Nat) : Int) from rfl, show (122 : Int) = ((122 : Nat) : Int) from rfl, show (65 : Int) = ((65 : Nat) : Int) from rfl, show (90 : Int) = ((90 : Nat) : Int) from rfl, show (48 : Int) = ((48 : Nat) : Int) from rfl, show (57 : Int) = ((57 : Nat) : Int) from rfl, show (95 : Int) = ((95 : Nat) : Int) from rfl]
  simp only [geI, leI, eqB, lowB, capB, digB, Bool.decide_and]
  cases decide (97 ≤ b) <;> cases decide (b ≤ 122) <;> cases decide (65 ≤ b) <;> cases decide (b ≤ 90) <;> cases decide (48 ≤ b) <;> cases decide (b ≤ 57) <;> cases decide (b = 95) <;> rfl
theorem cls_high {b : Nat} (h : 128 ≤ b) : clsN b = 0 := by
  have h1 : lowB b = false := decide_eq_false (by omega)
  have h2 : capB b = false := decide_eq_false (by omega)
  have h3 : digB b = false := decide_eq_false (by omega)
  have h4 : decide (b = 95) = false := decide_eq_false (by omega)
  simp only [clsN, h1, h2, h3, h4, cond_false]
theorem cls0 (b : UInt8) : (clsN b.toNat == 0) = !alnB b := by
  unfold clsN alnB
  cases lowB b.toNat <;> cases capB b.toNat <;> cases digB b.toNat <;> cases decide (b.toNat = 95) <;> rfl
theorem cls12 (b : UInt8) : (bif (clsN b.toNat != 1) then (clsN b.toNat != 2) else false) = !letB b := by
  unfold clsN letB
  cases lowB b.toNat <;> cases capB b.toNat <;> cases digB b.toNat <;> cases decide (b.toNat = 95) <;> rfl
/-- Is this byte right at this place? -/
def okAt (i : Nat) (b : UInt8) : Bool := alnB b && (!decide (i = 0) || letB b)
def okFrom : Nat → List UInt8 → Bool
  | _, [] => true
  | i, b :: r => okAt i b && okFrom (i + 1) r
theorem okFrom_pos : ∀ (r : List UInt8) (i : Nat), okFrom (i + 1) r = r.all alnB := by
  intro r
  induction r with
  | nil => intro i; rfl
  | cons b r ih =>
    intro i
    rw [okFrom, ih, List.all_cons, okAt, decide_eq_false (by omega)]
    simp
theorem part_loop (s : List UInt8) : ∀ (m i : Nat), s.length - i ≤ m → i ≤ s.length → ∃ z, loopW (S187_3step 0) (s, (), s, (i : Int)) = some (bif okFrom i (s.drop i) then .inr (s, z) else .inl (false, z)) := by
  intro m
  induction m with
  | zero =>
    intro i hm hi
    have hlt : ¬ i < s.length := by omega
    rw [List.drop_eq_nil_of_le (by omega)]
    exact ⟨_, loopW_end (by simp only [S187_3step, S187_3, Int.toNat_natCast, hlt, decide_false, cond_false]; rfl)⟩
  | succ m ih =>
    intro i hm hi
    by_cases hlt : i < s.length
    · have e0 : ((i : Int) == (0 : Int)) = decide (i = 0) := eqB i 0
      rw [drop_cons hlt 0, okFrom]
      by_cases ha : byteAt s i < 128
      · have hd := decode_ascii s i ha
        have hc : F262 0 (byteAt s i : Int) = some (clsN (s.getD i 0).toNat) := class_eq _
        cases hok : okAt i (s.getD i 0) with
        | true =>
          obtain ⟨z, hz⟩ := ih (i + 1) (by omega) (by omega)
          refine ⟨z, ?_⟩
          rw [Bool.true_and, ← hz]
          refine loopW_go ?_
          unfold okAt at hok
          simp only [S187_3step, S187_3, Int.toNat_natCast, hlt, decide_true, cond_true, decode_eq, hd, hc, Option.bind_some, cls0, e0]
          cases h1 : alnB (s.getD i 0) with
          | false => rw [h1] at hok; cases hok
          | true =>
            rw [h1] at hok
            cases h2 : decide (i = 0) with
            | false => rfl
            | true =>
              rw [h2] at hok
              have h3 := cls12 (s.getD i 0)
              have h4 : letB (s.getD i 0) = true := by simpa using hok
              rw [h4] at h3
              simp only [Bool.not_true, cond_false, cond_true]
              rw [h3]
              rfl
        | false =>
          refine ⟨(s, ((i + 1 : Nat) : Int)), loopW_end ?_⟩
          unfold okAt at hok
          simp only [S187_3step, S187_3, Int.toNat_natCast, hlt, decide_true, cond_true, decode_eq, hd, hc, Option.bind_some, cls0, e0, Bool.false_and, cond_false]
          cases h1 : alnB (s.getD i 0) with
          | false => rfl
          | true =>
            rw [h1] at hok
            cases h2 : decide (i = 0) with
            | false => rw [h2] at hok; simp at hok
            | true =>
              rw [h2] at hok
              have h3 := cls12 (s.getD i 0)
              have h4 : letB (s.getD i 0) = false := by simpa using hok
              rw [h4] at h3
              simp only [Bool.not_true, cond_false, cond_true]
              rw [h3]
              rfl
      · have hh := decode_high s i (by omega)
        have hc := class_eq (decodeAt s i).1
        rw [cls_high hh] at hc
        have hok : okAt i (s.getD i 0) = false := by
          unfold okAt alnB lowB capB digB
          have : byteAt s i = (s.getD i 0).toNat := rfl
          rw [← this, decide_eq_false (by omega), decide_eq_false (by omega), decide_eq_false (by omega), decide_eq_false (by omega)]
          rfl
        refine ⟨(s, ((i + (decodeAt s i).2 : Nat) : Int)), loopW_end ?_⟩
        rw [hok]
        simp only [S187_3step, S187_3, Int.toNat_natCast, hlt, decide_true, cond_true, decode_eq, hc, Option.bind_some, Bool.false_and, cond_false]
        rfl
    · rw [List.drop_eq_nil_of_le (by omega)]
      exact ⟨_, loopW_end (by simp only [S187_3step, S187_3, Int.toNat_natCast, hlt, decide_false, cond_false]; rfl)⟩
theorem isPart_eq (s : List UInt8) : F187 0 s = some (partP s) := by
  obtain ⟨z, hz⟩ := part_loop s s.length 0 (by omega) (by omega)
  unfold F187
  rw [loopQ0, hz, List.drop_zero]
  cases s with
  | nil => rfl
  | cons c r =>
    rw [okFrom, okFrom_pos]
    have e1 : decide (((c :: r).length : Int) ≥ (1 : Int)) = true := decide_eq_true (by simp only [List.length_cons]; omega)
    have e2 : decide (((c :: r).length : Int) ≤ (40 : Int)) = decide (r.length + 1 ≤ 40) := leI _ 40
    have e3 : okAt 0 c = letB c := by
      unfold okAt
      cases h : letB c with
      | true => rw [let_aln h]; rfl
      | false => simp
    rw [e3, partP]
    cases letB c <;> cases r.all alnB <;> simp only [Bool.and_false, Bool.and_true, Bool.false_and, Bool.true_and, cond_true, cond_false, Option.bind_some, sumE_inl, sumE_inr, e1, e2]

theorem small_eq (b : Nat) : F274 0 (b : Int) = some (lowB b) := by
  unfold F274 lowB
  rw [show (97 : Int) = ((97 : Nat) : Int) from rfl, show (122 : Int) = ((122 : Nat) : Int) from rfl]
  simp only [geI, leI, Bool.decide_and]
  cases decide (97 ≤ b) <;> rfl
theorem capital_eq (b : Nat) : F275 0 (b : Int) = some (capB b) := by
  unfold F275 capB
  rw [show (65 : Int) = ((65 : Nat) : Int) from rfl, show (90 : Int) = ((90 : Nat) : Int) from rfl]
  simp only [geI, leI, Bool.decide_and]
  cases decide (65 ≤ b) <;> rfl
theorem refPart_loop (s : List UInt8) (hs : s.length ≤ 9223372036854770000) : ∀ k i, i + k = s.length → loopW (S211_5step 0) (s, (i : Int)) = some (bif allF (fun i => alnB (s.getD i 0)) i k then .inr () else .inl false) :=
  loopW_all (fun i => (s, (i : Int))) s.length (fun i => alnB (s.getD i 0)) (Sum.inl false : Bool ⊕ Unit) (Sum.inr ()) (fun i hi => by
    have h1 := small_eq (s.getD i 0).toNat
    have h2 := capital_eq (s.getD i 0).toNat
    have h3 : (((s.getD i 0).toNat : Int) != (95 : Int)) = !decide ((s.getD i 0).toNat = 95) := neB _ 95
    have h4 : decide (((s.getD i 0).toNat : Int) < (48 : Int)) = !decide (48 ≤ (s.getD i 0).toNat) := by
      rw [← decide_not, decide_eq_decide]; omega
    have h5 : decide (((s.getD i 0).toNat : Int) > (57 : Int)) = !decide ((s.getD i 0).toNat ≤ 57) := by
      rw [← decide_not, decide_eq_decide]; omega
    simp only [S211_5step, S211_5, lt_int, inRange_nat, hi, decide_true, Int.toNat_natCast, h1, h2, h3, h4, h5, Option.bind_some, wadd' (i := i) (by omega), cond_true]
    unfold alnB digB
    rw [Bool.decide_and]
    cases lowB (s.getD i 0).toNat <;> cases capB (s.getD i 0).toNat <;> cases decide ((s.getD i 0).toNat = 95) <;> cases decide (48 ≤ (s.getD i 0).toNat) <;> cases decide ((s.getD i 0).toNat ≤ 57) <;> rfl) (by
    simp only [S211_5step, S211_5, lt_int, Nat.lt_irrefl, decide_false, cond_false])
theorem refPart_eq (s : List UInt8) (hs : s.length ≤ 9223372036854770000) : F211 0 s = some (partP s) := by
  unfold F211
  cases s with
  | nil => rfl
  | cons c r =>
    have hl := refPart_loop (c :: r) hs r.length 1 (by simp [Nat.add_comm])
    rw [show ((1 : Nat) : Int) = (1 : Int) from rfl] at hl
    have ha : allF (fun i => alnB ((c :: r).getD i 0)) 1 r.length = r.all alnB := allF_list alnB 0 r [c]
    rw [ha] at hl
    have e0 : (((c :: r).length : Int) == (0 : Int)) = false := Eq.trans (eqB (c :: r).length 0) (by simp)
    have e1 : decide (((c :: r).length : Int) > (40 : Int)) = !decide (r.length + 1 ≤ 40) := by
      rw [← decide_not, decide_eq_decide]; simp only [List.length_cons]; omega
    have e2 : inRange (0 : Int) (c :: r).length = true := by rw [show (0 : Int) = ((0 : Nat) : Int) from rfl, inRange_nat]; simp
    have h1 := small_eq c.toNat
    have h2 := capital_eq c.toNat
    have e3 : ((((c :: r).getD (0 : Int).toNat 0).toNat : Nat) : Int) = (c.toNat : Int) := rfl
    rw [partP, letB]
    simp only [e0, e1, e2, e3, h1, h2, cond_false, loopQ0, hl]
    cases decide (r.length + 1 ≤ 40) <;> cases lowB c.toNat <;> cases capB c.toNat <;> cases r.all alnB <;> rfl

/- Full names. -/
theorem full_loop (s : List UInt8) (xs : List (List UInt8)) (hx : xs.length ≤ 9223372036854770000) : loopW (S127_3step 0) (s, xs.map PV.str, ((xs.map PV.str).length : Int), ((0 : Nat) : Int)) = some (bif xs.all partP then .inr s else .inl false) := by
  have h := loopW_all (step := S127_3step 0) (fun i => (s, xs.map PV.str, ((xs.map PV.str).length : Int), (i : Int))) (xs.map PV.str).length (fun i => partP ((xs.map PV.str).getD i .bad).asStr) (Sum.inl false : Bool ⊕ List UInt8) (Sum.inr s) (fun i hi => by
    have hi' : i < xs.length := by simpa using hi
    simp only [S127_3step, S127_3, lt_int, inRange_nat, hi, decide_true, cond_true, Int.toNat_natCast, isPart_eq, Option.bind_some, wadd' (i := i) (by omega)]
    cases partP ((xs.map PV.str).getD i .bad).asStr <;> rfl) (by
    simp only [S127_3step, S127_3, lt_int, Nat.lt_irrefl, decide_false, cond_false]) (xs.map PV.str).length 0 (by omega)
  rw [allF_of (fun x : PV => partP x.asStr), List.all_map] at h
  exact h
theorem splitP_len (c : UInt8) : ∀ s, (splitP c s).length ≤ s.length + 1 := by
  intro s
  induction s with
  | nil => simp [splitP]
  | cons b r ih =>
    simp only [splitP]
    cases (b == c)
    · simp only [cond_false]
      split
      · rename_i h; rw [h] at ih; simp at ih ⊢; omega
      · simp
    · simp; omega
theorem lsplit_eq (s : List UInt8) (hs : s.length ≤ 1048576) : Lsplit 0 s ([46] : List UInt8) = some ((splitP 46 s).map PV.str) := by
  unfold Lsplit
  have : Nat.blt s.length 4294967281 = true := by rw [Nat.blt_eq]; omega
  simp only [this, cond_true]
theorem isFull_eq (s : List UInt8) (hs : s.length ≤ 1048576) : F127 0 s = some (fullP s) := by
  have hl := splitP_len 46 s
  unfold F127 fullP
  have e : decide ((s.length : Int) ≤ (120 : Int)) = decide (s.length ≤ 120) := leI _ 120
  rw [lsplit_eq s hs, Option.bind_some, loopQ0, show (0 : Int) = ((0 : Nat) : Int) from rfl, full_loop s _ (by omega)]
  cases (splitP 46 s).all partP
  · simp [sumE]
  · simp [sumE, e]
theorem refFull_loop (s : List UInt8) (hs : s.length ≤ 1048576) : ∀ (m i : Nat) (part : List UInt8), s.length - i ≤ m → i ≤ s.length → part.length ≤ i →
    ∃ y, loopW (S129_6step 0) (s, part, (i : Int)) = some y ∧ sumE (fun b => some b) (fun p => some (partP p)) y = some (fullG part (s.drop i)) ∧ ∀ p, y = .inr p → p.length ≤ s.length := by
  intro m
  induction m with
  | zero =>
    intro i part hm hi hp
    have hlt : ¬ i < s.length := by omega
    rw [List.drop_eq_nil_of_le (by omega)]
    exact ⟨.inr part, loopW_end (by simp only [S129_6step, S129_6, declt, hlt, decide_false, cond_false]), rfl, fun p h => by cases h; omega⟩
  | succ m ih =>
    intro i part hm hi hp
    by_cases hlt : i < s.length
    · rw [drop_cons hlt 0, fullG]
      have hn : (((s.getD i 0).toNat : Int) != (46 : Int)) = !(s.getD i 0 == 46) := by
        exact (neB (s.getD i 0).toNat 46).trans (congrArg (!·) (byteB (s.getD i 0) 46))
      cases hb : (s.getD i 0 == 46) with
      | false =>
        obtain ⟨y, h1, h2, h3⟩ := ih (i + 1) (part ++ [s.getD i 0]) (by omega) (by omega) (by simp; omega)
        refine ⟨y, ?_, h2, h3⟩
        rw [← h1]
        refine loopW_go ?_
        have hsl : decide ((0 : Int) ≤ (i : Int) ∧ (i : Int) ≤ ((i + 1 : Nat) : Int) ∧ ((i + 1 : Nat) : Int) ≤ (s.length : Int)) = true := decide_eq_true (by omega)
        have htk : (s.take (i + 1)).drop i = [s.getD i 0] := by
          rw [List.drop_take, show i + 1 - i = 1 by omega, drop_cons hlt 0]; rfl
        have hst : decide (part.length + [s.getD i 0].length ≤ strMax) = true := decide_eq_true (by unfold strMax; simp; omega)
        rw [hb] at hn
        simp only [S129_6step, S129_6, declt, hlt, decide_true, cond_true, inRange_nat, Int.toNat_natCast, hn, Bool.not_false, wadd' (i := i) (by omega), hsl, htk, hst]
      | true =>
        rw [hb] at hn
        simp only [cond_true]
        cases hpp : partP part with
        | false =>
          refine ⟨.inl false, loopW_end ?_, rfl, fun p h => by cases h⟩
          simp only [S129_6step, S129_6, declt, hlt, decide_true, cond_true, inRange_nat, Int.toNat_natCast, hn, Bool.not_true, cond_false, refPart_eq part (by omega), hpp, Option.bind_some, Bool.not_false]
        | true =>
          obtain ⟨y, h1, h2, h3⟩ := ih (i + 1) [] (by omega) (by omega) (by simp)
          refine ⟨y, ?_, by rw [Bool.true_and]; exact h2, h3⟩
          rw [← h1]
          refine loopW_go ?_
          simp only [S129_6step, S129_6, declt, hlt, decide_true, cond_true, inRange_nat, Int.toNat_natCast, hn, Bool.not_true, cond_false, refPart_eq part (by omega), hpp, Option.bind_some, wadd' (i := i) (by omega)]
    · rw [List.drop_eq_nil_of_le (by omega)]
      exact ⟨.inr part, loopW_end (by simp only [S129_6step, S129_6, declt, hlt, decide_false, cond_false]), rfl, fun p h => by cases h; omega⟩
theorem refFull_eq (s : List UInt8) (hs : s.length ≤ 1048576) : F129 0 s = some (fullP s) := by
  obtain ⟨y, h1, h2, h3⟩ := refFull_loop s hs s.length 0 [] (by omega) (by omega) (by simp)
  rw [List.drop_zero, fullG_nil] at h2
  unfold F129 fullP
  have e : decide ((s.length : Int) > (120 : Int)) = !decide (s.length ≤ 120) := by rw [← decide_not, decide_eq_decide]; omega
  rw [loopQ0, show (0 : Int) = ((0 : Nat) : Int) from rfl, h1, e, Option.bind_some]
  cases decide (s.length ≤ 120) with
  | false => rfl
  | true =>
    rw [Bool.true_and, ← h2]
    cases y with
    | inl b => rfl
    | inr p =>
      simp only [Bool.not_true, cond_false, sumE_inr]
      rw [refPart_eq p (by have := h3 p rfl; omega)]; rfl

/- Keywords. -/
noncomputable def wordP (s : List UInt8) : Bool := (F210 0 s).getD false
theorem refWord_eq (s : List UInt8) : F210 0 s = some (wordP s) := by
  unfold wordP
  simp only [F210, condSome, Option.getD_some]
theorem word_eq (s : List UInt8) : F182 0 s = some (wordP s) := by
  rw [← refWord_eq]; rfl
noncomputable def simpP (s : List UInt8) : Bool := partP s && !wordP s
theorem isPart2_eq (s : List UInt8) : F77 0 s = some (simpP s) := by
  unfold F77 simpP
  rw [isPart_eq, Option.bind_some, word_eq]
  cases partP s <;> rfl
theorem simple_eq (s : List UInt8) (hs : s.length ≤ 9223372036854770000) : F111 0 s = some (simpP s) := by
  unfold F111 simpP
  rw [refPart_eq s hs, Option.bind_some, refWord_eq]
  cases partP s <;> rfl
/-- The name of a definition. -/
noncomputable def defP (s : List UInt8) : Bool := fullP s && (splitP 46 s).all fun x => !wordP x
theorem contWord_eq (xs : List (List UInt8)) (hx : xs.length ≤ 9223372036854770000) : F180 0 (xs.map PV.str) () = some (!xs.all fun x => !wordP x) := by
  have h := loopW_first (step := S258_3step 0) (fun i => (xs.map PV.str, (), ((xs.map PV.str).length : Int), (i : Int))) (xs.map PV.str).length (fun i => !wordP ((xs.map PV.str).getD i .bad).asStr) (fun i => (Sum.inl (i : Int) : Int ⊕ Unit)) (Sum.inr ()) (fun i hi => by
    have hi' : i < xs.length := by simpa using hi
    simp only [S258_3step, S258_3, lt_int, inRange_nat, hi, decide_true, cond_true, Int.toNat_natCast, word_eq, Option.bind_some, wadd' (i := i) (by omega)]
    cases wordP ((xs.map PV.str).getD i .bad).asStr <;> rfl) (by
    simp only [S258_3step, S258_3, lt_int, Nat.lt_irrefl, decide_false, cond_false]) (xs.map PV.str).length 0 (by omega)
  rw [allF_of (fun x : PV => !wordP x.asStr), List.all_map] at h
  obtain ⟨r, h1, h2, h3⟩ := h
  unfold F180 F258
  rw [loopQ0, show (0 : Int) = ((0 : Nat) : Int) from rfl, h1]
  cases ha : xs.all fun x => !wordP x with
  | true => rw [h2 ha]; rfl
  | false =>
    obtain ⟨j, _, _, rfl⟩ := h3 ha
    simp [sumE]
theorem isDef_eq (s : List UInt8) (hs : s.length ≤ 1048576) : F72 0 s = some (defP s) := by
  have hl := splitP_len 46 s
  unfold F72 defP
  rw [isFull_eq s hs, Option.bind_some]
  cases fullP s with
  | false => rfl
  | true =>
    simp only [cond_true, lsplit_eq s hs, Option.bind_some, contWord_eq _ (show (splitP 46 s).length ≤ _ by omega), Bool.not_not, Bool.true_and]
theorem refSplit_loop (s : List UInt8) (hs : s.length ≤ 1048576) : ∀ (k : Nat), k ≤ s.length → (46 : UInt8) ∉ s.drop k →
    ∃ y, loopW (S209_3step 0) (s, (k : Int) - 1) = some y ∧ ((∃ up last, y = .inl (up, last) ∧ s = up ++ 46 :: last ∧ (46 : UInt8) ∉ last) ∨ (y = .inr s ∧ (46 : UInt8) ∉ s)) := by
  intro k
  induction k with
  | zero =>
    intro _ hn
    refine ⟨.inr s, loopW_end ?_, Or.inr ⟨rfl, by simpa using hn⟩⟩
    have : decide (((0 : Nat) : Int) - 1 ≥ (0 : Int)) = false := decide_eq_false (by omega)
    simp only [S209_3step, S209_3, this, cond_false]
  | succ k ih =>
    intro hk hn
    have e : ((k + 1 : Nat) : Int) - 1 = (k : Int) := by omega
    have hlt : k < s.length := by omega
    have hge : decide ((k : Int) ≥ (0 : Int)) = true := decide_eq_true (by omega)
    have hq : (((s.getD k 0).toNat : Int) == (46 : Int)) = (s.getD k 0 == 46) := by
      exact (eqB (s.getD k 0).toNat 46).trans (byteB (s.getD k 0) 46)
    rw [e]
    cases hb : (s.getD k 0 == 46) with
    | true =>
      have hb' : s.getD k 0 = 46 := by simpa using hb
      have hs1 : decide ((0 : Int) ≤ (0 : Int) ∧ (0 : Int) ≤ (k : Int) ∧ (k : Int) ≤ (s.length : Int)) = true := decide_eq_true (by omega)
      have hs2 : decide ((0 : Int) ≤ ((k + 1 : Nat) : Int) ∧ ((k + 1 : Nat) : Int) ≤ (s.length : Int) ∧ (s.length : Int) ≤ (s.length : Int)) = true := decide_eq_true (by omega)
      refine ⟨.inl (s.take k, s.drop (k + 1)), loopW_end ?_, Or.inl ⟨_, _, rfl, ?_, hn⟩⟩
      · rw [hb] at hq
        simp only [S209_3step, S209_3, hge, cond_true, inRange_nat, hlt, decide_true, Int.toNat_natCast, hq, hs1, wadd' (i := k) (by omega), hs2, List.take_length]
        rfl
      · rw [← hb', ← drop_cons hlt 0, List.take_append_drop]
    | false =>
      have hb' : s.getD k 0 ≠ 46 := by simpa using hb
      obtain ⟨y, h1, h2⟩ := ih (by omega) (by rw [drop_cons hlt 0]; simp only [List.mem_cons, not_or]; exact ⟨fun e => hb' e.symm, hn⟩)
      refine ⟨y, ?_, h2⟩
      rw [← h1]
      refine loopW_go ?_
      rw [hb] at hq
      have hw : IntKind.wrap .i64 ((k : Int) - (1 : Int)) = (k : Int) - 1 := wrap64 (by omega) (by omega)
      simp only [S209_3step, S209_3, hge, cond_true, inRange_nat, hlt, decide_true, Int.toNat_natCast, hq, cond_false, hw]
theorem refSplit_eq (s : List UInt8) (hs : s.length ≤ 1048576) : ∃ up last, F209 0 s = some (up, last) ∧ ((s = up ++ 46 :: last ∧ (46 : UInt8) ∉ last) ∨ (up = [] ∧ last = s ∧ (46 : UInt8) ∉ s)) := by
  obtain ⟨y, h1, h2⟩ := refSplit_loop s hs s.length (by omega) (by simp)
  unfold F209
  have hw : IntKind.wrap .i64 ((s.length : Int) - (1 : Int)) = (s.length : Int) - 1 := wrap64 (by omega) (by omega)
  rw [loopQ0, hw, h1]
  rcases h2 with ⟨up, last, rfl, h2, h3⟩ | ⟨rfl, h3⟩
  · exact ⟨up, last, rfl, Or.inl ⟨h2, h3⟩⟩
  · exact ⟨[], s, rfl, Or.inr ⟨rfl, rfl, h3⟩⟩
/-- All pieces have something in them. -/
theorem defined_loop : ∀ (m : Nat) (s : List UInt8), s.length ≤ m → s.length ≤ 1048576 → (s = [] ∨ ∀ p, p ∈ splitP 46 s → p ≠ []) →
    loopW (S110_4step 0) s = some (bif s == [] || (splitP 46 s).all fun x => !wordP x then .inr () else .inl false) := by
  intro m
  induction m with
  | zero =>
    intro s hm _ _
    have : s = [] := List.eq_nil_of_length_eq_zero (by omega)
    subst this
    exact loopW_end rfl
  | succ m ih =>
    intro s hm hs hp
    cases s with
    | nil => exact loopW_end rfl
    | cons c r =>
      have hne : ((c :: r) == ([] : List UInt8)) = false := rfl
      obtain ⟨up, last, h1, h2⟩ := refSplit_eq (c :: r) hs
      have hp' : ∀ p, p ∈ splitP 46 (c :: r) → p ≠ [] := by
        rcases hp with h | h
        · cases h
        · exact h
      have hstep : S110_4step 0 (c :: r) = some (bif wordP last then .inr (.inl false) else .inl up) := by
        simp only [S110_4step, S110_4, hne, Bool.not_false, cond_true, h1, Option.bind_some, refWord_eq]
        cases wordP last <;> rfl
      rcases h2 with ⟨h2, h3⟩ | ⟨rfl, rfl, h3⟩
      · have hlen : up.length < (c :: r).length := by rw [h2]; simp
        have hsp : splitP 46 (c :: r) = splitP 46 up ++ [last] := by rw [h2, splitP_app, splitP_no _ _ h3]
        have hup : up ≠ [] := by
          intro e
          exact hp' [] (by rw [hsp, e]; simp [splitP]) rfl
        have hupb : (up == ([] : List UInt8)) = false := by simpa using hup
        have hpu : ∀ p, p ∈ splitP 46 up → p ≠ [] := fun p h => hp' p (by rw [hsp]; simp [h])
        have hi := ih up (by omega) (by omega) (Or.inr hpu)
        rw [hsp, List.all_append, hne]
        rw [hupb] at hi
        cases hw : wordP last with
        | true =>
          rw [hw] at hstep
          rw [loopW_end hstep]
          simp [hw]
        | false =>
          rw [hw] at hstep
          rw [loopW_go hstep, hi]
          simp [hw]
      · rw [splitP_no _ _ h3, hne]
        cases hw : wordP (c :: r) with
        | true =>
          rw [hw] at hstep
          rw [loopW_end hstep]
          simp [hw]
        | false =>
          rw [hw] at hstep
          rw [loopW_go hstep, loopW_end (y := .inr ()) rfl]
          simp [hw]
theorem partP_ne {s : List UInt8} (h : partP s = true) : s ≠ [] := by
  intro e; subst e; simp [partP] at h
theorem defined_eq (s : List UInt8) (hs : s.length ≤ 1048576) : F110 0 s = some (defP s) := by
  unfold F110 defP
  rw [refFull_eq s hs, Option.bind_some]
  cases hf : fullP s with
  | false => rfl
  | true =>
    have hparts : (splitP 46 s).all partP = true := by
      unfold fullP at hf
      simp only [Bool.and_eq_true] at hf
      exact hf.2
    have hn : s ≠ [] := by
      intro e; subst e
      simp [splitP, partP] at hparts
    have hnb : (s == ([] : List UInt8)) = false := by simpa using hn
    have h := defined_loop s.length s (by omega) hs (Or.inr fun p hp => partP_ne (List.all_eq_true.1 hparts p hp))
    simp only [Bool.not_true, cond_false, loopQ0]
    rw [h, hnb]
    cases (splitP 46 s).all fun x => !wordP x <;> rfl
end Go.Ab
