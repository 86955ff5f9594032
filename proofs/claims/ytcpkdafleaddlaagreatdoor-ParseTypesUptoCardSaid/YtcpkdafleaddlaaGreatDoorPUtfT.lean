/- UTF-8: what the printed functions compute. -/
import Derived.Test.YtcpkdafleaddlaaGreatDoorAbUtf
import Derived.Test.YtcpkdafleaddlaaGreatDoorGenT
import Derived.Test.YtcpkdafleaddlaaGreatDoorAbPrsP
import Derived.Test.YtcpkdafleaddlaaGreatDoorAbPlain
import Derived.Test.YtcpkdafleaddlaaGreatDoorAbEqL
set_option linter.unusedVariables false
set_option linter.unusedSimpArgs false
set_option linter.unnecessarySimpa false
namespace Go.Ab
open Go
theorem wadd {i k : Nat} (h : i + k ≤ 9223372036854775807) : IntKind.wrap .i64 ((i : Int) + (k : Int)) = ((i + k : Nat) : Int) := by rw [← Int.natCast_add]; exact wrap64_nat h
theorem wadd1 {i : Nat} (h : i + 1 ≤ 9223372036854775807) : IntKind.wrap .i64 ((i : Int) + (1 : Int)) = ((i + 1 : Nat) : Int) := wadd (k := 1) h
theorem cond_same {α : Type} (b : Bool) (x : α) : (bif b then x else x) = x := by cases b <;> rfl
theorem declt (a b : Nat) : decide ((a : Int) < (b : Int)) = decide (a < b) := by simp
end Go.Ab
namespace Go.Ab
open Go
theorem allF_list {α : Type} (f : α → Bool) (d : α) : ∀ (xs pre : List α), allF (fun i => f ((pre ++ xs).getD i d)) pre.length xs.length = xs.all f := by
  intro xs
  induction xs with
  | nil => intro pre; rfl
  | cons x r ih =>
    intro pre
    simp only [List.length_cons, allF, List.all_cons]
    have e1 : (pre ++ x :: r).getD pre.length d = x := by simp [List.getD]
    rw [e1]
    have := ih (pre ++ [x])
    rw [show pre ++ x :: r = pre ++ [x] ++ r by simp, ← this]
    simp
theorem allF_of {α : Type} (f : α → Bool) (d : α) (xs : List α) : allF (fun i => f (xs.getD i d)) 0 xs.length = xs.all f := allF_list f d xs []
def lowB (b : Nat) : Bool := decide (97 ≤ b ∧ b ≤ 122)
def capB (b : Nat) : Bool := decide (65 ≤ b ∧ b ≤ 90)
def digB (b : Nat) : Bool := decide (48 ≤ b ∧ b ≤ 57)
def letB (b : UInt8) : Bool := lowB b.toNat || capB b.toNat
def alnB (b : UInt8) : Bool := lowB b.toNat || capB b.toNat || digB b.toNat || decide (b.toNat = 95)
theorem let_aln {b : UInt8} (h : letB b = true) : alnB b = true := by
  unfold letB at h; unfold alnB; rw [h]; rfl
/-- A part of a name. -/
def partP (s : List UInt8) : Bool :=
  match s with
  | [] => false
  | c :: r => decide (r.length + 1 ≤ 40) && letB c && r.all alnB
/-- A full name. -/
def fullP (s : List UInt8) : Bool := decide (s.length ≤ 120) && (splitP 46 s).all partP
/-- The name of a type. -/
def typeP (s : List UInt8) : Bool :=
  match s with
  | [] => fullP []
  | c :: r => bif c == 46 then fullP r else fullP (c :: r)
/-- A full name, read byte by byte behind a part that is begun. -/
def fullG : List UInt8 → List UInt8 → Bool
  | part, [] => partP part
  | part, b :: r => bif b == 46 then partP part && fullG [] r else fullG (part ++ [b]) r
def glue (part : List UInt8) : List (List UInt8) → List (List UInt8)
  | [] => [part]
  | x :: q => (part ++ x) :: q
theorem fullG_eq : ∀ (r part : List UInt8), fullG part r = (glue part (splitP 46 r)).all partP := by
  intro r
  induction r with
  | nil => intro part; simp [fullG, splitP, glue]
  | cons b r ih =>
    intro part
    simp only [fullG, splitP]
    cases h : (b == 46) with
    | true =>
      simp only [cond_true, glue, List.append_nil, List.all_cons, ih]
      have := splitP_ne 46 r
      cases hs : splitP 46 r with
      | nil => exact absurd hs this
      | cons x q => simp [glue]
    | false =>
      simp only [cond_false, ih]
      have := splitP_ne 46 r
      cases hs : splitP 46 r with
      | nil => exact absurd hs this
      | cons x q => simp [glue]
theorem fullG_nil (r : List UInt8) : fullG [] r = (splitP 46 r).all partP := by
  rw [fullG_eq]
  have := splitP_ne 46 r
  cases hs : splitP 46 r with
  | nil => exact absurd hs this
  | cons x q => simp [glue]
end Go.Ab
namespace Go.Ab
open Go
set_option maxRecDepth 100000
theorem getD_mem {α : Type} {l : List α} {i : Nat} (h : i < l.length) (d : α) : l.getD i d ∈ l := by rw [getD_of_lt h]; exact List.getElem_mem h
theorem wadd' {i : Nat} (h : i ≤ 9223372036854775000) : IntKind.wrap .i64 ((i : Int) + 1) = ((i + 1 : Nat) : Int) := wadd1 (by omega)
theorem geI (a b : Nat) : decide ((a : Int) ≥ (b : Int)) = decide (b ≤ a) := by rw [decide_eq_decide]; omega
theorem leI (a b : Nat) : decide ((a : Int) ≤ (b : Int)) = decide (a ≤ b) := by rw [decide_eq_decide]; omega
theorem neB (a b : Nat) : ((a : Int) != (b : Int)) = !decide (a = b) := by
  by_cases h : a = b
  · subst h; simp
  · have : (a : Int) ≠ (b : Int) := by omega
    simp [h, this]
theorem eqB (a b : Nat) : ((a : Int) == (b : Int)) = decide (a = b) := by
  by_cases h : a = b
  · subst h; simp
  · have : (a : Int) ≠ (b : Int) := by omega
    simp [h, this]
theorem byteB (b c : UInt8) : decide (b.toNat = c.toNat) = (b == c) := by
  by_cases h : b = c
  · subst h; simp
  · have : b.toNat ≠ c.toNat := fun e => h (UInt8.toNat_inj.1 e)
    rw [decide_eq_false this]; symm; simpa using h
/- Parts. -/
/-- The class of a byte. -/
def clsN (b : Nat) : Int := bif lowB b then 1 else bif capB b then 2 else bif digB b then 3 else bif decide (b = 95) then 4 else 0
theorem class_eq (b : Nat) : F285 0 (b : Int) = some (clsN b) := by
  unfold F285 clsN
  rw [show (97 : Int) = ((97 : Nat) : Int) from rfl, show (122 : Int) = ((122 : Nat) : Int) from rfl, show (65 : Int) = ((65 : Nat) : Int) from rfl, show (90 : Int) = ((90 : Nat) : Int) from rfl, show (48 : Int) = ((48 : Nat) : Int) from rfl, show (57 : Int) = ((57 : Nat) : Int) from rfl, show (95 : Int) = ((95 : Nat) : Int) from rfl]
  simp only [geI, leI, eqB, lowB, capB, digB, Bool.decide_and]
  cases decide (97 ≤ b) <;> cases decide (b ≤ 122) <;> cases decide (65 ≤ b) <;> cases decide (b ≤ 90) <;> cases decide (48 ≤ b) <;> cases decide (b ≤ 57) <;> cases decide (b = 95) <;> rfl
theorem cls_high {b : Nat} (h : 128 ≤ b) : clsN b = 0 := by
  have h1 : lowB b = false := decide_eq_false (by omega)
  have h2 : capB b = false := decide_eq_false (by omega)
  have h3 : digB b = false := decide_eq_false (by omega)
  have h4 : decide (b = 95) = false := decide_eq_false (by omega)
  simp only [clsN, h1, h2, h3, h4, cond_false]
theorem cls0 (b : UInt8) : (clsN b.toNat == 0) = !alnB b := by
  unfold clsN alnB
  cases lowB b.toNat <;> cases capB b.toNat <;> cases digB b.toNat <;> cases decide (b.toNat = 95) <;> rfl
theorem cls12 (b : UInt8) : (bif (clsN b.toNat != 1) then (clsN b.toNat != 2) else false) = !letB b := by
  unfold clsN letB
  cases lowB b.toNat <;> cases capB b.toNat <;> cases digB b.toNat <;> cases decide (b.toNat = 95) <;> rfl
/-- Is this byte right at this place? -/
def okAt (i : Nat) (b : UInt8) : Bool := alnB b && (!decide (i = 0) || letB b)
def okFrom : Nat → List UInt8 → Bool
  | _, [] => true
  | i, b :: r => okAt i b && okFrom (i + 1) r
theorem okFrom_pos : ∀ (r : List UInt8) (i : Nat), okFrom (i + 1) r = r.all alnB := by
  intro r
  induction r with
  | nil => intro i; rfl
  | cons b r ih =>
    intro i
    rw [okFrom, ih, List.all_cons, okAt, decide_eq_false (by omega)]
    simp
theorem part_loop (s : List UInt8) : ∀ (m i : Nat), s.length - i ≤ m → i ≤ s.length → ∃ z, loopW (S202_3step 0) (s, (), s, (i : Int)) = some (bif okFrom i (s.drop i) then .inr (s, z) else .inl (false, z)) := by
  intro m
  induction m with
  | zero =>
    intro i hm hi
    have hlt : ¬ i < s.length := by omega
    rw [List.drop_eq_nil_of_le (by omega)]
    exact ⟨_, loopW_end (by simp only [S202_3step, S202_3, Int.toNat_natCast, hlt, decide_false, cond_false]; rfl)⟩
  | succ m ih =>
    intro i hm hi
    by_cases hlt : i < s.length
    · have e0 : ((i : Int) == (0 : Int)) = decide (i = 0) := eqB i 0
      rw [drop_cons hlt 0, okFrom]
      by_cases ha : byteAt s i < 128
      · have hd := decode_ascii s i ha
        have hc : F285 0 (byteAt s i : Int) = some (clsN (s.getD i 0).toNat) := class_eq _
        cases hok : okAt i (s.getD i 0) with
        | true =>
          obtain ⟨z, hz⟩ := ih (i + 1) (by omega) (by omega)
          refine ⟨z, ?_⟩
          rw [Bool.true_and, ← hz]
          refine loopW_go ?_
          unfold okAt at hok
          simp only [S202_3step, S202_3, Int.toNat_natCast, hlt, decide_true, cond_true, decode_eq, hd, hc, Option.bind_some, cls0, e0]
          cases h1 : alnB (s.getD i 0) with
          | false => rw [h1] at hok; cases hok
          | true =>
            rw [h1] at hok
            cases h2 : decide (i = 0) with
            | false => rfl
            | true =>
              rw [h2] at hok
              have h3 := cls12 (s.getD i 0)
              have h4 : letB (s.getD i 0) = true := by simpa using hok
              rw [h4] at h3
              simp only [Bool.not_true, cond_false, cond_true]
              rw [h3]
              rfl
        | false =>
          refine ⟨(s, ((i + 1 : Nat) : Int)), loopW_end ?_⟩
          unfold okAt at hok
          simp only [S202_3step, S202_3, Int.toNat_natCast, hlt, decide_true, cond_true, decode_eq, hd, hc, Option.bind_some, cls0, e0, Bool.false_and, cond_false]
          cases h1 : alnB (s.getD i 0) with
          | false => rfl
          | true =>
            rw [h1] at hok
            cases h2 : decide (i = 0) with
            | false => rw [h2] at hok; simp at hok
            | true =>
              rw [h2] at hok
              have h3 := cls12 (s.getD i 0)
              have h4 : letB (s.getD i 0) = false := by simpa using hok
              rw [h4] at h3
              simp only [Bool.not_true, cond_false, cond_true]
              rw [h3]
              rfl
      · have hh := decode_high s i (by omega)
        have hc := class_eq (decodeAt s i).1
        rw [cls_high hh] at hc
        have hok : okAt i (s.getD i 0) = false := by
          unfold okAt alnB lowB capB digB
          have : byteAt s i = (s.getD i 0).toNat := rfl
          rw [← this, decide_eq_false (by omega), decide_eq_false (by omega), decide_eq_false (by omega), decide_eq_false (by omega)]
          rfl
        refine ⟨(s, ((i + (decodeAt s i).2 : Nat) : Int)), loopW_end ?_⟩
        rw [hok]
        simp only [S202_3step, S202_3, Int.toNat_natCast, hlt, decide_true, cond_true, decode_eq, hc, Option.bind_some, Bool.false_and, cond_false]
        rfl
    · rw [List.drop_eq_nil_of_le (by omega)]
      exact ⟨_, loopW_end (by simp only [S202_3step, S202_3, Int.toNat_natCast, hlt, decide_false, cond_false]; rfl)⟩
theorem isPart_eq (s : List UInt8) : F202 0 s = some (partP s) := by
  obtain ⟨z, hz⟩ := part_loop s s.length 0 (by omega) (by omega)
  unfold F202
  rw [loopQ0, hz, List.drop_zero]
  cases s with
  | nil => rfl
  | cons c r =>
    rw [okFrom, okFrom_pos]
    have e1 : decide (((c :: r).length : Int) ≥ (1 : Int)) = true := decide_eq_true (by simp only [List.length_cons]; omega)
    have e2 : decide (((c :: r).length : Int) ≤ (40 : Int)) = decide (r.length + 1 ≤ 40) := leI _ 40
    have e3 : okAt 0 c = letB c := by
      unfold okAt
      cases h : letB c with
      | true => rw [let_aln h]; rfl
      | false => simp
    rw [e3, partP]
    cases letB c <;> cases r.all alnB <;> simp only [Bool.and_false, Bool.and_true, Bool.false_and, Bool.true_and, cond_true, cond_false, Option.bind_some, sumE_inl, sumE_inr, e1, e2]
theorem small_eq (b : Nat) : F341 0 (b : Int) = some (lowB b) := by
  unfold F341 lowB
  rw [show (97 : Int) = ((97 : Nat) : Int) from rfl, show (122 : Int) = ((122 : Nat) : Int) from rfl]
  simp only [geI, leI, Bool.decide_and]
  cases decide (97 ≤ b) <;> rfl
theorem capital_eq (b : Nat) : F342 0 (b : Int) = some (capB b) := by
  unfold F342 capB
  rw [show (65 : Int) = ((65 : Nat) : Int) from rfl, show (90 : Int) = ((90 : Nat) : Int) from rfl]
  simp only [geI, leI, Bool.decide_and]
  cases decide (65 ≤ b) <;> rfl
theorem refPart_loop (s : List UInt8) (hs : s.length ≤ 9223372036854770000) : ∀ k i, i + k = s.length → loopW (S295_5step 0) (s, (i : Int)) = some (bif allF (fun i => alnB (s.getD i 0)) i k then .inr () else .inl false) :=
  loopW_all (fun i => (s, (i : Int))) s.length (fun i => alnB (s.getD i 0)) (Sum.inl false : Bool ⊕ Unit) (Sum.inr ()) (fun i hi => by
    have h1 := small_eq (s.getD i 0).toNat
    have h2 := capital_eq (s.getD i 0).toNat
    have h3 : (((s.getD i 0).toNat : Int) != (95 : Int)) = !decide ((s.getD i 0).toNat = 95) := neB _ 95
    have h4 : decide (((s.getD i 0).toNat : Int) < (48 : Int)) = !decide (48 ≤ (s.getD i 0).toNat) := by
      rw [← decide_not, decide_eq_decide]; omega
    have h5 : decide (((s.getD i 0).toNat : Int) > (57 : Int)) = !decide ((s.getD i 0).toNat ≤ 57) := by
      rw [← decide_not, decide_eq_decide]; omega
    simp only [S295_5step, S295_5, lt_int, inRange_nat, hi, decide_true, Int.toNat_natCast, h1, h2, h3, h4, h5, Option.bind_some, wadd' (i := i) (by omega), cond_true]
    unfold alnB digB
    rw [Bool.decide_and]
    cases lowB (s.getD i 0).toNat <;> cases capB (s.getD i 0).toNat <;> cases decide ((s.getD i 0).toNat = 95) <;> cases decide (48 ≤ (s.getD i 0).toNat) <;> cases decide ((s.getD i 0).toNat ≤ 57) <;> rfl) (by
    simp only [S295_5step, S295_5, lt_int, Nat.lt_irrefl, decide_false, cond_false])
theorem refPart_eq (s : List UInt8) (hs : s.length ≤ 9223372036854770000) : F295 0 s = some (partP s) := by
  unfold F295
  cases s with
  | nil => rfl
  | cons c r =>
    have hl := refPart_loop (c :: r) hs r.length 1 (by simp [Nat.add_comm])
    rw [show ((1 : Nat) : Int) = (1 : Int) from rfl] at hl
    have ha : allF (fun i => alnB ((c :: r).getD i 0)) 1 r.length = r.all alnB := allF_list alnB 0 r [c]
    rw [ha] at hl
    have e0 : (((c :: r).length : Int) == (0 : Int)) = false := Eq.trans (eqB (c :: r).length 0) (by simp)
    have e1 : decide (((c :: r).length : Int) > (40 : Int)) = !decide (r.length + 1 ≤ 40) := by
      rw [← decide_not, decide_eq_decide]; simp only [List.length_cons]; omega
    have e2 : inRange (0 : Int) (c :: r).length = true := by rw [show (0 : Int) = ((0 : Nat) : Int) from rfl, inRange_nat]; simp
    have h1 := small_eq c.toNat
    have h2 := capital_eq c.toNat
    have e3 : ((((c :: r).getD (0 : Int).toNat 0).toNat : Nat) : Int) = (c.toNat : Int) := rfl
    rw [partP, letB]
    simp only [e0, e1, e2, e3, h1, h2, cond_false, loopQ0, hl]
    cases decide (r.length + 1 ≤ 40) <;> cases lowB c.toNat <;> cases capB c.toNat <;> cases r.all alnB <;> rfl
/- Full names. -/
theorem full_loop (s : List UInt8) (xs : List (List UInt8)) (hx : xs.length ≤ 9223372036854770000) : loopW (S140_3step 0) (s, xs.map PV.str, ((xs.map PV.str).length : Int), ((0 : Nat) : Int)) = some (bif xs.all partP then .inr s else .inl false) := by
  have h := loopW_all (step := S140_3step 0) (fun i => (s, xs.map PV.str, ((xs.map PV.str).length : Int), (i : Int))) (xs.map PV.str).length (fun i => partP ((xs.map PV.str).getD i .bad).asStr) (Sum.inl false : Bool ⊕ List UInt8) (Sum.inr s) (fun i hi => by
    have hi' : i < xs.length := by simpa using hi
    simp only [S140_3step, S140_3, lt_int, inRange_nat, hi, decide_true, cond_true, Int.toNat_natCast, isPart_eq, Option.bind_some, wadd' (i := i) (by omega)]
    cases partP ((xs.map PV.str).getD i .bad).asStr <;> rfl) (by
    simp only [S140_3step, S140_3, lt_int, Nat.lt_irrefl, decide_false, cond_false]) (xs.map PV.str).length 0 (by omega)
  rw [allF_of (fun x : PV => partP x.asStr), List.all_map] at h
  exact h
theorem splitP_len (c : UInt8) : ∀ s, (splitP c s).length ≤ s.length + 1 := by
  intro s
  induction s with
  | nil => simp [splitP]
  | cons b r ih =>
    simp only [splitP]
    cases (b == c)
    · simp only [cond_false]
      split
      · rename_i h; rw [h] at ih; simp at ih ⊢; omega
      · simp
    · simp; omega
theorem lsplit_eq (s : List UInt8) (hs : s.length ≤ 1048576) : Lsplit 0 s ([46] : List UInt8) = some ((splitP 46 s).map PV.str) := by
  unfold Lsplit
  have : Nat.blt s.length 4294967281 = true := by rw [Nat.blt_eq]; omega
  simp only [this, cond_true]
theorem isFull_eq (s : List UInt8) (hs : s.length ≤ 1048576) : F140 0 s = some (fullP s) := by
  have hl := splitP_len 46 s
  unfold F140 fullP
  have e : decide ((s.length : Int) ≤ (120 : Int)) = decide (s.length ≤ 120) := leI _ 120
  rw [lsplit_eq s hs, Option.bind_some, loopQ0, show (0 : Int) = ((0 : Nat) : Int) from rfl, full_loop s _ (by omega)]
  cases (splitP 46 s).all partP
  · simp [sumE]
  · simp [sumE, e]
theorem refFull_loop (s : List UInt8) (hs : s.length ≤ 1048576) : ∀ (m i : Nat) (part : List UInt8), s.length - i ≤ m → i ≤ s.length → part.length ≤ i →
    ∃ y, loopW (S219_6step 0) (s, part, (i : Int)) = some y ∧ sumE (fun b => some b) (fun p => some (partP p)) y = some (fullG part (s.drop i)) ∧ ∀ p, y = .inr p → p.length ≤ s.length := by
  intro m
  induction m with
  | zero =>
    intro i part hm hi hp
    have hlt : ¬ i < s.length := by omega
    rw [List.drop_eq_nil_of_le (by omega)]
    exact ⟨.inr part, loopW_end (by simp only [S219_6step, S219_6, declt, hlt, decide_false, cond_false]), rfl, fun p h => by cases h; omega⟩
  | succ m ih =>
    intro i part hm hi hp
    by_cases hlt : i < s.length
    · rw [drop_cons hlt 0, fullG]
      have hn : (((s.getD i 0).toNat : Int) != (46 : Int)) = !(s.getD i 0 == 46) := by
        exact (neB (s.getD i 0).toNat 46).trans (congrArg (!·) (byteB (s.getD i 0) 46))
      cases hb : (s.getD i 0 == 46) with
      | false =>
        obtain ⟨y, h1, h2, h3⟩ := ih (i + 1) (part ++ [s.getD i 0]) (by omega) (by omega) (by simp; omega)
        refine ⟨y, ?_, h2, h3⟩
        rw [← h1]
        refine loopW_go ?_
        have hsl : decide ((0 : Int) ≤ (i : Int) ∧ (i : Int) ≤ ((i + 1 : Nat) : Int) ∧ ((i + 1 : Nat) : Int) ≤ (s.length : Int)) = true := decide_eq_true (by omega)
        have htk : (s.take (i + 1)).drop i = [s.getD i 0] := by
          rw [List.drop_take, show i + 1 - i = 1 by omega, drop_cons hlt 0]; rfl
        have hst : decide (part.length + [s.getD i 0].length ≤ strMax) = true := decide_eq_true (by unfold strMax; simp; omega)
        rw [hb] at hn
        simp only [S219_6step, S219_6, declt, hlt, decide_true, cond_true, inRange_nat, Int.toNat_natCast, hn, Bool.not_false, wadd' (i := i) (by omega), hsl, htk, hst]
      | true =>
        rw [hb] at hn
        simp only [cond_true]
        cases hpp : partP part with
        | false =>
          refine ⟨.inl false, loopW_end ?_, rfl, fun p h => by cases h⟩
          simp only [S219_6step, S219_6, declt, hlt, decide_true, cond_true, inRange_nat, Int.toNat_natCast, hn, Bool.not_true, cond_false, refPart_eq part (by omega), hpp, Option.bind_some, Bool.not_false]
        | true =>
          obtain ⟨y, h1, h2, h3⟩ := ih (i + 1) [] (by omega) (by omega) (by simp)
          refine ⟨y, ?_, by rw [Bool.true_and]; exact h2, h3⟩
          rw [← h1]
          refine loopW_go ?_
          simp only [S219_6step, S219_6, declt, hlt, decide_true, cond_true, inRange_nat, Int.toNat_natCast, hn, Bool.not_true, cond_false, refPart_eq part (by omega), hpp, Option.bind_some, wadd' (i := i) (by omega)]
    · rw [List.drop_eq_nil_of_le (by omega)]
      exact ⟨.inr part, loopW_end (by simp only [S219_6step, S219_6, declt, hlt, decide_false, cond_false]), rfl, fun p h => by cases h; omega⟩
theorem refFull_eq (s : List UInt8) (hs : s.length ≤ 1048576) : F219 0 s = some (fullP s) := by
  obtain ⟨y, h1, h2, h3⟩ := refFull_loop s hs s.length 0 [] (by omega) (by omega) (by simp)
  rw [List.drop_zero, fullG_nil] at h2
  unfold F219 fullP
  have e : decide ((s.length : Int) > (120 : Int)) = !decide (s.length ≤ 120) := by rw [← decide_not, decide_eq_decide]; omega
  rw [loopQ0, show (0 : Int) = ((0 : Nat) : Int) from rfl, h1, e, Option.bind_some]
  cases decide (s.length ≤ 120) with
  | false => rfl
  | true =>
    rw [Bool.true_and, ← h2]
    cases y with
    | inl b => rfl
    | inr p =>
      simp only [Bool.not_true, cond_false, sumE_inr]
      rw [refPart_eq p (by have := h3 p rfl; omega)]; rfl
end Go.Ab
namespace Go.Ab
open Go
set_option maxRecDepth 100000
end Go.Ab
namespace Go.Ab
open Go
theorem bneI {a b : Int} (h : a ≠ b) : (a != b) = true := by simp [h]
theorem beqI {a b : Int} (h : a ≠ b) : (a == b) = false := by simp [h]
end Go.Ab
namespace Go.Ab
open Go
set_option maxRecDepth 100000
end Go.Ab
namespace Go.Ab
open Go
set_option maxRecDepth 100000
end Go.Ab
namespace Go.Ab
open Go
set_option maxRecDepth 100000
end Go.Ab
namespace Go.Ab
open Go
set_option maxRecDepth 100000
/- Words of kinds. -/
theorem typeBind_eq (s : List UInt8) (hs : s.length ≤ 1048576) : ((F141 0 s ([46] : List UInt8)).bind fun y1 => (F140 0 y1).bind fun y2 => some y2) = some (typeP s) := by
  have ht : F141 0 s ([46] : List UInt8) = some (match s with | [] => [] | c :: r => bif c == 46 then r else c :: r) := by
    unfold F141 F245 F297
    cases s with
    | nil => rfl
    | cons c r =>
      have e1 : decide (((c :: r).length : Int) ≥ (([46] : List UInt8).length : Int)) = true := decide_eq_true (by simp only [List.length_cons, List.length_nil]; omega)
      have e2 : decide ((0 : Int) ≤ (0 : Int) ∧ (0 : Int) ≤ (([46] : List UInt8).length : Int) ∧ (([46] : List UInt8).length : Int) ≤ ((c :: r).length : Int)) = true := decide_eq_true (by simp only [List.length_cons, List.length_nil]; omega)
      have e3 : decide ((0 : Int) ≤ (([46] : List UInt8).length : Int) ∧ (([46] : List UInt8).length : Int) ≤ ((c :: r).length : Int) ∧ ((c :: r).length : Int) ≤ ((c :: r).length : Int)) = true := decide_eq_true (by simp only [List.length_cons, List.length_nil]; omega)
      have e4 : (((c :: r).take (([46] : List UInt8).length : Int).toNat).drop (0 : Int).toNat == ([46] : List UInt8)) = (c == 46) := by
        show ([c] == ([46] : List UInt8)) = _
        simp
      have e5 : (((c :: r).take ((c :: r).length : Int).toNat).drop (([46] : List UInt8).length : Int).toNat) = r := by
        show ((c :: r).take (c :: r).length).drop 1 = r
        rw [List.take_length]; rfl
      simp only [e1, e2, e3, e4, e5, imp, cond_true, Option.bind_some]
      cases (c == 46) <;> rfl
  rw [ht, Option.bind_some]
  cases s with
  | nil => rw [isFull_eq _ (by simp)]; rfl
  | cons c r =>
    have hl : (bif c == 46 then r else c :: r).length ≤ 1048576 := by
      simp only [List.length_cons] at hs
      cases (c == 46)
      · simp only [cond_false, List.length_cons]; omega
      · simp only [cond_true]; omega
    simp only [isFull_eq _ hl, Option.bind_some, typeP]
    cases (c == 46) <;> rfl
end Go.Ab
namespace Go.Ab
open Go
set_option maxRecDepth 100000
end Go.Ab
namespace Go.Ab
open Go
set_option maxRecDepth 100000
end Go.Ab
namespace Go.Ab
open Go
set_option maxRecDepth 100000
/- Names. -/
theorem full_first {t : List UInt8} (h : fullP t = true) : ∃ c r, t = c :: r ∧ letB c = true := by
  unfold fullP at h
  simp only [Bool.and_eq_true] at h
  cases t with
  | nil => exact absurd h.2 (by simp [splitP, partP])
  | cons c r =>
    refine ⟨c, r, rfl, ?_⟩
    have h2 := h.2
    simp only [splitP] at h2
    cases hc : (c == 46) with
    | true => rw [hc] at h2; simp [partP] at h2
    | false =>
      rw [hc] at h2
      simp only [cond_false] at h2
      split at h2 <;> simp only [List.all_cons, Bool.and_eq_true] at h2 <;> (have h3 := h2.1; unfold partP at h3; simp only [Bool.and_eq_true] at h3; exact h3.1.2)
end Go.Ab
namespace Go.Ab
open Go
set_option maxRecDepth 100000
theorem bqI {c k : UInt8} {n : Int} (h : n = ((k.toNat : Nat) : Int)) : ((c.toNat : Int) == n) = (c == k) := by rw [h, eqB, byteB]
theorem in0 {α : Type} (c : α) (r : List α) : inRange (0 : Int) (c :: r).length = true := by
  rw [show (0 : Int) = ((0 : Nat) : Int) from rfl, inRange_nat]; simp
end Go.Ab
