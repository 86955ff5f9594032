/- Changes in order: the program's Less is the specification's. -/
import Derived.Test.YthokbeimbdnnoaaGreatDoorGenEo
import Derived.Test.YthokbeimbdnnoaaGreatDoorAbPlain
import Derived.Sort.Walk0
import Derived.Test.YthokbeimbdnnoaaGreatDoorAbBridgeE
set_option linter.unusedVariables false
set_option linter.unusedSimpArgs false
set_option linter.unnecessarySimpa false
namespace Go.Ab
open Go
set_option maxRecDepth 100000

/-- -1, 0, 1. -/
def cI (x y : Int) : Int := if x < y then -1 else if y < x then 1 else 0
def cB (x y : List UInt8) : Int := if x < y then -1 else if y < x then 1 else 0
def or2 (x y : Int) : Int := if x = 0 then y else x
def orL : List Int → Int
  | [] => 0
  | x :: r => or2 x (orL r)
def chK (a : PV) : Int := (a.fld 0).asInt
def chD (a : PV) : List UInt8 := (a.fld 1).asStr
def chN (a : PV) : Int := (a.fld 2).asInt
def chO (a : PV) : List UInt8 := (a.fld 3).asStr
def chW (a : PV) : List UInt8 := (a.fld 4).asStr
def grp (k : Int) : Int := if 1 ≤ k ∧ k ≤ 10 then 1 else if 11 ≤ k ∧ k ≤ 16 then 2 else 3
def mth (a : PV) : List UInt8 := if chK a = 19 then chO a else if chK a = 20 then chW a else if chK a = 21 ∨ chK a = 22 then (Lib.cut (chO a) [58, 32]).1 else []
def cmpC (a b : PV) : Int := orL [cI (grp (chK a)) (grp (chK b)), cB (chD a) (chD b), cI (chN a) (chN b), cB (mth a) (mth b), cI (chK a) (chK b), cB (chO a) (chO b), cB (chW a) (chW b)]

theorem cmpI_eq (x y : Int) : F124 0 x y = some (cI x y) := by
  have h1 : F189 0 x = some false := by simp [F189]
  have h2 : F189 0 y = some false := by simp [F189]
  simp only [F124, h1, h2, Option.bind_some, cond_false, cI]
  by_cases h : x < y
  · simp [h]
  · by_cases h' : y < x
    · simp [h, h']
    · simp [h, h']
theorem lt_ne {x y : List UInt8} (h : x < y) : x ≠ y := fun e => by subst e; exact absurd h (List.lt_irrefl x)
theorem triB (x y : List UInt8) : x < y ∨ x = y ∨ y < x := by
  by_cases h : x < y
  · exact Or.inl h
  · by_cases h' : y < x
    · exact Or.inr (Or.inr h')
    · exact Or.inr (Or.inl (List.le_antisymm (List.not_lt.1 h') (List.not_lt.1 h)))
theorem cmpS_eq (x y : List UInt8) : F126 0 x y = some (cB x y) := by
  have h1 : F190 0 x = some false := by simp [F190]
  have h2 : F190 0 y = some false := by simp [F190]
  simp only [F126, h1, h2, Option.bind_some, cond_false, cB, Go.Proofs.bytesLess_eq]
  by_cases h : x < y
  · simp [h]
  · by_cases h' : x = y
    · subst h'; simp [List.lt_irrefl]
    · have : y < x := by
        rcases triB x y with q | q | q
        · exact absurd q h
        · exact absurd q h'
        · exact q
      have hb : (x == y) = false := by simpa using h'
      simp [h, hb, this]
theorem group_eq (k : Int) : F125 0 k = some (grp k) := by
  simp only [F125, grp, ge_iff_le]
  by_cases h1 : 1 ≤ k <;> by_cases h2 : k ≤ 10 <;> by_cases h3 : 11 ≤ k <;> by_cases h4 : k ≤ 16 <;> simp [h1, h2, h3, h4]
theorem rgroup_eq (k : Int) : F66 0 k = some (grp k) := by
  simp only [F66, grp, ge_iff_le]
  by_cases h1 : 1 ≤ k <;> by_cases h2 : k ≤ 10 <;> by_cases h3 : 11 ≤ k <;> by_cases h4 : k ≤ 16 <;> simp [h1, h2, h3, h4]

theorem or_loop : ∀ (r pre : List PV), (pre ++ r).length ≤ 1048576 → ∃ z, loopW (S123_4step 0) ((0 : Int), pre ++ r, ((pre ++ r).length : Int), (pre.length : Int)) = some z ∧ (z = .inl (orL (r.map PV.asInt)) ∨ z = .inr (orL (r.map PV.asInt))) := by
  intro r
  induction r with
  | nil =>
    intro pre hl
    refine ⟨.inr 0, loopW_end ?_, Or.inr rfl⟩
    simp [S123_4step, S123_4]
  | cons x r ih =>
    intro pre hl
    have hlt : pre.length < (pre ++ x :: r).length := by simp
    have hd : decide ((pre.length : Int) < ((pre ++ x :: r).length : Int)) = true := decide_eq_true (by omega)
    have hg : (pre ++ x :: r).getD ((pre.length : Int)).toNat .bad = x := by simp
    by_cases hx : x.asInt = 0
    · obtain ⟨z, h1, h2⟩ := ih (pre ++ [x]) (by simpa using hl)
      refine ⟨z, ?_, ?_⟩
      · rw [loopW_go (x1 := ((0 : Int), pre ++ x :: r, ((pre ++ x :: r).length : Int), ((pre ++ [x]).length : Int)))]
        · simpa using h1
        · simp only [S123_4step, S123_4, hd, cond_true, inRange_nat, decide_eq_true hlt, hg, hx, bne_self_eq_false, cond_false]
          rw [waddB pre.length (by omega)]
          simp
      · have e : orL ((x :: r).map PV.asInt) = orL (r.map PV.asInt) := by simp [orL, or2, hx]
        rw [e]; exact h2
    · refine ⟨.inl x.asInt, loopW_end ?_, Or.inl ?_⟩
      · have hb : (x.asInt != 0) = true := by simpa using hx
        simp only [S123_4step, S123_4, hd, cond_true, inRange_nat, decide_eq_true hlt, hg, hb]
      · simp [orL, or2, hx]
theorem or_eq (l : List PV) (h : l.length ≤ 1048576) : F123 0 l = some (orL (l.map PV.asInt)) := by
  obtain ⟨z, h1, h2⟩ := or_loop l [] (by simpa using h)
  simp only [List.nil_append, List.length_nil, Int.ofNat_zero] at h1
  unfold F123
  show (loopW _ _).bind _ = _
  have h1 : loopW (S123_4step 0) ((0 : Int), l, (l.length : Int), (0 : Int)) = some z := h1
  rw [h1]
  rcases h2 with rfl | rfl <;> rfl

theorem method_eq (a : PV) (h : (chO a).length ≤ 1048576) : F127 0 a = some (mth a) := by
  have hc : Lcut 0 (chO a) [58, 32] = some (Lib.cut (chO a) [58, 32]) := by
    unfold Lcut; rw [decide_eq_true (by omega)]; rfl
  unfold chO at hc
  simp only [F127, mth, chK, chO, chW, hc, Option.bind_some]
  by_cases h1 : (a.fld 0).asInt = 19
  · simp [h1]
  · by_cases h2 : (a.fld 0).asInt = 20
    · simp [h2]
    · by_cases h3 : (a.fld 0).asInt = 21
      · simp [h3]
      · have b1 : ((a.fld 0).asInt == 19) = false := by simpa using h1
        have b2 : ((a.fld 0).asInt == 20) = false := by simpa using h2
        have b3 : ((a.fld 0).asInt == 21) = false := by simpa using h3
        by_cases h4 : (a.fld 0).asInt = 22
        · simp [h4]
        · have b4 : ((a.fld 0).asInt == 22) = false := by simpa using h4
          simp [b1, b2, b3, b4, h1, h2, h3, h4]

theorem of_loop (a : PV) (hl : (chO a).length ≤ 1048576) : ∀ (r pre : List UInt8), chO a = pre ++ r →
    loopW (S67_10step 0) ((), (pre.length : Int), a) = some (if 0 ≤ Lib.index r [58, 32] then .inl ((chO a).take (pre.length + (Lib.index r [58, 32]).toNat), a) else .inr ((), a)) := by
  intro r
  induction r with
  | nil =>
    intro pre h
    refine loopW_end ?_
    have e : (a.fld 3).asStr = pre := by simpa [chO] using h
    have hp : pre.length ≤ 1048576 := by rw [← e]; exact hl
    simp only [S67_10step, S67_10]
    rw [waddB pre.length hp, e, decide_eq_false (by omega)]
    simp [Lib.index]
  | cons b r ih =>
    intro pre h
    have e : (a.fld 3).asStr = pre ++ b :: r := h
    have hp : (pre ++ b :: r).length ≤ 1048576 := by rw [← e]; exact hl
    have hp1 : pre.length ≤ 1048576 := by simp at hp; omega
    cases r with
    | nil =>
      refine loopW_end ?_
      simp only [S67_10step, S67_10]
      rw [waddB pre.length hp1, e, decide_eq_false (by simp)]
      simp [Lib.index, List.isPrefixOf]
    | cons c r =>
      have w2 : IntKind.wrap .i64 ((pre.length : Int) + 2) = ((pre.length + 2 : Nat) : Int) := by
        rw [show (pre.length : Int) + 2 = ((pre.length + 2 : Nat) : Int) by omega]
        exact wrap64_nat (by omega)
      have hlen : (pre ++ b :: c :: r).length = pre.length + (r.length + 2) := by simp
      have ht : ((pre ++ b :: c :: r).take (pre.length + 2)).drop pre.length = [b, c] := by
        rw [List.take_length_add_append, List.drop_left]
        simp
      have hcut : (((pre ++ b :: c :: r).take ((pre.length + 2 : Nat) : Int).toNat).drop ((pre.length : Nat) : Int).toNat) = [b, c] := by
        rw [Int.toNat_natCast, Int.toNat_natCast]; exact ht
      by_cases hbc : [b, c] = [58, 32]
      · obtain ⟨rfl, rfl⟩ : b = 58 ∧ c = 32 := by simpa using hbc
        refine loopW_end ?_
        simp only [S67_10step, S67_10]
        rw [waddB pre.length hp1, w2, e, hlen, decide_eq_true (by omega), decide_eq_true (by omega), hcut, decide_eq_true (by omega)]
        have hi : Lib.index (58 :: 32 :: r) [58, 32] = 0 := by simp [Lib.index, List.isPrefixOf]
        rw [hi]
        simp [h]
      · have hb : ([b, c] == ([58, 32] : List UInt8)) = false := by simpa using hbc
        have hpre : List.isPrefixOf [58, 32] (b :: c :: r) = false := by
          cases hh : List.isPrefixOf [58, 32] (b :: c :: r) with
          | false => rfl
          | true =>
            exfalso
            apply hbc
            simp [List.isPrefixOf] at hh
            obtain ⟨q1, q2⟩ := hh
            rw [q1, q2]
        have hi : Lib.index (b :: c :: r) [58, 32] = if Lib.index (c :: r) [58, 32] == -1 then -1 else Lib.index (c :: r) [58, 32] + 1 := by
          conv => lhs; rw [Lib.index]
          rw [hpre]; simp
        rw [loopW_go (x1 := ((), ((pre ++ [b]).length : Int), a))]
        · rw [ih (pre ++ [b]) (by rw [h]; simp)]
          have hge := Lib.index_ge (c :: r) [58, 32]
          by_cases hm : Lib.index (c :: r) [58, 32] = -1
          · simp [hi, hm]
          · have hb' : (Lib.index (c :: r) [58, 32] == -1) = false := by simpa using hm
            have hi' : Lib.index (b :: c :: r) [58, 32] = Lib.index (c :: r) [58, 32] + 1 := by rw [hi, hb']; simp
            have g0 : 0 ≤ Lib.index (c :: r) [58, 32] := by omega
            rw [hi', if_pos g0, if_pos (by omega)]
            congr 4
            simp only [List.length_append, List.length_singleton]
            omega
        · simp only [S67_10step, S67_10]
          rw [waddB pre.length hp1, w2, e, hlen, decide_eq_true (by omega), decide_eq_true (by omega), hcut, hb]
          simp
theorem of_eq (a : PV) (hl : (chO a).length ≤ 1048576) : F67 0 a = some (mth a) := by
  have h := of_loop a hl (chO a) [] rfl
  simp only [List.length_nil, Nat.zero_add] at h
  have hq : loopQ 0 (S67_10step 0) ((), (0 : Int), a) = some (if 0 ≤ Lib.index (chO a) [58, 32] then .inl ((chO a).take (Lib.index (chO a) [58, 32]).toNat, a) else .inr ((), a)) := h
  simp only [F67, mth, hq, Option.bind_some]
  have fin : sumE (fun y21 : List UInt8 × PV => some y21.1) (fun y22 : Unit × PV => some ((y22.2.fld 3).asStr)) (if 0 ≤ Lib.index (chO a) [58, 32] then .inl ((chO a).take (Lib.index (chO a) [58, 32]).toNat, a) else .inr ((), a)) = some (Lib.cut (chO a) [58, 32]).1 := by
    unfold Lib.cut
    by_cases h0 : 0 ≤ Lib.index (chO a) [58, 32]
    · rw [if_pos h0, if_pos h0]; rfl
    · rw [if_neg h0, if_neg h0]; rfl
  rw [fin]
  simp only [chK, chO, chW]
  by_cases h1 : (a.fld 0).asInt = 19
  · simp [h1]
  · by_cases h2 : (a.fld 0).asInt = 20
    · simp [h2]
    · by_cases h3 : (a.fld 0).asInt = 21
      · simp [h3]
      · have b1 : ((a.fld 0).asInt == 19) = false := by simpa using h1
        have b2 : ((a.fld 0).asInt == 20) = false := by simpa using h2
        have b3 : ((a.fld 0).asInt == 21) = false := by simpa using h3
        by_cases h4 : (a.fld 0).asInt = 22
        · simp [h4]
        · have b4 : ((a.fld 0).asInt == 22) = false := by simpa using h4
          simp [b1, b2, b3, b4, h1, h2, h3, h4]

theorem compare_eq (a b : PV) (ha : (chO a).length ≤ 1048576) (hb : (chO b).length ≤ 1048576) : F65 0 a b = some (cmpC a b) := by
  simp only [F65, group_eq, cmpI_eq, cmpS_eq, method_eq a ha, method_eq b hb, Option.bind_some]
  rw [or_eq _ (by simp)]
  rfl

/- The laws of such an order. -/
/-- A comparison by sign. -/
structure Lin {α : Type} (c : α → α → Int) : Prop where
  sgn : ∀ x y, c x y = -1 ∨ c x y = 0 ∨ c x y = 1
  anti : ∀ x y, c y x = - c x y
  tr : ∀ x y z, c x y ≤ 0 → c y z ≤ 0 → c x z ≤ 0 ∧ (c x z = 0 → c x y = 0 ∧ c y z = 0)
theorem Lin.cI : Lin Ab.cI := by
  refine ⟨fun x y => ?_, fun x y => ?_, fun x y z h1 h2 => ?_⟩
  · unfold Ab.cI; split <;> (try split) <;> simp
  · unfold Ab.cI; split <;> split <;> (try split) <;> omega
  · unfold Ab.cI at *
    refine ⟨?_, fun h => ?_⟩
    · split at h1 <;> split at h2 <;> (try split at h1) <;> (try split at h2) <;> split <;> (try split) <;> omega
    · have e : x = z := by
        split at h
        · omega
        · split at h <;> omega
      have e1 : ¬ y < x := by
        intro q
        rw [if_neg (by omega), if_pos q] at h1
        omega
      have e2 : ¬ z < y := by
        intro q
        rw [if_neg (by omega), if_pos q] at h2
        omega
      exact ⟨by rw [if_neg (by omega), if_neg e1], by rw [if_neg (by omega), if_neg e2]⟩
theorem cB_le {x y : List UInt8} : cB x y ≤ 0 ↔ ¬ y < x := by
  unfold cB
  by_cases h : x < y
  · simp [h, List.lt_asymm h]
  · by_cases h' : y < x <;> simp [h, h']
theorem cB_zero {x y : List UInt8} : cB x y = 0 ↔ x = y := by
  unfold cB
  by_cases h : x < y
  · simp [h, lt_ne h]
  · by_cases h' : y < x
    · simp [h, h', (lt_ne h').symm]
    · rcases triB x y with q | q | q
      · exact absurd q h
      · subst q; simp [List.lt_irrefl]
      · exact absurd q h'
theorem Lin.cB : Lin Ab.cB := by
  refine ⟨fun x y => ?_, fun x y => ?_, fun x y z h1 h2 => ?_⟩
  · unfold Ab.cB; split <;> (try split) <;> simp
  · unfold Ab.cB
    by_cases h : x < y
    · simp [h, List.lt_asymm h]
    · by_cases h' : y < x <;> simp [h, h']
  · rw [cB_le] at h1 h2
    have a1 := List.not_lt.1 h1; have a2 := List.not_lt.1 h2
    refine ⟨cB_le.2 (List.not_lt.2 (List.le_trans a1 a2)), fun h => ?_⟩
    rw [cB_zero] at h
    subst h
    have := List.le_antisymm a1 a2
    subst this
    exact ⟨cB_zero.2 rfl, cB_zero.2 rfl⟩
theorem Lin.comap {α β : Type} {c : β → β → Int} (h : Lin c) (f : α → β) : Lin (fun x y => c (f x) (f y)) := ⟨fun x y => h.sgn _ _, fun x y => h.anti _ _, fun x y z => h.tr _ _ _⟩
theorem Lin.lex {α : Type} {c d : α → α → Int} (h : Lin c) (k : Lin d) : Lin (fun x y => or2 (c x y) (d x y)) := by
  refine ⟨fun x y => ?_, fun x y => ?_, fun x y z h1 h2 => ?_⟩
  · unfold or2; split
    · exact k.sgn x y
    · exact h.sgn x y
  · have := h.anti x y; have := k.anti x y
    unfold or2; split <;> split <;> omega
  · have s1 := h.sgn x y; have s2 := h.sgn y z; have s3 := h.sgn x z
    have q1 : c x y ≤ 0 := by unfold or2 at h1; split at h1 <;> omega
    have q2 : c y z ≤ 0 := by unfold or2 at h2; split at h2 <;> omega
    obtain ⟨t1, t2⟩ := h.tr x y z q1 q2
    unfold or2 at h1 h2 ⊢
    by_cases e : c x z = 0
    · obtain ⟨e1, e2⟩ := t2 e
      rw [if_pos e1] at h1 ⊢; rw [if_pos e2] at h2 ⊢; rw [if_pos e]
      exact k.tr x y z h1 h2
    · rw [if_neg e]
      exact ⟨t1, fun h => absurd h e⟩
theorem Lin.one {α : Type} : Lin (fun _ _ : α => (0 : Int)) := ⟨fun _ _ => Or.inr (Or.inl rfl), fun _ _ => rfl, fun _ _ _ _ _ => ⟨Int.le_refl _, fun _ => ⟨rfl, rfl⟩⟩⟩
theorem Lin.cmpC : Lin Ab.cmpC :=
  (Lin.cI.comap fun a => grp (chK a)).lex <| (Lin.cB.comap chD).lex <| (Lin.cI.comap chN).lex <| (Lin.cB.comap mth).lex <| (Lin.cI.comap chK).lex <| (Lin.cB.comap chO).lex <| (Lin.cB.comap chW).lex Lin.one
theorem cI_zero {x y : Int} : cI x y = 0 ↔ x = y := by
  unfold cI; split
  · simp; omega
  · split
    · simp; omega
    · simp; omega
/-- Do two changes read alike? -/
def chSame (a b : PV) : Bool := chK a == chK b && chD a == chD b && chN a == chN b && chO a == chO b && chW a == chW b
theorem cmpC_zero (a b : PV) : cmpC a b = 0 ↔ chSame a b = true := by
  have oz : ∀ x y : Int, or2 x y = 0 ↔ x = 0 ∧ y = 0 := by intro x y; unfold or2; split <;> omega
  simp only [cmpC, orL, oz, cI_zero, cB_zero, chSame, Bool.and_eq_true, beq_iff_eq]
  constructor
  · rintro ⟨_, h1, h2, _, h3, h4, h5, _⟩; exact ⟨⟨⟨⟨h3, h1⟩, h2⟩, h4⟩, h5⟩
  · rintro ⟨⟨⟨⟨h3, h1⟩, h2⟩, h4⟩, h5⟩
    exact ⟨by rw [h3], h1, h2, by unfold mth; rw [h3, h4, h5], h3, h4, h5, trivial⟩

/-- Less. -/
def ltC (a b : PV) : Bool := decide (cmpC a b < 0)
theorem less_eq (a b : PV) (ha : (chO a).length ≤ 1048576) (hb : (chO b).length ≤ 1048576) : F26 0 a b = some (ltC a b) := by
  simp only [F26, compare_eq a b ha hb, Option.bind_some]
  rfl
theorem or2_ne {x y : Int} (h : x ≠ 0) : or2 x y = x := by unfold or2; rw [if_neg h]
theorem or2_z {x y : Int} (h : x = 0) : or2 x y = y := by unfold or2; rw [if_pos h]
theorem cI_lt (x y : Int) : decide (cI x y < 0) = decide (x < y) := by unfold cI; by_cases h : x < y <;> by_cases h' : y < x <;> simp [h, h']
theorem cB_lt (x y : List UInt8) : decide (cB x y < 0) = Op.bytesLess x y := by rw [Go.Proofs.bytesLess_eq]; unfold cB; by_cases h : x < y <;> by_cases h' : y < x <;> simp [h, h']
theorem rless_eq (a b : PV) (ha : (chO a).length ≤ 1048576) (hb : (chO b).length ≤ 1048576) : F27 0 a b = some (ltC a b) := by
  simp only [F27, rgroup_eq, of_eq a ha, of_eq b hb, Option.bind_some]
  unfold ltC cmpC orL
  change (bif (grp (chK a) != grp (chK b)) then some (decide (grp (chK a) < grp (chK b))) else bif !(chD a == chD b) then some (Op.bytesLess (chD a) (chD b)) else bif (chN a != chN b) then some (decide (chN a < chN b)) else bif !(mth a == mth b) then some (Op.bytesLess (mth a) (mth b)) else bif (chK a != chK b) then some (decide (chK a < chK b)) else bif !(chO a == chO b) then some (Op.bytesLess (chO a) (chO b)) else some (Op.bytesLess (chW a) (chW b))) = _
  by_cases h1 : grp (chK a) = grp (chK b)
  · rw [or2_z (cI_zero.2 h1)]
    have e1 : (grp (chK a) != grp (chK b)) = false := by simp [h1]
    rw [e1, cond_false]
    unfold orL
    by_cases h2 : chD a = chD b
    · rw [or2_z (cB_zero.2 h2)]
      have e2 : (!(chD a == chD b)) = false := by simp [h2]
      rw [e2, cond_false]
      unfold orL
      by_cases h3 : chN a = chN b
      · rw [or2_z (cI_zero.2 h3)]
        have e3 : (chN a != chN b) = false := by simp [h3]
        rw [e3, cond_false]
        unfold orL
        by_cases h4 : mth a = mth b
        · rw [or2_z (cB_zero.2 h4)]
          have e4 : (!(mth a == mth b)) = false := by simp [h4]
          rw [e4, cond_false]
          unfold orL
          by_cases h5 : chK a = chK b
          · rw [or2_z (cI_zero.2 h5)]
            have e5 : (chK a != chK b) = false := by simp [h5]
            rw [e5, cond_false]
            unfold orL
            by_cases h6 : chO a = chO b
            · rw [or2_z (cB_zero.2 h6)]
              have e6 : (!(chO a == chO b)) = false := by simp [h6]
              rw [e6, cond_false, ← cB_lt]
              unfold orL
              by_cases h7 : chW a = chW b
              · rw [or2_z (cB_zero.2 h7), cB_zero.2 h7]
                simp [orL]
              · rw [or2_ne (fun h => h7 (cB_zero.1 h))]
            · rw [or2_ne (fun h => h6 (cB_zero.1 h)), cB_lt]
              have e6 : (!(chO a == chO b)) = true := by simp [h6]
              rw [e6, cond_true]
          · rw [or2_ne (fun h => h5 (cI_zero.1 h)), cI_lt]
            have e5 : (chK a != chK b) = true := by simp [h5]
            rw [e5, cond_true]
        · rw [or2_ne (fun h => h4 (cB_zero.1 h)), cB_lt]
          have e4 : (!(mth a == mth b)) = true := by simp [h4]
          rw [e4, cond_true]
      · rw [or2_ne (fun h => h3 (cI_zero.1 h)), cI_lt]
        have e3 : (chN a != chN b) = true := by simp [h3]
        rw [e3, cond_true]
    · rw [or2_ne (fun h => h2 (cB_zero.1 h)), cB_lt]
      have e2 : (!(chD a == chD b)) = true := by simp [h2]
      rw [e2, cond_true]
  · rw [or2_ne (fun h => h1 (cI_zero.1 h)), cI_lt]
    have e1 : (grp (chK a) != grp (chK b)) = true := by simp [h1]
    rw [e1, cond_true]

end Go.Ab
namespace Go.Ab
open Go
theorem bulk_parts (v : PV) : bulkPVs v.asList ≤ bulkPV v := by cases v <;> simp [PV.asList, bulkPVs, bulkPV]
theorem bulk_part (v : PV) (i : Nat) : bulkPV (v.fld i) ≤ bulkPV v := by
  unfold PV.fld
  cases v with
  | agg xs =>
    show bulkPV (xs.getD i .bad) ≤ bulkPVs xs + 1
    by_cases h : i < xs.length
    · have : xs.getD i .bad ∈ xs := by rw [getD_of_lt h]; exact List.getElem_mem h
      have := bulkPVs_mem this; omega
    · have : xs.getD i .bad = .bad := by simp [List.getD, List.getElem?_eq_none (Nat.le_of_not_lt h)]
      rw [this]; simp [bulkPV]
  | _ => simp [PV.parts, bulkPV]
theorem chO_small {v : PV} (hb : bulkPV v ≤ 1048576) : (chO v).length ≤ 1048576 := by
  have := bulk_part v 3; have := bulk_str (v.fld 3); unfold chO; omega
theorem same_chain (a b : PV) : (bif chK a == chK b then (bif chD a == chD b then (bif chN a == chN b then (bif chO a == chO b then (bif chW a == chW b then true else false) else false) else false) else false) else false) = chSame a b := by
  unfold chSame
  cases chK a == chK b <;> cases chD a == chD b <;> cases chN a == chN b <;> cases chO a == chO b <;> cases chW a == chW b <;> rfl
theorem orders_three (a b : PV) : (ltC a b = true ∧ ltC b a = false ∧ chSame a b = false) ∨ (ltC a b = false ∧ ltC b a = true ∧ chSame a b = false) ∨ (ltC a b = false ∧ ltC b a = false ∧ chSame a b = true) := by
  have h := Lin.cmpC.anti a b
  have hz := cmpC_zero a b
  unfold ltC
  rcases Lin.cmpC.sgn a b with e | e | e
  · left
    refine ⟨decide_eq_true (by omega), decide_eq_false (by omega), ?_⟩
    cases hs : chSame a b with
    | false => rfl
    | true => have := hz.2 hs; omega
  · right; right
    exact ⟨decide_eq_false (by omega), decide_eq_false (by omega), hz.1 e⟩
  · right; left
    refine ⟨decide_eq_false (by omega), decide_eq_true (by omega), ?_⟩
    cases hs : chSame a b with
    | false => rfl
    | true => have := hz.2 hs; omega
theorem ltC_trans {a b c : PV} (h1 : ltC a b = true) (h2 : ltC b c = true) : ltC a c = true := by
  unfold ltC at *
  have h1 := of_decide_eq_true h1; have h2 := of_decide_eq_true h2
  obtain ⟨q1, q2⟩ := Lin.cmpC.tr a b c (by omega) (by omega)
  refine decide_eq_true ?_
  rcases Int.lt_or_eq_of_le q1 with h | h
  · exact h
  · have := (q2 h).1; omega
theorem plain_orders' (a b c : PV) (ha : (chO a).length ≤ 1048576) (hb : (chO b).length ≤ 1048576) (hc : (chO c).length ≤ 1048576) : F8 0 a b c = some true := by
  unfold F8
  simp only [less_eq a b ha hb, rless_eq a b ha hb, less_eq b a hb ha, less_eq b c hb hc, less_eq a c ha hc, Option.bind_some]
  have hch := same_chain a b
  unfold chK chD chN chO chW at hch
  simp only [hch]
  have w1 : IntKind.wrap .i64 ((0 : Int) + 1) = 1 := by decide
  have hl : Lawake36 0 = some true := rfl
  have ht : ltC a b = true → ltC b c = true → ltC a c = true := ltC_trans
  simp only [w1, hl]
  rcases orders_three a b with ⟨e1, e2, e3⟩ | ⟨e1, e2, e3⟩ | ⟨e1, e2, e3⟩ <;> rw [e1, e2, e3]
  · cases hbc : ltC b c with
    | false => simp
    | true => rw [ht e1 hbc]; simp
  · simp
  · simp
theorem plain_orders {a b c : PV} (ha : bulkPV a ≤ 1048576) (hb : bulkPV b ≤ 1048576) (hc : bulkPV c ≤ 1048576) : F8 0 a b c = some true := plain_orders' a b c (chO_small ha) (chO_small hb) (chO_small hc)
end Go.Ab
