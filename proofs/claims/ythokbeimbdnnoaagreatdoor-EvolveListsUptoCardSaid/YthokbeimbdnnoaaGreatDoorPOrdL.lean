/- Changes in order: the program's Less is the specification's. -/
import Derived.Test.YthokbeimbdnnoaaGreatDoorGenEl
import Derived.Test.YthokbeimbdnnoaaGreatDoorAbPlain
import Derived.Sort.Walk0
set_option linter.unusedVariables false
set_option linter.unusedSimpArgs false
set_option linter.unnecessarySimpa false
namespace Go.Ab
open Go
set_option maxRecDepth 100000

/-- -1, 0, 1. -/
def cI (x y : Int) : Int := if x < y then -1 else if y < x then 1 else 0
def cB (x y : List UInt8) : Int := if x < y then -1 else if y < x then 1 else 0
def or2 (x y : Int) : Int := if x = 0 then y else x
def orL : List Int → Int
  | [] => 0
  | x :: r => or2 x (orL r)
def chK (a : PV) : Int := (a.fld 0).asInt
def chD (a : PV) : List UInt8 := (a.fld 1).asStr
def chN (a : PV) : Int := (a.fld 2).asInt
def chO (a : PV) : List UInt8 := (a.fld 3).asStr
def chW (a : PV) : List UInt8 := (a.fld 4).asStr
def grp (k : Int) : Int := if 1 ≤ k ∧ k ≤ 10 then 1 else if 11 ≤ k ∧ k ≤ 16 then 2 else 3
def mth (a : PV) : List UInt8 := if chK a = 19 then chO a else if chK a = 20 then chW a else if chK a = 21 ∨ chK a = 22 then (Lib.cut (chO a) [58, 32]).1 else []
def cmpC (a b : PV) : Int := orL [cI (grp (chK a)) (grp (chK b)), cB (chD a) (chD b), cI (chN a) (chN b), cB (mth a) (mth b), cI (chK a) (chK b), cB (chO a) (chO b), cB (chW a) (chW b)]

theorem cmpI_eq (x y : Int) : F124 0 x y = some (cI x y) := by
  have h1 : F189 0 x = some false := by simp [F189]
  have h2 : F189 0 y = some false := by simp [F189]
  simp only [F124, h1, h2, Option.bind_some, cond_false, cI]
  by_cases h : x < y
  · simp [h]
  · by_cases h' : y < x
    · simp [h, h']
    · simp [h, h']
theorem lt_ne {x y : List UInt8} (h : x < y) : x ≠ y := fun e => by subst e; exact absurd h (List.lt_irrefl x)
theorem triB (x y : List UInt8) : x < y ∨ x = y ∨ y < x := by
  by_cases h : x < y
  · exact Or.inl h
  · by_cases h' : y < x
    · exact Or.inr (Or.inr h')
    · exact Or.inr (Or.inl (List.le_antisymm (List.not_lt.1 h') (List.not_lt.1 h)))
theorem cmpS_eq (x y : List UInt8) : F126 0 x y = some (cB x y) := by
  have h1 : F190 0 x = some false := by simp [F190]
  have h2 : F190 0 y = some false := by simp [F190]
  simp only [F126, h1, h2, Option.bind_some, cond_false, cB, Go.Proofs.bytesLess_eq]
  by_cases h : x < y
  · simp [h]
  · by_cases h' : x = y
    · subst h'; simp [List.lt_irrefl]
    · have : y < x := by
        rcases triB x y with q | q | q
        · exact absurd q h
        · exact absurd q h'
        · exact q
      have hb : (x == y) = false := by simpa using h'
      simp [h, hb, this]
theorem group_eq (k : Int) : F125 0 k = some (grp k) := by
  simp only [F125, grp, ge_iff_le]
  by_cases h1 : 1 ≤ k <;> by_cases h2 : k ≤ 10 <;> by_cases h3 : 11 ≤ k <;> by_cases h4 : k ≤ 16 <;> simp [h1, h2, h3, h4]
theorem rgroup_eq (k : Int) : F66 0 k = some (grp k) := by
  simp only [F66, grp, ge_iff_le]
  by_cases h1 : 1 ≤ k <;> by_cases h2 : k ≤ 10 <;> by_cases h3 : 11 ≤ k <;> by_cases h4 : k ≤ 16 <;> simp [h1, h2, h3, h4]

theorem or_loop : ∀ (r pre : List PV), (pre ++ r).length ≤ 1048576 → ∃ z, loopW (S123_4step 0) ((0 : Int), pre ++ r, ((pre ++ r).length : Int), (pre.length : Int)) = some z ∧ (z = .inl (orL (r.map PV.asInt)) ∨ z = .inr (orL (r.map PV.asInt))) := by
  intro r
  induction r with
  | nil =>
    intro pre hl
    refine ⟨.inr 0, loopW_end ?_, Or.inr rfl⟩
    simp [S123_4step, S123_4]
  | cons x r ih =>
    intro pre hl
    have hlt : pre.length < (pre ++ x :: r).length := by simp
    have hd : decide ((pre.length : Int) < ((pre ++ x :: r).length : Int)) = true := decide_eq_true (by omega)
    have hg : (pre ++ x :: r).getD ((pre.length : Int)).toNat .bad = x := by simp
    by_cases hx : x.asInt = 0
    · obtain ⟨z, h1, h2⟩ := ih (pre ++ [x]) (by simpa using hl)
      refine ⟨z, ?_, ?_⟩
      · rw [loopW_go (x1 := ((0 : Int), pre ++ x :: r, ((pre ++ x :: r).length : Int), ((pre ++ [x]).length : Int)))]
        · simpa using h1
        · simp only [S123_4step, S123_4, hd, cond_true, inRange_nat, decide_eq_true hlt, hg, hx, bne_self_eq_false, cond_false]
          rw [waddB pre.length (by omega)]
          simp
      · have e : orL ((x :: r).map PV.asInt) = orL (r.map PV.asInt) := by simp [orL, or2, hx]
        rw [e]; exact h2
    · refine ⟨.inl x.asInt, loopW_end ?_, Or.inl ?_⟩
      · have hb : (x.asInt != 0) = true := by simpa using hx
        simp only [S123_4step, S123_4, hd, cond_true, inRange_nat, decide_eq_true hlt, hg, hb]
      · simp [orL, or2, hx]
theorem or_eq (l : List PV) (h : l.length ≤ 1048576) : F123 0 l = some (orL (l.map PV.asInt)) := by
  obtain ⟨z, h1, h2⟩ := or_loop l [] (by simpa using h)
  simp only [List.nil_append, List.length_nil, Int.ofNat_zero] at h1
  unfold F123
  show (loopW _ _).bind _ = _
  have h1 : loopW (S123_4step 0) ((0 : Int), l, (l.length : Int), (0 : Int)) = some z := h1
  rw [h1]
  rcases h2 with rfl | rfl <;> rfl

theorem method_eq (a : PV) (h : (chO a).length ≤ 1048576) : F127 0 a = some (mth a) := by
  have hc : Lcut 0 (chO a) [58, 32] = some (Lib.cut (chO a) [58, 32]) := by
    unfold Lcut; rw [decide_eq_true (by omega)]; rfl
  unfold chO at hc
  simp only [F127, mth, chK, chO, chW, hc, Option.bind_some]
  by_cases h1 : (a.fld 0).asInt = 19
  · simp [h1]
  · by_cases h2 : (a.fld 0).asInt = 20
    · simp [h2]
    · by_cases h3 : (a.fld 0).asInt = 21
      · simp [h3]
      · have b1 : ((a.fld 0).asInt == 19) = false := by simpa using h1
        have b2 : ((a.fld 0).asInt == 20) = false := by simpa using h2
        have b3 : ((a.fld 0).asInt == 21) = false := by simpa using h3
        by_cases h4 : (a.fld 0).asInt = 22
        · simp [h4]
        · have b4 : ((a.fld 0).asInt == 22) = false := by simpa using h4
          simp [b1, b2, b3, b4, h1, h2, h3, h4]

theorem of_loop (a : PV) (hl : (chO a).length ≤ 1048576) : ∀ (r pre : List UInt8), chO a = pre ++ r →
    loopW (S67_10step 0) ((), (pre.length : Int), a) = some (if 0 ≤ Lib.index r [58, 32] then .inl ((chO a).take (pre.length + (Lib.index r [58, 32]).toNat), a) else .inr ((), a)) := by
  intro r
  induction r with
  | nil =>
    intro pre h
    refine loopW_end ?_
    have e : (a.fld 3).asStr = pre := by simpa [chO] using h
    have hp : pre.length ≤ 1048576 := by rw [← e]; exact hl
    simp only [S67_10step, S67_10]
    rw [waddB pre.length hp, e, decide_eq_false (by omega)]
    simp [Lib.index]
  | cons b r ih =>
    intro pre h
    have e : (a.fld 3).asStr = pre ++ b :: r := h
    have hp : (pre ++ b :: r).length ≤ 1048576 := by rw [← e]; exact hl
    have hp1 : pre.length ≤ 1048576 := by simp at hp; omega
    cases r with
    | nil =>
      refine loopW_end ?_
      simp only [S67_10step, S67_10]
      rw [waddB pre.length hp1, e, decide_eq_false (by simp)]
      simp [Lib.index, List.isPrefixOf]
    | cons c r =>
      have w2 : IntKind.wrap .i64 ((pre.length : Int) + 2) = ((pre.length + 2 : Nat) : Int) := by
        rw [show (pre.length : Int) + 2 = ((pre.length + 2 : Nat) : Int) by omega]
        exact wrap64_nat (by omega)
      have hlen : (pre ++ b :: c :: r).length = pre.length + (r.length + 2) := by simp
      have ht : ((pre ++ b :: c :: r).take (pre.length + 2)).drop pre.length = [b, c] := by
        rw [List.take_length_add_append, List.drop_left]
        simp
      have hcut : (((pre ++ b :: c :: r).take ((pre.length + 2 : Nat) : Int).toNat).drop ((pre.length : Nat) : Int).toNat) = [b, c] := by
        rw [Int.toNat_natCast, Int.toNat_natCast]; exact ht
      by_cases hbc : [b, c] = [58, 32]
      · obtain ⟨rfl, rfl⟩ : b = 58 ∧ c = 32 := by simpa using hbc
        refine loopW_end ?_
        simp only [S67_10step, S67_10]
        rw [waddB pre.length hp1, w2, e, hlen, decide_eq_true (by omega), decide_eq_true (by omega), hcut, decide_eq_true (by omega)]
        have hi : Lib.index (58 :: 32 :: r) [58, 32] = 0 := by simp [Lib.index, List.isPrefixOf]
        rw [hi]
        simp [h]
      · have hb : ([b, c] == ([58, 32] : List UInt8)) = false := by simpa using hbc
        have hpre : List.isPrefixOf [58, 32] (b :: c :: r) = false := by
          cases hh : List.isPrefixOf [58, 32] (b :: c :: r) with
          | false => rfl
          | true =>
            exfalso
            apply hbc
            simp [List.isPrefixOf] at hh
            obtain ⟨q1, q2⟩ := hh
            rw [q1, q2]
        have hi : Lib.index (b :: c :: r) [58, 32] = if Lib.index (c :: r) [58, 32] == -1 then -1 else Lib.index (c :: r) [58, 32] + 1 := by
          conv => lhs; rw [Lib.index]
          rw [hpre]; simp
        rw [loopW_go (x1 := ((), ((pre ++ [b]).length : Int), a))]
        · rw [ih (pre ++ [b]) (by rw [h]; simp)]
          have hge := Lib.index_ge (c :: r) [58, 32]
          by_cases hm : Lib.index (c :: r) [58, 32] = -1
          · simp [hi, hm]
          · have hb' : (Lib.index (c :: r) [58, 32] == -1) = false := by simpa using hm
            have hi' : Lib.index (b :: c :: r) [58, 32] = Lib.index (c :: r) [58, 32] + 1 := by rw [hi, hb']; simp
            have g0 : 0 ≤ Lib.index (c :: r) [58, 32] := by omega
            rw [hi', if_pos g0, if_pos (by omega)]
            congr 4
            simp only [List.length_append, List.length_singleton]
            omega
        · simp only [S67_10step, S67_10]
          rw [waddB pre.length hp1, w2, e, hlen, decide_eq_true (by omega), decide_eq_true (by omega), hcut, hb]
          simp
theorem of_eq (a : PV) (hl : (chO a).length ≤ 1048576) : F67 0 a = some (mth a) := by
  have h := of_loop a hl (chO a) [] rfl
  simp only [List.length_nil, Nat.zero_add] at h
  have hq : loopQ 0 (S67_10step 0) ((), (0 : Int), a) = some (if 0 ≤ Lib.index (chO a) [58, 32] then .inl ((chO a).take (Lib.index (chO a) [58, 32]).toNat, a) else .inr ((), a)) := h
  simp only [F67, mth, hq, Option.bind_some]
  have fin : sumE (fun y21 : List UInt8 × PV => some y21.1) (fun y22 : Unit × PV => some ((y22.2.fld 3).asStr)) (if 0 ≤ Lib.index (chO a) [58, 32] then .inl ((chO a).take (Lib.index (chO a) [58, 32]).toNat, a) else .inr ((), a)) = some (Lib.cut (chO a) [58, 32]).1 := by
    unfold Lib.cut
    by_cases h0 : 0 ≤ Lib.index (chO a) [58, 32]
    · rw [if_pos h0, if_pos h0]; rfl
    · rw [if_neg h0, if_neg h0]; rfl
  rw [fin]
  simp only [chK, chO, chW]
  by_cases h1 : (a.fld 0).asInt = 19
  · simp [h1]
  · by_cases h2 : (a.fld 0).asInt = 20
    · simp [h2]
    · by_cases h3 : (a.fld 0).asInt = 21
      · simp [h3]
      · have b1 : ((a.fld 0).asInt == 19) = false := by simpa using h1
        have b2 : ((a.fld 0).asInt == 20) = false := by simpa using h2
        have b3 : ((a.fld 0).asInt == 21) = false := by simpa using h3
        by_cases h4 : (a.fld 0).asInt = 22
        · simp [h4]
        · have b4 : ((a.fld 0).asInt == 22) = false := by simpa using h4
          simp [b1, b2, b3, b4, h1, h2, h3, h4]

theorem compare_eq (a b : PV) (ha : (chO a).length ≤ 1048576) (hb : (chO b).length ≤ 1048576) : F65 0 a b = some (cmpC a b) := by
  simp only [F65, group_eq, cmpI_eq, cmpS_eq, method_eq a ha, method_eq b hb, Option.bind_some]
  rw [or_eq _ (by simp)]
  rfl

/- The laws of such an order. -/
/-- A comparison by sign. -/
structure Lin {α : Type} (c : α → α → Int) : Prop where
  sgn : ∀ x y, c x y = -1 ∨ c x y = 0 ∨ c x y = 1
  anti : ∀ x y, c y x = - c x y
  tr : ∀ x y z, c x y ≤ 0 → c y z ≤ 0 → c x z ≤ 0 ∧ (c x z = 0 → c x y = 0 ∧ c y z = 0)
theorem Lin.cI : Lin Ab.cI := by
  refine ⟨fun x y => ?_, fun x y => ?_, fun x y z h1 h2 => ?_⟩
  · unfold Ab.cI; split <;> (try split) <;> simp
  · unfold Ab.cI; split <;> split <;> (try split) <;> omega
  · unfold Ab.cI at *
    refine ⟨?_, fun h => ?_⟩
    · split at h1 <;> split at h2 <;> (try split at h1) <;> (try split at h2) <;> split <;> (try split) <;> omega
    · have e : x = z := by
        split at h
        · omega
        · split at h <;> omega
      have e1 : ¬ y < x := by
        intro q
        rw [if_neg (by omega), if_pos q] at h1
        omega
      have e2 : ¬ z < y := by
        intro q
        rw [if_neg (by omega), if_pos q] at h2
        omega
      exact ⟨by rw [if_neg (by omega), if_neg e1], by rw [if_neg (by omega), if_neg e2]⟩
theorem cB_le {x y : List UInt8} : cB x y ≤ 0 ↔ ¬ y < x := by
  unfold cB
  by_cases h : x < y
  · simp [h, List.lt_asymm h]
  · by_cases h' : y < x <;> simp [h, h']
theorem cB_zero {x y : List UInt8} : cB x y = 0 ↔ x = y := by
  unfold cB
  by_cases h : x < y
  · simp [h, lt_ne h]
  · by_cases h' : y < x
    · simp [h, h', (lt_ne h').symm]
    · rcases triB x y with q | q | q
      · exact absurd q h
      · subst q; simp [List.lt_irrefl]
      · exact absurd q h'
theorem Lin.cB : Lin Ab.cB := by
  refine ⟨fun x y => ?_, fun x y => ?_, fun x y z h1 h2 => ?_⟩
  · unfold Ab.cB; split <;> (try split) <;> simp
  · unfold Ab.cB
    by_cases h : x < y
    · simp [h, List.lt_asymm h]
    · by_cases h' : y < x <;> simp [h, h']
  · rw [cB_le] at h1 h2
    have a1 := List.not_lt.1 h1; have a2 := List.not_lt.1 h2
    refine ⟨cB_le.2 (List.not_lt.2 (List.le_trans a1 a2)), fun h => ?_⟩
    rw [cB_zero] at h
    subst h
    have := List.le_antisymm a1 a2
    subst this
    exact ⟨cB_zero.2 rfl, cB_zero.2 rfl⟩
theorem Lin.comap {α β : Type} {c : β → β → Int} (h : Lin c) (f : α → β) : Lin (fun x y => c (f x) (f y)) := ⟨fun x y => h.sgn _ _, fun x y => h.anti _ _, fun x y z => h.tr _ _ _⟩
theorem Lin.lex {α : Type} {c d : α → α → Int} (h : Lin c) (k : Lin d) : Lin (fun x y => or2 (c x y) (d x y)) := by
  refine ⟨fun x y => ?_, fun x y => ?_, fun x y z h1 h2 => ?_⟩
  · unfold or2; split
    · exact k.sgn x y
    · exact h.sgn x y
  · have := h.anti x y; have := k.anti x y
    unfold or2; split <;> split <;> omega
  · have s1 := h.sgn x y; have s2 := h.sgn y z; have s3 := h.sgn x z
    have q1 : c x y ≤ 0 := by unfold or2 at h1; split at h1 <;> omega
    have q2 : c y z ≤ 0 := by unfold or2 at h2; split at h2 <;> omega
    obtain ⟨t1, t2⟩ := h.tr x y z q1 q2
    unfold or2 at h1 h2 ⊢
    by_cases e : c x z = 0
    · obtain ⟨e1, e2⟩ := t2 e
      rw [if_pos e1] at h1 ⊢; rw [if_pos e2] at h2 ⊢; rw [if_pos e]
      exact k.tr x y z h1 h2
    · rw [if_neg e]
      exact ⟨t1, fun h => absurd h e⟩
theorem Lin.one {α : Type} : Lin (fun _ _ : α => (0 : Int)) := ⟨fun _ _ => Or.inr (Or.inl rfl), fun _ _ => rfl, fun _ _ _ _ _ => ⟨Int.le_refl _, fun _ => ⟨rfl, rfl⟩⟩⟩
theorem Lin.cmpC : Lin Ab.cmpC :=
  (Lin.cI.comap fun a => grp (chK a)).lex <| (Lin.cB.comap chD).lex <| (Lin.cI.comap chN).lex <| (Lin.cB.comap mth).lex <| (Lin.cI.comap chK).lex <| (Lin.cB.comap chO).lex <| (Lin.cB.comap chW).lex Lin.one
theorem cI_zero {x y : Int} : cI x y = 0 ↔ x = y := by
  unfold cI; split
  · simp; omega
  · split
    · simp; omega
    · simp; omega
/-- Do two changes read alike? -/
def chSame (a b : PV) : Bool := chK a == chK b && chD a == chD b && chN a == chN b && chO a == chO b && chW a == chW b
theorem cmpC_zero (a b : PV) : cmpC a b = 0 ↔ chSame a b = true := by
  have oz : ∀ x y : Int, or2 x y = 0 ↔ x = 0 ∧ y = 0 := by intro x y; unfold or2; split <;> omega
  simp only [cmpC, orL, oz, cI_zero, cB_zero, chSame, Bool.and_eq_true, beq_iff_eq]
  constructor
  · rintro ⟨_, h1, h2, _, h3, h4, h5, _⟩; exact ⟨⟨⟨⟨h3, h1⟩, h2⟩, h4⟩, h5⟩
  · rintro ⟨⟨⟨⟨h3, h1⟩, h2⟩, h4⟩, h5⟩
    exact ⟨by rw [h3], h1, h2, by unfold mth; rw [h3, h4, h5], h3, h4, h5, trivial⟩

/-- Less. -/
def ltC (a b : PV) : Bool := decide (cmpC a b < 0)
theorem or2_ne {x y : Int} (h : x ≠ 0) : or2 x y = x := by unfold or2; rw [if_neg h]
theorem or2_z {x y : Int} (h : x = 0) : or2 x y = y := by unfold or2; rw [if_pos h]
theorem cI_lt (x y : Int) : decide (cI x y < 0) = decide (x < y) := by unfold cI; by_cases h : x < y <;> by_cases h' : y < x <;> simp [h, h']
theorem cB_lt (x y : List UInt8) : decide (cB x y < 0) = Op.bytesLess x y := by rw [Go.Proofs.bytesLess_eq]; unfold cB; by_cases h : x < y <;> by_cases h' : y < x <;> simp [h, h']
theorem rless_eq (a b : PV) (ha : (chO a).length ≤ 1048576) (hb : (chO b).length ≤ 1048576) : F27 0 a b = some (ltC a b) := by
  simp only [F27, rgroup_eq, of_eq a ha, of_eq b hb, Option.bind_some]
  unfold ltC cmpC orL
  change (bif (grp (chK a) != grp (chK b)) then some (decide (grp (chK a) < grp (chK b))) else bif !(chD a == chD b) then some (Op.bytesLess (chD a) (chD b)) else bif (chN a != chN b) then some (decide (chN a < chN b)) else bif !(mth a == mth b) then some (Op.bytesLess (mth a) (mth b)) else bif (chK a != chK b) then some (decide (chK a < chK b)) else bif !(chO a == chO b) then some (Op.bytesLess (chO a) (chO b)) else some (Op.bytesLess (chW a) (chW b))) = _
  by_cases h1 : grp (chK a) = grp (chK b)
  · rw [or2_z (cI_zero.2 h1)]
    have e1 : (grp (chK a) != grp (chK b)) = false := by simp [h1]
    rw [e1, cond_false]
    unfold orL
    by_cases h2 : chD a = chD b
    · rw [or2_z (cB_zero.2 h2)]
      have e2 : (!(chD a == chD b)) = false := by simp [h2]
      rw [e2, cond_false]
      unfold orL
      by_cases h3 : chN a = chN b
      · rw [or2_z (cI_zero.2 h3)]
        have e3 : (chN a != chN b) = false := by simp [h3]
        rw [e3, cond_false]
        unfold orL
        by_cases h4 : mth a = mth b
        · rw [or2_z (cB_zero.2 h4)]
          have e4 : (!(mth a == mth b)) = false := by simp [h4]
          rw [e4, cond_false]
          unfold orL
          by_cases h5 : chK a = chK b
          · rw [or2_z (cI_zero.2 h5)]
            have e5 : (chK a != chK b) = false := by simp [h5]
            rw [e5, cond_false]
            unfold orL
            by_cases h6 : chO a = chO b
            · rw [or2_z (cB_zero.2 h6)]
              have e6 : (!(chO a == chO b)) = false := by simp [h6]
              rw [e6, cond_false, ← cB_lt]
              unfold orL
              by_cases h7 : chW a = chW b
              · rw [or2_z (cB_zero.2 h7), cB_zero.2 h7]
                simp [orL]
              · rw [or2_ne (fun h => h7 (cB_zero.1 h))]
            · rw [or2_ne (fun h => h6 (cB_zero.1 h)), cB_lt]
              have e6 : (!(chO a == chO b)) = true := by simp [h6]
              rw [e6, cond_true]
          · rw [or2_ne (fun h => h5 (cI_zero.1 h)), cI_lt]
            have e5 : (chK a != chK b) = true := by simp [h5]
            rw [e5, cond_true]
        · rw [or2_ne (fun h => h4 (cB_zero.1 h)), cB_lt]
          have e4 : (!(mth a == mth b)) = true := by simp [h4]
          rw [e4, cond_true]
      · rw [or2_ne (fun h => h3 (cI_zero.1 h)), cI_lt]
        have e3 : (chN a != chN b) = true := by simp [h3]
        rw [e3, cond_true]
    · rw [or2_ne (fun h => h2 (cB_zero.1 h)), cB_lt]
      have e2 : (!(chD a == chD b)) = true := by simp [h2]
      rw [e2, cond_true]
  · rw [or2_ne (fun h => h1 (cI_zero.1 h)), cI_lt]
    have e1 : (grp (chK a) != grp (chK b)) = true := by simp [h1]
    rw [e1, cond_true]

end Go.Ab
namespace Go.Ab
open Go
set_option maxRecDepth 100000

theorem getD_mid {U V : List PV} {x d : PV} {i : Nat} (h : i = U.length) : (U ++ x :: V).getD i d = x := by subst h; simp [List.getD]
theorem set_mid {U V : List PV} {x y : PV} {i : Nat} (h : i = U.length) : (U ++ x :: V).set i y = U ++ y :: V := by subst h; simp
/-- Two places change what they hold. -/
def swp (xs : List PV) (i j : Nat) : List PV := (xs.set j (xs.getD i .bad)).set i (xs.getD j .bad)
theorem swp_two {U V W : List PV} {x y : PV} {i j : Nat} (hi : i = U.length) (hj : j = U.length + 1 + V.length) : swp (U ++ x :: (V ++ y :: W)) i j = U ++ y :: (V ++ x :: W) := by
  have e : ∀ z : PV, U ++ x :: (V ++ z :: W) = (U ++ x :: V) ++ z :: W := fun z => by simp
  have hl : j = (U ++ x :: V).length := by simp <;> omega
  unfold swp
  rw [getD_mid hi, e y, getD_mid hl, set_mid hl, ← e x, set_mid hi]
theorem swp_two' {U V W : List PV} {x y : PV} {i j : Nat} (hi : i = U.length) (hj : j = U.length + 1 + V.length) : swp (U ++ x :: (V ++ y :: W)) j i = U ++ y :: (V ++ x :: W) := by
  have e : ∀ w z : PV, U ++ w :: (V ++ z :: W) = (U ++ w :: V) ++ z :: W := fun w z => by simp
  have hl : ∀ w : PV, j = (U ++ w :: V).length := fun w => by simp <;> omega
  unfold swp
  rw [getD_mid hi, e x y, getD_mid (hl x), ← e x y, set_mid hi, e y y, set_mid (hl y), ← e y x]
theorem swp_len (xs : List PV) (i j : Nat) : (swp xs i j).length = xs.length := by simp [swp]
abbrev leC (x y : PV) : Prop := cmpC x y ≤ 0
abbrev Srt (xs : List PV) : Prop := xs.Pairwise leC
def OkL (xs : List PV) : Prop := xs.length ≤ 1048576 ∧ ∀ x, x ∈ xs → (chO x).length ≤ 1048576
theorem OkL.perm {xs ys : List PV} (h : OkL xs) (p : ys.Perm xs) : OkL ys := ⟨by rw [p.length_eq]; exact h.1, fun x hx => h.2 x (p.mem_iff.1 hx)⟩
theorem leC_trans {x y z : PV} (h1 : leC x y) (h2 : leC y z) : leC x z := (Lin.cmpC.tr x y z h1 h2).1
theorem leC_of_not {x y : PV} (h : ¬ cmpC x y < 0) : leC y x := by have := Lin.cmpC.anti x y; unfold leC; omega
theorem OkL.get {xs : List PV} (h : OkL xs) {i : Nat} (hi : i < xs.length) : (chO (xs.getD i .bad)).length ≤ 1048576 := by
  rw [getD_of_lt hi]; exact h.2 _ (List.getElem_mem hi)
theorem cmp_at {xs : List PV} (h : OkL xs) {i j : Nat} (hi : i < xs.length) (hj : j < xs.length) : F65 0 (xs.getD i .bad) (xs.getD j .bad) = some (cmpC (xs.getD i .bad) (xs.getD j .bad)) := compare_eq _ _ (h.get hi) (h.get hj)
theorem imp_false (c : Bool) : imp false c = true := by cases c <;> rfl
theorem imp_true (c : Bool) : imp true c = c := by cases c <;> rfl
theorem wsub1 {j : Nat} (h : 1 ≤ j) (h2 : j ≤ 9223372036854775807) : IntKind.wrap .i64 ((j : Int) - 1) = ((j - 1 : Nat) : Int) := by
  rw [show (j : Int) - 1 = ((j - 1 : Nat) : Int) by omega]; exact wrap64_nat (by omega)

theorem ins_step {a b i j : Nat} {xs : List PV} (ok : OkL xs) (hj : j < xs.length) : S216_5step 0 ((), (a : Int), (b : Int), (), (i : Int), (j : Int), xs) =
    some (if a < j ∧ cmpC (xs.getD j .bad) (xs.getD (j - 1) .bad) < 0 then .inl ((), (a : Int), (b : Int), (), (i : Int), ((j - 1 : Nat) : Int), swp xs (j - 1) j) else .inr ((), (a : Int), (b : Int), (), (i : Int), xs)) := by
  have hl := ok.1
  simp only [S216_5step, S216_5]
  by_cases haj : a < j
  · have hd : decide ((j : Int) > (a : Int)) = true := decide_eq_true (by omega)
    have hj1 : j - 1 < xs.length := by omega
    simp only [hd, wsub1 (show 1 ≤ j by omega) (by omega), inRange_nat, Int.toNat_natCast, decide_eq_true hj, decide_eq_true hj1, imp_true, cond_true, cmp_at ok hj hj1, Option.bind_some, List.length_set, haj, true_and]
    by_cases hc : cmpC (xs.getD j .bad) (xs.getD (j - 1) .bad) < 0
    · rw [if_pos hc, decide_eq_true hc]; rfl
    · rw [if_neg hc, decide_eq_false hc]; rfl
  · have hd : decide ((j : Int) > (a : Int)) = false := decide_eq_false (by omega)
    rw [if_neg (fun h => haj h.1)]
    simp only [hd, imp_false, cond_true, cond_false, Option.bind_some]

theorem ins_inner {a b i : Nat} {U : List PV} {x : PV} (ha : a = U.length) : ∀ (R B : List PV), Srt R.reverse → OkL (U ++ (R.reverse ++ x :: B)) →
    ∃ A1 A2, R.reverse = A1 ++ A2 ∧ (∀ y, y ∈ A1 → leC y x) ∧ (∀ y, y ∈ A2 → leC x y) ∧
      loopW (S216_5step 0) ((), (a : Int), (b : Int), (), (i : Int), ((U.length + R.length : Nat) : Int), U ++ (R.reverse ++ x :: B)) = some ((), (a : Int), (b : Int), (), (i : Int), U ++ (A1 ++ x :: (A2 ++ B))) := by
  intro R
  induction R with
  | nil =>
    intro B _ ok
    refine ⟨[], [], rfl, by simp, by simp, loopW_end ?_⟩
    rw [ins_step ok (by simp), if_neg (fun h => by simp at h; omega)]
    try rfl
  | cons y R ih =>
    intro B hs ok
    have e : U ++ ((y :: R).reverse ++ x :: B) = (U ++ R.reverse) ++ y :: ([] ++ x :: B) := by simp
    have hj : U.length + (y :: R).length = (U ++ R.reverse).length + 1 + ([] : List PV).length := by simp <;> omega
    have hjl : U.length + (y :: R).length < (U ++ ((y :: R).reverse ++ x :: B)).length := by simp <;> omega
    have hx : (U ++ ((y :: R).reverse ++ x :: B)).getD (U.length + (y :: R).length) .bad = x := by
      rw [e, show (U ++ R.reverse) ++ y :: ([] ++ x :: B) = (U ++ R.reverse ++ [y]) ++ x :: B by simp]
      exact getD_mid (by simp <;> omega)
    have hy : (U ++ ((y :: R).reverse ++ x :: B)).getD (U.length + (y :: R).length - 1) .bad = y := by
      rw [e]; exact getD_mid (by simp)
    have hs' : Srt R.reverse ∧ ∀ z, z ∈ R.reverse → leC z y := by
      rw [List.reverse_cons, Srt, List.pairwise_append] at hs
      exact ⟨hs.1, fun z hz => hs.2.2 z hz y (by simp)⟩
    by_cases hc : cmpC x y < 0
    · obtain ⟨A1, A2, q1, q2, q3, q4⟩ := ih (y :: B) hs'.1 (ok.perm (by
        rw [e]
        refine (List.Perm.append_left U ?_).trans (by rw [List.append_assoc])
        exact List.Perm.append_left _ (List.Perm.swap y x B)))
      refine ⟨A1, A2 ++ [y], by rw [List.reverse_cons, q1, List.append_assoc], q2, fun z hz => ?_, ?_⟩
      · rcases List.mem_append.1 hz with h | h
        · exact q3 z h
        · rw [List.mem_singleton] at h; subst h; unfold leC; omega
      · rw [loopW_go (x1 := ((), (a : Int), (b : Int), (), (i : Int), ((U.length + R.length : Nat) : Int), U ++ (R.reverse ++ x :: (y :: B))))]
        · rw [q4]; simp
        · rw [ins_step ok hjl, hx, hy, if_pos ⟨by simp <;> omega, hc⟩]
          rw [e, swp_two (by simp) hj]
          simp
    · refine ⟨(y :: R).reverse, [], by simp, fun z hz => ?_, by simp, loopW_end ?_⟩
      · rw [List.reverse_cons] at hz
        rcases List.mem_append.1 hz with h | h
        · exact leC_trans (hs'.2 z h) (leC_of_not hc)
        · rw [List.mem_singleton] at h; subst h; exact leC_of_not hc
      · rw [ins_step ok hjl, hx, hy, if_neg (fun h => hc h.2)]
        try rfl

theorem ins_outer {a b : Nat} {U Q : List PV} (ha : a = U.length) : ∀ (T A : List PV), Srt A → OkL (U ++ (A ++ (T ++ Q))) → b = U.length + A.length + T.length →
    ∃ S', S'.Perm (A ++ T) ∧ Srt S' ∧ loopW (S216_2step 0) ((), (a : Int), (b : Int), (), ((U.length + A.length : Nat) : Int), U ++ (A ++ (T ++ Q))) = some (U ++ (S' ++ Q)) := by
  intro T
  induction T with
  | nil =>
    intro A hs ok hb
    refine ⟨A, by simp, hs, loopW_end ?_⟩
    have hd : decide (((U.length + A.length : Nat) : Int) < (b : Int)) = false := decide_eq_false (by simp at hb; omega)
    simp only [S216_2step, S216_2, hd, cond_false]
    simp
  | cons t T ih =>
    intro A hs ok hb
    have hd : decide (((U.length + A.length : Nat) : Int) < (b : Int)) = true := decide_eq_true (by simp at hb; omega)
    obtain ⟨A1, A2, q1, q2, q3, q4⟩ := ins_inner (a := a) (b := b) (i := U.length + A.length) (U := U) (x := t) ha A.reverse (T ++ Q) (by rw [List.reverse_reverse]; exact hs) (by rw [List.reverse_reverse]; exact ok)
    rw [List.reverse_reverse] at q1 q4
    rw [List.length_reverse] at q4
    have hsA : Srt (A1 ++ t :: A2) := by
      rw [q1, Srt, List.pairwise_append] at hs
      rw [Srt, List.pairwise_append]
      refine ⟨hs.1, List.pairwise_cons.2 ⟨q3, hs.2.1⟩, fun x hx y hy => ?_⟩
      rcases List.mem_cons.1 hy with rfl | hy
      · exact q2 x hx
      · exact hs.2.2 x hx y hy
    have pA : (A1 ++ t :: A2).Perm (A ++ [t]) := by
      rw [q1]
      refine List.perm_middle.trans ?_
      exact (List.perm_append_comm (l₁ := [t]) (l₂ := A1 ++ A2))
    have ok' : OkL (U ++ ((A1 ++ t :: A2) ++ (T ++ Q))) := ok.perm (by
      refine List.Perm.append_left U ?_
      refine (List.Perm.append_right (T ++ Q) pA).trans ?_
      simp)
    have hlen : (A1 ++ t :: A2).length = A.length + 1 := by rw [q1]; simp; omega
    obtain ⟨S', r1, r2, r3⟩ := ih (A1 ++ t :: A2) hsA ok' (by rw [hlen, hb]; simp; omega)
    refine ⟨S', r1.trans ?_, r2, ?_⟩
    · refine (List.Perm.append_right T pA).trans ?_
      simp
    · have hl := ok.1
      rw [loopW_go (x1 := ((), (a : Int), (b : Int), (), ((U.length + (A1 ++ t :: A2).length : Nat) : Int), U ++ ((A1 ++ t :: A2) ++ (T ++ Q))))]
      · exact r3
      · simp only [S216_2step, S216_2, hd, cond_true]
        have q4' : loopQ 0 (S216_5step 0) ((), (a : Int), (b : Int), (), ((U.length + A.length : Nat) : Int), ((U.length + A.length : Nat) : Int), U ++ (A ++ (t :: T ++ Q))) = some ((), (a : Int), (b : Int), (), ((U.length + A.length : Nat) : Int), U ++ (A1 ++ t :: (A2 ++ (T ++ Q)))) := q4
        rw [q4', Option.bind_some]
        have w : IntKind.wrap .i64 (((U.length + A.length : Nat) : Int) + 1) = ((U.length + (A1 ++ t :: A2).length : Nat) : Int) := by
          rw [hlen]
          have : U.length + A.length ≤ 1048576 := by simp at hl; omega
          rw [waddB _ this]
          rfl
        simp only [w]
        simp

theorem ins_sort {a b : Nat} {U Q S : List PV} (ha : a = U.length) (hb : b = U.length + S.length) (ok : OkL (U ++ (S ++ Q))) :
    ∃ S', S'.Perm S ∧ Srt S' ∧ F216 0 () (a : Int) (b : Int) () (U ++ (S ++ Q)) = some (U ++ (S' ++ Q)) := by
  have hl := ok.1
  have ha' : a ≤ 1048576 := by subst ha; simp at hl; omega
  unfold F216
  show ∃ S', _ ∧ _ ∧ (loopW _ _).bind _ = _
  rw [waddB a ha']
  cases S with
  | nil =>
    refine ⟨[], List.Perm.refl _, List.Pairwise.nil, ?_⟩
    rw [loopW_end (y := U ++ ([] ++ Q))]
    · rfl
    · have hd : decide (((a + 1 : Nat) : Int) < (b : Int)) = false := decide_eq_false (by simp at hb; omega)
      simp only [S216_2step, S216_2, hd, cond_false]
  | cons s T =>
    obtain ⟨S', r1, r2, r3⟩ := ins_outer (a := a) (b := b) (U := U) (Q := Q) ha T [s] (by simp) (by simpa using ok) (by simp at hb ⊢; omega)
    refine ⟨S', r1, r2, ?_⟩
    have e : ((U.length + [s].length : Nat) : Int) = ((a + 1 : Nat) : Int) := by rw [ha]; rfl
    rw [e] at r3
    have r3 : loopW (S216_2step 0) ((), (a : Int), (b : Int), (), ((a + 1 : Nat) : Int), U ++ (s :: T ++ Q)) = some (U ++ (S' ++ Q)) := r3
    rw [r3]
    rfl
end Go.Ab
namespace Go.Ab
open Go
set_option maxRecDepth 100000

theorem waddN {a i : Nat} (h : a + i ≤ 9223372036854775807) : IntKind.wrap .i64 ((a : Int) + (i : Int)) = ((a + i : Nat) : Int) := by
  rw [show (a : Int) + (i : Int) = ((a + i : Nat) : Int) by omega]; exact wrap64_nat h
theorem wsubN {a i : Nat} (h : i ≤ a) (h2 : a ≤ 9223372036854775807) : IntKind.wrap .i64 ((a : Int) - (i : Int)) = ((a - i : Nat) : Int) := by
  rw [show (a : Int) - (i : Int) = ((a - i : Nat) : Int) by omega]; exact wrap64_nat (by omega)

theorem swr_go {a b n i : Nat} {xs : List PV} (hl : xs.length ≤ 1048576) (hi : i < n) (ha : a + i < xs.length) (hb : b + i < xs.length) :
    S285_2step 0 ((), (a : Int), (b : Int), (n : Int), (i : Int), xs) = some (.inl ((), (a : Int), (b : Int), (n : Int), ((i + 1 : Nat) : Int), swp xs (b + i) (a + i))) := by
  have hd : decide ((i : Int) < (n : Int)) = true := decide_eq_true (by omega)
  simp only [S285_2step, S285_2, hd, waddN (show a + i ≤ 9223372036854775807 by omega), waddN (show b + i ≤ 9223372036854775807 by omega), waddB i (by omega), inRange_nat, Int.toNat_natCast, decide_eq_true ha, decide_eq_true hb, cond_true, List.length_set, swp]
theorem swr {a b n : Nat} : ∀ (X Y U V W : List PV) (i : Nat), X.length = Y.length → a + i = U.length → b + i = U.length + X.length + V.length → i + X.length = n → (U ++ (X ++ (V ++ (Y ++ W)))).length ≤ 1048576 →
    loopW (S285_2step 0) ((), (a : Int), (b : Int), (n : Int), (i : Int), U ++ (X ++ (V ++ (Y ++ W)))) = some (U ++ (Y ++ (V ++ (X ++ W)))) := by
  intro X
  induction X with
  | nil =>
    intro Y U V W i hxy ha hb hn hl
    have : Y = [] := List.length_eq_zero_iff.1 (by simpa using hxy.symm)
    subst this
    refine loopW_end ?_
    have hd : decide ((i : Int) < (n : Int)) = false := decide_eq_false (by simp at hn; omega)
    simp only [S285_2step, S285_2, hd, cond_false]
  | cons x X ih =>
    intro Y U V W i hxy ha hb hn hl
    cases Y with
    | nil => simp at hxy
    | cons y Y =>
      simp only [List.length_cons] at hxy hb hn
      have e : U ++ (x :: X ++ (V ++ (y :: Y ++ W))) = U ++ x :: ((X ++ V) ++ y :: (Y ++ W)) := by simp
      have h1 : a + i < (U ++ (x :: X ++ (V ++ (y :: Y ++ W)))).length := by simp; omega
      have h2 : b + i < (U ++ (x :: X ++ (V ++ (y :: Y ++ W)))).length := by simp; omega
      have e2 : swp (U ++ (x :: X ++ (V ++ (y :: Y ++ W)))) (b + i) (a + i) = (U ++ [y]) ++ (X ++ ((V ++ [x]) ++ (Y ++ W))) := by
        rw [e, swp_two' ha (by simp; omega)]
        simp
      rw [loopW_go (swr_go hl (by omega) h1 h2), e2, ih Y (U ++ [y]) (V ++ [x]) W (i + 1) (by omega) (by simp; omega) (by simp; omega) (by omega) (by simp at hl ⊢; omega)]
      simp
theorem swap_range {a b n : Nat} {X Y U V W : List PV} (hxy : X.length = Y.length) (ha : a = U.length) (hb : b = U.length + X.length + V.length) (hn : n = X.length) (hl : (U ++ (X ++ (V ++ (Y ++ W)))).length ≤ 1048576) :
    F285 0 () (a : Int) (b : Int) (n : Int) () (U ++ (X ++ (V ++ (Y ++ W)))) = some (U ++ (Y ++ (V ++ (X ++ W)))) := by
  unfold F285
  show (loopW _ _).bind _ = _
  have h := swr (a := a) (b := b) (n := n) X Y U V W 0 hxy (by omega) (by omega) (by omega) hl
  have h : loopW (S285_2step 0) ((), (a : Int), (b : Int), (n : Int), (0 : Int), U ++ (X ++ (V ++ (Y ++ W)))) = some (U ++ (Y ++ (V ++ (X ++ W)))) := h
  rw [h]
  rfl

theorem rot {m : Nat} : ∀ (k : Nat) (X Y P Q : List PV), X.length + Y.length ≤ k → X ≠ [] → Y ≠ [] → m = P.length + X.length → (P ++ (X ++ (Y ++ Q))).length ≤ 1048576 →
    ∃ (i : Nat) (ys : List PV), loopW (S251_3step 0) ((), (m : Int), (), (X.length : Int), (Y.length : Int), P ++ (X ++ (Y ++ Q))) = some ((), (m : Int), (), (i : Int), ys) ∧
      F285 0 () (IntKind.wrap .i64 ((m : Int) - (i : Int))) (m : Int) (i : Int) () ys = some (P ++ (Y ++ (X ++ Q))) := by
  intro k
  induction k with
  | zero =>
    intro X Y P Q h hx
    cases X with
    | nil => exact absurd rfl hx
    | cons => simp at h
  | succ k ih =>
    intro X Y P Q h hx hy hm hl
    have hx0 : 0 < X.length := List.length_pos_iff.2 hx
    have hy0 : 0 < Y.length := List.length_pos_iff.2 hy
    have hl' := hl
    simp only [List.length_append] at hl'
    rcases Nat.lt_trichotomy X.length Y.length with hlt | heq | hgt
    · have hn1 : ((X.length : Int) != (Y.length : Int)) = true := by simp; omega
      have hn2 : decide ((X.length : Int) > (Y.length : Int)) = false := decide_eq_false (by omega)
      have eY : Y = Y.take (Y.length - X.length) ++ Y.drop (Y.length - X.length) := (List.take_append_drop _ _).symm
      generalize hY1 : Y.take (Y.length - X.length) = Y1 at eY
      generalize hY2 : Y.drop (Y.length - X.length) = Y2 at eY
      have l1 : Y1.length = Y.length - X.length := by rw [← hY1, List.length_take]; omega
      have l2 : Y2.length = X.length := by rw [← hY2, List.length_drop]; omega
      have hsw := swap_range (a := m - X.length) (b := m + Y.length - X.length) (n := X.length) (X := X) (Y := Y2) (U := P) (V := Y1) (W := Q) l2.symm (by omega) (by omega) rfl (by simp; omega)
      have e1 : P ++ (X ++ (Y1 ++ (Y2 ++ Q))) = P ++ (X ++ (Y ++ Q)) := by rw [eY]; simp
      rw [e1] at hsw
      obtain ⟨i, ys, r1, r2⟩ := ih Y2 Y1 P (X ++ Q) (by omega) (by intro e; rw [e] at l2; simp at l2; omega) (by intro e; rw [e] at l1; simp at l1; omega) (by omega) (by simp; omega)
      refine ⟨i, ys, ?_, ?_⟩
      · rw [loopW_go (x1 := ((), (m : Int), (), (Y2.length : Int), (Y1.length : Int), P ++ (Y2 ++ (Y1 ++ (X ++ Q)))))]
        · exact r1
        · simp only [S251_3step, S251_3, hn1, hn2, cond_true, cond_false, wsubN (show X.length ≤ m by omega) (by omega), waddN (show m + Y.length ≤ 9223372036854775807 by omega), wsubN (show X.length ≤ m + Y.length by omega) (by omega), hsw, Option.bind_some, wsubN (show X.length ≤ Y.length by omega) (by omega)]
          rw [l1, l2]
      · rw [r2, eY]; simp
    · have hn1 : ((X.length : Int) != (Y.length : Int)) = false := by simp; omega
      refine ⟨X.length, P ++ (X ++ (Y ++ Q)), loopW_end ?_, ?_⟩
      · simp only [S251_3step, S251_3, hn1, cond_false]
      · rw [wsubN (show X.length ≤ m by omega) (by omega)]
        have := swap_range (a := m - X.length) (b := m) (n := X.length) (X := X) (Y := Y) (U := P) (V := []) (W := Q) heq (by omega) (by simp; omega) rfl (by simpa using hl)
        simpa using this
    · have hn1 : ((X.length : Int) != (Y.length : Int)) = true := by simp; omega
      have hn2 : decide ((X.length : Int) > (Y.length : Int)) = true := decide_eq_true (by omega)
      have eX : X = X.take Y.length ++ X.drop Y.length := (List.take_append_drop _ _).symm
      generalize hX1 : X.take Y.length = X1 at eX
      generalize hX2 : X.drop Y.length = X2 at eX
      have l1 : X1.length = Y.length := by rw [← hX1, List.length_take]; omega
      have l2 : X2.length = X.length - Y.length := by rw [← hX2, List.length_drop]
      have hsw := swap_range (a := m - X.length) (b := m) (n := Y.length) (X := X1) (Y := Y) (U := P) (V := X2) (W := Q) l1 (by omega) (by omega) l1.symm (by simp; omega)
      have e1 : P ++ (X1 ++ (X2 ++ (Y ++ Q))) = P ++ (X ++ (Y ++ Q)) := by rw [eX]; simp
      rw [e1] at hsw
      obtain ⟨i, ys, r1, r2⟩ := ih X2 X1 (P ++ Y) Q (by omega) (by intro e; rw [e] at l2; simp at l2; omega) (by intro e; rw [e] at l1; simp at l1; omega) (by simp; omega) (by simp; omega)
      refine ⟨i, ys, ?_, ?_⟩
      · rw [loopW_go (x1 := ((), (m : Int), (), (X2.length : Int), (X1.length : Int), (P ++ Y) ++ (X2 ++ (X1 ++ Q))))]
        · exact r1
        · simp only [S251_3step, S251_3, hn1, hn2, cond_true, wsubN (show X.length ≤ m by omega) (by omega), hsw, Option.bind_some, wsubN (show Y.length ≤ X.length by omega) (by omega)]
          rw [l1, l2, List.append_assoc]
      · rw [r2, eX]; simp
theorem rotate_eq {a m b : Nat} {X Y P Q : List PV} (hx : X ≠ []) (hy : Y ≠ []) (ha : a = P.length) (hm : m = P.length + X.length) (hb : b = m + Y.length) (hl : (P ++ (X ++ (Y ++ Q))).length ≤ 1048576) :
    F251 0 () (a : Int) (m : Int) (b : Int) () (P ++ (X ++ (Y ++ Q))) = some (P ++ (Y ++ (X ++ Q))) := by
  have hl' := hl
  simp only [List.length_append] at hl'
  obtain ⟨i, ys, r1, r2⟩ := rot (m := m) _ X Y P Q (Nat.le_refl _) hx hy hm hl
  unfold F251
  rw [wsubN (show a ≤ m by omega) (by omega), wsubN (show m ≤ b by omega) (by omega), show m - a = X.length by omega, show b - m = Y.length by omega]
  show (loopW _ _).bind _ = _
  rw [r1]
  simp only [Option.bind_some, r2]

/-- A place is looked for by halves. -/
theorem bsearch {σ τ : Type} {step : σ → Option (σ ⊕ τ)} (st : Nat → Nat → σ) (out : Nat → τ) (q : Nat → Bool) (lo0 hi0 : Nat)
    (hgo : ∀ lo hi, lo0 ≤ lo → lo < hi → hi ≤ hi0 → step (st lo hi) = some (.inl (bif q ((lo + hi) / 2) then st ((lo + hi) / 2 + 1) hi else st lo ((lo + hi) / 2)))) (hend : ∀ lo, lo0 ≤ lo → lo ≤ hi0 → step (st lo lo) = some (.inr (out lo))) (h0 : lo0 ≤ hi0) :
    ∃ i, loopW step (st lo0 hi0) = some (out i) ∧ lo0 ≤ i ∧ i ≤ hi0 ∧ (lo0 < i → q (i - 1) = true) ∧ (i < hi0 → q i = false) := by
  suffices H : ∀ (n lo hi : Nat), hi - lo ≤ n → lo0 ≤ lo → lo ≤ hi → hi ≤ hi0 → (lo0 < lo → q (lo - 1) = true) → (hi < hi0 → q hi = false) → ∃ i, loopW step (st lo hi) = some (out i) ∧ lo0 ≤ i ∧ i ≤ hi0 ∧ (lo0 < i → q (i - 1) = true) ∧ (i < hi0 → q i = false) from
    H _ lo0 hi0 (Nat.le_refl _) (Nat.le_refl _) h0 (Nat.le_refl _) (fun h => by omega) (fun h => by omega)
  intro n
  induction n with
  | zero =>
    intro lo hi hn h1 h2 h3 h4 h5
    have : hi = lo := by omega
    subst this
    exact ⟨hi, loopW_end (hend hi h1 h3), h1, h3, h4, h5⟩
  | succ n ih =>
    intro lo hi hn h1 h2 h3 h4 h5
    rcases Nat.lt_or_ge lo hi with hlt | hge
    · have hs := hgo lo hi h1 hlt h3
      cases hq : q ((lo + hi) / 2) with
      | true =>
        rw [hq] at hs
        rw [loopW_go hs]
        exact ih ((lo + hi) / 2 + 1) hi (by omega) (by omega) (by omega) h3 (fun _ => by rw [Nat.add_sub_cancel]; exact hq) h5
      | false =>
        rw [hq] at hs
        rw [loopW_go hs]
        exact ih lo ((lo + hi) / 2) (by omega) h1 (by omega) (by omega) h4 (fun _ => hq)
    · have : hi = lo := by omega
      subst this
      exact ⟨hi, loopW_end (hend hi h1 h3), h1, h3, h4, h5⟩
theorem half {i j : Nat} (h : i + j ≤ 4611686018427387904) : IntKind.wrap .i64 ((IntKind.wrap .u64 (IntKind.wrap .i64 ((i : Int) + (j : Int)))).fdiv (2 ^ (min (1 : Int).toNat (IntKind.bits .u64)))) = (((i + j) / 2 : Nat) : Int) := by
  rw [waddN (by omega)]
  have e : IntKind.wrap .u64 ((i + j : Nat) : Int) = ((i + j : Nat) : Int) := IntWalk.u64_in _ ⟨by omega, by omega⟩
  rw [e, show (2 ^ (min (1 : Int).toNat (IntKind.bits .u64)) : Int) = 2 by decide, Int.fdiv_eq_ediv_of_nonneg _ (by decide), show ((i + j : Nat) : Int) / 2 = (((i + j) / 2 : Nat) : Int) by omega]
  exact wrap64_nat (by omega)
end Go.Ab
namespace Go.Ab
open Go
set_option maxRecDepth 100000

theorem leC_refl (x : PV) : leC x x := by have := Lin.cmpC.anti x x; unfold leC; omega
theorem getD_seg {U B Q : List PV} {r i : Nat} {d : PV} (hi : i = U.length + r) (h : r < B.length) : (U ++ (B ++ Q)).getD i d = B.getD r d := by
  subst hi
  simp only [List.getD, List.getElem?_append_right (Nat.le_add_right _ _), Nat.add_sub_cancel_left, List.getElem?_append_left h]
theorem srt_take {L : List PV} (hs : Srt L) {r : Nat} (hr : 0 < r) (hr2 : r ≤ L.length) {u : PV} (hu : u ∈ L.take r) : leC u (L.getD (r - 1) .bad) := by
  obtain ⟨i, hi, rfl⟩ := List.mem_iff_getElem.1 hu
  have hi' : i < r := by simp at hi; omega
  rw [getD_of_lt (by omega), List.getElem_take]
  rcases Nat.lt_or_ge i (r - 1) with h | h
  · exact List.pairwise_iff_getElem.1 hs i (r - 1) (by omega) (by omega) h
  · have : i = r - 1 := by omega
    subst this; exact leC_refl _
theorem srt_drop {L : List PV} (hs : Srt L) {r : Nat} (hr2 : r < L.length) {u : PV} (hu : u ∈ L.drop r) : leC (L.getD r .bad) u := by
  obtain ⟨i, hi, rfl⟩ := List.mem_iff_getElem.1 hu
  have hi' : r + i < L.length := by simp at hi; omega
  rw [getD_of_lt (by omega), List.getElem_drop]
  rcases Nat.eq_zero_or_pos i with h | h
  · subst h; exact leC_refl _
  · exact List.pairwise_iff_getElem.1 hs r (r + i) (by omega) hi' (by omega)
abbrev SymR := (Unit × Int × Int × Int × Unit × (List PV)) → Option (List PV)

theorem find4 {r0 : SymR} {a m b : Nat} {xs : List PV} (ok : OkL xs) (ha : a < xs.length) (hb : b ≤ xs.length) (h0 : m ≤ b) :
    ∃ i, loopW (B217_4step 0 r0) ((), (a : Int), (), (m : Int), (b : Int), xs) = some ((), (a : Int), ((i : Nat) : Int), xs) ∧ m ≤ i ∧ i ≤ b ∧ (m < i → cmpC (xs.getD (i - 1) .bad) (xs.getD a .bad) < 0) ∧ (i < b → ¬ cmpC (xs.getD i .bad) (xs.getD a .bad) < 0) := by
  have hl := ok.1
  obtain ⟨i, h1, h2, h3, h4, h5⟩ := bsearch (step := B217_4step 0 r0) (fun lo hi => ((), (a : Int), (), ((lo : Nat) : Int), ((hi : Nat) : Int), xs)) (fun lo => ((), (a : Int), ((lo : Nat) : Int), xs)) (fun h => decide (cmpC (xs.getD h .bad) (xs.getD a .bad) < 0)) m b
    (fun lo hi g1 g2 g3 => by
      have hd : decide ((lo : Int) < (hi : Int)) = true := decide_eq_true (by omega)
      have hh : (lo + hi) / 2 < xs.length := by omega
      simp only [B217_4step, B217_4, hd, half (show lo + hi ≤ 4611686018427387904 by omega), inRange_nat, decide_eq_true hh, decide_eq_true ha, cond_true, Int.toNat_natCast, cmp_at ok hh ha, Option.bind_some, waddB ((lo + hi) / 2) (by omega)]
      cases decide (cmpC (xs.getD ((lo + hi) / 2) .bad) (xs.getD a .bad) < 0) <;> rfl)
    (fun lo _ _ => by
      have hd : decide ((lo : Int) < (lo : Int)) = false := decide_eq_false (by omega)
      simp only [B217_4step, B217_4, hd, cond_false]) h0
  exact ⟨i, h1, h2, h3, fun h => of_decide_eq_true (h4 h), fun h => of_decide_eq_false (h5 h)⟩

theorem find16 {r0 : SymR} {a m : Nat} {xs : List PV} (ok : OkL xs) (hm : m < xs.length) (h0 : a ≤ m) :
    ∃ i, loopW (B217_16step 0 r0) ((), (m : Int), (), (a : Int), (m : Int), xs) = some ((), (m : Int), ((i : Nat) : Int), xs) ∧ a ≤ i ∧ i ≤ m ∧ (a < i → ¬ cmpC (xs.getD m .bad) (xs.getD (i - 1) .bad) < 0) ∧ (i < m → cmpC (xs.getD m .bad) (xs.getD i .bad) < 0) := by
  have hl := ok.1
  obtain ⟨i, h1, h2, h3, h4, h5⟩ := bsearch (step := B217_16step 0 r0) (fun lo hi => ((), (m : Int), (), ((lo : Nat) : Int), ((hi : Nat) : Int), xs)) (fun lo => ((), (m : Int), ((lo : Nat) : Int), xs)) (fun h => !(decide (cmpC (xs.getD m .bad) (xs.getD h .bad) < 0))) a m
    (fun lo hi g1 g2 g3 => by
      have hd : decide ((lo : Int) < (hi : Int)) = true := decide_eq_true (by omega)
      have hh : (lo + hi) / 2 < xs.length := by omega
      simp only [B217_16step, B217_16, hd, half (show lo + hi ≤ 4611686018427387904 by omega), inRange_nat, decide_eq_true hh, decide_eq_true hm, cond_true, Int.toNat_natCast, cmp_at ok hm hh, Option.bind_some, waddB ((lo + hi) / 2) (by omega)]
      cases decide (cmpC (xs.getD m .bad) (xs.getD ((lo + hi) / 2) .bad) < 0) <;> rfl)
    (fun lo _ _ => by
      have hd : decide ((lo : Int) < (lo : Int)) = false := decide_eq_false (by omega)
      simp only [B217_16step, B217_16, hd, cond_false]) h0
  refine ⟨i, h1, h2, h3, fun h => ?_, fun h => ?_⟩
  · have := h4 h; simpa using this
  · have := h5 h; simpa using this

theorem find34 {r0 : SymR} {a m b mid n lo0 hi0 p : Nat} {xs : List PV} (ok : OkL xs) (hh0 : hi0 ≤ xs.length) (hp : ∀ h, lo0 ≤ h → h < hi0 → h ≤ p ∧ p - h < xs.length) (hpp : p ≤ 4611686018427387904) (h0 : lo0 ≤ hi0) :
    ∃ i, loopW (B217_34step 0 r0) ((), (a : Int), (m : Int), (b : Int), (), (mid : Int), (n : Int), (lo0 : Int), (hi0 : Int), (p : Int), xs) = some ((), (a : Int), (m : Int), (b : Int), (), (mid : Int), (n : Int), ((i : Nat) : Int), xs) ∧ lo0 ≤ i ∧ i ≤ hi0 ∧
      (lo0 < i → ¬ cmpC (xs.getD (p - (i - 1)) .bad) (xs.getD (i - 1) .bad) < 0) ∧ (i < hi0 → cmpC (xs.getD (p - i) .bad) (xs.getD i .bad) < 0) := by
  have hl := ok.1
  obtain ⟨i, h1, h2, h3, h4, h5⟩ := bsearch (step := B217_34step 0 r0) (fun lo hi => ((), (a : Int), (m : Int), (b : Int), (), (mid : Int), (n : Int), ((lo : Nat) : Int), ((hi : Nat) : Int), (p : Int), xs)) (fun lo => ((), (a : Int), (m : Int), (b : Int), (), (mid : Int), (n : Int), ((lo : Nat) : Int), xs)) (fun h => !(decide (cmpC (xs.getD (p - h) .bad) (xs.getD h .bad) < 0))) lo0 hi0
    (fun lo hi g1 g2 g3 => by
      have hd : decide ((lo : Int) < (hi : Int)) = true := decide_eq_true (by omega)
      have hh : (lo + hi) / 2 < xs.length := by omega
      obtain ⟨k1, k2⟩ := hp ((lo + hi) / 2) (by omega) (by omega)
      simp only [B217_34step, B217_34, hd, half (show lo + hi ≤ 4611686018427387904 by omega), wsubN k1 (by omega), inRange_nat, decide_eq_true hh, decide_eq_true k2, cond_true, Int.toNat_natCast, cmp_at ok k2 hh, Option.bind_some, waddB ((lo + hi) / 2) (by omega)]
      cases decide (cmpC (xs.getD (p - (lo + hi) / 2) .bad) (xs.getD ((lo + hi) / 2) .bad) < 0) <;> rfl)
    (fun lo _ _ => by
      have hd : decide ((lo : Int) < (lo : Int)) = false := decide_eq_false (by omega)
      simp only [B217_34step, B217_34, hd, cond_false]) h0
  refine ⟨i, h1, h2, h3, fun h => ?_, fun h => ?_⟩
  · have := h4 h; simpa using this
  · have := h5 h; simpa using this

/-- An element goes right. -/
theorem bubR {r0 : SymR} {i : Nat} {x : PV} {W : List PV} : ∀ (B U : List PV), i = U.length + B.length + 1 → (U ++ (x :: (B ++ W))).length ≤ 1048576 →
    loopW (B217_10step 0 r0) ((), (i : Int), ((U.length : Nat) : Int), U ++ (x :: (B ++ W))) = some (U ++ (B ++ x :: W)) := by
  intro B
  induction B with
  | nil =>
    intro U hi hl
    have hl' := hl; simp only [List.length_append, List.length_cons] at hl'
    refine loopW_end ?_
    simp only [List.length_nil] at hi
    have hd : decide (((U.length : Nat) : Int) < ((i - 1 : Nat) : Int)) = false := decide_eq_false (by omega)
    simp only [B217_10step, B217_10, wsub1 (show 1 ≤ i by omega) (by omega), hd, cond_false]
    rfl
  | cons y B ih =>
    intro U hi hl
    have hl' := hl; simp only [List.length_append, List.length_cons] at hl' hi
    have hd : decide (((U.length : Nat) : Int) < ((i - 1 : Nat) : Int)) = true := decide_eq_true (by omega)
    have g1 : U.length < (U ++ (x :: (y :: B ++ W))).length := by simp
    have g2 : U.length + 1 < (U ++ (x :: (y :: B ++ W))).length := by simp
    have e : swp (U ++ (x :: (y :: B ++ W))) (U.length + 1) U.length = (U ++ [y]) ++ (x :: (B ++ W)) := by
      have := swp_two' (U := U) (V := []) (W := B ++ W) (x := x) (y := y) (i := U.length) (j := U.length + 1) rfl (by simp)
      simpa using this
    rw [loopW_go (x1 := ((), (i : Int), (((U ++ [y]).length : Nat) : Int), (U ++ [y]) ++ (x :: (B ++ W)))), ih (U ++ [y]) (by simp; omega) (by simp; omega)]
    · simp
    · rw [← e]
      simp only [B217_10step, B217_10, wsub1 (show 1 ≤ i by omega) (by omega), hd, cond_true, waddB U.length (by omega), inRange_nat, decide_eq_true g1, decide_eq_true g2, Int.toNat_natCast, List.length_set, swp]
      simp
/-- An element goes left. -/
theorem bubL {r0 : SymR} {y : PV} : ∀ (R U W : List PV), (U ++ (R.reverse ++ y :: W)).length ≤ 1048576 →
    loopW (B217_22step 0 r0) ((), ((U.length : Nat) : Int), ((U.length + R.length : Nat) : Int), U ++ (R.reverse ++ y :: W)) = some (U ++ (y :: (R.reverse ++ W))) := by
  intro R
  induction R with
  | nil =>
    intro U W hl
    refine loopW_end ?_
    have hd : decide (((U.length + ([] : List PV).length : Nat) : Int) > ((U.length : Nat) : Int)) = false := decide_eq_false (by simp)
    simp only [B217_22step, B217_22, hd, cond_false]
    rfl
  | cons z R ih =>
    intro U W hl
    have hl' := hl; simp only [List.length_append, List.length_cons, List.length_reverse] at hl'
    have hd : decide (((U.length + (z :: R).length : Nat) : Int) > ((U.length : Nat) : Int)) = true := decide_eq_true (by simp <;> omega)
    have g1 : U.length + (z :: R).length < (U ++ ((z :: R).reverse ++ y :: W)).length := by simp
    have g2 : U.length + (z :: R).length - 1 < (U ++ ((z :: R).reverse ++ y :: W)).length := by simp <;> omega
    have w : IntKind.wrap .i64 (((U.length + (z :: R).length : Nat) : Int) - 1) = ((U.length + (z :: R).length - 1 : Nat) : Int) := wsub1 (by simp only [List.length_cons]; omega) (by simp only [List.length_cons]; omega)
    have e : swp (U ++ ((z :: R).reverse ++ y :: W)) (U.length + (z :: R).length - 1) (U.length + (z :: R).length) = U ++ (R.reverse ++ y :: (z :: W)) := by
      have := swp_two (U := U ++ R.reverse) (V := []) (W := W) (x := z) (y := y) (i := U.length + (z :: R).length - 1) (j := U.length + (z :: R).length) (by simp) (by simp; omega)
      simpa using this
    rw [loopW_go (x1 := ((), ((U.length : Nat) : Int), ((U.length + R.length : Nat) : Int), U ++ (R.reverse ++ y :: (z :: W)))), ih U (z :: W) (by simp; omega)]
    · simp
    · rw [← e]
      simp only [B217_22step, B217_22, hd, cond_true, w, inRange_nat, decide_eq_true g1, decide_eq_true g2, Int.toNat_natCast, List.length_set, swp]
      simp

/-- What a call of symMerge comes to, at parts of at most k elements together. -/
def SymOk (R : SymR → Prop) (k : Nat) : Prop := ∀ (P A B Q : List PV), A ≠ [] → B ≠ [] → A.length + B.length ≤ k → Srt A → Srt B → OkL (P ++ (A ++ (B ++ Q))) →
  ∃ C, C.Perm (A ++ B) ∧ Srt C ∧ ∀ r0, R r0 → r0 ((), ((P.length : Nat) : Int), ((P.length + A.length : Nat) : Int), ((P.length + A.length + B.length : Nat) : Int), (), P ++ (A ++ (B ++ Q))) = some (P ++ (C ++ Q))
theorem sub_merge {R : SymR → Prop} {k : Nat} (H : SymOk R k) {P A B Q : List PV} {a s e : Nat} (ha : a = P.length) (hs : s = P.length + A.length) (he : e = P.length + A.length + B.length) (hA : Srt A) (hB : Srt B) (ok : OkL (P ++ (A ++ (B ++ Q)))) (hk : A.length + B.length ≤ k) :
    ∃ C, C.Perm (A ++ B) ∧ Srt C ∧ ∀ r0, R r0 → (bif (bif decide ((a : Int) < (s : Int)) then decide ((s : Int) < (e : Int)) else false) then r0 ((), (a : Int), (s : Int), (e : Int), (), P ++ (A ++ (B ++ Q))) else some (P ++ (A ++ (B ++ Q)))) = some (P ++ (C ++ Q)) := by
  subst ha; subst hs; subst he
  cases A with
  | nil =>
    have hd : decide (((P.length : Nat) : Int) < ((P.length + ([] : List PV).length : Nat) : Int)) = false := decide_eq_false (by simp)
    refine ⟨B, by simp, hB, fun r0 _ => ?_⟩
    rw [hd]; simp
  | cons x A =>
    cases B with
    | nil =>
      have hd : decide (((P.length + (x :: A).length : Nat) : Int) < ((P.length + (x :: A).length + ([] : List PV).length : Nat) : Int)) = false := decide_eq_false (by simp)
      refine ⟨x :: A, by simp, hA, fun r0 _ => ?_⟩
      rw [hd]; simp
    | cons y B =>
      have hd1 : decide (((P.length : Nat) : Int) < ((P.length + (x :: A).length : Nat) : Int)) = true := decide_eq_true (by simp <;> omega)
      have hd2 : decide (((P.length + (x :: A).length : Nat) : Int) < ((P.length + (x :: A).length + (y :: B).length : Nat) : Int)) = true := decide_eq_true (by simp <;> omega)
      obtain ⟨C, h1, h2, h3⟩ := H P (x :: A) (y :: B) Q (by simp) (by simp) hk hA hB ok
      exact ⟨C, h1, h2, fun r0 hr => by rw [hd1, hd2]; exact h3 r0 hr⟩
end Go.Ab
namespace Go.Ab
open Go
set_option maxRecDepth 100000

def noR : SymR := fun _ => none
theorem isOne {n : Nat} (h : n = 1) : (((n : Nat) : Int) == (1 : Int)) = true := by subst h; rfl
theorem notOne {n : Nat} (h : n ≠ 1) : (((n : Nat) : Int) == (1 : Int)) = false := by simp; omega

theorem sym_left {x : PV} {B P Q : List PV} {a m b : Nat} (ha : a = P.length) (hm : m = P.length + 1) (hb : b = m + B.length) (hB : Srt B) (ok : OkL (P ++ ([x] ++ (B ++ Q)))) :
    ∃ C, C.Perm ([x] ++ B) ∧ Srt C ∧ ∀ r0, B217 0 r0 () (a : Int) (m : Int) (b : Int) () (P ++ ([x] ++ (B ++ Q))) = some (P ++ (C ++ Q)) := by
  have hl := ok.1
  simp only [List.length_append, List.length_cons, List.length_nil] at hl
  obtain ⟨i, h1, h2, h3, h4, h5⟩ := find4 (r0 := noR) (a := a) (m := m) (b := b) ok (by simp; omega) (by simp; omega) (by omega)
  have hxa : (P ++ ([x] ++ (B ++ Q))).getD a .bad = x := getD_mid ha
  have hxb : ∀ r, r < B.length → (P ++ ([x] ++ (B ++ Q))).getD (m + r) .bad = B.getD r .bad := by
    intro r hr
    have := getD_seg (U := P ++ [x]) (B := B) (Q := Q) (r := r) (i := m + r) (d := .bad) (by simp; omega) hr
    simpa using this
  generalize hr : i - m = r at *
  have hi : i = m + r := by omega
  subst hi
  have eB : B = B.take r ++ B.drop r := (List.take_append_drop _ _).symm
  have q1 : ∀ y, y ∈ B.take r → leC y x := by
    intro y hy
    have hr0 : 0 < r := by
      rcases Nat.eq_zero_or_pos r with h | h
      · subst h; simp at hy
      · exact h
    have := h4 (by omega)
    rw [hxa, show m + r - 1 = m + (r - 1) by omega, hxb (r - 1) (by omega)] at this
    exact leC_trans (srt_take hB hr0 (by omega) hy) (by unfold leC; omega)
  have q2 : ∀ y, y ∈ B.drop r → leC x y := by
    intro y hy
    have hr0 : r < B.length := by
      rcases Nat.lt_or_ge r B.length with h | h
      · exact h
      · rw [List.drop_eq_nil_of_le h] at hy; cases hy
    have := h5 (by omega)
    rw [hxa, hxb r hr0] at this
    exact leC_trans (leC_of_not this) (srt_drop hB hr0 hy)
  refine ⟨B.take r ++ x :: B.drop r, ?_, ?_, fun r0 => ?_⟩
  · refine List.perm_middle.trans ?_
    rw [← eB]
    exact List.Perm.refl _
  · have hB' := hB
    rw [eB, Srt, List.pairwise_append] at hB'
    rw [Srt, List.pairwise_append]
    refine ⟨hB'.1, List.pairwise_cons.2 ⟨q2, hB'.2.1⟩, fun u hu v hv => ?_⟩
    rcases List.mem_cons.1 hv with rfl | hv
    · exact q1 u hu
    · exact hB'.2.2 u hu v hv
  · have e1 : loopQ 0 (B217_4step 0 r0) ((), (a : Int), (), (m : Int), (b : Int), P ++ ([x] ++ (B ++ Q))) = some ((), (a : Int), (((m + r : Nat)) : Int), P ++ ([x] ++ (B ++ Q))) := h1
    have l1 : (B.take r).length = r := by rw [List.length_take]; omega
    have eX : P ++ ([x] ++ (B ++ Q)) = P ++ (x :: (B.take r ++ (B.drop r ++ Q))) := by
      rw [show B.take r ++ (B.drop r ++ Q) = B ++ Q by rw [← List.append_assoc, ← eB]]
      rfl
    have e2 : loopQ 0 (B217_10step 0 r0) ((), ((m + r : Nat) : Int), (a : Int), P ++ ([x] ++ (B ++ Q))) = some (P ++ ((B.take r ++ x :: B.drop r) ++ Q)) := by
      have := bubR (r0 := r0) (i := m + r) (x := x) (W := B.drop r ++ Q) (B.take r) P (by omega) (by rw [← eX]; exact ok.1)
      rw [← eX] at this
      rw [ha]
      refine Eq.trans this ?_
      simp
    unfold B217
    rw [wsubN (show a ≤ m by omega) (by omega), isOne (show m - a = 1 by omega), cond_true, e1]
    simp only [Option.bind_some]
    rw [e2]
    rfl

theorem sym_right {y : PV} {A P Q : List PV} {a m b : Nat} (ha : a = P.length) (hm : m = P.length + A.length) (hb : b = m + 1) (hA1 : A.length ≠ 1) (hA : Srt A) (ok : OkL (P ++ (A ++ ([y] ++ Q)))) :
    ∃ C, C.Perm (A ++ [y]) ∧ Srt C ∧ ∀ r0, B217 0 r0 () (a : Int) (m : Int) (b : Int) () (P ++ (A ++ ([y] ++ Q))) = some (P ++ (C ++ Q)) := by
  have hl := ok.1
  simp only [List.length_append, List.length_cons, List.length_nil] at hl
  obtain ⟨i, h1, h2, h3, h4, h5⟩ := find16 (r0 := noR) (a := a) (m := m) ok (by simp; omega) (by omega)
  have hxm : (P ++ (A ++ ([y] ++ Q))).getD m .bad = y := by
    have := getD_mid (U := P ++ A) (V := Q) (x := y) (d := .bad) (i := m) (by simp; omega)
    simpa using this
  have hxb : ∀ r, r < A.length → (P ++ (A ++ ([y] ++ Q))).getD (a + r) .bad = A.getD r .bad := fun r hr => getD_seg (by omega) hr
  generalize hr : i - a = r at *
  have hi : i = a + r := by omega
  subst hi
  have eA : A = A.take r ++ A.drop r := (List.take_append_drop _ _).symm
  have q1 : ∀ u, u ∈ A.take r → leC u y := by
    intro u hu
    have hr0 : 0 < r := by
      rcases Nat.eq_zero_or_pos r with h | h
      · subst h; simp at hu
      · exact h
    have := h4 (by omega)
    rw [hxm, show a + r - 1 = a + (r - 1) by omega, hxb (r - 1) (by omega)] at this
    exact leC_trans (srt_take hA hr0 (by omega) hu) (leC_of_not this)
  have q2 : ∀ u, u ∈ A.drop r → leC y u := by
    intro u hu
    have hr0 : r < A.length := by
      rcases Nat.lt_or_ge r A.length with h | h
      · exact h
      · rw [List.drop_eq_nil_of_le h] at hu; cases hu
    have := h5 (by omega)
    rw [hxm, hxb r hr0] at this
    exact leC_trans (by unfold leC; omega) (srt_drop hA hr0 hu)
  refine ⟨A.take r ++ y :: A.drop r, ?_, ?_, fun r0 => ?_⟩
  · refine List.perm_middle.trans ?_
    rw [← eA]
    exact (List.perm_append_comm (l₁ := [y]) (l₂ := A))
  · have hA' := hA
    rw [eA, Srt, List.pairwise_append] at hA'
    rw [Srt, List.pairwise_append]
    refine ⟨hA'.1, List.pairwise_cons.2 ⟨q2, hA'.2.1⟩, fun u hu v hv => ?_⟩
    rcases List.mem_cons.1 hv with rfl | hv
    · exact q1 u hu
    · exact hA'.2.2 u hu v hv
  · have e1 : loopQ 0 (B217_16step 0 r0) ((), (m : Int), (), (a : Int), (m : Int), P ++ (A ++ ([y] ++ Q))) = some ((), (m : Int), (((a + r : Nat)) : Int), P ++ (A ++ ([y] ++ Q))) := h1
    have l1 : (A.take r).length = r := by rw [List.length_take]; omega
    have l2 : (A.drop r).length = A.length - r := by rw [List.length_drop]
    have eX : P ++ (A ++ ([y] ++ Q)) = (P ++ A.take r) ++ ((A.drop r).reverse.reverse ++ y :: Q) := by
      rw [List.reverse_reverse, List.append_assoc, show A.take r ++ (A.drop r ++ y :: Q) = A ++ y :: Q by rw [← List.append_assoc, ← eA]]
      rfl
    have e2 : loopQ 0 (B217_22step 0 r0) ((), ((a + r : Nat) : Int), (m : Int), P ++ (A ++ ([y] ++ Q))) = some (P ++ ((A.take r ++ y :: A.drop r) ++ Q)) := by
      have := bubL (r0 := r0) (y := y) (A.drop r).reverse (P ++ A.take r) Q (by rw [← eX]; exact ok.1)
      rw [← eX, List.length_append, List.length_reverse, l1, l2, show P.length + r = a + r by omega, show a + r + (A.length - r) = m by omega] at this
      refine Eq.trans this ?_
      simp
    unfold B217
    rw [wsubN (show a ≤ m by omega) (by omega), notOne (show m - a ≠ 1 by omega), cond_false, wsubN (show m ≤ b by omega) (by omega), isOne (show b - m = 1 by omega), cond_true, e1]
    simp only [Option.bind_some]
    rw [e2]
    rfl

/-- What is done behind the search. -/
noncomputable def sTail (r0 : SymR) (a m b mid s e : Int) (xs : List PV) : Option (List PV) :=
  (bif (bif decide (s < m) then decide (m < e) else false) then F251 0 () s m e () xs else some xs).bind fun y =>
  (bif (bif decide (a < s) then decide (s < mid) else false) then r0 ((), a, s, mid, (), y) else some y).bind fun z =>
  bif (bif decide (mid < e) then decide (e < b) else false) then r0 ((), mid, e, b, (), z) else some z

theorem sym_tail {R : SymR → Prop} {k : Nat} (H : SymOk R k) {P A1 A2 B1 B2 Q : List PV} {a s m mid e b : Nat} (ha : a = P.length) (hs : s = a + A1.length) (hm : m = s + A2.length) (hmid : mid = s + B1.length) (he : e = m + B1.length) (hb : b = e + B2.length)
    (hA : Srt (A1 ++ A2)) (hB : Srt (B1 ++ B2)) (x1 : ∀ u, u ∈ A1 → ∀ v, v ∈ B2 → leC u v) (x2 : ∀ u, u ∈ B1 → ∀ v, v ∈ A2 → leC u v) (k1 : A1.length + B1.length ≤ k) (k2 : A2.length + B2.length ≤ k) (ok : OkL (P ++ (A1 ++ (A2 ++ (B1 ++ (B2 ++ Q)))))) :
    ∃ C, C.Perm ((A1 ++ A2) ++ (B1 ++ B2)) ∧ Srt C ∧ ∀ r0, R r0 → sTail r0 (a : Int) (m : Int) (b : Int) (mid : Int) (s : Int) (e : Int) (P ++ (A1 ++ (A2 ++ (B1 ++ (B2 ++ Q))))) = some (P ++ (C ++ Q)) := by
  have hl := ok.1
  simp only [List.length_append] at hl
  have step1 : (bif (bif decide ((s : Int) < (m : Int)) then decide ((m : Int) < (e : Int)) else false) then F251 0 () (s : Int) (m : Int) (e : Int) () (P ++ (A1 ++ (A2 ++ (B1 ++ (B2 ++ Q))))) else some (P ++ (A1 ++ (A2 ++ (B1 ++ (B2 ++ Q)))))) = some (P ++ (A1 ++ (B1 ++ (A2 ++ (B2 ++ Q))))) := by
    cases A2 with
    | nil =>
      have hd : decide ((s : Int) < (m : Int)) = false := decide_eq_false (by simp at hm; omega)
      rw [hd]; simp
    | cons u A2 =>
      cases B1 with
      | nil =>
        have hd : decide ((m : Int) < (e : Int)) = false := decide_eq_false (by simp at he; omega)
        rw [hd]; cases decide ((s : Int) < (m : Int)) <;> simp
      | cons v B1 =>
        have hd1 : decide ((s : Int) < (m : Int)) = true := decide_eq_true (by simp at hm; omega)
        have hd2 : decide ((m : Int) < (e : Int)) = true := decide_eq_true (by simp at he; omega)
        have := rotate_eq (a := s) (m := m) (b := e) (X := u :: A2) (Y := v :: B1) (P := P ++ A1) (Q := B2 ++ Q) (by simp) (by simp) (by simp; omega) (by simp at hm ⊢; omega) he (by simp at hl ⊢; omega)
        rw [hd1, hd2]
        simpa using this
  have hAp := hA; rw [Srt, List.pairwise_append] at hAp
  have hBp := hB; rw [Srt, List.pairwise_append] at hBp
  have ok2 : OkL (P ++ (A1 ++ (B1 ++ (A2 ++ (B2 ++ Q))))) := ok.perm (by
    refine List.Perm.append_left P (List.Perm.append_left A1 ?_)
    rw [← List.append_assoc, ← List.append_assoc A2]
    exact List.Perm.append_right _ List.perm_append_comm)
  obtain ⟨C1, c1, c2, c3⟩ := sub_merge H (P := P) (A := A1) (B := B1) (Q := A2 ++ (B2 ++ Q)) (a := a) (s := s) (e := mid) ha (by omega) (by omega) hAp.1 hBp.1 ok2 k1
  have lc := c1.length_eq
  rw [List.length_append] at lc
  have ok3 : OkL ((P ++ C1) ++ (A2 ++ (B2 ++ Q))) := ok2.perm (by
    rw [List.append_assoc]
    refine List.Perm.append_left P ?_
    rw [← List.append_assoc A1]
    exact List.Perm.append_right _ c1)
  obtain ⟨C2, d1, d2, d3⟩ := sub_merge H (P := P ++ C1) (A := A2) (B := B2) (Q := Q) (a := mid) (s := e) (e := b) (by simp; omega) (by simp; omega) (by simp; omega) hAp.2.1 hBp.2.1 ok3 k2
  refine ⟨C1 ++ C2, ?_, ?_, fun r0 hr => ?_⟩
  · refine (List.Perm.append c1 d1).trans ?_
    rw [List.append_assoc, List.append_assoc]
    refine List.Perm.append_left A1 ?_
    rw [← List.append_assoc, ← List.append_assoc A2]
    exact List.Perm.append_right _ List.perm_append_comm
  · rw [Srt, List.pairwise_append]
    refine ⟨c2, d2, fun u hu v hv => ?_⟩
    have hu := c1.mem_iff.1 hu
    have hv := d1.mem_iff.1 hv
    rcases List.mem_append.1 hu with hu | hu <;> rcases List.mem_append.1 hv with hv | hv
    · exact hAp.2.2 u hu v hv
    · exact x1 u hu v hv
    · exact x2 u hu v hv
    · exact hBp.2.2 u hu v hv
  · unfold sTail
    rw [step1, Option.bind_some, c3 r0 hr, Option.bind_some]
    have := d3 r0 hr
    rw [List.append_assoc] at this
    rw [this]
    simp

theorem sym_gen {R : SymR → Prop} {k : Nat} (H : SymOk R k) {A B P Q : List PV} {a m b : Nat} (ha : a = P.length) (hm : m = P.length + A.length) (hb : b = m + B.length) (hA2 : 2 ≤ A.length) (hB2 : 2 ≤ B.length) (hk : A.length + B.length ≤ k + 1) (hA : Srt A) (hB : Srt B) (ok : OkL (P ++ (A ++ (B ++ Q)))) :
    ∃ C, C.Perm (A ++ B) ∧ Srt C ∧ ∀ r0, R r0 → B217 0 r0 () (a : Int) (m : Int) (b : Int) () (P ++ (A ++ (B ++ Q))) = some (P ++ (C ++ Q)) := by
  have hl := ok.1
  simp only [List.length_append] at hl
  have hxa : ∀ r, r < A.length → (P ++ (A ++ (B ++ Q))).getD (a + r) .bad = A.getD r .bad := fun r hr => getD_seg (by omega) hr
  have hxb : ∀ r, r < B.length → (P ++ (A ++ (B ++ Q))).getD (m + r) .bad = B.getD r .bad := by
    intro r hr
    have := getD_seg (U := P ++ A) (B := B) (Q := Q) (r := r) (i := m + r) (d := .bad) (by simp; omega) hr
    simpa using this
  have hlx : (P ++ (A ++ (B ++ Q))).length = P.length + (A.length + (B.length + Q.length)) := by simp
  -- what the search gives
  have key : ∀ (lo0 hi0 : Nat), lo0 ≤ hi0 → hi0 ≤ m → hi0 ≤ (a + b) / 2 → a ≤ lo0 → (a + b) / 2 + m ≤ lo0 + b → (∀ s, lo0 ≤ s → s ≤ hi0 → (a < s → (a + b) / 2 + m - s < b → lo0 < s) ∧ (s < m → s < (a + b) / 2 → s < hi0)) →
      ∃ s, ∃ C, C.Perm (A ++ B) ∧ Srt C ∧ a ≤ s ∧ s ≤ m ∧ s ≤ (a + b) / 2 + m ∧
        (∀ r0, loopW (B217_34step 0 r0) ((), (a : Int), (m : Int), (b : Int), (), (((a + b) / 2 : Nat) : Int), (((a + b) / 2 + m : Nat) : Int), (lo0 : Int), (hi0 : Int), (((a + b) / 2 + m - 1 : Nat) : Int), P ++ (A ++ (B ++ Q))) = some ((), (a : Int), (m : Int), (b : Int), (), (((a + b) / 2 : Nat) : Int), (((a + b) / 2 + m : Nat) : Int), ((s : Nat) : Int), P ++ (A ++ (B ++ Q)))) ∧
        ∀ r0, R r0 → sTail r0 (a : Int) (m : Int) (b : Int) (((a + b) / 2 : Nat) : Int) (s : Int) (((a + b) / 2 + m - s : Nat) : Int) (P ++ (A ++ (B ++ Q))) = some (P ++ (C ++ Q)) := by
    intro lo0 hi0 g1 g2 g3 g4 g5 g6
    obtain ⟨s, h1, h2, h3, h4, h5⟩ := find34 (r0 := noR) (a := a) (m := m) (b := b) (mid := (a + b) / 2) (n := (a + b) / 2 + m) (lo0 := lo0) (hi0 := hi0) (p := (a + b) / 2 + m - 1) ok (by omega) (fun h k1 k2 => ⟨by omega, by omega⟩) (by omega) g1
    obtain ⟨g7, g8⟩ := g6 s h2 h3
    have eA : A.take (s - a) ++ A.drop (s - a) = A := List.take_append_drop _ _
    have eB : B.take ((a + b) / 2 - s) ++ B.drop ((a + b) / 2 - s) = B := List.take_append_drop _ _
    have lA : (A.take (s - a)).length = s - a := by rw [List.length_take]; omega
    have lA2 : (A.drop (s - a)).length = m - s := by rw [List.length_drop]; omega
    have lB : (B.take ((a + b) / 2 - s)).length = (a + b) / 2 - s := by rw [List.length_take]; omega
    have lB2 : (B.drop ((a + b) / 2 - s)).length = b - ((a + b) / 2 + m - s) := by rw [List.length_drop]; omega
    have x1 : ∀ u, u ∈ A.take (s - a) → ∀ v, v ∈ B.drop ((a + b) / 2 - s) → leC u v := by
      intro u hu v hv
      have hu0 : 0 < s - a := by
        rcases Nat.eq_zero_or_pos (s - a) with h | h
        · rw [h] at hu; simp at hu
        · exact h
      have hv0 : (a + b) / 2 - s < B.length := by
        rcases Nat.lt_or_ge ((a + b) / 2 - s) B.length with h | h
        · exact h
        · rw [List.drop_eq_nil_of_le h] at hv; cases hv
      have hq := h4 (g7 (by omega) (by omega))
      rw [show (a + b) / 2 + m - 1 - (s - 1) = m + ((a + b) / 2 - s) by omega, show s - 1 = a + (s - a - 1) by omega, hxa _ (by omega), hxb _ hv0] at hq
      exact leC_trans (srt_take hA hu0 (by omega) hu) (leC_trans (leC_of_not hq) (srt_drop hB hv0 hv))
    have x2 : ∀ u, u ∈ B.take ((a + b) / 2 - s) → ∀ v, v ∈ A.drop (s - a) → leC u v := by
      intro u hu v hv
      have hu0 : 0 < (a + b) / 2 - s := by
        rcases Nat.eq_zero_or_pos ((a + b) / 2 - s) with h | h
        · rw [h] at hu; simp at hu
        · exact h
      have hv0 : s - a < A.length := by
        rcases Nat.lt_or_ge (s - a) A.length with h | h
        · exact h
        · rw [List.drop_eq_nil_of_le h] at hv; cases hv
      have hq := h5 (g8 (by omega) (by omega))
      have e1 : (P ++ (A ++ (B ++ Q))).getD ((a + b) / 2 + m - 1 - s) .bad = B.getD ((a + b) / 2 - s - 1) .bad := by
        rw [show (a + b) / 2 + m - 1 - s = m + ((a + b) / 2 - s - 1) by omega]; exact hxb _ (by omega)
      have e2 : (P ++ (A ++ (B ++ Q))).getD s .bad = A.getD (s - a) .bad := by
        have := hxa (s - a) hv0
        rw [show a + (s - a) = s by omega] at this
        exact this
      rw [e1, e2] at hq
      exact leC_trans (srt_take hB hu0 (by omega) hu) (leC_trans (by unfold leC; omega) (srt_drop hA hv0 hv))
    obtain ⟨C, c1, c2, c3⟩ := sym_tail H (P := P) (A1 := A.take (s - a)) (A2 := A.drop (s - a)) (B1 := B.take ((a + b) / 2 - s)) (B2 := B.drop ((a + b) / 2 - s)) (Q := Q) (a := a) (s := s) (m := m) (mid := (a + b) / 2) (e := (a + b) / 2 + m - s) (b := b)
      ha (by omega) (by omega) (by omega) (by omega) (by omega) (by rw [eA]; exact hA) (by rw [eB]; exact hB) x1 x2 (by omega) (by omega) (by
        rw [← List.append_assoc (B.take _), eB, ← List.append_assoc (A.take _), eA]; exact ok)
    rw [eA, eB] at c1
    rw [← List.append_assoc (B.take _), eB, ← List.append_assoc (A.take _), eA] at c3
    exact ⟨s, C, c1, c2, by omega, by omega, by omega, fun r0 => h1, c3⟩
  have hmid : IntKind.wrap .i64 ((((a + b) / 2 : Nat) : Int) + (m : Int)) = (((a + b) / 2 + m : Nat) : Int) := waddN (by omega)
  have fin : ∀ (r0 : SymR) (s : Nat) (lo0 hi0 : Int) (y : List PV), s ≤ (a + b) / 2 + m → loopQ 0 (B217_34step 0 r0) ((), (a : Int), (m : Int), (b : Int), (), (((a + b) / 2 : Nat) : Int), (((a + b) / 2 + m : Nat) : Int), lo0, hi0, (((a + b) / 2 + m - 1 : Nat) : Int), P ++ (A ++ (B ++ Q))) = some ((), (a : Int), (m : Int), (b : Int), (), (((a + b) / 2 : Nat) : Int), (((a + b) / 2 + m : Nat) : Int), ((s : Nat) : Int), P ++ (A ++ (B ++ Q))) →
      sTail r0 (a : Int) (m : Int) (b : Int) (((a + b) / 2 : Nat) : Int) (s : Int) (((a + b) / 2 + m - s : Nat) : Int) (P ++ (A ++ (B ++ Q))) = some y →
      (lo0 = (((a + b) / 2 + m - b : Nat) : Int) ∧ hi0 = (((a + b) / 2 : Nat) : Int) ∧ (a + b) / 2 < m ∨ lo0 = (a : Int) ∧ hi0 = (m : Int) ∧ ¬ (a + b) / 2 < m) →
      B217 0 r0 () (a : Int) (m : Int) (b : Int) () (P ++ (A ++ (B ++ Q))) = some y := by
    intro r0 s lo0 hi0 y hs h1 h2 hc
    have w1 : IntKind.wrap .i64 ((((a + b) / 2 + m : Nat) : Int) - 1) = (((a + b) / 2 + m - 1 : Nat) : Int) := wsub1 (by omega) (by omega)
    have w2 : IntKind.wrap .i64 ((((a + b) / 2 + m : Nat) : Int) - (s : Int)) = (((a + b) / 2 + m - s : Nat) : Int) := wsubN hs (by omega)
    unfold B217
    rw [wsubN (show a ≤ m by omega) (by omega), notOne (show m - a ≠ 1 by omega), cond_false, wsubN (show m ≤ b by omega) (by omega), notOne (show b - m ≠ 1 by omega), cond_false]
    simp only [half (show a + b ≤ 4611686018427387904 by omega), hmid, w1]
    rw [← h2]
    unfold sTail
    rcases hc with ⟨rfl, rfl, hlt⟩ | ⟨rfl, rfl, hlt⟩
    · have hd : decide ((m : Int) > (((a + b) / 2 : Nat) : Int)) = true := decide_eq_true (by omega)
      have w3 : IntKind.wrap .i64 ((((a + b) / 2 + m : Nat) : Int) - (b : Int)) = (((a + b) / 2 + m - b : Nat) : Int) := wsubN (by omega) (by omega)
      rw [hd, cond_true, w3, h1]
      simp only [Option.bind_some, w2]
      generalize (bif decide ((s : Int) < (m : Int)) then decide ((m : Int) < (((a + b) / 2 + m - s : Nat) : Int)) else false) = c1
      generalize (bif decide ((a : Int) < (s : Int)) then decide ((s : Int) < (((a + b) / 2 : Nat) : Int)) else false) = c2
      generalize (bif decide ((((a + b) / 2 : Nat) : Int) < (((a + b) / 2 + m - s : Nat) : Int)) then decide ((((a + b) / 2 + m - s : Nat) : Int) < (b : Int)) else false) = c3
      cases c1 <;> cases c2 <;> cases c3 <;> simp
    · have hd : decide ((m : Int) > (((a + b) / 2 : Nat) : Int)) = false := decide_eq_false (by omega)
      rw [hd, cond_false, h1]
      simp only [Option.bind_some, w2]
      generalize (bif decide ((s : Int) < (m : Int)) then decide ((m : Int) < (((a + b) / 2 + m - s : Nat) : Int)) else false) = c1
      generalize (bif decide ((a : Int) < (s : Int)) then decide ((s : Int) < (((a + b) / 2 : Nat) : Int)) else false) = c2
      generalize (bif decide ((((a + b) / 2 : Nat) : Int) < (((a + b) / 2 + m - s : Nat) : Int)) then decide ((((a + b) / 2 + m - s : Nat) : Int) < (b : Int)) else false) = c3
      cases c1 <;> cases c2 <;> cases c3 <;> simp
  by_cases hlt : (a + b) / 2 < m
  · obtain ⟨s, C, c1, c2, c3, c4, c5, c6, c7⟩ := key ((a + b) / 2 + m - b) ((a + b) / 2) (by omega) (by omega) (Nat.le_refl _) (by omega) (by omega) (fun s h1 h2 => ⟨fun h3 h4 => by omega, fun h3 h4 => h4⟩)
    exact ⟨C, c1, c2, fun r0 hr => fin r0 s _ _ _ c5 (c6 r0) (c7 r0 hr) (Or.inl ⟨rfl, rfl, hlt⟩)⟩
  · obtain ⟨s, C, c1, c2, c3, c4, c5, c6, c7⟩ := key a m (by omega) (Nat.le_refl _) (by omega) (Nat.le_refl _) (by omega) (fun s h1 h2 => ⟨fun h3 h4 => h3, fun h3 h4 => h3⟩)
    exact ⟨C, c1, c2, fun r0 hr => fin r0 s _ _ _ c5 (c6 r0) (c7 r0 hr) (Or.inr ⟨rfl, rfl, hlt⟩)⟩

theorem sym_all : ∀ (k : Nat), SymOk (fun r => ∃ d, k ≤ d ∧ r = G217 0 d) k := by
  intro k
  induction k with
  | zero =>
    intro P A B Q hA hB hk
    cases A with
    | nil => exact absurd rfl hA
    | cons => simp at hk
  | succ k ih =>
    intro P A B Q hA hB hk sA sB ok
    have hA0 : 0 < A.length := List.length_pos_iff.2 hA
    have hB0 : 0 < B.length := List.length_pos_iff.2 hB
    have fin : ∀ C, (∀ r0, (∃ d, k ≤ d ∧ r0 = G217 0 d) → B217 0 r0 () ((P.length : Nat) : Int) ((P.length + A.length : Nat) : Int) ((P.length + A.length + B.length : Nat) : Int) () (P ++ (A ++ (B ++ Q))) = some (P ++ (C ++ Q))) →
        ∀ r0, (∃ d, k + 1 ≤ d ∧ r0 = G217 0 d) → r0 ((), ((P.length : Nat) : Int), ((P.length + A.length : Nat) : Int), ((P.length + A.length + B.length : Nat) : Int), (), P ++ (A ++ (B ++ Q))) = some (P ++ (C ++ Q)) := by
      rintro C h r0 ⟨d, hd, rfl⟩
      obtain ⟨d', rfl⟩ : ∃ d', d = d' + 1 := ⟨d - 1, by omega⟩
      exact h _ ⟨d', by omega, rfl⟩
    by_cases h1 : A.length = 1
    · obtain ⟨x, rfl⟩ := List.length_eq_one_iff.1 h1
      obtain ⟨C, c1, c2, c3⟩ := sym_left (x := x) (B := B) (P := P) (Q := Q) (a := P.length) (m := P.length + 1) (b := P.length + 1 + B.length) rfl rfl rfl sB ok
      exact ⟨C, c1, c2, fin C fun r0 _ => c3 r0⟩
    · by_cases h2 : B.length = 1
      · obtain ⟨y, rfl⟩ := List.length_eq_one_iff.1 h2
        obtain ⟨C, c1, c2, c3⟩ := sym_right (y := y) (A := A) (P := P) (Q := Q) (a := P.length) (m := P.length + A.length) (b := P.length + A.length + 1) rfl rfl rfl h1 sA ok
        exact ⟨C, c1, c2, fin C fun r0 _ => c3 r0⟩
      · obtain ⟨C, c1, c2, c3⟩ := sym_gen ih (A := A) (B := B) (P := P) (Q := Q) rfl rfl rfl (by omega) (by omega) hk sA sB ok
        exact ⟨C, c1, c2, fin C c3⟩
theorem sym_merge {P A B Q : List PV} {a m b : Nat} (ha : a = P.length) (hm : m = P.length + A.length) (hb : b = m + B.length) (hA : A ≠ []) (hB : B ≠ []) (sA : Srt A) (sB : Srt B) (ok : OkL (P ++ (A ++ (B ++ Q)))) :
    ∃ C, C.Perm (A ++ B) ∧ Srt C ∧ F217 0 () (a : Int) (m : Int) (b : Int) () (P ++ (A ++ (B ++ Q))) = some (P ++ (C ++ Q)) := by
  subst ha; subst hm; subst hb
  obtain ⟨C, c1, c2, c3⟩ := sym_all (A.length + B.length) P A B Q hA hB (Nat.le_refl _) sA sB ok
  exact ⟨C, c1, c2, limQ_intro (A.length + B.length) fun n hn => c3 _ ⟨n, hn, rfl⟩⟩
end Go.Ab
namespace Go.Ab
open Go
set_option maxRecDepth 100000

/-- Rows of s elements each, each in order. -/
inductive Ch (s : Nat) : List PV → Prop
  | last {S : List PV} : S.length ≤ s → Srt S → Ch s S
  | cons {S R : List PV} : S.length = s → Srt S → Ch s R → Ch s (S ++ R)
theorem Ch.split {s : Nat} {R : List PV} (h : Ch s R) (hs : s ≤ R.length) : ∃ S R2, R = S ++ R2 ∧ S.length = s ∧ Srt S ∧ Ch s R2 := by
  cases h with
  | last h1 h2 => exact ⟨R, [], by simp, by omega, h2, .last (by simp) List.Pairwise.nil⟩
  | cons h1 h2 h3 => exact ⟨_, _, rfl, h1, h2, h3⟩
theorem Ch.srt {s : Nat} {R : List PV} (h : Ch s R) (hs : R.length ≤ s) : Srt R := by
  cases h with
  | last h1 h2 => exact h2
  | cons h1 h2 h3 =>
    rename_i S R
    have : R = [] := List.length_eq_zero_iff.1 (by simp at hs; omega)
    subst this
    simpa using h2
theorem OkL.mid {D S S' Q : List PV} (ok : OkL (D ++ (S ++ Q))) (p : S'.Perm S) : OkL ((D ++ S') ++ Q) := ok.perm (by
  rw [List.append_assoc]
  exact List.Perm.append_left D (List.Perm.append_right Q p))

theorem ph1 {n : Nat} : ∀ (k : Nat) (R D : List PV), R.length ≤ k → OkL (D ++ R) → n = D.length + R.length →
    ∃ (a : Nat) (xs : List PV) (R' : List PV), loopW (S158_3step 0) ((), (n : Int), (), (20 : Int), ((D.length : Nat) : Int), ((D.length + 20 : Nat) : Int), D ++ R) = some ((), (n : Int), (), (20 : Int), (a : Int), xs) ∧
      R'.Perm R ∧ Ch 20 R' ∧ F216 0 () (a : Int) (n : Int) () xs = some (D ++ R') := by
  intro k
  induction k with
  | zero =>
    intro R D hk ok hn
    have : R = [] := List.length_eq_zero_iff.1 (by omega)
    subst this
    have hd : decide (((D.length + 20 : Nat) : Int) ≤ (n : Int)) = false := decide_eq_false (by simp at hn; omega)
    obtain ⟨S', s1, s2, s3⟩ := ins_sort (a := D.length) (b := n) (U := D) (S := []) (Q := []) rfl hn (by simpa using ok)
    have : S' = [] := s1.eq_nil
    subst this
    refine ⟨D.length, D ++ [], [], loopW_end ?_, List.Perm.refl _, .last (by simp) List.Pairwise.nil, by simpa using s3⟩
    simp only [S158_3step, S158_3, hd, cond_false]
  | succ k ih =>
    intro R D hk ok hn
    have hl := ok.1
    simp only [List.length_append] at hl
    by_cases h20 : 20 ≤ R.length
    · have eR : R = R.take 20 ++ R.drop 20 := (List.take_append_drop _ _).symm
      generalize hS : R.take 20 = S at eR
      generalize hT : R.drop 20 = T at eR
      have lS : S.length = 20 := by rw [← hS, List.length_take]; omega
      subst eR
      obtain ⟨S', s1, s2, s3⟩ := ins_sort (a := D.length) (b := D.length + 20) (U := D) (S := S) (Q := T) rfl (by omega) ok
      have lS' : S'.length = 20 := by rw [s1.length_eq, lS]
      obtain ⟨a, xs, R', r1, r2, r3, r4⟩ := ih T (D ++ S') (by simp at hk; omega) (ok.mid s1) (by simp at hn ⊢; omega)
      refine ⟨a, xs, S' ++ R', ?_, List.Perm.append s1 r2, .cons lS' s2 r3, by rw [r4]; simp⟩
      have hd : decide (((D.length + 20 : Nat) : Int) ≤ (n : Int)) = true := decide_eq_true (by simp at hn; omega)
      rw [loopW_go (x1 := ((), (n : Int), (), (20 : Int), (((D ++ S').length : Nat) : Int), (((D ++ S').length + 20 : Nat) : Int), (D ++ S') ++ T))]
      · exact r1
      · have w : IntKind.wrap .i64 (((D.length + 20 : Nat) : Int) + (20 : Int)) = (((D ++ S').length + 20 : Nat) : Int) := by
          have := waddN (a := D.length + 20) (i := 20) (by omega)
          rw [List.length_append, lS']
          exact this
        simp only [S158_3step, S158_3, hd, cond_true, s3, Option.bind_some, w]
        rw [List.length_append, lS', List.append_assoc]
    · have hd : decide (((D.length + 20 : Nat) : Int) ≤ (n : Int)) = false := decide_eq_false (by omega)
      obtain ⟨S', s1, s2, s3⟩ := ins_sort (a := D.length) (b := n) (U := D) (S := R) (Q := []) rfl hn (by simpa using ok)
      refine ⟨D.length, D ++ R, S', loopW_end ?_, s1, .last (by rw [s1.length_eq]; omega) s2, by simpa using s3⟩
      simp only [S158_3step, S158_3, hd, cond_false]

theorem ph2 {n s : Nat} (hs : 1 ≤ s) (hs2 : s ≤ 1048576) : ∀ (k : Nat) (R D : List PV), R.length ≤ k → Ch s R → OkL (D ++ R) → n = D.length + R.length →
    ∃ (a : Nat) (xs : List PV) (R' : List PV), loopW (S158_10step 0) ((), (n : Int), (), (s : Int), ((D.length : Nat) : Int), ((D.length + 2 * s : Nat) : Int), D ++ R) = some ((), (n : Int), (), (s : Int), (a : Int), xs) ∧ a ≤ n ∧
      R'.Perm R ∧ Ch (2 * s) R' ∧ (bif decide (((a + s : Nat) : Int) < (n : Int)) then F217 0 () (a : Int) ((a + s : Nat) : Int) (n : Int) () xs else some xs) = some (D ++ R') := by
  intro k
  induction k with
  | zero =>
    intro R D hk hc ok hn
    have : R = [] := List.length_eq_zero_iff.1 (by omega)
    subst this
    simp only [List.length_nil, Nat.add_zero] at hn
    have hd : decide (((D.length + 2 * s : Nat) : Int) ≤ (n : Int)) = false := decide_eq_false (by omega)
    have hd2 : decide (((D.length + s : Nat) : Int) < (n : Int)) = false := decide_eq_false (by omega)
    refine ⟨D.length, D ++ [], [], loopW_end ?_, by omega, List.Perm.refl _, .last (by simp) List.Pairwise.nil, by rw [hd2]; rfl⟩
    simp only [S158_10step, S158_10, hd, cond_false]
  | succ k ih =>
    intro R D hk hc ok hn
    have hl := ok.1
    simp only [List.length_append] at hl
    by_cases h2 : 2 * s ≤ R.length
    · obtain ⟨S1, R1, rfl, l1, o1, c1⟩ := hc.split (by omega)
      simp only [List.length_append] at h2 hl hk hn
      obtain ⟨S2, R2, rfl, l2, o2, c2⟩ := c1.split (by omega)
      simp only [List.length_append] at h2 hl hk hn
      obtain ⟨C, e1, e2, e3⟩ := sym_merge (a := D.length) (m := D.length + s) (b := D.length + 2 * s) (P := D) (A := S1) (B := S2) (Q := R2) rfl (by omega) (by omega) (by intro e; subst e; simp at l1; omega) (by intro e; subst e; simp at l2; omega) o1 o2 ok
      have lC : C.length = 2 * s := by rw [e1.length_eq, List.length_append]; omega
      have ok' : OkL ((D ++ C) ++ R2) := ok.perm (by
        rw [List.append_assoc]
        refine List.Perm.append_left D ?_
        rw [← List.append_assoc S1]
        exact List.Perm.append_right R2 e1)
      obtain ⟨a, xs, R', r1, r0, r2, r3, r4⟩ := ih R2 (D ++ C) (by omega) c2 ok' (by rw [List.length_append]; omega)
      refine ⟨a, xs, C ++ R', ?_, r0, ?_, .cons lC e2 r3, by rw [r4]; simp⟩
      · have hd : decide (((D.length + 2 * s : Nat) : Int) ≤ (n : Int)) = true := decide_eq_true (by omega)
        rw [loopW_go (x1 := ((), (n : Int), (), (s : Int), (((D ++ C).length : Nat) : Int), (((D ++ C).length + 2 * s : Nat) : Int), (D ++ C) ++ R2))]
        · exact r1
        · have w1 : IntKind.wrap .i64 ((D.length : Int) + (s : Int)) = ((D.length + s : Nat) : Int) := waddN (by omega)
          have w2 : IntKind.wrap .i64 ((2 : Int) * (s : Int)) = ((2 * s : Nat) : Int) := by rw [show (2 : Int) * (s : Int) = ((2 * s : Nat) : Int) by omega]; exact wrap64_nat (by omega)
          have w3 : IntKind.wrap .i64 (((D.length + 2 * s : Nat) : Int) + ((2 * s : Nat) : Int)) = ((D.length + 2 * s + 2 * s : Nat) : Int) := waddN (by omega)
          simp only [S158_10step, S158_10, hd, cond_true, w1, e3, Option.bind_some, w2, w3]
          rw [List.length_append, lC, List.append_assoc]
      · refine (List.Perm.append e1 r2).trans ?_
        rw [List.append_assoc]
    · have hd : decide (((D.length + 2 * s : Nat) : Int) ≤ (n : Int)) = false := decide_eq_false (by omega)
      have hex : S158_10step 0 ((), (n : Int), (), (s : Int), ((D.length : Nat) : Int), ((D.length + 2 * s : Nat) : Int), D ++ R) = some (.inr ((), (n : Int), (), (s : Int), ((D.length : Nat) : Int), D ++ R)) := by
        simp only [S158_10step, S158_10, hd, cond_false]
      by_cases h1 : s < R.length
      · have hd2 : decide (((D.length + s : Nat) : Int) < (n : Int)) = true := decide_eq_true (by omega)
        obtain ⟨S1, R1, rfl, l1, o1, c1⟩ := hc.split (by omega)
        simp only [List.length_append] at h2 hl hk hn h1
        obtain ⟨C, e1, e2, e3⟩ := sym_merge (a := D.length) (m := D.length + s) (b := n) (P := D) (A := S1) (B := R1) (Q := []) rfl (by omega) (by omega) (by intro e; subst e; simp at l1; omega) (by intro e; subst e; simp at h1; omega) o1 (c1.srt (by omega)) (by simpa using ok)
        refine ⟨D.length, _, C, loopW_end hex, by omega, e1, .last (by rw [e1.length_eq, List.length_append]; omega) e2, ?_⟩
        rw [hd2]
        simpa using e3
      · have hd2 : decide (((D.length + s : Nat) : Int) < (n : Int)) = false := decide_eq_false (by omega)
        refine ⟨D.length, _, R, loopW_end hex, by omega, List.Perm.refl _, .last (by omega) (hc.srt (by omega)), ?_⟩
        rw [hd2]
        rfl

theorem ph3 {n : Nat} : ∀ (k s : Nat) (xs : List PV), n ≤ s + k → 1 ≤ s → s ≤ 4194304 → Ch s xs → OkL xs → n = xs.length →
    ∃ ys : List PV, loopW (S158_8step 0) ((), (n : Int), (), (s : Int), xs) = some ys ∧ ys.Perm xs ∧ Srt ys := by
  intro k
  induction k with
  | zero =>
    intro s xs hk hs hs2 hc ok hn
    have hd : decide ((s : Int) < (n : Int)) = false := decide_eq_false (by omega)
    refine ⟨xs, loopW_end ?_, List.Perm.refl _, hc.srt (by omega)⟩
    simp only [S158_8step, S158_8, hd, cond_false]
  | succ k ih =>
    intro s xs hk hs hs2 hc ok hn
    have hl := ok.1
    by_cases hlt : s < n
    · have hd : decide ((s : Int) < (n : Int)) = true := decide_eq_true (by omega)
      obtain ⟨a, zs, R', r1, r0, r2, r3, r4⟩ := ph2 (n := n) hs (by omega) xs.length xs [] (Nat.le_refl _) hc (by simpa using ok) (by simpa using hn)
      obtain ⟨ys, q1, q2, q3⟩ := ih (2 * s) R' (by omega) (by omega) (by omega) r3 (ok.perm r2) (by rw [r2.length_eq]; exact hn)
      refine ⟨ys, ?_, q2.trans r2, q3⟩
      have w1 : IntKind.wrap .i64 ((2 : Int) * (s : Int)) = ((2 * s : Nat) : Int) := by rw [show (2 : Int) * (s : Int) = ((2 * s : Nat) : Int) by omega]; exact wrap64_nat (by omega)
      have w2 : IntKind.wrap .i64 ((a : Int) + (s : Int)) = ((a + s : Nat) : Int) := waddN (by omega)
      have w3 : IntKind.wrap .i64 ((s : Int) * (2 : Int)) = ((2 * s : Nat) : Int) := by rw [show (s : Int) * (2 : Int) = ((2 * s : Nat) : Int) by omega]; exact wrap64_nat (by omega)
      have r1' : loopQ 0 (S158_10step 0) ((), (n : Int), (), (s : Int), (0 : Int), ((2 * s : Nat) : Int), xs) = some ((), (n : Int), (), (s : Int), (a : Int), zs) := by
        have e : (([] : List PV).length + 2 * s) = 2 * s := by simp
        rw [e] at r1
        exact r1
      rw [loopW_go (x1 := ((), (n : Int), (), ((2 * s : Nat) : Int), R'))]
      · exact q1
      · simp only [S158_8step, S158_8, hd, cond_true, w1, r1', Option.bind_some, w2, w3]
        cases hb : decide (((a + s : Nat) : Int) < (n : Int)) with
        | true =>
          rw [hb] at r4
          simp only [cond_true] at r4 ⊢
          rw [r4]; rfl
        | false =>
          rw [hb] at r4
          simp only [cond_false, Option.some.injEq] at r4 ⊢
          rw [r4]; rfl
    · have hd : decide ((s : Int) < (n : Int)) = false := decide_eq_false (by omega)
      refine ⟨xs, loopW_end ?_, List.Perm.refl _, hc.srt (by omega)⟩
      simp only [S158_8step, S158_8, hd, cond_false]

theorem sort_eq {xs : List PV} (ok : OkL xs) : ∃ ys : List PV, F92 0 () () xs = some ys ∧ ys.Perm xs ∧ Srt ys := by
  have hl := ok.1
  obtain ⟨a, zs, R', r1, r2, r3, r4⟩ := ph1 (n := xs.length) xs.length xs [] (Nat.le_refl _) (by simpa using ok) (by simp)
  obtain ⟨ys, q1, q2, q3⟩ := ph3 (n := xs.length) xs.length 20 R' (by omega) (by omega) (by omega) r3 (ok.perm r2) r2.length_eq.symm
  refine ⟨ys, ?_, q2.trans r2, q3⟩
  unfold F92 F158
  have r1' : loopQ 0 (S158_3step 0) ((), (xs.length : Int), (), (20 : Int), (0 : Int), (20 : Int), xs) = some ((), (xs.length : Int), (), (20 : Int), (a : Int), zs) := r1
  have r4' : F216 0 () (a : Int) (xs.length : Int) () zs = some R' := r4
  have q1' : loopQ 0 (S158_8step 0) ((), (xs.length : Int), (), (20 : Int), R') = some ys := q1
  rw [r1']
  simp only [Option.bind_some, r4', q1']
end Go.Ab
namespace Go.Ab
open Go
set_option maxRecDepth 100000

theorem loopW_fold {σ τ α β : Type} {step : σ → Option (σ ⊕ τ)} (st : Nat → β → σ) (xs : List α) (f : β → α → β) (out : β → τ) (Inv : Nat → β → Prop)
    (hgo : ∀ i acc (h : i < xs.length), Inv i acc → step (st i acc) = some (.inl (st (i + 1) (f acc xs[i]))) ∧ Inv (i + 1) (f acc xs[i])) (hend : ∀ acc, Inv xs.length acc → step (st xs.length acc) = some (.inr (out acc))) :
    ∀ k i acc, i + k = xs.length → Inv i acc → loopW step (st i acc) = some (out ((xs.drop i).foldl f acc)) ∧ Inv xs.length ((xs.drop i).foldl f acc) := by
  intro k
  induction k with
  | zero =>
    intro i acc hi hI
    have : i = xs.length := by omega
    subst this
    rw [List.drop_length]
    exact ⟨loopW_end (hend acc hI), hI⟩
  | succ k ih =>
    intro i acc hi hI
    have h : i < xs.length := by omega
    obtain ⟨h1, h2⟩ := hgo i acc h hI
    rw [loopW_go h1, List.drop_eq_getElem_cons h]
    exact ih (i + 1) _ (by omega) h2
theorem foldl_map {α β : Type} (g : α → β) : ∀ (l : List α) (acc : List β), l.foldl (fun a x => a ++ [g x]) acc = acc ++ l.map g := by
  intro l
  induction l with
  | nil => intro acc; simp
  | cons x l ih => intro acc; rw [List.foldl_cons, ih]; simp

/- Turned. -/
theorem someC {α : Type} {b : Bool} {x y : Option α} (h1 : x.isSome = true) (h2 : y.isSome = true) : (bif b then x else y).isSome = true := by cases b <;> assumption
def trn (k : Int) : Int := (F48 0 k).getD 0
theorem rturned_eq (k : Int) : F48 0 k = some (trn k) := by
  have hs : (F48 0 k).isSome = true := by
    unfold F48
    repeat' (first | rfl | refine someC ?_ ?_)
  obtain ⟨t, h⟩ := Option.isSome_iff_exists.1 hs
  rw [trn, h]; rfl
theorem turned_eq (k : Int) : F47 0 k = some (trn k) := by
  rw [← rturned_eq]
  unfold F47 F48
  by_cases h1 : k = 1
  · subst h1; rfl
  by_cases h2 : k = 3
  · subst h2; rfl
  by_cases h3 : k = 11
  · subst h3; rfl
  by_cases h4 : k = 14
  · subst h4; rfl
  by_cases h5 : k = 17
  · subst h5; rfl
  by_cases h6 : k = 19
  · subst h6; rfl
  by_cases h7 : k = 2
  · subst h7; rfl
  by_cases h8 : k = 4
  · subst h8; rfl
  by_cases h9 : k = 12
  · subst h9; rfl
  by_cases h10 : k = 15
  · subst h10; rfl
  by_cases h11 : k = 18
  · subst h11; rfl
  by_cases h12 : k = 20
  · subst h12; rfl
  have e : ∀ c : Int, k ≠ c → (k == c) = false := fun c h => by simpa using h
  rw [e 1 h1, e 3 h2, e 11 h3, e 14 h4, e 17 h5, e 19 h6, e 2 h7, e 4 h8, e 12 h9, e 15 h10, e 18 h11, e 20 h12]
  try rfl
def turnPV (x : PV) : PV := .agg [.int (trn (chK x)), .str (chD x), .int (chN x), .str (chW x), .str (chO x)]
theorem turn_same {x y : PV} (h : chSame (turnPV x) (turnPV y) = true) : turnPV x = turnPV y := by
  simp only [chSame, Bool.and_eq_true, beq_iff_eq] at h
  obtain ⟨⟨⟨⟨h1, h2⟩, h3⟩, h4⟩, h5⟩ := h
  have e1 : trn (chK x) = trn (chK y) := h1
  have e2 : chD x = chD y := h2
  have e3 : chN x = chN y := h3
  have e4 : chW x = chW y := h4
  have e5 : chO x = chO y := h5
  simp only [turnPV, e1, e2, e3, e4, e5]
theorem leC_both {x y : PV} (h1 : leC x y) (h2 : leC y x) : chSame x y = true := by
  have := Lin.cmpC.anti x y
  unfold leC at h1 h2
  exact (cmpC_zero x y).1 (by omega)
theorem srt_unique {l xs ys : List PV} (hx : xs.Perm (l.map turnPV)) (hy : ys.Perm (l.map turnPV)) (sx : Srt xs) (sy : Srt ys) : xs = ys := by
  refine List.Perm.eq_of_pairwise (le := leC) (fun a b ha hb h1 h2 => ?_) sx sy (hx.trans hy.symm)
  obtain ⟨u, _, rfl⟩ := List.mem_map.1 (hx.mem_iff.1 ha)
  obtain ⟨v, _, rfl⟩ := List.mem_map.1 (hy.mem_iff.1 hb)
  exact turn_same (leC_both h1 h2)

/-- A list that is small enough. -/
structure Sm (xs : List PV) : Prop where
  len : xs.length ≤ 200
  str : ∀ x, x ∈ xs → (chD x).length ≤ 500 ∧ (chO x).length ≤ 500 ∧ (chW x).length ≤ 500
theorem Sm.turn {xs ys : List PV} (h : Sm xs) (p : ys.Perm (xs.map turnPV)) : OkL ys := by
  refine OkL.perm ⟨by rw [List.length_map]; have := h.len; omega, fun x hx => ?_⟩ p
  obtain ⟨u, hu, rfl⟩ := List.mem_map.1 hx
  have := (h.str u hu).2.2
  show (chW u).length ≤ _
  omega

theorem sorted_eq {xs : List PV} (ok : OkL xs) : ∃ ys : List PV, F39 0 xs = some ys ∧ ys.Perm xs ∧ Srt ys := by
  obtain ⟨ys, h1, h2, h3⟩ := sort_eq ok
  refine ⟨ys, ?_, h2, h3⟩
  have hl := ok.1
  have hc : F91_v2 0 xs = some ((), xs) := by
    unfold F91_v2 F91_v1
    rw [decide_eq_true (show xs.length ≤ accMax by unfold accMax; omega)]
    rfl
  unfold F39
  rw [hc]
  simp only [Option.bind_some, h1]

theorem back_eq {xs : List PV} (h : Sm xs) : ∃ ys : List PV, F16 0 xs = some ys ∧ ys.Perm (xs.map turnPV) ∧ Srt ys := by
  have hlen := h.len
  obtain ⟨h1, _⟩ := loopW_fold (step := S16_4step 0) (fun i acc => (acc, xs, (xs.length : Int), ((i : Nat) : Int))) xs (fun a x => a ++ [turnPV x]) (fun a => a) (fun i acc => acc.length = i)
    (fun i acc hi hI => by
      have hd : decide ((i : Int) < (xs.length : Int)) = true := decide_eq_true (by omega)
      have ha : decide (acc.length + [turnPV xs[i]].length ≤ accMax) = true := decide_eq_true (by simp; unfold accMax; omega)
      refine ⟨?_, by simp [hI]⟩
      simp only [S16_4step, S16_4, hd, cond_true, inRange_nat, decide_eq_true hi, Int.toNat_natCast, getD_of_lt hi, turned_eq, Option.bind_some, waddB i (by omega)]
      change (bif decide (acc.length + [turnPV xs[i]].length ≤ accMax) then _ else _) = _
      rw [ha]
      rfl)
    (fun acc _ => by
      have hd : decide (((xs.length : Nat) : Int) < (xs.length : Int)) = false := decide_eq_false (by omega)
      simp only [S16_4step, S16_4, hd, cond_false]) xs.length 0 [] (by omega) rfl
  rw [List.drop_zero, foldl_map, List.nil_append] at h1
  obtain ⟨ys, s1, s2, s3⟩ := sorted_eq (h.turn (List.Perm.refl _))
  refine ⟨ys, ?_, s2, s3⟩
  have h1' : loopQ 0 (S16_4step 0) ([], xs, (xs.length : Int), (0 : Int)) = some (xs.map turnPV) := h1
  unfold F16
  rw [h1']
  simp only [Option.bind_some, s1]

/- The specification's. -/
theorem rb_inner {xs : List PV} {n i : Int} {c : PV} (hc : (chO c).length ≤ 1048576) : ∀ (R T : List PV), OkL (R.reverse ++ T) → Srt (R.reverse ++ T) → (∀ y, y ∈ T → leC c y) →
    ∃ A1 A2, R.reverse ++ T = A1 ++ A2 ∧ (∀ y, y ∈ A1 → leC y c) ∧ (∀ y, y ∈ A2 → leC c y) ∧
      loopW (S17_8step 0) (R.reverse ++ T, (), ((R.length : Nat) : Int), xs, n, i, c) = some (R.reverse ++ T, (), ((A1.length : Nat) : Int), xs, n, i, c) := by
  intro R
  induction R with
  | nil =>
    intro T ok hs hT
    refine ⟨[], T, rfl, by simp, hT, loopW_end ?_⟩
    have hd : decide ((([] : List PV).length : Int) > (0 : Int)) = false := rfl
    simp only [S17_8step, S17_8, hd, imp_false, cond_true, cond_false, Option.bind_some]
  | cons y R ih =>
    intro T ok hs hT
    have hl := ok.1
    simp only [List.length_append, List.length_reverse, List.length_cons] at hl
    have e : (y :: R).reverse ++ T = R.reverse ++ y :: T := by simp
    have hy : ((y :: R).reverse ++ T).getD ((y :: R).length - 1) .bad = y := by rw [e]; exact getD_mid (by simp)
    have hd : decide ((((y :: R).length : Nat) : Int) > (0 : Int)) = true := decide_eq_true (by simp <;> omega)
    have hin : decide ((y :: R).length - 1 < ((y :: R).reverse ++ T).length) = true := decide_eq_true (by simp <;> omega)
    have w : IntKind.wrap .i64 ((((y :: R).length : Nat) : Int) - 1) = (((y :: R).length - 1 : Nat) : Int) := wsub1 (by simp) (by simp only [List.length_cons]; omega)
    have hyo : (chO y).length ≤ 1048576 := ok.2 y (by simp)
    have hstep : S17_8step 0 ((y :: R).reverse ++ T, (), (((y :: R).length : Nat) : Int), xs, n, i, c) = some (bif ltC c y then .inl ((y :: R).reverse ++ T, (), ((R.length : Nat) : Int), xs, n, i, c) else .inr ((y :: R).reverse ++ T, (), (((y :: R).length : Nat) : Int), xs, n, i, c)) := by
      simp only [S17_8step, S17_8, hd, w, inRange_nat, hin, imp_true, cond_true, Int.toNat_natCast, hy, rless_eq c y hc hyo, Option.bind_some]
      cases ltC c y <;> rfl
    cases hlt : ltC c y with
    | true =>
      rw [hlt] at hstep
      have hcy : leC c y := by have := of_decide_eq_true hlt; unfold leC; omega
      obtain ⟨A1, A2, q1, q2, q3, q4⟩ := ih (y :: T) (by rw [← e]; exact ok) (by rw [← e]; exact hs) (fun z hz => by
        rcases List.mem_cons.1 hz with rfl | hz
        · exact hcy
        · exact hT z hz)
      refine ⟨A1, A2, by rw [e]; exact q1, q2, q3, ?_⟩
      rw [loopW_go hstep, e]
      exact q4
    | false =>
      rw [hlt] at hstep
      refine ⟨(y :: R).reverse, T, rfl, fun z hz => ?_, hT, ?_⟩
      · have hyc : leC y c := leC_of_not (of_decide_eq_false hlt)
        rw [List.reverse_cons] at hz
        rcases List.mem_append.1 hz with hz | hz
        · rw [e, Srt, List.pairwise_append] at hs
          exact leC_trans (hs.2.2 z hz y (by simp)) hyc
        · rw [List.mem_singleton] at hz; subst hz; exact hyc
      · rw [loopW_end hstep]
        simp
theorem rback_loop {xs : List PV} (h : Sm xs) : ∀ (k i : Nat) (acc : List PV), i + k = xs.length → acc.Perm ((xs.take i).map turnPV) → Srt acc →
    ∃ zs, loopW (S17_4step 0) (acc, xs, (xs.length : Int), ((i : Nat) : Int)) = some zs ∧ zs.Perm (xs.map turnPV) ∧ Srt zs := by
  have hlen := h.len
  intro k
  induction k with
  | zero =>
    intro i acc hi hp hs
    have : i = xs.length := by omega
    subst this
    have hd : decide (((xs.length : Nat) : Int) < (xs.length : Int)) = false := decide_eq_false (by omega)
    refine ⟨acc, loopW_end ?_, by rwa [List.take_length] at hp, hs⟩
    simp only [S17_4step, S17_4, hd, cond_false]
  | succ k ih =>
    intro i acc hi hp hs
    have hix : i < xs.length := by omega
    have hd : decide ((i : Int) < (xs.length : Int)) = true := decide_eq_true (by omega)
    have hla : acc.length = i := by rw [hp.length_eq, List.length_map, List.length_take]; omega
    have oka : OkL acc := by
      refine ⟨by omega, fun x hx => ?_⟩
      obtain ⟨u, hu, rfl⟩ := List.mem_map.1 (hp.mem_iff.1 hx)
      have := (h.str u (List.mem_of_mem_take hu)).2.2
      show (chW u).length ≤ _
      omega
    have hco : (chO (turnPV xs[i])).length ≤ 1048576 := by
      have := (h.str xs[i] (List.getElem_mem hix)).2.2
      show (chW xs[i]).length ≤ _
      omega
    obtain ⟨A1, A2, q1, q2, q3, q4⟩ := rb_inner (xs := xs) (n := (xs.length : Int)) (i := ((i : Nat) : Int)) (c := turnPV xs[i]) hco acc.reverse [] (by simpa using oka) (by simpa using hs) (by simp)
    simp only [List.reverse_reverse, List.append_nil, List.length_reverse] at q1 q4
    have hl1 : A1.length ≤ acc.length := by rw [q1]; simp
    have ht : acc.take A1.length = A1 := by rw [q1]; simp
    have hdr : acc.drop A1.length = A2 := by rw [q1]; simp
    have hl2 : A1.length + A2.length = i := by rw [← hla, q1]; simp
    have psort : (A1 ++ [turnPV xs[i]] ++ A2).Perm ((xs.take (i + 1)).map turnPV) := by
      rw [List.take_succ_eq_append_getElem hix, List.map_append]
      refine List.Perm.trans ?_ (List.Perm.append_right _ hp)
      rw [q1, List.append_assoc]
      refine List.perm_middle.trans ?_
      exact (List.perm_append_comm (l₁ := [turnPV xs[i]]) (l₂ := A1 ++ A2))
    have ssort : Srt (A1 ++ [turnPV xs[i]] ++ A2) := by
      rw [q1, Srt, List.pairwise_append] at hs
      rw [List.append_assoc, Srt, List.pairwise_append]
      refine ⟨hs.1, List.pairwise_cons.2 ⟨q3, hs.2.1⟩, fun u hu v hv => ?_⟩
      rcases List.mem_cons.1 hv with rfl | hv
      · exact q2 u hu
      · exact hs.2.2 u hu v hv
    obtain ⟨zs, r1, r2, r3⟩ := ih (i + 1) _ (by omega) psort ssort
    refine ⟨zs, ?_, r2, r3⟩
    rw [loopW_go (x1 := (A1 ++ [turnPV xs[i]] ++ A2, xs, (xs.length : Int), ((i + 1 : Nat) : Int)))]
    · exact r1
    · have q4' : loopQ 0 (S17_8step 0) (acc, (), (acc.length : Int), xs, (xs.length : Int), ((i : Nat) : Int), PV.agg [PV.int (trn ((xs[i].fld 0).asInt)), PV.str ((xs[i].fld 1).asStr), PV.int ((xs[i].fld 2).asInt), PV.str ((xs[i].fld 4).asStr), PV.str ((xs[i].fld 3).asStr)]) = some (acc, (), ((A1.length : Nat) : Int), xs, (xs.length : Int), ((i : Nat) : Int), turnPV xs[i]) := q4
      have c1 : decide ((0 : Int) ≤ 0 ∧ (0 : Int) ≤ ((A1.length : Nat) : Int) ∧ ((A1.length : Nat) : Int) ≤ (acc.length : Int)) = true := decide_eq_true (by omega)
      have c2 : decide (0 ≤ ((A1.length : Nat) : Int) ∧ ((A1.length : Nat) : Int) ≤ (acc.length : Int) ∧ (acc.length : Int) ≤ (acc.length : Int)) = true := decide_eq_true (by omega)
      have c3 : decide (A1.length ≤ accMax) = true := decide_eq_true (by unfold accMax; omega)
      have c4 : decide (A1.length + [turnPV xs[i]].length ≤ accMax) = true := decide_eq_true (by simp; unfold accMax; omega)
      have c5 : decide ((A1 ++ [turnPV xs[i]]).length + A2.length ≤ accMax) = true := decide_eq_true (by simp; unfold accMax; omega)
      simp only [S17_4step, S17_4, hd, cond_true, inRange_nat, decide_eq_true hix, Int.toNat_natCast, getD_of_lt hix, rturned_eq, Option.bind_some, q4', c1, c2, ht, List.take_length, hdr, waddB i (by omega), show (0 : Int).toNat = 0 from rfl, List.drop_zero, c3, c4, c5]
theorem rback_eq {xs : List PV} (h : Sm xs) : ∃ zs : List PV, F17 0 xs = some zs ∧ zs.Perm (xs.map turnPV) ∧ Srt zs := by
  obtain ⟨zs, h1, h2, h3⟩ := rback_loop h xs.length 0 [] (by omega) (by simp) List.Pairwise.nil
  refine ⟨zs, ?_, h2, h3⟩
  have h1' : loopQ 0 (S17_4step 0) ([], xs, (xs.length : Int), (0 : Int)) = some zs := h1
  unfold F17
  rw [h1']
  rfl
theorem backs {xs : List PV} (h : Sm xs) : ∃ ys : List PV, F16 0 xs = some ys ∧ F17 0 xs = some ys ∧ ys.length ≤ 1048576 := by
  obtain ⟨ys, h1, h2, h3⟩ := back_eq h
  obtain ⟨zs, k1, k2, k3⟩ := rback_eq h
  have := srt_unique h2 k2 h3 k3
  subst this
  exact ⟨ys, h1, k1, (h.turn h2).1⟩

/- A list is the same as itself. -/
theorem same_self (xs : List PV) (h : xs.length ≤ 1048576) : F13 0 xs xs = some true := by
  have hx : ((xs.length : Int) != (xs.length : Int)) = false := by simp
  have hl := loopW_all (step := S13_5step 0) (fun i => (xs, xs, ((i : Nat) : Int))) xs.length (fun _ => true) (.inl false) (.inr ()) (fun i hi => by
    have hd : decide ((i : Int) < (xs.length : Int)) = true := decide_eq_true (by omega)
    have hs : (bif ((xs[i].fld 0).asInt) == ((xs[i].fld 0).asInt) then (bif ((xs[i].fld 1).asStr) == ((xs[i].fld 1).asStr) then (bif ((xs[i].fld 2).asInt) == ((xs[i].fld 2).asInt) then (bif ((xs[i].fld 3).asStr) == ((xs[i].fld 3).asStr) then (bif ((xs[i].fld 4).asStr) == ((xs[i].fld 4).asStr) then true else false) else false) else false) else false) else false) = true := by simp
    simp only [S13_5step, S13_5, hd, cond_true, inRange_nat, decide_eq_true hi, Int.toNat_natCast, getD_of_lt hi, hs, Bool.not_true, cond_false, waddB i (by omega)]) (by
    have hd : decide (((xs.length : Nat) : Int) < (xs.length : Int)) = false := decide_eq_false (by omega)
    simp only [S13_5step, S13_5, hd, cond_false]) xs.length 0 (by omega)
  have ha : allF (fun _ => true) 0 xs.length = true := by
    generalize xs.length = n
    generalize (0 : Nat) = i
    induction n generalizing i with
    | zero => rfl
    | succ n ih => simp only [allF, ih]; rfl
  rw [ha] at hl
  unfold F13
  rw [hx, cond_false]
  have hl' : loopQ 0 (S13_5step 0) (xs, xs, (0 : Int)) = some (.inr ()) := hl
  rw [hl']
  rfl

/- Those of a definition. -/
theorem of_list {xs : List PV} (d : List UInt8) (h : Sm xs) : ∃ ys : List PV, F20 0 xs d = some ys ∧ F21 0 xs d = some ys ∧ ys.length ≤ 1048576 := by
  have hlen := h.len
  obtain ⟨h1, h2⟩ := loopW_fold (step := S20_4step 0) (fun i acc => (d, acc, xs, (xs.length : Int), ((i : Nat) : Int))) xs (fun a x => bif chD x == d then a ++ [x] else a) (fun a => a) (fun i acc => acc.length ≤ i)
    (fun i acc hi hI => by
      have hd : decide ((i : Int) < (xs.length : Int)) = true := decide_eq_true (by omega)
      have ha : decide (acc.length + [xs[i]].length ≤ accMax) = true := decide_eq_true (by simp; unfold accMax; omega)
      simp only [S20_4step, S20_4, hd, cond_true, inRange_nat, decide_eq_true hi, Int.toNat_natCast, getD_of_lt hi, ha, waddB i (by omega)]
      change (bif (chD xs[i] == d) then _ else _) = _ ∧ _
      cases hq : chD xs[i] == d with
      | true => exact ⟨rfl, by simp; omega⟩
      | false => exact ⟨rfl, by simp; omega⟩)
    (fun acc _ => by
      have hd : decide (((xs.length : Nat) : Int) < (xs.length : Int)) = false := decide_eq_false (by omega)
      simp only [S20_4step, S20_4, hd, cond_false]) xs.length 0 [] (by omega) (Nat.le_refl _)
  rw [List.drop_zero] at h1 h2
  refine ⟨_, ?_, ?_, Nat.le_trans h2 (by omega)⟩
  · have h1' : loopQ 0 (S20_4step 0) (d, [], xs, (xs.length : Int), (0 : Int)) = some (xs.foldl (fun a x => bif chD x == d then a ++ [x] else a) []) := h1
    unfold F20
    rw [h1']
    rfl
  · have h1' : loopQ 0 (S21_4step 0) (d, [], xs, (xs.length : Int), (0 : Int)) = some (xs.foldl (fun a x => bif chD x == d then a ++ [x] else a) []) := h1
    unfold F21
    rw [h1']
    rfl
end Go.Ab
