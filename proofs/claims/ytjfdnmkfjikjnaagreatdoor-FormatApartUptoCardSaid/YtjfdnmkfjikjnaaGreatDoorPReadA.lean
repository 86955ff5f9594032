/- Names, values, annotations and rows can be read from their texts. -/
import Derived.Test.YtjfdnmkfjikjnaaGreatDoorPCheckA
set_option linter.unusedVariables false
set_option linter.unusedSimpArgs false
set_option linter.unnecessarySimpa false
namespace Go.Ab
open Go
set_option maxRecDepth 100000
/- Names. -/
def nmC (b : UInt8) : Bool := alnB b || b == 46
theorem part_chars {s : List UInt8} (h : partP s = true) : ∀ c, c ∈ s → alnB c = true := by
  cases s with
  | nil => intro c hc; cases hc
  | cons a r =>
    unfold partP at h
    simp only [Bool.and_eq_true, List.all_eq_true] at h
    intro c hc
    rcases List.mem_cons.1 hc with rfl | hc
    · exact let_aln h.1.2
    · exact h.2 c hc
theorem splitP_mem (c : UInt8) : ∀ s : List UInt8, ∀ x, x ∈ s → x = c ∨ ∃ p, p ∈ splitP c s ∧ x ∈ p := by
  intro s
  induction s with
  | nil => intro x h; cases h
  | cons b r ih =>
    intro x hx
    simp only [splitP]
    cases hb : (b == c) with
    | true =>
      rcases List.mem_cons.1 hx with rfl | hx
      · exact Or.inl (by simpa using hb)
      · rcases ih x hx with h | ⟨p, h1, h2⟩
        · exact Or.inl h
        · exact Or.inr ⟨p, by simp [h1], h2⟩
    | false =>
      have hne := splitP_ne c r
      cases hs : splitP c r with
      | nil => exact absurd hs hne
      | cons y q =>
        rw [hs] at ih
        simp only [cond_false]
        rcases List.mem_cons.1 hx with rfl | hx
        · exact Or.inr ⟨x :: y, by simp, by simp⟩
        · rcases ih x hx with h | ⟨p, h1, h2⟩
          · exact Or.inl h
          · rcases List.mem_cons.1 h1 with rfl | h1
            · exact Or.inr ⟨b :: p, by simp, by simp [h2]⟩
            · exact Or.inr ⟨p, by simp [h1], h2⟩
theorem full_chars {s : List UInt8} (h : fullP s = true) : ∀ c, c ∈ s → nmC c = true := by
  unfold fullP at h
  simp only [Bool.and_eq_true, List.all_eq_true] at h
  intro c hc
  unfold nmC
  rcases splitP_mem 46 s c hc with rfl | ⟨p, h1, h2⟩
  · rfl
  · rw [part_chars (h.2 p h1) c h2]; rfl
theorem type_chars {s : List UInt8} (h : typeP s = true) : ∀ c, c ∈ s → nmC c = true := by
  cases s with
  | nil => intro c hc; cases hc
  | cons a r =>
    have h : (bif a == 46 then fullP r else fullP (a :: r)) = true := h
    cases ha : (a == 46) with
    | true =>
      rw [ha] at h
      intro c hc
      rcases List.mem_cons.1 hc with rfl | hc
      · unfold nmC; rw [ha]; simp
      · exact full_chars h c hc
    | false => rw [ha] at h; exact full_chars h
theorem def_chars {s : List UInt8} (h : defP s = true) : ∀ c, c ∈ s → nmC c = true := by
  unfold defP at h
  simp only [Bool.and_eq_true] at h
  exact full_chars h.1
theorem simp_chars {s : List UInt8} (h : simpP s = true) : ∀ c, c ∈ s → alnB c = true := by
  unfold simpP at h
  simp only [Bool.and_eq_true] at h
  exact part_chars h.1
theorem kw_facts : ((List.range 8).all fun i => ((kw ((i : Int) + 1)).all alnB) && (List.range 8).all fun j => !(kw ((i : Int) + 1) == kw ((j : Int) + 1)) || i == j) = true := by kernel_rfl
theorem kw_at {k : Int} (h : plainK k = true) : ∃ i : Nat, i < 8 ∧ k = (i : Int) + 1 := by
  unfold plainK at h
  simp only [Bool.and_eq_true, decide_eq_true_eq] at h
  exact ⟨(k - 1).toNat, by omega, by omega⟩
theorem kw_chars {k : Int} (h : plainK k = true) : ∀ c, c ∈ kw k → alnB c = true := by
  obtain ⟨i, hi, rfl⟩ := kw_at h
  have := List.all_eq_true.1 kw_facts i (List.mem_range.2 hi)
  simp only [Bool.and_eq_true] at this
  exact List.all_eq_true.1 this.1
theorem kw_inj {k l : Int} (h : plainK k = true) (g : plainK l = true) (e : kw k = kw l) : k = l := by
  obtain ⟨i, hi, rfl⟩ := kw_at h
  obtain ⟨j, hj, rfl⟩ := kw_at g
  have := List.all_eq_true.1 kw_facts i (List.mem_range.2 hi)
  simp only [Bool.and_eq_true] at this
  have := List.all_eq_true.1 this.2 j (List.mem_range.2 hj)
  rw [e] at this
  have : i = j := by simpa using this
  omega
theorem noKw_ne {s : List UInt8} (h : noKw s = true) {k : Int} (g : plainK k = true) : s ≠ kw k := by
  obtain ⟨i, hi, rfl⟩ := kw_at g
  intro e
  unfold noKw at h
  have go : ∀ (n a : Nat), allF (fun i => !(kw ((i : Int) + 1) == s)) a n = true → ∀ j, a ≤ j → j < a + n → (kw ((j : Int) + 1) == s) = false := by
    intro n
    induction n with
    | zero => intro a _ j h1 h2; omega
    | succ n ih =>
      intro a hh j h1 h2
      simp only [allF, Bool.and_eq_true] at hh
      by_cases hj : j = a
      · subst hj; simpa using hh.1
      · exact ih (a + 1) hh.2 j (by omega) (by omega)
  have := go 8 0 h i (by omega) (by omega)
  rw [e] at this
  simp at this
/- Types. -/
def TyOk (t : PV) : Prop := tnP t = true ∧ 0 ≤ (t.fld 0).asInt ∧ (t.fld 0).asInt ≤ 8
theorem typeT_form {t : PV} (h : TyOk t) : (plainK (t.fld 0).asInt = true ∧ (t.fld 1).asStr = [] ∧ typeT t = kw (t.fld 0).asInt) ∨ ((t.fld 0).asInt = 0 ∧ typeP (t.fld 1).asStr = true ∧ noKw (t.fld 1).asStr = true ∧ typeT t = (t.fld 1).asStr) := by
  obtain ⟨h1, h2, h3⟩ := h
  unfold tnP at h1
  unfold typeT
  cases hp : plainK (t.fld 0).asInt with
  | true =>
    rw [hp] at h1
    have h1 : ((t.fld 1).asStr == ([] : List UInt8)) = true := h1
    rw [h1]
    exact Or.inl ⟨rfl, by simpa using h1, rfl⟩
  | false =>
    rw [hp] at h1
    simp only [cond_false, Bool.and_eq_true] at h1
    have h0 : (t.fld 0).asInt = 0 := by
      unfold plainK at hp
      by_cases q : 1 ≤ (t.fld 0).asInt
      · rw [decide_eq_true q, decide_eq_true h3] at hp; cases hp
      · omega
    refine Or.inr ⟨h0, h1.1, h1.2, ?_⟩
    rw [h0, h1.1]; rfl
theorem typeT_chars {t : PV} (h : TyOk t) : ∀ c, c ∈ typeT t → nmC c = true := by
  rcases typeT_form h with ⟨h1, _, h3⟩ | ⟨_, h2, _, h3⟩
  · rw [h3]; intro c hc; unfold nmC; rw [kw_chars h1 c hc]; rfl
  · rw [h3]; exact type_chars h2
theorem typeT_inj {t u : PV} (h : TyOk t) (g : TyOk u) (e : typeT t = typeT u) : tEq t u = true := by
  unfold tEq
  rcases typeT_form h with ⟨h1, h2, h3⟩ | ⟨h1, h2, h3, h4⟩ <;> rcases typeT_form g with ⟨g1, g2, g3⟩ | ⟨g1, g2, g3, g4⟩
  · rw [h3, g3] at e
    rw [kw_inj h1 g1 e, h2, g2]; simp
  · rw [h3, g4] at e
    exact absurd e.symm (noKw_ne g3 h1)
  · rw [h4, g3] at e
    exact absurd e (noKw_ne h3 g1)
  · rw [h4, g4] at e
    rw [h1, g1, e]; simp
theorem ty_read {t u : PV} (h : TyOk t) (g : TyOk u) {r s : List UInt8} (hr : stopB nmC r) (hs : stopB nmC s) (e : typeT t ++ r = typeT u ++ s) : tEq t u = true ∧ r = s := by
  obtain ⟨e1, e2⟩ := span_inj nmC _ _ _ _ (typeT_chars h) (typeT_chars g) hr hs e
  exact ⟨typeT_inj h g e1, e2⟩
/- Values. -/
theorem fits_facts {k : Int} {v : PV} (h : fitsV k v = true) : vKind v = k ∧ vLists v = 0 ∧ (if textKind k = true then vBits v = 0 else vText v = [] ∧ rangeOk k (vBits v) = true) := by
  unfold fitsV at h
  simp only [Bool.and_eq_true, decide_eq_true_eq, beq_iff_eq] at h
  obtain ⟨⟨⟨_, h2⟩, h3⟩, h4⟩ := h
  refine ⟨h2, h3, ?_⟩
  cases ht : textKind k with
  | true =>
    rw [ht] at h4
    simp only [if_true, Bool.and_eq_true, beq_iff_eq] at h4 ⊢
    exact h4.1.1
  | false =>
    rw [ht] at h4
    simp only [Bool.false_eq_true, if_false, Bool.and_eq_true, beq_iff_eq] at h4 ⊢
    exact h4
def vSame (v w : PV) : Prop := vKind v = vKind w ∧ vBits v = vBits w ∧ vText v = vText w
theorem vSame_eq {v w : PV} (h : vSame v w) : vEq v w = true := by
  unfold vEq
  have e0 : (v.fld 0).asInt = (w.fld 0).asInt := h.1
  have e1 : (v.fld 1).asInt = (w.fld 1).asInt := h.2.1
  have e2 : (v.fld 2).asStr = (w.fld 2).asStr := h.2.2
  rw [e0, e1, e2]; simp
theorem textV_of {k : Int} {v : PV} (h : fitsV k v = true) : textV v = (bif k == 1 then (bif vBits v == 1 then [116, 114, 117, 101] else [102, 97, 108, 115, 101])
    else bif k == 2 then itoaB (IntKind.wrap .i64 (vBits v)) else bif k == 3 then itoaB (IntKind.wrap .i64 (vBits v)) else bif k == 7 then quote (vText v) else decB (vBits v).toNat) := by
  have hk := (fits_facts h).1
  unfold textV
  rw [hk, h]; rfl
theorem tv_read {k : Int} (hk : k = 1 ∨ k = 2 ∨ k = 3 ∨ k = 4 ∨ k = 5 ∨ k = 7) {v w : PV} (sv : smallV v) (sw : smallV w) (hv : fitsV k v = true) (hw : fitsV k w = true) {s t : List UInt8} (hs : stopB digC s) (ht : stopB digC t) (e : textV v ++ s = textV w ++ t) : vSame v w ∧ s = t := by
  rw [textV_of hv, textV_of hw] at e
  obtain ⟨v1, v2, v3⟩ := fits_facts hv
  obtain ⟨w1, w2, w3⟩ := fits_facts hw
  obtain ⟨_, _, b0, b1⟩ := sv
  obtain ⟨_, _, c0, c1⟩ := sw
  have wr : ∀ b : Int, 0 ≤ b → b < 18446744073709551616 → -9223372036854775808 ≤ IntKind.wrap .i64 b ∧ IntKind.wrap .i64 b ≤ 9223372036854775807 := fun b h0 h1 => by rw [IntKind.wrap_i64]; omega
  have wi : ∀ b c : Int, 0 ≤ b → b < 18446744073709551616 → 0 ≤ c → c < 18446744073709551616 → IntKind.wrap .i64 b = IntKind.wrap .i64 c → b = c := fun b c _ _ _ _ q => by rw [IntKind.wrap_i64, IntKind.wrap_i64] at q; omega
  have p := wr _ b0 b1
  have q := wr _ c0 c1
  rcases hk with rfl | rfl | rfl | rfl | rfl | rfl
  · have v3 : vText v = [] ∧ rangeOk 1 (vBits v) = true := v3
    have w3 : vText w = [] ∧ rangeOk 1 (vBits w) = true := w3
    have r1 : vBits v ≤ 1 := of_decide_eq_true v3.2
    have r2 : vBits w ≤ 1 := of_decide_eq_true w3.2
    have bv : vBits v = 0 ∨ vBits v = 1 := by omega
    have bw : vBits w = 0 ∨ vBits w = 1 := by omega
    rcases bv with bv | bv <;> rcases bw with bw | bw <;> rw [bv, bw] at e
    · exact ⟨⟨by rw [v1, w1], by rw [bv, bw], by rw [v3.1, w3.1]⟩, by simpa using e⟩
    · simp at e
    · simp at e
    · exact ⟨⟨by rw [v1, w1], by rw [bv, bw], by rw [v3.1, w3.1]⟩, by simpa using e⟩
  · have v3 : vText v = [] ∧ rangeOk 2 (vBits v) = true := v3
    have w3 : vText w = [] ∧ rangeOk 2 (vBits w) = true := w3
    obtain ⟨e1, e2⟩ := itoa_read p.1 p.2 q.1 q.2 hs ht e
    exact ⟨⟨by rw [v1, w1], wi _ _ b0 b1 c0 c1 e1, by rw [v3.1, w3.1]⟩, e2⟩
  · have v3 : vText v = [] ∧ rangeOk 3 (vBits v) = true := v3
    have w3 : vText w = [] ∧ rangeOk 3 (vBits w) = true := w3
    obtain ⟨e1, e2⟩ := itoa_read p.1 p.2 q.1 q.2 hs ht e
    exact ⟨⟨by rw [v1, w1], wi _ _ b0 b1 c0 c1 e1, by rw [v3.1, w3.1]⟩, e2⟩
  · have v3 : vText v = [] ∧ rangeOk 4 (vBits v) = true := v3
    have w3 : vText w = [] ∧ rangeOk 4 (vBits w) = true := w3
    obtain ⟨e1, e2⟩ := dec_read (by omega) (by omega) hs ht e
    exact ⟨⟨by rw [v1, w1], by omega, by rw [v3.1, w3.1]⟩, e2⟩
  · have v3 : vText v = [] ∧ rangeOk 5 (vBits v) = true := v3
    have w3 : vText w = [] ∧ rangeOk 5 (vBits w) = true := w3
    obtain ⟨e1, e2⟩ := dec_read (by omega) (by omega) hs ht e
    exact ⟨⟨by rw [v1, w1], by omega, by rw [v3.1, w3.1]⟩, e2⟩
  · have v3 : vBits v = 0 := v3
    have w3 : vBits w = 0 := w3
    obtain ⟨e1, e2⟩ := quote_inj e
    exact ⟨⟨by rw [v1, w1], by rw [v3, w3], e1⟩, e2⟩
theorem double_inj {u v : Nat} (hu : u < 18446744073709551616) (hv : v < 18446744073709551616) (nu : classN u = 0 → u = 9221120237041090560) (nv : classN v = 0 → v = 9221120237041090560) (e : doubleT u = doubleT v) : u = v := by
  have inf : ∀ w : Nat, w < 18446744073709551616 → classN w = 1 → w = 9218868437227405312 ∨ w = 18442240474082181120 := fun w hw h => by
    unfold classN at h
    repeat' split at h
    all_goals first | omega | cases h
  unfold doubleT at e
  by_cases u0 : classN u = 0
  · rw [u0] at e
    by_cases v0 : classN v = 0
    · rw [nu u0, nv v0]
    · rw [beqI v0] at e
      by_cases v1 : classN v = 1
      · rw [v1] at e
        cases hq : decide (9223372036854775808 ≤ v) <;> rw [hq] at e <;> simp at e
      · rw [beqI v1] at e; simp at e
  · rw [beqI u0] at e
    by_cases u1 : classN u = 1
    · rw [u1] at e
      by_cases v0 : classN v = 0
      · rw [v0] at e
        cases hq : decide (9223372036854775808 ≤ u) <;> rw [hq] at e <;> simp at e
      · rw [beqI v0] at e
        by_cases v1 : classN v = 1
        · rw [v1] at e
          rcases inf u hu u1 with rfl | rfl <;> rcases inf v hv v1 with rfl | rfl
          · rfl
          · simp at e
          · simp at e
          · rfl
        · rw [beqI v1] at e
          cases hq : decide (9223372036854775808 ≤ u) <;> rw [hq] at e <;> simp at e
    · rw [beqI u1] at e
      by_cases v0 : classN v = 0
      · rw [v0] at e; simp at e
      · rw [beqI v0] at e
        by_cases v1 : classN v = 1
        · rw [v1] at e
          cases hq : decide (9223372036854775808 ≤ v) <;> rw [hq] at e <;> simp at e
        · rw [beqI v1] at e
          simp only [cond_false] at e
          exact hexN_inj 16 u v (by omega) (by omega) (List.append_cancel_left e)
theorem litT_of {k : Int} {v : PV} (h : fitsV k v = true) (hk : k ≠ 9) : litT v = bif (k == 6) || (k == 8) then quote (textW v) else textW v := by
  have h1 := (fits_facts h).1
  have hi : itemV v = false := by
    unfold itemV
    rw [h1, beqI hk]; rfl
  unfold litT
  rw [hi, h1, h]; rfl
theorem textW_of {k : Int} {v : PV} (h : fitsV k v = true) : textW v = bif k == 6 then doubleT (vBits v).toNat else bif k == 8 then [120] ++ quote ((vText v).flatMap fun b => hex2 b.toNat) else textV v := by
  have h1 := (fits_facts h).1
  unfold textW
  rw [h1, h]; rfl
theorem lit_read {k : Int} (hk1 : 1 ≤ k) (hk8 : k ≤ 8) {v w : PV} (sv : smallV v) (sw : smallV w) (hv : fitsV k v = true) (hw : fitsV k w = true) (nv : normB v = vBits v) (nw : normB w = vBits w) {s t : List UInt8} (hs : stopB digC s) (ht : stopB digC t) (e : litT v ++ s = litT w ++ t) : vSame v w ∧ s = t := by
  rw [litT_of hv (by omega), litT_of hw (by omega), textW_of hv, textW_of hw] at e
  obtain ⟨v1, v2, v3⟩ := fits_facts hv
  obtain ⟨w1, w2, w3⟩ := fits_facts hw
  by_cases h6 : k = 6
  · subst h6
    have v3 : vText v = [] ∧ rangeOk 6 (vBits v) = true := v3
    have w3 : vText w = [] ∧ rangeOk 6 (vBits w) = true := w3
    obtain ⟨a, ha, ha2⟩ := bits_nat sv
    obtain ⟨b, hb, hb2⟩ := bits_nat sw
    obtain ⟨e1, e2⟩ := quote_inj e
    unfold normB at nv nw
    rw [v1, ha] at nv
    rw [w1, hb] at nw
    rw [ha, hb] at e1
    simp only [Int.toNat_natCast] at nv nw e1
    have := double_inj ha2 hb2 (fun q => by rw [q] at nv; have : (9221120237041090560 : Int) = (a : Int) := nv; omega) (fun q => by rw [q] at nw; have : (9221120237041090560 : Int) = (b : Int) := nw; omega) e1
    exact ⟨⟨by rw [v1, w1], by rw [ha, hb, this], by rw [v3.1, w3.1]⟩, e2⟩
  · by_cases h8 : k = 8
    · subst h8
      have v3 : vBits v = 0 := v3
      have w3 : vBits w = 0 := w3
      obtain ⟨e1, e2⟩ := quote_inj e
      have e1 : [120] ++ quote ((vText v).flatMap fun b => hex2 b.toNat) = [120] ++ quote ((vText w).flatMap fun b => hex2 b.toNat) := e1
      have e3 := List.append_cancel_left e1
      obtain ⟨e4, _⟩ := quote_inj (a := (vText v).flatMap fun b => hex2 b.toNat) (b := (vText w).flatMap fun b => hex2 b.toNat) (s := []) (t := []) (by rw [e3])
      exact ⟨⟨by rw [v1, w1], by rw [v3, w3], hexS_inj _ _ e4⟩, e2⟩
    · rw [beqI h6, beqI h8] at e
      exact tv_read (by omega) sv sw hv hw hs ht e
/- Annotations. -/
theorem known_chars : (knownNames.all fun s => s.all alnB) = true := by kernel_rfl
theorem known_kinds : (knownNames.all fun s => (kindOf s == 1) || (kindOf s == 3) || (kindOf s == 4) || (kindOf s == 7)) = true := by kernel_rfl
theorem right_known {n : PV} (h : rightN n = true) : nName n ∈ knownNames ∧ fitsV (kindOf (nName n)) (nVal n) = true := by
  unfold rightN at h
  simp only [Bool.and_eq_true] at h
  refine ⟨?_, h.2⟩
  by_cases hm : nName n ∈ knownNames
  · exact hm
  · rw [kindOf_unknown hm] at h
    exact absurd h.1 (by decide)
theorem note_read {m n : PV} (hm : rightN m = true) (hn : rightN n = true) (sm : smallN m) (sn : smallN n) {s t : List UInt8} (hs : stopB digC s) (ht : stopB digC t) (e : textN m ++ s = textN n ++ t) : noteEq m n = true ∧ s = t := by
  obtain ⟨m1, m2⟩ := right_known hm
  obtain ⟨n1, n2⟩ := right_known hn
  have cm := List.all_eq_true.1 (List.all_eq_true.1 known_chars _ m1)
  have cn := List.all_eq_true.1 (List.all_eq_true.1 known_chars _ n1)
  unfold textN at e
  simp only [List.append_assoc, List.cons_append, List.nil_append] at e
  obtain ⟨e1, e2⟩ := span_inj alnB _ _ _ _ cm cn (stopB_cons (by decide)) (stopB_cons (by decide)) e
  simp only [List.cons.injEq, true_and] at e2
  have hk := List.all_eq_true.1 known_kinds _ n1
  simp only [Bool.or_eq_true, beq_iff_eq] at hk
  rw [e1] at m2
  obtain ⟨e3, e4⟩ := tv_read (by omega) sm.1 sn.1 m2 n2 hs ht e2
  refine ⟨?_, e4⟩
  unfold noteEq
  have q1 : (m.fld 0).asStr = (n.fld 0).asStr := e1
  have q2 : vEq (m.fld 1) (n.fld 1) = true := vSame_eq e3
  rw [q1, q2]; simp
theorem rest_read : ∀ (l m : List PV), l.all rightN = true → m.all rightN = true → (∀ n, n ∈ l → smallN n) → (∀ n, n ∈ m → smallN n) → ∀ {s t : List UInt8}, restT l ++ 93 :: s = restT m ++ 93 :: t → eqL noteEq l m = true ∧ s = t := by
  intro l
  induction l with
  | nil =>
    intro m hl hm sl sm s t e
    cases m with
    | nil => simp [restT] at e; exact ⟨rfl, e⟩
    | cons n r => simp [restT] at e
  | cons a l ih =>
    intro m hl hm sl sm s t e
    cases m with
    | nil => simp [restT] at e
    | cons n r =>
      simp only [List.all_cons, Bool.and_eq_true] at hl hm
      simp only [restT, List.append_assoc, List.cons_append, List.nil_append, List.cons.injEq, true_and] at e
      have st : ∀ (q : List PV) (x : List UInt8), stopB digC (restT q ++ 93 :: x) := fun q x => by
        cases q with
        | nil => exact stopB_cons (by decide)
        | cons y q => exact stopB_cons (by decide)
      obtain ⟨e1, e2⟩ := note_read hl.1 hm.1 (sl a (by simp)) (sm n (by simp)) (st _ _) (st _ _) e
      obtain ⟨e3, e4⟩ := ih r hl.2 hm.2 (fun x hx => sl x (by simp [hx])) (fun x hx => sm x (by simp [hx])) e2
      exact ⟨by simp only [eqL, e1, e3, Bool.and_self], e4⟩
/-- Does not begin as annotations do. -/
def stopN (s : List UInt8) : Prop := ∀ r, s ≠ 32 :: 91 :: r
theorem notes_read {l m : List PV} (hl : l.all rightN = true) (hm : m.all rightN = true) (sl : ∀ n, n ∈ l → smallN n) (sm : ∀ n, n ∈ m → smallN n) {s t : List UInt8} (hs : stopN s) (ht : stopN t) (e : notesT l ++ s = notesT m ++ t) : eqL noteEq l m = true ∧ s = t := by
  have hc : ∀ (n : PV) (r : List PV), (n :: r).all rightN = true → notesT (n :: r) = 32 :: 91 :: (textN n ++ restT r ++ [93]) := fun n r h => by
    have h0 : (((n :: r).length : Int) == (0 : Int)) = false := by rw [beq_eq_false_iff_ne]; simp only [List.length_cons]; omega
    unfold notesT
    rw [h0, show textL (n :: r) = bif (n :: r).all rightN then [91] ++ (textN n ++ restT r) ++ [93] else [] from rfl, h]
    simp
  cases l with
  | nil =>
    cases m with
    | nil => exact ⟨rfl, e⟩
    | cons n r =>
      rw [hc n r hm] at e
      exact absurd e (hs _)
  | cons a l =>
    cases m with
    | nil =>
      rw [hc a l hl] at e
      exact absurd e.symm (ht _)
    | cons n r =>
      rw [hc a l hl, hc n r hm] at e
      simp only [List.append_assoc, List.cons_append, List.nil_append, List.cons.injEq, true_and] at e
      have h1 := hl
      have h2 := hm
      simp only [List.all_cons, Bool.and_eq_true] at h1 h2
      have st : ∀ (q : List PV) (x : List UInt8), stopB digC (restT q ++ 93 :: x) := fun q x => by
        cases q with
        | nil => exact stopB_cons (by decide)
        | cons y q => exact stopB_cons (by decide)
      obtain ⟨e1, e2⟩ := note_read h1.1 h2.1 (sl a (by simp)) (sm n (by simp)) (st _ _) (st _ _) e
      obtain ⟨e3, e4⟩ := rest_read l r h1.2 h2.2 (fun x hx => sl x (by simp [hx])) (fun x hx => sm x (by simp [hx])) e2
      exact ⟨by simp only [eqL, e1, e3, Bool.and_self], e4⟩
end Go.Ab
namespace Go.Ab
open Go
set_option maxRecDepth 100000
structure RowGood (x : PV) : Prop where
  ok : RowOk x
  nm : nmFld x = true
  ar : argFld x = true
  nt : (x.fld 8).asList.all rightN = true
theorem RowGood.name {x : PV} (h : RowGood x) : simpP (x.fld 1).asStr = true := by
  have := h.nm
  unfold nmFld at this
  simp only [Bool.and_eq_true] at this
  exact this.1.1
theorem RowGood.union {x : PV} (h : RowGood x) (hu : uT x ≠ []) : simpP (uT x) = true := by
  have := h.nm
  unfold nmFld at this
  simp only [Bool.and_eq_true, Bool.or_eq_true, beq_iff_eq] at this
  rcases this.1.2 with q | q
  · exact absurd q hu
  · exact q
theorem RowGood.type {x : PV} (h : RowGood x) : TyOk (x.fld 4) := by
  have h1 := h.nm
  have h2 := h.ar
  unfold nmFld at h1
  unfold argFld rangeF at h2
  simp only [Bool.and_eq_true, decide_eq_true_eq] at h1 h2
  exact ⟨h1.2, h2.1.1.1.2.2.2.2.1, h2.1.1.1.2.2.2.2.2⟩
theorem RowGood.key {x : PV} (h : RowGood x) : keyF (x.fld 2).asInt (x.fld 3).asInt = true := by
  have h2 := h.ar
  unfold argFld at h2
  simp only [Bool.and_eq_true] at h2
  exact h2.1.1.2
theorem RowGood.un {x : PV} (h : RowGood x) (hu : uT x ≠ []) : (x.fld 2).asInt = 2 := by
  have h2 := h.ar
  unfold argFld unionF at h2
  simp only [Bool.and_eq_true, Bool.or_eq_true, beq_iff_eq] at h2
  rcases h2.1.2 with q | q
  · exact absurd q hu
  · exact q.1
theorem RowGood.right {x : PV} (h : RowGood x) : rightF x = true := by
  have h2 := h.ar
  unfold argFld at h2
  simp only [Bool.and_eq_true] at h2
  exact h2.2
theorem key0 {c k : Int} (h : keyF c k = true) (hc : c ≠ 5) : k = 0 := by
  unfold keyF at h
  rw [bneI hc] at h
  simpa using h
theorem key5 {k : Int} (h : keyF 5 k = true) : plainK k = true := by
  unfold keyF at h
  unfold plainK
  have h : (decide (1 ≤ k ∧ k ≤ 5) || k == 7) = true := h
  simp only [Bool.or_eq_true, decide_eq_true_eq, beq_iff_eq] at h
  rw [decide_eq_true (show 1 ≤ k by omega), decide_eq_true (show k ≤ 8 by omega)]; rfl
theorem RowGood.cards {x : PV} (h : RowGood x) : (x.fld 2).asInt = 1 ∨ (x.fld 2).asInt = 2 ∨ (x.fld 2).asInt = 3 ∨ (x.fld 2).asInt = 4 ∨ (x.fld 2).asInt = 5 := by
  have := h.ok.card1; have := h.ok.card5; omega
theorem head_read {x y : PV} (gx : RowGood x) (gy : RowGood y) (hu : (uT x == []) = (uT y == [])) {a b : List UInt8} (e : headT x ++ 32 :: a = headT y ++ 32 :: b) :
    (x.fld 2).asInt = (y.fld 2).asInt ∧ (x.fld 3).asInt = (y.fld 3).asInt ∧ tEq (x.fld 4) (y.fld 4) = true ∧ a = b := by
  have tx := gx.type
  have ty := gy.type
  have kx := gx.key
  have ky := gy.key
  have s32 : ∀ r : List UInt8, stopB nmC (32 :: r) := fun r => stopB_cons (by decide)
  have fin : ∀ r q : List UInt8, 32 :: r = 32 :: q → r = q := fun r q h => by simpa using h
  unfold headT at e
  have ex : (x.fld 5).asStr = uT x := rfl
  have ey : (y.fld 5).asStr = uT y := rfl
  rw [ex, ey] at e
  cases hv : (uT x == ([] : List UInt8)) with
  | false =>
    have hw : (uT y == ([] : List UInt8)) = false := by rw [← hu, hv]
    have c1 := gx.un (by intro q; rw [q] at hv; cases hv)
    have c2 := gy.un (by intro q; rw [q] at hw; cases hw)
    rw [hv, hw, c1, c2] at e
    rw [c1] at kx
    rw [c2] at ky
    obtain ⟨e1, e2⟩ := ty_read tx ty (s32 _) (s32 _) e
    exact ⟨by rw [c1, c2], by rw [key0 kx (by decide), key0 ky (by decide)], e1, fin _ _ e2⟩
  | true =>
    have hw : (uT y == ([] : List UInt8)) = true := by rw [← hu, hv]
    rw [hv, hw] at e
    rcases gx.cards with c1 | c1 | c1 | c1 | c1 <;> rcases gy.cards with c2 | c2 | c2 | c2 | c2 <;> rw [c1, c2] at e <;> rw [c1] at kx <;> rw [c2] at ky <;>
      first
        | (exfalso; simp [cardT] at e; done)
        | (simp only [cardT, beq_self_eq_true, cond_true, List.append_assoc] at e
           have e := List.append_cancel_left e
           obtain ⟨e1, e2⟩ := ty_read tx ty (s32 _) (s32 _) e
           exact ⟨by rw [c1, c2], by rw [key0 kx (by decide), key0 ky (by decide)], e1, fin _ _ e2⟩)
        | skip
    all_goals first
      | (have e : [111, 112, 116, 105, 111, 110, 97, 108, 32] ++ (typeT (x.fld 4) ++ 32 :: a) = [111, 112, 116, 105, 111, 110, 97, 108, 32] ++ (typeT (y.fld 4) ++ 32 :: b) := by simpa [cardT] using e
         have e := List.append_cancel_left e
         obtain ⟨e1, e2⟩ := ty_read tx ty (s32 _) (s32 _) e
         exact ⟨by rw [c1, c2], by rw [key0 kx (by decide), key0 ky (by decide)], e1, fin _ _ e2⟩)
      | (have e : [112, 108, 97, 105, 110, 32] ++ (typeT (x.fld 4) ++ 32 :: a) = [112, 108, 97, 105, 110, 32] ++ (typeT (y.fld 4) ++ 32 :: b) := by simpa [cardT] using e
         have e := List.append_cancel_left e
         obtain ⟨e1, e2⟩ := ty_read tx ty (s32 _) (s32 _) e
         exact ⟨by rw [c1, c2], by rw [key0 kx (by decide), key0 ky (by decide)], e1, fin _ _ e2⟩)
      | (have e : [108, 105, 115, 116, 32] ++ (typeT (x.fld 4) ++ 32 :: a) = [108, 105, 115, 116, 32] ++ (typeT (y.fld 4) ++ 32 :: b) := by simpa [cardT] using e
         have e := List.append_cancel_left e
         obtain ⟨e1, e2⟩ := ty_read tx ty (s32 _) (s32 _) e
         exact ⟨by rw [c1, c2], by rw [key0 kx (by decide), key0 ky (by decide)], e1, fin _ _ e2⟩)
      | (have e : kw (x.fld 3).asInt ++ 44 :: 32 :: (typeT (x.fld 4) ++ 62 :: 32 :: a) = kw (y.fld 3).asInt ++ 44 :: 32 :: (typeT (y.fld 4) ++ 62 :: 32 :: b) := by simpa using e
         have k1 := key5 kx
         have k2 := key5 ky
         obtain ⟨q1, q2⟩ := span_inj alnB _ _ _ _ (kw_chars k1) (kw_chars k2) (stopB_cons (by decide)) (stopB_cons (by decide)) e
         simp only [List.cons.injEq, true_and] at q2
         obtain ⟨e1, e2⟩ := ty_read tx ty (stopB_cons (by decide)) (stopB_cons (by decide)) q2
         exact ⟨by rw [c1, c2], kw_inj k1 k2 q1, e1, by simpa using e2⟩)
theorem dflt_read {x y : PV} (gx : RowGood x) (gy : RowGood y) (ht : tEq (x.fld 4) (y.fld 4) = true) (hx : (x.fld 6).asBool = true) (hy : (y.fld 6).asBool = true) {s t : List UInt8} (hs : ∃ c r, s = c :: r ∧ (c = 32 ∨ c = 59)) (ht2 : ∃ c r, t = c :: r ∧ (c = 32 ∨ c = 59)) (e : litT (x.fld 7) ++ s = litT (y.fld 7) ++ t) : vEq (x.fld 7) (y.fld 7) = true ∧ s = t := by
  have rx := gx.right
  have ry := gy.right
  have tk : ((x.fld 4).fld 0).asInt = ((y.fld 4).fld 0).asInt := by
    unfold tEq at ht
    simp only [Bool.and_eq_true, beq_iff_eq] at ht
    exact ht.1
  have kx := gx.type
  unfold rightF at rx ry
  rw [hx] at rx
  rw [hy] at ry
  simp only [Bool.not_true, cond_false] at rx ry
  cases c5 : ((x.fld 2).asInt == 5) with
  | true => rw [c5] at rx; cases rx
  | false =>
  cases d5 : ((y.fld 2).asInt == 5) with
  | true => rw [d5] at ry; cases ry
  | false =>
  rw [c5] at rx
  rw [d5] at ry
  simp only [cond_false] at rx ry
  rw [← tk] at ry
  cases k0 : (((x.fld 4).fld 0).asInt == 0) with
  | true =>
    rw [k0] at rx ry
    have rx : itemV (x.fld 7) = true := rx
    have ry : itemV (y.fld 7) = true := ry
    have lx : litT (x.fld 7) = vText (x.fld 7) := by unfold litT; rw [rx]; rfl
    have ly : litT (y.fld 7) = vText (y.fld 7) := by unfold litT; rw [ry]; rfl
    rw [lx, ly] at e
    unfold itemV at rx ry
    simp only [Bool.and_eq_true, beq_iff_eq, decide_eq_true_eq] at rx ry
    have so : ∀ {s : List UInt8}, (∃ c r, s = c :: r ∧ (c = 32 ∨ c = 59)) → stopB alnB s := fun ⟨c, r, e, h⟩ => by
      subst e
      rcases h with rfl | rfl <;> exact stopB_cons (by decide)
    obtain ⟨e1, e2⟩ := span_inj alnB _ _ _ _ (simp_chars rx.1.1.2) (simp_chars ry.1.1.2) (so hs) (so ht2) e
    exact ⟨vSame_eq ⟨by rw [rx.1.1.1, ry.1.1.1], by rw [rx.1.2, ry.1.2], e1⟩, e2⟩
  | false =>
    rw [k0] at rx ry
    simp only [cond_false, Bool.and_eq_true, beq_iff_eq] at rx ry
    have so : ∀ {s : List UInt8}, (∃ c r, s = c :: r ∧ (c = 32 ∨ c = 59)) → stopB digC s := fun ⟨c, r, e, h⟩ => by
      subst e
      rcases h with rfl | rfl <;> exact stopB_cons (by decide)
    have kne : ((x.fld 4).fld 0).asInt ≠ 0 := by intro q; rw [q] at k0; cases k0
    obtain ⟨e1, e2⟩ := lit_read (by have := kx.2.1; omega) kx.2.2 gx.ok.ok.dflt gy.ok.ok.dflt rx.1 ry.1 rx.2 ry.2 (so hs) (so ht2) e
    exact ⟨vSame_eq e1, e2⟩
theorem notes_first (l : List PV) (s : List UInt8) : ∃ c r, notesT l ++ 59 :: s = c :: r ∧ (c = 32 ∨ c = 59) := by
  unfold notesT
  cases ((l.length : Int) == 0) with
  | true => exact ⟨59, s, rfl, Or.inr rfl⟩
  | false => exact ⟨32, _, rfl, Or.inl rfl⟩
/-- All but the union. -/
def rowEq (x y : PV) : Prop := fldEq x y = (uT x == uT y)
theorem row_read {x y : PV} (gx : RowGood x) (gy : RowGood y) (hu : (uT x == []) = (uT y == [])) {s t : List UInt8} (e : rowT x ++ 10 :: s = rowT y ++ 10 :: t) : rowEq x y ∧ s = t := by
  unfold rowT at e
  simp only [List.append_assoc, List.cons_append, List.nil_append] at e
  obtain ⟨h1, h2, h3, e⟩ := head_read gx gy hu e
  obtain ⟨h4, e⟩ := span_inj alnB _ _ _ _ (simp_chars gx.name) (simp_chars gy.name) (stopB_cons (by decide)) (stopB_cons (by decide)) e
  simp only [List.cons.injEq, true_and] at e
  have ox := gx.ok
  have oy := gy.ok
  have sd : ∀ (x : PV) (s : List UInt8), stopB digC ((bif (x.fld 6).asBool then [32, 100, 101, 102, 97, 117, 108, 116, 32] ++ litT (x.fld 7) else []) ++ (notesT (x.fld 8).asList ++ 59 :: s)) := fun x s => by
    cases (x.fld 6).asBool with
    | true => exact stopB_cons (by decide)
    | false =>
      obtain ⟨c, r, q, hc⟩ := notes_first (x.fld 8).asList s
      simp only [cond_false, List.nil_append]
      rw [q]
      rcases hc with rfl | rfl <;> exact stopB_cons (by decide)
  obtain ⟨h5, e⟩ := num_read ox.num0 (by have := ox.num1; omega) oy.num0 (by have := oy.num1; omega) (sd x _) (sd y _) e
  have sn : ∀ r : List UInt8, stopN (59 :: r) := fun r q => by simp
  have fin : (x.fld 6).asBool = (y.fld 6).asBool → vEq (x.fld 7) (y.fld 7) = true → notesT (x.fld 8).asList ++ 59 :: 10 :: s = notesT (y.fld 8).asList ++ 59 :: 10 :: t → rowEq x y ∧ s = t := fun q1 q2 q3 => by
    obtain ⟨h6, e⟩ := notes_read gx.nt gy.nt ox.ok.note oy.ok.note (sn _) (sn _) q3
    simp only [List.cons.injEq, true_and] at e
    refine ⟨?_, e⟩
    unfold rowEq fldEq
    rw [h1, h2, h3, h4, h5, h6, q1, q2]
    simp [uT]
  cases hx : (x.fld 6).asBool with
  | true =>
    cases hy : (y.fld 6).asBool with
    | true =>
      rw [hx, hy] at e
      simp only [cond_true, List.append_assoc] at e
      have e := List.append_cancel_left e
      obtain ⟨h6, e⟩ := dflt_read gx gy h3 hx hy (notes_first _ _) (notes_first _ _) e
      exact fin (by rw [hx, hy]) h6 e
    | false =>
      rw [hx, hy] at e
      exfalso
      revert e
      unfold notesT
      cases (((y.fld 8).asList.length : Int) == 0) <;> simp only [cond_true, cond_false, List.append_assoc, List.cons_append, List.nil_append]
      · cases hl : (y.fld 8).asList with
        | nil => simp [textL]
        | cons n r =>
          have := gy.nt
          rw [hl] at this
          rw [show textL (n :: r) = bif (n :: r).all rightN then [91] ++ (textN n ++ restT r) ++ [93] else [] from rfl, this]
          simp
      · simp
  | false =>
    have rx := gx.right
    unfold rightF at rx
    rw [hx] at rx
    have rx : isV 0 0 [] (x.fld 7) = true := rx
    cases hy : (y.fld 6).asBool with
    | true =>
      rw [hx, hy] at e
      exfalso
      revert e
      unfold notesT
      cases (((x.fld 8).asList.length : Int) == 0) <;> simp only [cond_true, cond_false, List.append_assoc, List.cons_append, List.nil_append]
      · cases hl : (x.fld 8).asList with
        | nil => simp [textL]
        | cons n r =>
          have := gx.nt
          rw [hl] at this
          rw [show textL (n :: r) = bif (n :: r).all rightN then [91] ++ (textN n ++ restT r) ++ [93] else [] from rfl, this]
          simp
      · simp
    | false =>
      have ry := gy.right
      unfold rightF at ry
      rw [hy] at ry
      have ry : isV 0 0 [] (y.fld 7) = true := ry
      rw [hx, hy] at e
      unfold isV at rx ry
      simp only [Bool.and_eq_true, beq_iff_eq] at rx ry
      exact fin (by rw [hx, hy]) (vSame_eq ⟨by rw [rx.1.1.1, ry.1.1.1], by rw [rx.1.1.2, ry.1.1.2], by rw [rx.1.2, ry.1.2]⟩) e
theorem rowEq_same {x y : PV} (h : rowEq x y) (hu : uT x = uT y) : fldEq x y = true := by
  unfold rowEq at h
  rw [h, hu]; simp
/- Fields one behind the other. -/
theorem row_first (x : PV) (h : RowGood x) (hu : uT x = []) (s : List UInt8) : (∃ c r, rowT x ++ s = c :: r ∧ (c = 111 ∨ c = 112 ∨ c = 108 ∨ c = 109)) ∨ ∃ r, rowT x ++ s = 114 :: 101 :: 113 :: r := by
  have ex : (x.fld 5).asStr = uT x := rfl
  unfold rowT headT
  rw [ex, hu]
  rcases h.cards with c | c | c | c | c <;> rw [c]
  · exact Or.inr ⟨_, rfl⟩
  · exact Or.inl ⟨111, _, rfl, by simp⟩
  · exact Or.inl ⟨112, _, rfl, by simp⟩
  · exact Or.inl ⟨108, _, rfl, by simp⟩
  · exact Or.inl ⟨109, _, rfl, by simp⟩
theorem step_0 (x : PV) : stepT [] x = bif uT x == [] then [32, 32] ++ (rowT x ++ [10]) else [32, 32, 117, 110, 105, 111, 110, 32] ++ (uT x ++ ([32, 123, 10] ++ ([32, 32, 32, 32] ++ (rowT x ++ [10])))) := by
  unfold stepT openT
  cases (uT x == ([] : List UInt8)) <;> simp
theorem step_same {u : List UInt8} {x : PV} (hu : u ≠ []) (h : uT x = u) : stepT u x = [32, 32, 32, 32] ++ (rowT x ++ [10]) := by
  subst h
  have : (uT x == ([] : List UInt8)) = false := by simpa using hu
  unfold stepT openT
  simp [this]
theorem step_new {u : List UInt8} {x : PV} (hu : u ≠ []) (h : uT x ≠ u) : stepT u x = [32, 32, 125, 10] ++ stepT [] x := by
  have h1 : (u == ([] : List UInt8)) = false := by simpa using hu
  have h2 : (uT x == u) = false := by simpa using h
  unfold stepT openT
  rw [h1, h2]
  cases (uT x == ([] : List UInt8)) <;> simp
theorem step0_read {x y : PV} (gx : RowGood x) (gy : RowGood y) {s t : List UInt8} (e : stepT [] x ++ s = stepT [] y ++ t) : fldEq x y = true ∧ s = t := by
  rw [step_0, step_0] at e
  cases hx : (uT x == ([] : List UInt8)) with
  | true =>
    have ux : uT x = [] := by simpa using hx
    cases hy : (uT y == ([] : List UInt8)) with
    | true =>
      have uy : uT y = [] := by simpa using hy
      rw [hx, hy] at e
      simp only [cond_true, List.append_assoc, List.cons_append, List.nil_append, List.cons.injEq, true_and] at e
      obtain ⟨e1, e2⟩ := row_read gx gy (by rw [hx, hy]) e
      exact ⟨rowEq_same e1 (by rw [ux, uy]), e2⟩
    | false =>
      rw [hx, hy] at e
      simp only [cond_true, cond_false, List.append_assoc, List.cons_append, List.nil_append, List.cons.injEq, true_and] at e
      exfalso
      rcases row_first x gx ux (10 :: s) with ⟨c, r, q, hc⟩ | ⟨r, q⟩
      · rw [q] at e
        simp only [List.cons.injEq] at e
        rcases hc with rfl | rfl | rfl | rfl <;> exact absurd e.1 (by decide)
      · rw [q] at e
        simp only [List.cons.injEq] at e
        exact absurd e.1 (by decide)
  | false =>
    cases hy : (uT y == ([] : List UInt8)) with
    | true =>
      have uy : uT y = [] := by simpa using hy
      rw [hx, hy] at e
      simp only [cond_true, cond_false, List.append_assoc, List.cons_append, List.nil_append, List.cons.injEq, true_and] at e
      exfalso
      rcases row_first y gy uy (10 :: t) with ⟨c, r, q, hc⟩ | ⟨r, q⟩
      · rw [q] at e
        simp only [List.cons.injEq] at e
        rcases hc with rfl | rfl | rfl | rfl <;> exact absurd e.1 (by decide)
      · rw [q] at e
        simp only [List.cons.injEq] at e
        exact absurd e.1 (by decide)
    | false =>
      have nx : uT x ≠ [] := by simpa using hx
      have ny : uT y ≠ [] := by simpa using hy
      rw [hx, hy] at e
      simp only [cond_false, List.append_assoc, List.cons_append, List.nil_append, List.cons.injEq, true_and] at e
      obtain ⟨e1, e⟩ := span_inj alnB _ _ _ _ (simp_chars (gx.union nx)) (simp_chars (gy.union ny)) (stopB_cons (by decide)) (stopB_cons (by decide)) e
      simp only [List.cons.injEq, true_and] at e
      obtain ⟨e2, e3⟩ := row_read gx gy (by rw [hx, hy]) e
      exact ⟨rowEq_same e2 e1, e3⟩
theorem step_read {u : List UInt8} {x y : PV} (gx : RowGood x) (gy : RowGood y) {s t : List UInt8} (e : stepT u x ++ s = stepT u y ++ t) : fldEq x y = true ∧ s = t := by
  by_cases hu : u = []
  · subst hu; exact step0_read gx gy e
  · by_cases hx : uT x = u
    · by_cases hy : uT y = u
      · rw [step_same hu hx, step_same hu hy] at e
        simp only [List.append_assoc, List.cons_append, List.nil_append, List.cons.injEq, true_and] at e
        obtain ⟨e1, e2⟩ := row_read gx gy (by rw [hx, hy]) e
        exact ⟨rowEq_same e1 (by rw [hx, hy]), e2⟩
      · rw [step_same hu hx, step_new hu hy] at e
        simp at e
    · by_cases hy : uT y = u
      · rw [step_new hu hx, step_same hu hy] at e
        simp at e
      · rw [step_new hu hx, step_new hu hy, List.append_assoc, List.append_assoc] at e
        exact step0_read gx gy (List.append_cancel_left e)
theorem fldEq_u {x y : PV} (h : fldEq x y = true) : uT x = uT y := by
  unfold fldEq at h
  simp only [Bool.and_eq_true, beq_iff_eq] at h
  exact h.1.1.1.2
/-- What stands behind the fields. -/
def endS (s : List UInt8) : Prop := (∃ r, s = 125 :: r) ∨ ∃ r, s = 32 :: 32 :: 114 :: 101 :: 115 :: r
def clo (u : List UInt8) : List UInt8 := bif u == [] then [] else [32, 32, 125, 10]
theorem step0_end {x : PV} (gx : RowGood x) {s t : List UInt8} (ht : endS t) (e : stepT [] x ++ s = t) : False := by
  rw [step_0] at e
  cases hx : (uT x == ([] : List UInt8)) with
  | true =>
    have ux : uT x = [] := by simpa using hx
    rw [hx] at e
    simp only [cond_true, List.append_assoc, List.cons_append, List.nil_append] at e
    rcases row_first x gx ux (10 :: s) with ⟨c, r, q, hc⟩ | ⟨r, q⟩ <;> rw [q] at e <;> rcases ht with ⟨z, hz⟩ | ⟨z, hz⟩ <;> rw [hz] at e <;> simp only [List.cons.injEq] at e
    · exact absurd e.1 (by decide)
    · rcases hc with rfl | rfl | rfl | rfl <;> exact absurd e.2.2.1 (by decide)
    · exact absurd e.1 (by decide)
    · exact absurd e.2.2.2.2.1 (by decide)
  | false =>
    rw [hx] at e
    simp only [cond_false, List.append_assoc, List.cons_append, List.nil_append] at e
    rcases ht with ⟨z, hz⟩ | ⟨z, hz⟩ <;> rw [hz] at e <;> simp only [List.cons.injEq] at e
    · exact absurd e.1 (by decide)
    · exact absurd e.2.2.1 (by decide)
theorem step_end {u : List UInt8} {x : PV} (gx : RowGood x) {s t : List UInt8} (ht : endS t) (e : stepT u x ++ s = clo u ++ t) : False := by
  by_cases hu : u = []
  · subst hu; exact step0_end gx ht e
  · have h1 : (u == ([] : List UInt8)) = false := by simpa using hu
    have hc : clo u = [32, 32, 125, 10] := by unfold clo; rw [h1]; rfl
    rw [hc] at e
    by_cases hx : uT x = u
    · rw [step_same hu hx] at e
      simp at e
    · rw [step_new hu hx, List.append_assoc] at e
      exact step0_end gx ht (List.append_cancel_left e)
theorem fields_read : ∀ (l m : List PV) (u : List UInt8), (∀ x, x ∈ l → RowGood x) → (∀ x, x ∈ m → RowGood x) → ∀ {s t : List UInt8}, endS s → endS t → fieldsT u l ++ (clo (lastU u l) ++ s) = fieldsT u m ++ (clo (lastU u m) ++ t) → eqL fldEq l m = true ∧ s = t := by
  intro l
  induction l with
  | nil =>
    intro m u hl hm s t hs ht e
    cases m with
    | nil => exact ⟨rfl, List.append_cancel_left e⟩
    | cons y m =>
      simp only [fieldsT, lastU, List.nil_append, List.append_assoc] at e
      exact (step_end (hm y (by simp)) hs e.symm).elim
  | cons x l ih =>
    intro m u hl hm s t hs ht e
    cases m with
    | nil =>
      simp only [fieldsT, lastU, List.nil_append, List.append_assoc] at e
      exact (step_end (hl x (by simp)) ht e).elim
    | cons y m =>
      simp only [fieldsT, lastU, List.append_assoc] at e
      obtain ⟨e1, e2⟩ := step_read (hl x (by simp)) (hm y (by simp)) e
      rw [← fldEq_u e1] at e2
      obtain ⟨e3, e4⟩ := ih m (uT x) (fun z hz => hl z (by simp [hz])) (fun z hz => hm z (by simp [hz])) hs ht e2
      exact ⟨by simp only [eqL, e1, e3, Bool.and_self], e4⟩
end Go.Ab
namespace Go.Ab
open Go
set_option maxRecDepth 100000
/- Lists with commas. -/
def sepS (s : List UInt8) : Prop := ∃ c r, s = c :: r ∧ (c = 44 ∨ c = 59)
theorem rest_sep (g : PV → List UInt8) (l : List PV) (s : List UInt8) : sepS (restG g l ++ 59 :: s) := by
  cases l with
  | nil => exact ⟨59, s, rfl, Or.inr rfl⟩
  | cons x l => exact ⟨44, _, rfl, Or.inl rfl⟩
/-- Can be read when a comma or a semicolon stands behind. -/
def ReadS (g : PV → List UInt8) (eq : PV → PV → Bool) (P : PV → Prop) : Prop := ∀ x y, P x → P y → ∀ {s t : List UInt8}, sepS s → sepS t → g x ++ s = g y ++ t → eq x y = true ∧ s = t
theorem restG_read {g : PV → List UInt8} {eq : PV → PV → Bool} {P : PV → Prop} (rd : ReadS g eq P) : ∀ l m : List PV, (∀ x, x ∈ l → P x) → (∀ x, x ∈ m → P x) → ∀ {s t : List UInt8}, restG g l ++ 59 :: s = restG g m ++ 59 :: t → eqL eq l m = true ∧ s = t := by
  intro l
  induction l with
  | nil =>
    intro m hl hm s t e
    cases m with
    | nil => simp [restG] at e; exact ⟨rfl, e⟩
    | cons y m => simp [restG] at e
  | cons x l ih =>
    intro m hl hm s t e
    cases m with
    | nil => simp [restG] at e
    | cons y m =>
      simp only [restG, List.append_assoc, List.cons_append, List.nil_append, List.cons.injEq, true_and] at e
      obtain ⟨e1, e2⟩ := rd x y (hl x (by simp)) (hm y (by simp)) (rest_sep _ _ _) (rest_sep _ _ _) e
      obtain ⟨e3, e4⟩ := ih m (fun z hz => hl z (by simp [hz])) (fun z hz => hm z (by simp [hz])) e2
      exact ⟨by simp only [eqL, e1, e3, Bool.and_self], e4⟩
def resW : List UInt8 := [32, 32, 114, 101, 115, 101, 114, 118, 101, 100, 32]
theorem resT_cons (g : PV → List UInt8) (x : PV) (l : List PV) (s : List UInt8) : resT g (x :: l) ++ s = resW ++ (g x ++ (restG g l ++ 59 :: 10 :: s)) := by
  have h0 : (((x :: l).length : Int) == (0 : Int)) = false := by rw [beq_eq_false_iff_ne]; simp only [List.length_cons]; omega
  unfold resT resW
  rw [h0]
  simp [listG]
/-- Does not begin as such a list does. -/
def notR (g : PV → List UInt8) (P : PV → Prop) (s : List UInt8) : Prop := ∀ x r, P x → s ≠ resW ++ (g x ++ r)
theorem res_read {g : PV → List UInt8} {eq : PV → PV → Bool} {P : PV → Prop} (rd : ReadS g eq P) {l m : List PV} (hl : ∀ x, x ∈ l → P x) (hm : ∀ x, x ∈ m → P x) {s t : List UInt8} (hs : notR g P s) (ht : notR g P t) (e : resT g l ++ s = resT g m ++ t) : eqL eq l m = true ∧ s = t := by
  cases l with
  | nil =>
    cases m with
    | nil => exact ⟨rfl, e⟩
    | cons y m =>
      rw [resT_cons] at e
      exact absurd e (hs y _ (hm y (by simp)))
  | cons x l =>
    cases m with
    | nil =>
      rw [resT_cons] at e
      exact absurd e.symm (ht x _ (hl x (by simp)))
    | cons y m =>
      rw [resT_cons, resT_cons] at e
      obtain ⟨e1, e2⟩ := rd x y (hl x (by simp)) (hm y (by simp)) (rest_sep _ _ _) (rest_sep _ _ _) (List.append_cancel_left e)
      obtain ⟨e3, e4⟩ := restG_read rd l m (fun z hz => hl z (by simp [hz])) (fun z hz => hm z (by simp [hz])) e2
      exact ⟨by simp only [eqL, e1, e3, Bool.and_self], by simpa using e4⟩
/- Spans and names that are gone. -/
def SpP (x : PV) : Prop := spanP 2147483647 x = true
theorem SpP.nums {x : PV} (h : SpP x) : 0 ≤ (x.fld 0).asInt ∧ (x.fld 0).asInt ≤ 2147483647 ∧ 0 ≤ (x.fld 1).asInt ∧ (x.fld 1).asInt ≤ 2147483647 := by
  unfold SpP spanP at h
  exact of_decide_eq_true h
theorem sep_dig {s : List UInt8} (h : sepS s) : stopB digC s := by
  obtain ⟨c, r, e, h⟩ := h
  subst e
  rcases h with rfl | rfl <;> exact stopB_cons (by decide)
theorem sep_ne {s r : List UInt8} (h : sepS s) : s ≠ 32 :: r := by
  obtain ⟨c, q, e, h⟩ := h
  subst e
  intro k
  simp only [List.cons.injEq] at k
  rcases h with rfl | rfl <;> exact absurd k.1 (by decide)
theorem sp_read : ReadS spT spanEq SpP := fun x y hx hy s t hs ht e => by
  obtain ⟨x0, x1, x2, x3⟩ := hx.nums
  obtain ⟨y0, y1, y2, y3⟩ := hy.nums
  have sx : ∀ (x : PV) (s : List UInt8), sepS s → stopB digC ((bif (x.fld 0).asInt == (x.fld 1).asInt then [] else [32, 45, 32] ++ numT (x.fld 1).asInt) ++ s) := fun x s hs => by
    cases ((x.fld 0).asInt == (x.fld 1).asInt) with
    | true => exact sep_dig hs
    | false => exact stopB_cons (by decide)
  unfold spT at e
  rw [List.append_assoc, List.append_assoc] at e
  obtain ⟨e1, e⟩ := num_read x0 x1 y0 y1 (sx x s hs) (sx y t ht) e
  cases hx : ((x.fld 0).asInt == (x.fld 1).asInt) with
  | true =>
    cases hy : ((y.fld 0).asInt == (y.fld 1).asInt) with
    | true =>
      rw [hx, hy] at e
      rw [beq_iff_eq] at hx hy
      exact ⟨by unfold spanEq; rw [← hx, ← hy, e1]; simp, e⟩
    | false =>
      rw [hx, hy] at e
      exact absurd e (sep_ne hs)
  | false =>
    cases hy : ((y.fld 0).asInt == (y.fld 1).asInt) with
    | true =>
      rw [hx, hy] at e
      exact absurd e.symm (sep_ne ht)
    | false =>
      rw [hx, hy] at e
      simp only [cond_false, List.append_assoc] at e
      obtain ⟨e2, e3⟩ := num_read x2 x3 y2 y3 (sep_dig hs) (sep_dig ht) (List.append_cancel_left e)
      exact ⟨by unfold spanEq; rw [e1, e2]; simp, e3⟩
theorem go_read : ReadS goT strEq (fun _ => True) := fun x y _ _ s t hs ht e => by
  obtain ⟨e1, e2⟩ := quote_inj e
  exact ⟨by unfold strEq; rw [e1]; simp, e2⟩
theorem num_first {n : Int} (h0 : 0 ≤ n) (h1 : n ≤ 2147483647) : ∃ c r, numT n = c :: r ∧ digC c = true := by
  have h2 := decB_dig (u := n.toNat) (by omega)
  cases h : numT n with
  | nil => exact absurd h (numT_ne n)
  | cons c r => exact ⟨c, r, rfl, h2 c (by rw [show decB n.toNat = c :: r from h]; simp)⟩
theorem notR_end (g : PV → List UInt8) (P : PV → Prop) (s : List UInt8) : notR g P (125 :: s) := fun x r _ e => by simp [resW] at e
theorem notR_gone (l : List PV) (s : List UInt8) : notR spT SpP (resT goT l ++ 125 :: s) := by
  cases l with
  | nil => exact notR_end _ _ _
  | cons y l =>
    intro x r hx e
    rw [resT_cons] at e
    have e := List.append_cancel_left e
    obtain ⟨c, q, h1, h2⟩ := num_first hx.nums.1 hx.nums.2.1
    unfold spT at e
    rw [h1] at e
    have : goT y = 34 :: (quoteFrom y.asStr 0 ++ [34]) := by unfold goT quote; rfl
    rw [this] at e
    simp only [List.cons_append, List.cons.injEq] at e
    rw [← e.1] at h2
    exact absurd h2 (by decide)
theorem endS_res (g : PV → List UInt8) (l : List PV) {s : List UInt8} (hs : endS s) : endS (resT g l ++ s) := by
  cases l with
  | nil => exact hs
  | cons x l => rw [resT_cons]; exact Or.inr ⟨_, rfl⟩
/- Messages. -/
theorem notes_32 (l : List PV) (s : List UInt8) : ∃ r, notesT l ++ 32 :: s = 32 :: r := by
  unfold notesT
  cases ((l.length : Int) == 0) with
  | true => exact ⟨s, rfl⟩
  | false => exact ⟨_, rfl⟩
theorem stop_nm (l : List PV) (s : List UInt8) : stopB nmC (notesT l ++ 32 :: s) := by
  obtain ⟨r, h⟩ := notes_32 l s
  rw [h]
  exact stopB_cons (by decide)
structure MsgGood (m : PV) : Prop where
  ok : MsgOk m
  nm : defP (m.fld 0).asStr = true
  rows : ∀ x, x ∈ (m.fld 1).asList → RowGood x
  nt : (m.fld 4).asList.all rightN = true
theorem msgT_form (m : PV) (s : List UInt8) : msgT m ++ s = [109, 101, 115, 115, 97, 103, 101, 32] ++ ((m.fld 0).asStr ++ (notesT (m.fld 4).asList ++ 32 :: 123 :: 10 :: (fieldsT [] (m.fld 1).asList ++ (clo (lastU [] (m.fld 1).asList) ++ (resT spT (m.fld 2).asList ++ (resT goT (m.fld 3).asList ++ 125 :: 10 :: s)))))) := by
  unfold msgT clo
  simp only [List.append_assoc, List.cons_append, List.nil_append]
theorem stopN_open (s : List UInt8) : stopN (32 :: 123 :: s) := fun r e => by simp at e
theorem msg_read {x y : PV} (gx : MsgGood x) (gy : MsgGood y) {s t : List UInt8} (e : msgT x ++ s = msgT y ++ t) : msgEq x y = true ∧ s = t := by
  rw [msgT_form, msgT_form] at e
  obtain ⟨h0, e⟩ := span_inj nmC _ _ _ _ (def_chars gx.nm) (def_chars gy.nm) (stop_nm _ _) (stop_nm _ _) (List.append_cancel_left e)
  obtain ⟨h4, e⟩ := notes_read gx.nt gy.nt gx.ok.ok.note gy.ok.ok.note (stopN_open _) (stopN_open _) e
  simp only [List.cons.injEq, true_and] at e
  obtain ⟨h1, e⟩ := fields_read _ _ [] gx.rows gy.rows (endS_res _ _ (endS_res _ _ (Or.inl ⟨_, rfl⟩))) (endS_res _ _ (endS_res _ _ (Or.inl ⟨_, rfl⟩))) e
  obtain ⟨h2, e⟩ := res_read sp_read gx.ok.span gy.ok.span (notR_gone _ _) (notR_gone _ _) e
  obtain ⟨h3, e⟩ := res_read go_read (fun _ _ => trivial) (fun _ _ => trivial) (notR_end _ _ _) (notR_end _ _ _) e
  exact ⟨by unfold msgEq; rw [h0, h1, h2, h3, h4]; simp, by simpa using e⟩
/- Lists of lines. -/
theorem flat_read {g : PV → List UInt8} {eq : PV → PV → Bool} {P : PV → Prop} (rd : ∀ x y, P x → P y → ∀ {s t : List UInt8}, g x ++ s = g y ++ t → eq x y = true ∧ s = t) (E : List UInt8 → Prop) (ne : ∀ x r s, P x → E s → g x ++ r ≠ s) : ∀ l m : List PV, (∀ x, x ∈ l → P x) → (∀ x, x ∈ m → P x) → ∀ {s t : List UInt8}, E s → E t → l.flatMap g ++ s = m.flatMap g ++ t → eqL eq l m = true ∧ s = t := by
  intro l
  induction l with
  | nil =>
    intro m hl hm s t hs ht e
    cases m with
    | nil => exact ⟨rfl, e⟩
    | cons y m =>
      simp only [List.flatMap_nil, List.nil_append, List.flatMap_cons, List.append_assoc] at e
      exact absurd e.symm (ne y _ _ (hm y (by simp)) hs)
  | cons x l ih =>
    intro m hl hm s t hs ht e
    cases m with
    | nil =>
      simp only [List.flatMap_nil, List.nil_append, List.flatMap_cons, List.append_assoc] at e
      exact absurd e (ne x _ _ (hl x (by simp)) ht)
    | cons y m =>
      simp only [List.flatMap_cons, List.append_assoc] at e
      obtain ⟨e1, e2⟩ := rd x y (hl x (by simp)) (hm y (by simp)) e
      obtain ⟨e3, e4⟩ := ih m (fun z hz => hl z (by simp [hz])) (fun z hz => hm z (by simp [hz])) hs ht e2
      exact ⟨by simp only [eqL, e1, e3, Bool.and_self], e4⟩
/- Enums. -/
structure ItemGood (x : PV) : Prop where
  ok : OkItem x
  nm : simpP (x.fld 0).asStr = true
  num0 : 0 ≤ (x.fld 1).asInt
  num1 : (x.fld 1).asInt ≤ 2147483647
  nt : (x.fld 2).asList.all rightN = true
theorem stopN_semi (s : List UInt8) : stopN (59 :: s) := fun r e => by simp at e
theorem itemT_form (x : PV) (s : List UInt8) : itemT x ++ s = 32 :: 32 :: ((x.fld 0).asStr ++ 32 :: 61 :: 32 :: (numT (x.fld 1).asInt ++ (notesT (x.fld 2).asList ++ 59 :: 10 :: s))) := by
  unfold itemT
  simp only [List.append_assoc, List.cons_append, List.nil_append]
theorem notes_dig (l : List PV) (s : List UInt8) : stopB digC (notesT l ++ 59 :: s) := by
  obtain ⟨c, r, q, hc⟩ := notes_first l s
  rw [q]
  rcases hc with rfl | rfl <;> exact stopB_cons (by decide)
theorem item_read {x y : PV} (gx : ItemGood x) (gy : ItemGood y) {s t : List UInt8} (e : itemT x ++ s = itemT y ++ t) : itemEq x y = true ∧ s = t := by
  rw [itemT_form, itemT_form] at e
  simp only [List.cons.injEq, true_and] at e
  obtain ⟨h0, e⟩ := span_inj alnB _ _ _ _ (simp_chars gx.nm) (simp_chars gy.nm) (stopB_cons (by decide)) (stopB_cons (by decide)) e
  simp only [List.cons.injEq, true_and] at e
  obtain ⟨h1, e⟩ := num_read gx.num0 gx.num1 gy.num0 gy.num1 (notes_dig _ _) (notes_dig _ _) e
  obtain ⟨h2, e⟩ := notes_read gx.nt gy.nt gx.ok.note gy.ok.note (stopN_semi _) (stopN_semi _) e
  exact ⟨by unfold itemEq; rw [h0, h1, h2]; simp, by simpa using e⟩
def resN : List UInt8 := [114, 101, 115, 101, 114, 118, 101, 100]
theorem res_word : wordP resN = true := by kernel_rfl
theorem item_end {x : PV} (gx : ItemGood x) (r : List UInt8) {l : List PV} {s : List UInt8} : itemT x ++ r ≠ resT spT l ++ 125 :: s := by
  intro e
  rw [itemT_form] at e
  cases l with
  | nil => simp [resT] at e
  | cons y l =>
    rw [resT_cons] at e
    have e : 32 :: 32 :: ((x.fld 0).asStr ++ 32 :: 61 :: 32 :: (numT (x.fld 1).asInt ++ (notesT (x.fld 2).asList ++ 59 :: 10 :: r))) = 32 :: 32 :: (resN ++ 32 :: (spT y ++ (restG spT l ++ 59 :: 10 :: 125 :: s))) := by rw [e]; simp [resW, resN]
    simp only [List.cons.injEq, true_and] at e
    obtain ⟨h0, _⟩ := span_inj alnB _ _ _ _ (simp_chars gx.nm) (by decide) (stopB_cons (by decide)) (stopB_cons (by decide)) e
    have := gx.nm
    rw [h0] at this
    unfold simpP at this
    rw [res_word] at this
    simp at this
structure EnumGood (m : PV) : Prop where
  ok : EnumOk m
  nm : defP (m.fld 0).asStr = true
  items : ∀ x, x ∈ (m.fld 2).asList → ItemGood x
  nt : (m.fld 4).asList.all rightN = true
theorem enumT_form (m : PV) (s : List UInt8) : enumT m ++ s = (bif (m.fld 1).asBool then [111, 112, 101, 110, 32] else []) ++ ([101, 110, 117, 109, 32] ++ ((m.fld 0).asStr ++ (notesT (m.fld 4).asList ++ 32 :: 123 :: 10 :: ((m.fld 2).asList.flatMap itemT ++ (resT spT (m.fld 3).asList ++ 125 :: 10 :: s))))) := by
  unfold enumT
  simp only [List.append_assoc, List.cons_append, List.nil_append]
theorem enum_read {x y : PV} (gx : EnumGood x) (gy : EnumGood y) {s t : List UInt8} (e : enumT x ++ s = enumT y ++ t) : enumEq x y = true ∧ s = t := by
  rw [enumT_form, enumT_form] at e
  have hb : (x.fld 1).asBool = (y.fld 1).asBool := by
    cases hx : (x.fld 1).asBool <;> cases hy : (y.fld 1).asBool <;> first | rfl | (rw [hx, hy] at e; simp at e)
  rw [hb] at e
  have e := List.append_cancel_left (List.append_cancel_left e)
  obtain ⟨h0, e⟩ := span_inj nmC _ _ _ _ (def_chars gx.nm) (def_chars gy.nm) (stop_nm _ _) (stop_nm _ _) e
  obtain ⟨h4, e⟩ := notes_read gx.nt gy.nt gx.ok.ok.note gy.ok.ok.note (stopN_open _) (stopN_open _) e
  simp only [List.cons.injEq, true_and] at e
  obtain ⟨h2, e⟩ := flat_read (g := itemT) (eq := itemEq) (P := ItemGood) (fun x y hx hy _ _ e => item_read hx hy e) (fun s => ∃ l r, s = resT spT l ++ 125 :: r) (fun x r s hx ⟨l, q, hq⟩ => by rw [hq]; exact item_end hx r) _ _ gx.items gy.items ⟨_, _, rfl⟩ ⟨_, _, rfl⟩ e
  obtain ⟨h3, e⟩ := res_read sp_read gx.ok.span gy.ok.span (notR_end _ _ _) (notR_end _ _ _) e
  exact ⟨by unfold enumEq; rw [h0, hb, h2, h3, h4]; simp, by simpa using e⟩
/- Services. -/
structure MethGood (x : PV) : Prop where
  ok : OkMeth x
  nm : nmMeth x = true
  sh0 : 1 ≤ (x.fld 3).asInt
  sh1 : (x.fld 3).asInt ≤ 4
  nt : (x.fld 4).asList.all rightN = true
theorem methT_form (x : PV) (s : List UInt8) : methT x ++ s = [32, 32, 114, 112, 99, 32] ++ ((x.fld 0).asStr ++ 40 :: (sideT (((x.fld 3).asInt == 3) || ((x.fld 3).asInt == 4)) (x.fld 1).asStr ++ 41 :: 32 :: 114 :: 101 :: 116 :: 117 :: 114 :: 110 :: 115 :: 32 :: 40 :: (sideT (((x.fld 3).asInt == 2) || ((x.fld 3).asInt == 4)) (x.fld 2).asStr ++ 41 :: (notesT (x.fld 4).asList ++ 59 :: 10 :: s)))) := by
  unfold methT
  simp only [List.append_assoc, List.cons_append, List.nil_append]
theorem side_read {b c : Bool} {u v s t : List UInt8} (hu : typeP u = true) (hv : typeP v = true) (nu : u ≠ strm) (nv : v ≠ strm) (e : sideT b u ++ 41 :: s = sideT c v ++ 41 :: t) : b = c ∧ u = v ∧ s = t := by
  unfold sideT at e
  have sp : ∀ u : List UInt8, [115, 116, 114, 101, 97, 109, 32] ++ u = strm ++ 32 :: u := fun u => rfl
  cases b <;> cases c <;> simp only [cond_true, cond_false, sp, List.append_assoc, List.cons_append] at e
  · obtain ⟨e1, e2⟩ := span_inj nmC _ _ _ _ (type_chars hu) (type_chars hv) (stopB_cons (by decide)) (stopB_cons (by decide)) e
    exact ⟨rfl, e1, by simpa using e2⟩
  · obtain ⟨e1, e2⟩ := span_inj nmC _ _ _ _ (type_chars hu) (by decide) (stopB_cons (by decide)) (stopB_cons (by decide)) e
    exact absurd e1 nu
  · obtain ⟨e1, e2⟩ := span_inj nmC _ _ _ _ (by decide) (type_chars hv) (stopB_cons (by decide)) (stopB_cons (by decide)) e
    exact absurd e1.symm nv
  · have e := List.append_cancel_left e
    simp only [List.cons.injEq, true_and] at e
    obtain ⟨e1, e2⟩ := span_inj nmC _ _ _ _ (type_chars hu) (type_chars hv) (stopB_cons (by decide)) (stopB_cons (by decide)) e
    exact ⟨rfl, e1, by simpa using e2⟩
theorem MethGood.parts {x : PV} (h : MethGood x) : simpP (x.fld 0).asStr = true ∧ typeP (x.fld 1).asStr = true ∧ typeP (x.fld 2).asStr = true ∧ (x.fld 1).asStr ≠ strm ∧ (x.fld 2).asStr ≠ strm := by
  have := h.nm
  unfold nmMeth at this
  simp only [Bool.and_eq_true, Bool.not_eq_true', beq_eq_false_iff_ne] at this
  exact ⟨this.1.1.1.1, this.1.1.1.2, this.1.1.2, this.1.2, this.2⟩
theorem shape_eq {a b : Int} (h0 : 1 ≤ a) (h1 : a ≤ 4) (k0 : 1 ≤ b) (k1 : b ≤ 4) (e1 : ((a == 3) || (a == 4)) = ((b == 3) || (b == 4))) (e2 : ((a == 2) || (a == 4)) = ((b == 2) || (b == 4))) : a = b := by
  have ha : a = 1 ∨ a = 2 ∨ a = 3 ∨ a = 4 := by omega
  have hb : b = 1 ∨ b = 2 ∨ b = 3 ∨ b = 4 := by omega
  rcases ha with rfl | rfl | rfl | rfl <;> rcases hb with rfl | rfl | rfl | rfl <;> first | rfl | (exfalso; revert e1 e2; decide)
theorem meth_read {x y : PV} (gx : MethGood x) (gy : MethGood y) {s t : List UInt8} (e : methT x ++ s = methT y ++ t) : methEq x y = true ∧ s = t := by
  obtain ⟨x0, x1, x2, x3, x4⟩ := gx.parts
  obtain ⟨y0, y1, y2, y3, y4⟩ := gy.parts
  rw [methT_form, methT_form] at e
  obtain ⟨h0, e⟩ := span_inj alnB _ _ _ _ (simp_chars x0) (simp_chars y0) (stopB_cons (by decide)) (stopB_cons (by decide)) (List.append_cancel_left e)
  simp only [List.cons.injEq, true_and] at e
  obtain ⟨b1, h1, e⟩ := side_read x1 y1 x3 y3 e
  simp only [List.cons.injEq, true_and] at e
  obtain ⟨b2, h2, e⟩ := side_read x2 y2 x4 y4 e
  obtain ⟨h4, e⟩ := notes_read gx.nt gy.nt gx.ok.note gy.ok.note (stopN_semi _) (stopN_semi _) e
  exact ⟨by unfold methEq; rw [h0, h1, h2, h4, shape_eq gx.sh0 gx.sh1 gy.sh0 gy.sh1 b1 b2]; simp, by simpa using e⟩
structure SvcGood (m : PV) : Prop where
  ok : SvcOk m
  nm : defP (m.fld 0).asStr = true
  meths : ∀ x, x ∈ (m.fld 1).asList → MethGood x
  nt : (m.fld 2).asList.all rightN = true
theorem svcT_form (m : PV) (s : List UInt8) : svcT m ++ s = [115, 101, 114, 118, 105, 99, 101, 32] ++ ((m.fld 0).asStr ++ (notesT (m.fld 2).asList ++ 32 :: 123 :: 10 :: ((m.fld 1).asList.flatMap methT ++ 125 :: 10 :: s))) := by
  unfold svcT
  simp only [List.append_assoc, List.cons_append, List.nil_append]
theorem svc_read {x y : PV} (gx : SvcGood x) (gy : SvcGood y) {s t : List UInt8} (e : svcT x ++ s = svcT y ++ t) : svcEq x y = true ∧ s = t := by
  rw [svcT_form, svcT_form] at e
  obtain ⟨h0, e⟩ := span_inj nmC _ _ _ _ (def_chars gx.nm) (def_chars gy.nm) (stop_nm _ _) (stop_nm _ _) (List.append_cancel_left e)
  obtain ⟨h2, e⟩ := notes_read gx.nt gy.nt gx.ok.ok.note gy.ok.ok.note (stopN_open _) (stopN_open _) e
  simp only [List.cons.injEq, true_and] at e
  obtain ⟨h1, e⟩ := flat_read (g := methT) (eq := methEq) (P := MethGood) (fun x y hx hy _ _ e => meth_read hx hy e) (fun s => ∃ r, s = 125 :: r) (fun x r s hx ⟨q, hq⟩ => by rw [hq, methT_form]; simp) _ _ gx.meths gy.meths ⟨_, rfl⟩ ⟨_, rfl⟩ e
  exact ⟨by unfold svcEq; rw [h0, h1, h2]; simp, by simpa using e⟩
/- Files. -/
structure FileGood (f : PV) : Prop where
  ok : FileOk f
  nm : (f.fld 1).asStr = [] ∨ defP (f.fld 1).asStr = true
  msg : ∀ x, x ∈ (f.fld 3).asList → MsgGood x
  enum : ∀ x, x ∈ (f.fld 4).asList → EnumGood x
  svc : ∀ x, x ∈ (f.fld 5).asList → SvcGood x
def nl (g : PV → List UInt8) (x : PV) : List UInt8 := 10 :: g x
noncomputable def tailT (f : PV) : List UInt8 := (f.fld 3).asList.flatMap (nl msgT) ++ ((f.fld 4).asList.flatMap (nl enumT) ++ (f.fld 5).asList.flatMap (nl svcT))
theorem defG_ne (g : PV → List UInt8) : ∀ (l : List PV) (b : List UInt8), b ≠ [] → l.foldl (defG g) b = b ++ l.flatMap (nl g) := by
  intro l
  induction l with
  | nil => intro b h; simp
  | cons x l ih =>
    intro b h
    have h1 : (b == ([] : List UInt8)) = false := by simpa using h
    rw [List.foldl_cons, ih _ (by unfold defG; rw [h1]; simp)]
    unfold defG nl
    rw [h1]
    simp
theorem defG_nil (g : PV → List UInt8) (hg : ∀ x, g x ≠ []) (l : List PV) : (l.foldl (defG g) [] = [] ∧ l.flatMap (nl g) = []) ∨ (l.foldl (defG g) [] ≠ [] ∧ 10 :: l.foldl (defG g) [] = l.flatMap (nl g)) := by
  cases l with
  | nil => exact Or.inl ⟨rfl, rfl⟩
  | cons x l =>
    have h1 : defG g [] x = g x := by unfold defG; simp
    rw [List.foldl_cons, h1, defG_ne g l _ (hg x)]
    exact Or.inr ⟨by simp [hg x], by simp [nl]⟩
theorem msgT_ne (x : PV) : msgT x ≠ [] := by simp [msgT]
theorem enumT_ne (x : PV) : enumT x ≠ [] := by simp [enumT]
theorem svcT_ne (x : PV) : svcT x ≠ [] := by simp [svcT]
theorem file_form (f : PV) : (topT f ≠ [] ∧ fileT f = topT f ++ tailT f) ∨ (topT f = [] ∧ ((fileT f = [] ∧ tailT f = []) ∨ (fileT f ≠ [] ∧ 10 :: fileT f = tailT f))) := by
  unfold fileT tailT
  by_cases h : topT f = []
  · refine Or.inr ⟨h, ?_⟩
    rw [h]
    rcases defG_nil msgT msgT_ne (f.fld 3).asList with ⟨h1, h2⟩ | ⟨h1, h2⟩
    · rw [h1, h2]
      rcases defG_nil enumT enumT_ne (f.fld 4).asList with ⟨h3, h4⟩ | ⟨h3, h4⟩
      · rw [h3, h4]
        exact defG_nil svcT svcT_ne (f.fld 5).asList
      · rw [defG_ne svcT _ _ h3, ← h4]
        exact Or.inr ⟨by simp [h3], by simp⟩
    · rw [defG_ne enumT _ _ h1, defG_ne svcT _ _ (by simp [h1]), ← h2]
      exact Or.inr ⟨by simp [h1], by simp⟩
  · refine Or.inl ⟨h, ?_⟩
    rw [defG_ne msgT _ _ h, defG_ne enumT _ _ (by simp [h]), defG_ne svcT _ _ (by simp [h])]
    simp
/-- What may stand behind the top: nothing or an empty line. -/
def endT (s : List UInt8) : Prop := s = [] ∨ ∃ r, s = 10 :: r
theorem flat_endT (g : PV → List UInt8) (l : List PV) {s : List UInt8} (hs : endT s) : endT (l.flatMap (nl g) ++ s) := by
  cases l with
  | nil => exact hs
  | cons x l => exact Or.inr ⟨_, rfl⟩
theorem tail_endT (f : PV) : endT (tailT f) := by
  unfold tailT
  rw [← List.append_nil ((f.fld 5).asList.flatMap (nl svcT))]
  exact flat_endT _ _ (flat_endT _ _ (flat_endT _ _ (Or.inl rfl)))
theorem imp_read {x y : PV} {s t : List UInt8} (e : impT x ++ s = impT y ++ t) : strEq x y = true ∧ s = t := by
  unfold impT at e
  simp only [List.append_assoc] at e
  obtain ⟨e1, e2⟩ := quote_inj (List.append_cancel_left e)
  exact ⟨by unfold strEq; rw [e1]; simp, List.append_cancel_left e2⟩
theorem imp_end (x : PV) (r : List UInt8) {s : List UInt8} (h : endT s) : impT x ++ r ≠ s := by
  intro e
  rcases h with h | ⟨q, h⟩ <;> rw [h] at e <;> simp [impT] at e
theorem imports_read {l m : List PV} {s t : List UInt8} (hs : endT s) (ht : endT t) (e : l.flatMap impT ++ s = m.flatMap impT ++ t) : eqL strEq l m = true ∧ s = t :=
  flat_read (g := impT) (eq := strEq) (P := fun _ => True) (fun x y _ _ _ _ e => imp_read e) endT (fun x r s _ h => imp_end x r h) l m (fun _ _ => trivial) (fun _ _ => trivial) hs ht e
theorem space_end (q : List UInt8) (l : List PV) {s : List UInt8} (hs : endT s) : 115 :: q ≠ l.flatMap impT ++ s := by
  intro e
  cases l with
  | nil => rcases hs with h | ⟨r, h⟩ <;> rw [h] at e <;> simp at e
  | cons x l => simp [impT] at e
theorem top_read {x y : PV} (gx : FileGood x) (gy : FileGood y) {s t : List UInt8} (hs : endT s) (ht : endT t) (e : topT x ++ s = topT y ++ t) : (x.fld 1).asStr = (y.fld 1).asStr ∧ eqL strEq (x.fld 2).asList (y.fld 2).asList = true ∧ s = t := by
  unfold topT at e
  cases hx : ((x.fld 1).asStr == ([] : List UInt8)) with
  | true =>
    have ux : (x.fld 1).asStr = [] := by simpa using hx
    cases hy : ((y.fld 1).asStr == ([] : List UInt8)) with
    | true =>
      have uy : (y.fld 1).asStr = [] := by simpa using hy
      rw [hx, hy] at e
      obtain ⟨e1, e2⟩ := imports_read hs ht e
      exact ⟨by rw [ux, uy], e1, e2⟩
    | false =>
      rw [hx, hy] at e
      simp only [cond_true, cond_false, List.append_assoc, List.cons_append, List.nil_append] at e
      exact absurd e.symm (space_end _ _ hs)
  | false =>
    have nx : (x.fld 1).asStr ≠ [] := by simpa using hx
    cases hy : ((y.fld 1).asStr == ([] : List UInt8)) with
    | true =>
      rw [hx, hy] at e
      simp only [cond_true, cond_false, List.append_assoc, List.cons_append, List.nil_append] at e
      exact absurd e (space_end _ _ ht)
    | false =>
      have ny : (y.fld 1).asStr ≠ [] := by simpa using hy
      rw [hx, hy] at e
      simp only [cond_false, List.append_assoc] at e
      have e := List.append_cancel_left e
      simp only [List.cons_append, List.nil_append] at e
      obtain ⟨e1, e2⟩ := span_inj nmC _ _ _ _ (def_chars (gx.nm.resolve_left nx)) (def_chars (gy.nm.resolve_left ny)) (stopB_cons (by decide)) (stopB_cons (by decide)) e
      simp only [List.cons.injEq, true_and] at e2
      obtain ⟨e3, e4⟩ := imports_read hs ht e2
      exact ⟨e1, e3, e4⟩
theorem nl_read {g : PV → List UInt8} {eq : PV → PV → Bool} {P : PV → Prop} (rd : ∀ x y, P x → P y → ∀ {s t : List UInt8}, g x ++ s = g y ++ t → eq x y = true ∧ s = t) (x y : PV) (hx : P x) (hy : P y) {s t : List UInt8} (e : nl g x ++ s = nl g y ++ t) : eq x y = true ∧ s = t := by
  unfold nl at e
  simp only [List.cons_append, List.cons.injEq, true_and] at e
  exact rd x y hx hy e
theorem msg_first (x : PV) (r : List UInt8) : ∃ q, nl msgT x ++ r = 10 :: 109 :: q := ⟨_, rfl⟩
theorem enum_first (x : PV) (r : List UInt8) : (∃ q, nl enumT x ++ r = 10 :: 101 :: q) ∨ ∃ q, nl enumT x ++ r = 10 :: 111 :: q := by
  unfold nl enumT
  cases (x.fld 1).asBool with
  | true => exact Or.inr ⟨_, rfl⟩
  | false => exact Or.inl ⟨_, rfl⟩
theorem svc_first (x : PV) (r : List UInt8) : ∃ q, nl svcT x ++ r = 10 :: 115 :: 101 :: q := ⟨_, rfl⟩
def endV (s : List UInt8) : Prop := s = []
def endE (s : List UInt8) : Prop := s = [] ∨ ∃ q, s = 10 :: 115 :: q
def endM (s : List UInt8) : Prop := endE s ∨ (∃ q, s = 10 :: 101 :: q) ∨ ∃ q, s = 10 :: 111 :: q
theorem svcs_endE (l : List PV) : endE (l.flatMap (nl svcT)) := by
  cases l with
  | nil => exact Or.inl rfl
  | cons x l =>
    obtain ⟨q, h⟩ := svc_first x (l.flatMap (nl svcT))
    rw [List.flatMap_cons, h]
    exact Or.inr ⟨_, rfl⟩
theorem enums_endM (l : List PV) {s : List UInt8} (h : endE s) : endM (l.flatMap (nl enumT) ++ s) := by
  cases l with
  | nil => exact Or.inl h
  | cons x l =>
    rw [List.flatMap_cons, List.append_assoc]
    exact Or.inr (enum_first x _)
theorem tail_read {x y : PV} (gx : FileGood x) (gy : FileGood y) (e : tailT x = tailT y) : eqL msgEq (x.fld 3).asList (y.fld 3).asList = true ∧ eqL enumEq (x.fld 4).asList (y.fld 4).asList = true ∧ eqL svcEq (x.fld 5).asList (y.fld 5).asList = true := by
  unfold tailT at e
  obtain ⟨h3, e⟩ := flat_read (g := nl msgT) (eq := msgEq) (P := MsgGood) (nl_read fun x y hx hy _ _ e => msg_read hx hy e) endM (fun x r s hx h k => by
    obtain ⟨q, hq⟩ := msg_first x r
    rw [hq] at k
    rcases h with (h | ⟨_, h⟩) | ⟨_, h⟩ | ⟨_, h⟩ <;> rw [h] at k <;> simp at k) _ _ gx.msg gy.msg (enums_endM _ (svcs_endE _)) (enums_endM _ (svcs_endE _)) e
  obtain ⟨h4, e⟩ := flat_read (g := nl enumT) (eq := enumEq) (P := EnumGood) (nl_read fun x y hx hy _ _ e => enum_read hx hy e) endE (fun x r s hx h k => by
    rcases enum_first x r with ⟨q, hq⟩ | ⟨q, hq⟩ <;> rw [hq] at k <;> rcases h with h | ⟨_, h⟩ <;> rw [h] at k <;> simp at k) _ _ gx.enum gy.enum (svcs_endE _) (svcs_endE _) e
  rw [← List.append_nil ((x.fld 5).asList.flatMap (nl svcT)), ← List.append_nil ((y.fld 5).asList.flatMap (nl svcT))] at e
  obtain ⟨h5, e⟩ := flat_read (g := nl svcT) (eq := svcEq) (P := SvcGood) (nl_read fun x y hx hy _ _ e => svc_read hx hy e) endV (fun x r s hx h k => by
    obtain ⟨q, hq⟩ := svc_first x r
    rw [hq, h] at k
    cases k) _ _ gx.svc gy.svc rfl rfl e
  exact ⟨h3, h4, h5⟩
theorem top_first {f : PV} (h : topT f ≠ []) : (∃ r, topT f = 115 :: 112 :: r) ∨ ∃ r, topT f = 105 :: r := by
  revert h
  unfold topT
  cases ((f.fld 1).asStr == ([] : List UInt8)) with
  | false => intro _; exact Or.inl ⟨_, rfl⟩
  | true =>
    cases (f.fld 2).asList with
    | nil => intro h; exact absurd rfl h
    | cons x l => intro _; exact Or.inr ⟨_, rfl⟩
theorem tail_first {f : PV} {r : List UInt8} (h : tailT f = 10 :: r) : (∃ q, r = 109 :: q) ∨ (∃ q, r = 101 :: q) ∨ (∃ q, r = 111 :: q) ∨ ∃ q, r = 115 :: 101 :: q := by
  unfold tailT at h
  cases h3 : (f.fld 3).asList with
  | cons x l =>
    obtain ⟨q, hq⟩ := msg_first x (l.flatMap (nl msgT) ++ ((f.fld 4).asList.flatMap (nl enumT) ++ (f.fld 5).asList.flatMap (nl svcT)))
    rw [h3, List.flatMap_cons, List.append_assoc, hq] at h
    simp only [List.cons.injEq, true_and] at h
    exact Or.inl ⟨_, h.symm⟩
  | nil =>
    rw [h3, List.flatMap_nil, List.nil_append] at h
    cases h4 : (f.fld 4).asList with
    | cons x l =>
      rw [h4, List.flatMap_cons, List.append_assoc] at h
      rcases enum_first x (l.flatMap (nl enumT) ++ (f.fld 5).asList.flatMap (nl svcT)) with ⟨q, hq⟩ | ⟨q, hq⟩ <;> rw [hq] at h <;> simp only [List.cons.injEq, true_and] at h
      · exact Or.inr (Or.inl ⟨_, h.symm⟩)
      · exact Or.inr (Or.inr (Or.inl ⟨_, h.symm⟩))
    | nil =>
      rw [h4, List.flatMap_nil, List.nil_append] at h
      cases h5 : (f.fld 5).asList with
      | cons x l =>
        obtain ⟨q, hq⟩ := svc_first x (l.flatMap (nl svcT))
        rw [h5, List.flatMap_cons, hq] at h
        simp only [List.cons.injEq, true_and] at h
        exact Or.inr (Or.inr (Or.inr ⟨_, h.symm⟩))
      | nil => rw [h5] at h; cases h
theorem top_tail {x y : PV} (hx : topT x ≠ []) (h : fileT x = topT x ++ tailT x) (hy : 10 :: fileT y = tailT y) (e : fileT x = fileT y) : False := by
  rw [← e, h] at hy
  rcases tail_first hy.symm with ⟨q, k⟩ | ⟨q, k⟩ | ⟨q, k⟩ | ⟨q, k⟩ <;> rcases top_first hx with ⟨r, z⟩ | ⟨r, z⟩ <;> rw [z] at k <;> simp at k
theorem file_read {x y : PV} (gx : FileGood x) (gy : FileGood y) (e : fileT x = fileT y) : fileEq x y = true := by
  have key : topT x ++ tailT x = topT y ++ tailT y := by
    rcases file_form x with ⟨h1, h2⟩ | ⟨h1, ⟨h2, h3⟩ | ⟨h2, h3⟩⟩ <;> rcases file_form y with ⟨k1, k2⟩ | ⟨k1, ⟨k2, k3⟩ | ⟨k2, k3⟩⟩
    · rw [← h2, ← k2, e]
    · rw [e, k2] at h2
      exact absurd (List.append_eq_nil_iff.1 h2.symm).1 h1
    · exact (top_tail h1 h2 k3 e).elim
    · rw [← e, h2] at k2
      exact absurd (List.append_eq_nil_iff.1 k2.symm).1 k1
    · rw [h1, k1, h3, k3]
    · exact absurd (e.symm.trans h2) k2
    · exact (top_tail k1 k2 h3 e.symm).elim
    · exact absurd (e.trans k2) h2
    · rw [h1, k1, ← h3, ← k3, e]
  obtain ⟨h1, h2, h⟩ := top_read gx gy (tail_endT x) (tail_endT y) key
  obtain ⟨h3, h4, h5⟩ := tail_read gx gy h
  unfold fileEq
  rw [h1, h2, h3, h4, h5]; simp
end Go.Ab
namespace Go.Ab
open Go
set_option maxRecDepth 100000
/- What has been checked. -/
theorem chkL_right (t : Int) : ∀ (l : List PV) (last : List UInt8) (ok : Bool), chkL t l last ok = 0 → l.all rightN = true := by
  intro l
  induction l with
  | nil => intros; rfl
  | cons n r ih =>
    intro last ok h
    simp only [chkL] at h
    by_cases q : chk1 n t last ok = 0
    · rw [if_pos q] at h
      have hr : rightN n = true := by
        cases hr : rightN n with
        | true => rfl
        | false =>
          unfold chk1 at q
          rw [hr] at q
          repeat' split at q
          all_goals first | (cases q; done) | simp_all
      rw [List.all_cons, hr, ih _ _ h]; rfl
    · rw [if_neg q] at h
      exact absurd h q
theorem checkN_right {l : List PV} {t : Int} (h : checkN l t = 0) : l.all rightN = true := by
  unfold checkN at h
  split at h
  · cases h
  · exact chkL_right _ _ _ _ h
theorem row_good {x : PV} (h : RowOk x) (hn : nmFld x = true) (ha : argFld x = true) (ht : (x.fld 8).asList.all rightN = true) : RowGood x := ⟨h, hn, ha, ht⟩
theorem file_good {f : PV} (h : OkFile f) (hz : chkF f = 0) : FileGood f := by
  have ho := chk_zero h hz
  have hp : nmFile f = true ∧ argFile f = true ∧ ntFile f = 0 := by
    unfold chkF at hz
    cases h1 : nmFile f <;> rw [h1] at hz
    · cases hz
    cases h2 : argFile f <;> rw [h2] at hz
    · cases hz
    cases h3 : txFile f <;> rw [h3] at hz
    · cases hz
    simp only [Bool.not_true, cond_false] at hz
    by_cases hn : ntFile f = 0
    · exact ⟨rfl, rfl, hn⟩
    · rw [bneI hn] at hz
      exact absurd hz hn
  obtain ⟨h1, h2, h3⟩ := hp
  rw [← errL_file] at h3
  have nt : ∀ n, n ∈ nlFile f → (n.fld 0).asList.all rightN = true := fun n hn => checkN_right ((errL_zero _ _ h3).2 n hn)
  unfold nmFile at h1
  unfold argFile at h2
  simp only [Bool.and_eq_true, Bool.or_eq_true, beq_iff_eq] at h1 h2
  obtain ⟨⟨⟨n0, n3⟩, n4⟩, n5⟩ := h1
  obtain ⟨⟨a3, a4⟩, a5⟩ := h2
  refine ⟨ho, n0, fun m hm => ?_, fun m hm => ?_, fun m hm => ?_⟩
  · have hn := List.all_eq_true.1 n3 m hm
    have ha := List.all_eq_true.1 a3 m hm
    unfold nmMsg at hn
    unfold argMsg at ha
    simp only [Bool.and_eq_true] at hn ha
    have hin : ∀ n, n ∈ nlMsg m → n ∈ nlFile f := fun n hn => by
      unfold nlFile
      exact List.mem_append_left _ (List.mem_append_left _ (List.mem_flatMap.2 ⟨m, hm, hn⟩))
    refine ⟨ho.msg m hm, hn.1, fun x hx => row_good ((ho.msg m hm).rows x hx) (List.all_eq_true.1 hn.2 x hx) (List.all_eq_true.1 ha.1.1 x hx) ?_, ?_⟩
    · exact nt (nv (x.fld 8).asList 2) (hin _ (List.mem_cons_of_mem _ (List.mem_map.2 ⟨x, hx, rfl⟩)))
    · exact nt (nv (m.fld 4).asList 1) (hin _ (List.mem_cons_self ..))
  · have hn := List.all_eq_true.1 n4 m hm
    unfold nmEnum at hn
    simp only [Bool.and_eq_true] at hn
    have hin : ∀ n, n ∈ nlEnum m → n ∈ nlFile f := fun n hn => by
      unfold nlFile
      exact List.mem_append_left _ (List.mem_append_right _ (List.mem_flatMap.2 ⟨m, hm, hn⟩))
    have he := ho.enum m hm
    refine ⟨he, hn.1, fun x hx => ⟨he.ok.item x hx, List.all_eq_true.1 hn.2 x hx, (he.num x hx).1, (he.num x hx).2, ?_⟩, ?_⟩
    · exact nt (nv (x.fld 2).asList 4) (hin _ (List.mem_cons_of_mem _ (List.mem_map.2 ⟨x, hx, rfl⟩)))
    · exact nt (nv (m.fld 4).asList 3) (hin _ (List.mem_cons_self ..))
  · have hn := List.all_eq_true.1 n5 m hm
    have ha := List.all_eq_true.1 a5 m hm
    unfold nmSvc at hn
    unfold argSvc at ha
    simp only [Bool.and_eq_true] at hn
    have hin : ∀ n, n ∈ nlSvc m → n ∈ nlFile f := fun n hn => by
      unfold nlFile
      exact List.mem_append_right _ (List.mem_flatMap.2 ⟨m, hm, hn⟩)
    have hs := ho.svc m hm
    refine ⟨hs, hn.1, fun x hx => ?_, ?_⟩
    · have hq := List.all_eq_true.1 ha x hx
      unfold argMeth at hq
      simp only [Bool.and_eq_true, decide_eq_true_eq] at hq
      exact ⟨hs.ok.meth x hx, List.all_eq_true.1 hn.2 x hx, hq.1, hq.2, nt (nv (x.fld 4).asList 6) (hin _ (List.mem_cons_of_mem _ (List.mem_map.2 ⟨x, hx, rfl⟩)))⟩
    · exact nt (nv (m.fld 2).asList 5) (hin _ (List.mem_cons_self ..))
/- The same parts have the same texts. -/
theorem eqL_map {eq : PV → PV → Bool} {P : PV → Prop} {β : Type} {g : PV → β} (h : ∀ x y, P x → P y → eq x y = true → g x = g y) : ∀ l m : List PV, (∀ x, x ∈ l → P x) → (∀ x, x ∈ m → P x) → eqL eq l m = true → l.map g = m.map g := by
  intro l
  induction l with
  | nil =>
    intro m hl hm e
    cases m with
    | nil => rfl
    | cons y m => simp [eqL] at e
  | cons x l ih =>
    intro m hl hm e
    cases m with
    | nil => simp [eqL] at e
    | cons y m =>
      simp only [eqL, Bool.and_eq_true] at e
      rw [List.map_cons, List.map_cons, h x y (hl x (by simp)) (hm y (by simp)) e.1, ih m (fun z hz => hl z (by simp [hz])) (fun z hz => hm z (by simp [hz])) e.2]
theorem vEq_parts {v w : PV} (h : vEq v w = true) : vSame v w := by
  unfold vEq at h
  simp only [Bool.and_eq_true, beq_iff_eq] at h
  exact ⟨h.1.1, h.1.2, h.2⟩
theorem fits_same {v w : PV} (h : vSame v w) (hl : vLists v = vLists w) (k : Int) : fitsV k v = fitsV k w := by
  obtain ⟨h0, h1, h2⟩ := h
  unfold fitsV
  rw [h0, h1, h2, hl]
theorem textV_same {v w : PV} (h : vSame v w) (hl : vLists v = vLists w) : textV v = textV w := by
  have hf := fits_same h hl
  obtain ⟨h0, h1, h2⟩ := h
  unfold textV
  rw [hf, h0, h1, h2]
theorem litT_same {v w : PV} (h : vSame v w) (hl : vLists v = vLists w) : litT v = litT w := by
  have hf := fits_same h hl
  have ht := textV_same h hl
  obtain ⟨h0, h1, h2⟩ := h
  unfold litT textW itemV
  rw [hf, ht, h0, h1, h2, hl]
theorem right_lists {n : PV} (h : rightN n = true) : vLists (nVal n) = 0 := by
  unfold rightN at h
  simp only [Bool.and_eq_true] at h
  exact (fits_facts h.2).2.1
theorem textN_same {m n : PV} (hm : rightN m = true) (hn : rightN n = true) (h : noteEq m n = true) : textN m = textN n := by
  unfold noteEq at h
  simp only [Bool.and_eq_true, beq_iff_eq] at h
  have h1 : nName m = nName n := h.1
  unfold textN
  rw [h1, textV_same (v := nVal m) (w := nVal n) (vEq_parts h.2) (by rw [right_lists hm, right_lists hn])]
theorem notes_same {l m : List PV} (hl : l.all rightN = true) (hm : m.all rightN = true) (h : eqL noteEq l m = true) : notesT l = notesT m := by
  have e := eqL_map (P := fun n => rightN n = true) (g := textN) (fun x y hx hy h => textN_same hx hy h) l m (List.all_eq_true.1 hl) (List.all_eq_true.1 hm) h
  have el : l.length = m.length := by simpa using congrArg List.length e
  unfold notesT
  rw [el]
  cases l with
  | nil =>
    cases m with
    | nil => rfl
    | cons y m => simp at el
  | cons x l =>
    cases m with
    | nil => simp at el
    | cons y m =>
      have tl : ∀ (n : PV) (r : List PV), (n :: r).all rightN = true → textL (n :: r) = [91] ++ ([44, 32] : List UInt8).intercalate ((n :: r).map textN) ++ [93] := fun n r h => by
        rw [inter_eq, show textL (n :: r) = bif (n :: r).all rightN then [91] ++ (textN n ++ restT r) ++ [93] else [] from rfl, h]; rfl
      rw [tl x l hl, tl y m hm, e]
theorem type_same {t u : PV} (h : tEq t u = true) : typeT t = typeT u := by
  unfold tEq at h
  simp only [Bool.and_eq_true, beq_iff_eq] at h
  unfold typeT
  rw [h.1, h.2]
theorem RowGood.lists {x : PV} (h : RowGood x) : vLists (x.fld 7) = 0 := by
  have hr := h.right
  unfold rightF at hr
  cases h6 : (x.fld 6).asBool with
  | false =>
    rw [h6] at hr
    have hr : isV 0 0 [] (x.fld 7) = true := hr
    unfold isV at hr
    simp only [Bool.and_eq_true, decide_eq_true_eq] at hr
    exact hr.2
  | true =>
    rw [h6] at hr
    simp only [Bool.not_true, cond_false] at hr
    cases h5 : ((x.fld 2).asInt == 5) with
    | true => rw [h5] at hr; cases hr
    | false =>
      rw [h5] at hr
      simp only [cond_false] at hr
      cases h0 : (((x.fld 4).fld 0).asInt == 0) with
      | true =>
        rw [h0] at hr
        have hr : itemV (x.fld 7) = true := hr
        unfold itemV at hr
        simp only [Bool.and_eq_true, decide_eq_true_eq] at hr
        exact hr.2
      | false =>
        rw [h0] at hr
        simp only [cond_false, Bool.and_eq_true] at hr
        exact (fits_facts hr.1).2.1
theorem row_same {x y : PV} (gx : RowGood x) (gy : RowGood y) (h : fldEq x y = true) : rowT x = rowT y := by
  unfold fldEq at h
  simp only [Bool.and_eq_true, beq_iff_eq] at h
  obtain ⟨⟨⟨⟨⟨⟨⟨⟨h0, h1⟩, h2⟩, h3⟩, h4⟩, h5⟩, h6⟩, h7⟩, h8⟩ := h
  unfold rowT headT
  rw [h0, h1, h2, h3, type_same h4, h5, h6, litT_same (vEq_parts h7) (by rw [gx.lists, gy.lists]), notes_same gx.nt gy.nt h8]
theorem fields_same : ∀ (l m : List PV) (u : List UInt8), (∀ x, x ∈ l → RowGood x) → (∀ x, x ∈ m → RowGood x) → eqL fldEq l m = true → fieldsT u l = fieldsT u m ∧ lastU u l = lastU u m := by
  intro l
  induction l with
  | nil =>
    intro m u hl hm e
    cases m with
    | nil => exact ⟨rfl, rfl⟩
    | cons y m => simp [eqL] at e
  | cons x l ih =>
    intro m u hl hm e
    cases m with
    | nil => simp [eqL] at e
    | cons y m =>
      simp only [eqL, Bool.and_eq_true] at e
      obtain ⟨e1, e2⟩ := ih m (uT y) (fun z hz => hl z (by simp [hz])) (fun z hz => hm z (by simp [hz])) e.2
      simp only [fieldsT, lastU]
      unfold stepT
      rw [fldEq_u e.1, row_same (hl x (by simp)) (hm y (by simp)) e.1, e1, e2]
      exact ⟨rfl, rfl⟩
theorem res_same {g : PV → List UInt8} {l m : List PV} (h : l.map g = m.map g) : resT g l = resT g m := by
  have el : l.length = m.length := by simpa using congrArg List.length h
  unfold resT
  rw [← listG_eq, ← listG_eq, h, el]
theorem flat_same {g : PV → List UInt8} {l m : List PV} (h : l.map g = m.map g) : l.flatMap g = m.flatMap g := by
  rw [List.flatMap_def, List.flatMap_def, h]
theorem sps_same {l m : List PV} (h : eqL spanEq l m = true) : resT spT l = resT spT m := res_same (eqL_map (P := fun _ => True) (fun x y _ _ h => by
  unfold spanEq at h
  simp only [Bool.and_eq_true, beq_iff_eq] at h
  unfold spT
  rw [h.1, h.2]) l m (fun _ _ => trivial) (fun _ _ => trivial) h)
theorem strs_same {β : Type} {g : PV → β} (hg : ∀ x y, x.asStr = y.asStr → g x = g y) {l m : List PV} (h : eqL strEq l m = true) : l.map g = m.map g := eqL_map (P := fun _ => True) (fun x y _ _ h => hg x y (by unfold strEq at h; simpa using h)) l m (fun _ _ => trivial) (fun _ _ => trivial) h
theorem msg_same {x y : PV} (gx : MsgGood x) (gy : MsgGood y) (h : msgEq x y = true) : msgT x = msgT y := by
  unfold msgEq at h
  simp only [Bool.and_eq_true, beq_iff_eq] at h
  obtain ⟨⟨⟨⟨h0, h1⟩, h2⟩, h3⟩, h4⟩ := h
  obtain ⟨e1, e2⟩ := fields_same _ _ [] gx.rows gy.rows h1
  unfold msgT
  rw [h0, e1, e2, sps_same h2, res_same (g := goT) (strs_same (fun x y e => by unfold goT; rw [e]) h3), notes_same gx.nt gy.nt h4]
theorem item_same {x y : PV} (gx : ItemGood x) (gy : ItemGood y) (h : itemEq x y = true) : itemT x = itemT y := by
  unfold itemEq at h
  simp only [Bool.and_eq_true, beq_iff_eq] at h
  unfold itemT
  rw [h.1.1, h.1.2, notes_same gx.nt gy.nt h.2]
theorem enum_same {x y : PV} (gx : EnumGood x) (gy : EnumGood y) (h : enumEq x y = true) : enumT x = enumT y := by
  unfold enumEq at h
  simp only [Bool.and_eq_true, beq_iff_eq] at h
  obtain ⟨⟨⟨⟨h0, h1⟩, h3⟩, h4⟩, h2⟩ := h
  unfold enumT
  rw [h0, h1, sps_same h3, notes_same gx.nt gy.nt h4, flat_same (g := itemT) (eqL_map (P := ItemGood) (fun x y hx hy h => item_same hx hy h) _ _ gx.items gy.items h2)]
theorem meth_same {x y : PV} (gx : MethGood x) (gy : MethGood y) (h : methEq x y = true) : methT x = methT y := by
  unfold methEq at h
  simp only [Bool.and_eq_true, beq_iff_eq] at h
  obtain ⟨⟨⟨⟨h0, h1⟩, h2⟩, h3⟩, h4⟩ := h
  unfold methT
  rw [h0, h1, h2, h3, notes_same gx.nt gy.nt h4]
theorem svc_same {x y : PV} (gx : SvcGood x) (gy : SvcGood y) (h : svcEq x y = true) : svcT x = svcT y := by
  unfold svcEq at h
  simp only [Bool.and_eq_true, beq_iff_eq] at h
  unfold svcT
  rw [h.1.1, notes_same gx.nt gy.nt h.1.2, flat_same (g := methT) (eqL_map (P := MethGood) (fun x y hx hy h => meth_same hx hy h) _ _ gx.meths gy.meths h.2)]
theorem fold_same {g : PV → List UInt8} {l m : List PV} (h : l.map g = m.map g) (b : List UInt8) : l.foldl (defG g) b = m.foldl (defG g) b := by
  have key : ∀ (l : List PV) (b : List UInt8), l.foldl (defG g) b = (l.map g).foldl (fun b d => (bif b == [] then b else b ++ [10]) ++ d) b := fun l b => by
    rw [List.foldl_map]; rfl
  rw [key, key, h]
theorem file_same {x y : PV} (gx : FileGood x) (gy : FileGood y) (h : fileEq x y = true) : fileT x = fileT y := by
  unfold fileEq at h
  simp only [Bool.and_eq_true, beq_iff_eq] at h
  obtain ⟨⟨⟨⟨h1, h2⟩, h3⟩, h4⟩, h5⟩ := h
  unfold fileT topT
  rw [h1, flat_same (g := impT) (strs_same (fun x y e => by unfold impT; rw [e]) h2), fold_same (g := msgT) (eqL_map (P := MsgGood) (fun x y hx hy h => msg_same hx hy h) _ _ gx.msg gy.msg h3),
    fold_same (g := enumT) (eqL_map (P := EnumGood) (fun x y hx hy h => enum_same hx hy h) _ _ gx.enum gy.enum h4), fold_same (g := svcT) (eqL_map (P := SvcGood) (fun x y hx hy h => svc_same hx hy h) _ _ gx.svc gy.svc h5)]
theorem apart_eq {x y : PV} (hx : OkFile x) (hy : OkFile y) (zx : chkF x = 0) (zy : chkF y = 0) : (fileT x == fileT y) = fileEq x y := by
  have gx := file_good hx zx
  have gy := file_good hy zy
  rw [Bool.eq_iff_iff, beq_iff_eq]
  exact ⟨file_read gx gy, file_same gx gy⟩
theorem formatApart_true (a b : PV) (ha : OkFile a) (hb : OkFile b) (hba : bulkPV a ≤ 1048576) (hfa : ∃ r, F11 0 a = some r) (hfb : ∃ r, F11 0 b = some r) : F5 0 a b = some true := by
  obtain ⟨r, hr⟩ := hfa
  obtain ⟨q, hq⟩ := hfb
  unfold F5
  simp only [hr, hq, Option.bind_some, chk_eq a ha, chk_eq b hb, print_eq a ha, print_eq b hb, rfile_eq a b hba, Lawake]
  cases r
  · rfl
  cases q
  · rfl
  simp only [Bool.not_true, cond_false, Option.bind_some, Bool.not_false, cond_true]
  by_cases za : chkF a = 0
  · by_cases zb : chkF b = 0
    · have e := apart_eq ha hb za zb
      simp [za, zb, e]
    · simp [za, zb, bneI zb]
  · simp [za, bneI za]
end Go.Ab
