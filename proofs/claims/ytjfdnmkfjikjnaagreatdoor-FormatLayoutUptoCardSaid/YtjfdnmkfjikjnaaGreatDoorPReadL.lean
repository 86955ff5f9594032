/- Names, values, annotations and rows can be read from their texts. -/
import Derived.Test.YtjfdnmkfjikjnaaGreatDoorPCheckL
set_option linter.unusedVariables false
set_option linter.unusedSimpArgs false
set_option linter.unnecessarySimpa false
namespace Go.Ab
open Go
set_option maxRecDepth 100000
/- Names. -/
def nmC (b : UInt8) : Bool := alnB b || b == 46
theorem part_chars {s : List UInt8} (h : partP s = true) : ∀ c, c ∈ s → alnB c = true := by
  cases s with
  | nil => intro c hc; cases hc
  | cons a r =>
    unfold partP at h
    simp only [Bool.and_eq_true, List.all_eq_true] at h
    intro c hc
    rcases List.mem_cons.1 hc with rfl | hc
    · exact let_aln h.1.2
    · exact h.2 c hc
theorem splitP_mem (c : UInt8) : ∀ s : List UInt8, ∀ x, x ∈ s → x = c ∨ ∃ p, p ∈ splitP c s ∧ x ∈ p := by
  intro s
  induction s with
  | nil => intro x h; cases h
  | cons b r ih =>
    intro x hx
    simp only [splitP]
    cases hb : (b == c) with
    | true =>
      rcases List.mem_cons.1 hx with rfl | hx
      · exact Or.inl (by simpa using hb)
      · rcases ih x hx with h | ⟨p, h1, h2⟩
        · exact Or.inl h
        · exact Or.inr ⟨p, by simp [h1], h2⟩
    | false =>
      have hne := splitP_ne c r
      cases hs : splitP c r with
      | nil => exact absurd hs hne
      | cons y q =>
        rw [hs] at ih
        simp only [cond_false]
        rcases List.mem_cons.1 hx with rfl | hx
        · exact Or.inr ⟨x :: y, by simp, by simp⟩
        · rcases ih x hx with h | ⟨p, h1, h2⟩
          · exact Or.inl h
          · rcases List.mem_cons.1 h1 with rfl | h1
            · exact Or.inr ⟨b :: p, by simp, by simp [h2]⟩
            · exact Or.inr ⟨p, by simp [h1], h2⟩
theorem full_chars {s : List UInt8} (h : fullP s = true) : ∀ c, c ∈ s → nmC c = true := by
  unfold fullP at h
  simp only [Bool.and_eq_true, List.all_eq_true] at h
  intro c hc
  unfold nmC
  rcases splitP_mem 46 s c hc with rfl | ⟨p, h1, h2⟩
  · rfl
  · rw [part_chars (h.2 p h1) c h2]; rfl
theorem type_chars {s : List UInt8} (h : typeP s = true) : ∀ c, c ∈ s → nmC c = true := by
  cases s with
  | nil => intro c hc; cases hc
  | cons a r =>
    have h : (bif a == 46 then fullP r else fullP (a :: r)) = true := h
    cases ha : (a == 46) with
    | true =>
      rw [ha] at h
      intro c hc
      rcases List.mem_cons.1 hc with rfl | hc
      · unfold nmC; rw [ha]; simp
      · exact full_chars h c hc
    | false => rw [ha] at h; exact full_chars h
/- Types. -/
def TyOk (t : PV) : Prop := tnP t = true ∧ 0 ≤ (t.fld 0).asInt ∧ (t.fld 0).asInt ≤ 8
theorem typeT_form {t : PV} (h : TyOk t) : (plainK (t.fld 0).asInt = true ∧ (t.fld 1).asStr = [] ∧ typeT t = kw (t.fld 0).asInt) ∨ ((t.fld 0).asInt = 0 ∧ typeP (t.fld 1).asStr = true ∧ noKw (t.fld 1).asStr = true ∧ typeT t = (t.fld 1).asStr) := by
  obtain ⟨h1, h2, h3⟩ := h
  unfold tnP at h1
  unfold typeT
  cases hp : plainK (t.fld 0).asInt with
  | true =>
    rw [hp] at h1
    have h1 : ((t.fld 1).asStr == ([] : List UInt8)) = true := h1
    rw [h1]
    exact Or.inl ⟨rfl, by simpa using h1, rfl⟩
  | false =>
    rw [hp] at h1
    simp only [cond_false, Bool.and_eq_true] at h1
    have h0 : (t.fld 0).asInt = 0 := by
      unfold plainK at hp
      by_cases q : 1 ≤ (t.fld 0).asInt
      · rw [decide_eq_true q, decide_eq_true h3] at hp; cases hp
      · omega
    refine Or.inr ⟨h0, h1.1, h1.2, ?_⟩
    rw [h0, h1.1]; rfl
/- Values. -/
theorem fits_facts {k : Int} {v : PV} (h : fitsV k v = true) : vKind v = k ∧ vLists v = 0 ∧ (if textKind k = true then vBits v = 0 else vText v = [] ∧ rangeOk k (vBits v) = true) := by
  unfold fitsV at h
  simp only [Bool.and_eq_true, decide_eq_true_eq, beq_iff_eq] at h
  obtain ⟨⟨⟨_, h2⟩, h3⟩, h4⟩ := h
  refine ⟨h2, h3, ?_⟩
  cases ht : textKind k with
  | true =>
    rw [ht] at h4
    simp only [if_true, Bool.and_eq_true, beq_iff_eq] at h4 ⊢
    exact h4.1.1
  | false =>
    rw [ht] at h4
    simp only [Bool.false_eq_true, if_false, Bool.and_eq_true, beq_iff_eq] at h4 ⊢
    exact h4
theorem textV_of {k : Int} {v : PV} (h : fitsV k v = true) : textV v = (bif k == 1 then (bif vBits v == 1 then [116, 114, 117, 101] else [102, 97, 108, 115, 101])
    else bif k == 2 then itoaB (IntKind.wrap .i64 (vBits v)) else bif k == 3 then itoaB (IntKind.wrap .i64 (vBits v)) else bif k == 7 then quote (vText v) else decB (vBits v).toNat) := by
  have hk := (fits_facts h).1
  unfold textV
  rw [hk, h]; rfl
theorem litT_of {k : Int} {v : PV} (h : fitsV k v = true) (hk : k ≠ 9) : litT v = bif (k == 6) || (k == 8) then quote (textW v) else textW v := by
  have h1 := (fits_facts h).1
  have hi : itemV v = false := by
    unfold itemV
    rw [h1, beqI hk]; rfl
  unfold litT
  rw [hi, h1, h]; rfl
theorem textW_of {k : Int} {v : PV} (h : fitsV k v = true) : textW v = bif k == 6 then doubleT (vBits v).toNat else bif k == 8 then [120] ++ quote ((vText v).flatMap fun b => hex2 b.toNat) else textV v := by
  have h1 := (fits_facts h).1
  unfold textW
  rw [h1, h]; rfl
/- Annotations. -/
theorem known_kinds : (knownNames.all fun s => (kindOf s == 1) || (kindOf s == 3) || (kindOf s == 4) || (kindOf s == 7)) = true := by kernel_rfl
theorem right_known {n : PV} (h : rightN n = true) : nName n ∈ knownNames ∧ fitsV (kindOf (nName n)) (nVal n) = true := by
  unfold rightN at h
  simp only [Bool.and_eq_true] at h
  refine ⟨?_, h.2⟩
  by_cases hm : nName n ∈ knownNames
  · exact hm
  · rw [kindOf_unknown hm] at h
    exact absurd h.1 (by decide)
end Go.Ab
namespace Go.Ab
open Go
set_option maxRecDepth 100000
structure RowGood (x : PV) : Prop where
  ok : RowOk x
  nm : nmFld x = true
  ar : argFld x = true
  nt : (x.fld 8).asList.all rightN = true
theorem RowGood.name {x : PV} (h : RowGood x) : simpP (x.fld 1).asStr = true := by
  have := h.nm
  unfold nmFld at this
  simp only [Bool.and_eq_true] at this
  exact this.1.1
theorem RowGood.union {x : PV} (h : RowGood x) (hu : uT x ≠ []) : simpP (uT x) = true := by
  have := h.nm
  unfold nmFld at this
  simp only [Bool.and_eq_true, Bool.or_eq_true, beq_iff_eq] at this
  rcases this.1.2 with q | q
  · exact absurd q hu
  · exact q
theorem RowGood.type {x : PV} (h : RowGood x) : TyOk (x.fld 4) := by
  have h1 := h.nm
  have h2 := h.ar
  unfold nmFld at h1
  unfold argFld rangeF at h2
  simp only [Bool.and_eq_true, decide_eq_true_eq] at h1 h2
  exact ⟨h1.2, h2.1.1.1.2.2.2.2.1, h2.1.1.1.2.2.2.2.2⟩
theorem RowGood.key {x : PV} (h : RowGood x) : keyF (x.fld 2).asInt (x.fld 3).asInt = true := by
  have h2 := h.ar
  unfold argFld at h2
  simp only [Bool.and_eq_true] at h2
  exact h2.1.1.2
theorem RowGood.un {x : PV} (h : RowGood x) (hu : uT x ≠ []) : (x.fld 2).asInt = 2 := by
  have h2 := h.ar
  unfold argFld unionF at h2
  simp only [Bool.and_eq_true, Bool.or_eq_true, beq_iff_eq] at h2
  rcases h2.1.2 with q | q
  · exact absurd q hu
  · exact q.1
theorem RowGood.right {x : PV} (h : RowGood x) : rightF x = true := by
  have h2 := h.ar
  unfold argFld at h2
  simp only [Bool.and_eq_true] at h2
  exact h2.2
theorem key5 {k : Int} (h : keyF 5 k = true) : plainK k = true := by
  unfold keyF at h
  unfold plainK
  have h : (decide (1 ≤ k ∧ k ≤ 5) || k == 7) = true := h
  simp only [Bool.or_eq_true, decide_eq_true_eq, beq_iff_eq] at h
  rw [decide_eq_true (show 1 ≤ k by omega), decide_eq_true (show k ≤ 8 by omega)]; rfl
/- Fields one behind the other. -/
theorem step_0 (x : PV) : stepT [] x = bif uT x == [] then [32, 32] ++ (rowT x ++ [10]) else [32, 32, 117, 110, 105, 111, 110, 32] ++ (uT x ++ ([32, 123, 10] ++ ([32, 32, 32, 32] ++ (rowT x ++ [10])))) := by
  unfold stepT openT
  cases (uT x == ([] : List UInt8)) <;> simp
theorem step_same {u : List UInt8} {x : PV} (hu : u ≠ []) (h : uT x = u) : stepT u x = [32, 32, 32, 32] ++ (rowT x ++ [10]) := by
  subst h
  have : (uT x == ([] : List UInt8)) = false := by simpa using hu
  unfold stepT openT
  simp [this]
theorem step_new {u : List UInt8} {x : PV} (hu : u ≠ []) (h : uT x ≠ u) : stepT u x = [32, 32, 125, 10] ++ stepT [] x := by
  have h1 : (u == ([] : List UInt8)) = false := by simpa using hu
  have h2 : (uT x == u) = false := by simpa using h
  unfold stepT openT
  rw [h1, h2]
  cases (uT x == ([] : List UInt8)) <;> simp
def clo (u : List UInt8) : List UInt8 := bif u == [] then [] else [32, 32, 125, 10]
end Go.Ab
namespace Go.Ab
open Go
set_option maxRecDepth 100000
/- Lists with commas. -/
def resW : List UInt8 := [32, 32, 114, 101, 115, 101, 114, 118, 101, 100, 32]
theorem resT_cons (g : PV → List UInt8) (x : PV) (l : List PV) (s : List UInt8) : resT g (x :: l) ++ s = resW ++ (g x ++ (restG g l ++ 59 :: 10 :: s)) := by
  have h0 : (((x :: l).length : Int) == (0 : Int)) = false := by rw [beq_eq_false_iff_ne]; simp only [List.length_cons]; omega
  unfold resT resW
  rw [h0]
  simp [listG]
/- Spans and names that are gone. -/
def SpP (x : PV) : Prop := spanP 2147483647 x = true
theorem SpP.nums {x : PV} (h : SpP x) : 0 ≤ (x.fld 0).asInt ∧ (x.fld 0).asInt ≤ 2147483647 ∧ 0 ≤ (x.fld 1).asInt ∧ (x.fld 1).asInt ≤ 2147483647 := by
  unfold SpP spanP at h
  exact of_decide_eq_true h
/- Messages. -/
structure MsgGood (m : PV) : Prop where
  ok : MsgOk m
  nm : defP (m.fld 0).asStr = true
  rows : ∀ x, x ∈ (m.fld 1).asList → RowGood x
  nt : (m.fld 4).asList.all rightN = true
theorem msgT_form (m : PV) (s : List UInt8) : msgT m ++ s = [109, 101, 115, 115, 97, 103, 101, 32] ++ ((m.fld 0).asStr ++ (notesT (m.fld 4).asList ++ 32 :: 123 :: 10 :: (fieldsT [] (m.fld 1).asList ++ (clo (lastU [] (m.fld 1).asList) ++ (resT spT (m.fld 2).asList ++ (resT goT (m.fld 3).asList ++ 125 :: 10 :: s)))))) := by
  unfold msgT clo
  simp only [List.append_assoc, List.cons_append, List.nil_append]
/- Enums. -/
structure ItemGood (x : PV) : Prop where
  ok : OkItem x
  nm : simpP (x.fld 0).asStr = true
  num0 : 0 ≤ (x.fld 1).asInt
  num1 : (x.fld 1).asInt ≤ 2147483647
  nt : (x.fld 2).asList.all rightN = true
theorem itemT_form (x : PV) (s : List UInt8) : itemT x ++ s = 32 :: 32 :: ((x.fld 0).asStr ++ 32 :: 61 :: 32 :: (numT (x.fld 1).asInt ++ (notesT (x.fld 2).asList ++ 59 :: 10 :: s))) := by
  unfold itemT
  simp only [List.append_assoc, List.cons_append, List.nil_append]
def resN : List UInt8 := [114, 101, 115, 101, 114, 118, 101, 100]
structure EnumGood (m : PV) : Prop where
  ok : EnumOk m
  nm : defP (m.fld 0).asStr = true
  items : ∀ x, x ∈ (m.fld 2).asList → ItemGood x
  nt : (m.fld 4).asList.all rightN = true
theorem enumT_form (m : PV) (s : List UInt8) : enumT m ++ s = (bif (m.fld 1).asBool then [111, 112, 101, 110, 32] else []) ++ ([101, 110, 117, 109, 32] ++ ((m.fld 0).asStr ++ (notesT (m.fld 4).asList ++ 32 :: 123 :: 10 :: ((m.fld 2).asList.flatMap itemT ++ (resT spT (m.fld 3).asList ++ 125 :: 10 :: s))))) := by
  unfold enumT
  simp only [List.append_assoc, List.cons_append, List.nil_append]
/- Services. -/
structure MethGood (x : PV) : Prop where
  ok : OkMeth x
  nm : nmMeth x = true
  sh0 : 1 ≤ (x.fld 3).asInt
  sh1 : (x.fld 3).asInt ≤ 4
  nt : (x.fld 4).asList.all rightN = true
theorem methT_form (x : PV) (s : List UInt8) : methT x ++ s = [32, 32, 114, 112, 99, 32] ++ ((x.fld 0).asStr ++ 40 :: (sideT (((x.fld 3).asInt == 3) || ((x.fld 3).asInt == 4)) (x.fld 1).asStr ++ 41 :: 32 :: 114 :: 101 :: 116 :: 117 :: 114 :: 110 :: 115 :: 32 :: 40 :: (sideT (((x.fld 3).asInt == 2) || ((x.fld 3).asInt == 4)) (x.fld 2).asStr ++ 41 :: (notesT (x.fld 4).asList ++ 59 :: 10 :: s)))) := by
  unfold methT
  simp only [List.append_assoc, List.cons_append, List.nil_append]
theorem MethGood.parts {x : PV} (h : MethGood x) : simpP (x.fld 0).asStr = true ∧ typeP (x.fld 1).asStr = true ∧ typeP (x.fld 2).asStr = true ∧ (x.fld 1).asStr ≠ strm ∧ (x.fld 2).asStr ≠ strm := by
  have := h.nm
  unfold nmMeth at this
  simp only [Bool.and_eq_true, Bool.not_eq_true', beq_eq_false_iff_ne] at this
  exact ⟨this.1.1.1.1, this.1.1.1.2, this.1.1.2, this.1.2, this.2⟩
structure SvcGood (m : PV) : Prop where
  ok : SvcOk m
  nm : defP (m.fld 0).asStr = true
  meths : ∀ x, x ∈ (m.fld 1).asList → MethGood x
  nt : (m.fld 2).asList.all rightN = true
theorem svcT_form (m : PV) (s : List UInt8) : svcT m ++ s = [115, 101, 114, 118, 105, 99, 101, 32] ++ ((m.fld 0).asStr ++ (notesT (m.fld 2).asList ++ 32 :: 123 :: 10 :: ((m.fld 1).asList.flatMap methT ++ 125 :: 10 :: s))) := by
  unfold svcT
  simp only [List.append_assoc, List.cons_append, List.nil_append]
/- Files. -/
structure FileGood (f : PV) : Prop where
  ok : FileOk f
  nm : (f.fld 1).asStr = [] ∨ defP (f.fld 1).asStr = true
  msg : ∀ x, x ∈ (f.fld 3).asList → MsgGood x
  enum : ∀ x, x ∈ (f.fld 4).asList → EnumGood x
  svc : ∀ x, x ∈ (f.fld 5).asList → SvcGood x
def nl (g : PV → List UInt8) (x : PV) : List UInt8 := 10 :: g x
noncomputable def tailT (f : PV) : List UInt8 := (f.fld 3).asList.flatMap (nl msgT) ++ ((f.fld 4).asList.flatMap (nl enumT) ++ (f.fld 5).asList.flatMap (nl svcT))
theorem defG_ne (g : PV → List UInt8) : ∀ (l : List PV) (b : List UInt8), b ≠ [] → l.foldl (defG g) b = b ++ l.flatMap (nl g) := by
  intro l
  induction l with
  | nil => intro b h; simp
  | cons x l ih =>
    intro b h
    have h1 : (b == ([] : List UInt8)) = false := by simpa using h
    rw [List.foldl_cons, ih _ (by unfold defG; rw [h1]; simp)]
    unfold defG nl
    rw [h1]
    simp
theorem defG_nil (g : PV → List UInt8) (hg : ∀ x, g x ≠ []) (l : List PV) : (l.foldl (defG g) [] = [] ∧ l.flatMap (nl g) = []) ∨ (l.foldl (defG g) [] ≠ [] ∧ 10 :: l.foldl (defG g) [] = l.flatMap (nl g)) := by
  cases l with
  | nil => exact Or.inl ⟨rfl, rfl⟩
  | cons x l =>
    have h1 : defG g [] x = g x := by unfold defG; simp
    rw [List.foldl_cons, h1, defG_ne g l _ (hg x)]
    exact Or.inr ⟨by simp [hg x], by simp [nl]⟩
theorem msgT_ne (x : PV) : msgT x ≠ [] := by simp [msgT]
theorem enumT_ne (x : PV) : enumT x ≠ [] := by simp [enumT]
theorem svcT_ne (x : PV) : svcT x ≠ [] := by simp [svcT]
theorem file_form (f : PV) : (topT f ≠ [] ∧ fileT f = topT f ++ tailT f) ∨ (topT f = [] ∧ ((fileT f = [] ∧ tailT f = []) ∨ (fileT f ≠ [] ∧ 10 :: fileT f = tailT f))) := by
  unfold fileT tailT
  by_cases h : topT f = []
  · refine Or.inr ⟨h, ?_⟩
    rw [h]
    rcases defG_nil msgT msgT_ne (f.fld 3).asList with ⟨h1, h2⟩ | ⟨h1, h2⟩
    · rw [h1, h2]
      rcases defG_nil enumT enumT_ne (f.fld 4).asList with ⟨h3, h4⟩ | ⟨h3, h4⟩
      · rw [h3, h4]
        exact defG_nil svcT svcT_ne (f.fld 5).asList
      · rw [defG_ne svcT _ _ h3, ← h4]
        exact Or.inr ⟨by simp [h3], by simp⟩
    · rw [defG_ne enumT _ _ h1, defG_ne svcT _ _ (by simp [h1]), ← h2]
      exact Or.inr ⟨by simp [h1], by simp⟩
  · refine Or.inl ⟨h, ?_⟩
    rw [defG_ne msgT _ _ h, defG_ne enumT _ _ (by simp [h]), defG_ne svcT _ _ (by simp [h])]
    simp
theorem msg_first (x : PV) (r : List UInt8) : ∃ q, nl msgT x ++ r = 10 :: 109 :: q := ⟨_, rfl⟩
theorem enum_first (x : PV) (r : List UInt8) : (∃ q, nl enumT x ++ r = 10 :: 101 :: q) ∨ ∃ q, nl enumT x ++ r = 10 :: 111 :: q := by
  unfold nl enumT
  cases (x.fld 1).asBool with
  | true => exact Or.inr ⟨_, rfl⟩
  | false => exact Or.inl ⟨_, rfl⟩
theorem svc_first (x : PV) (r : List UInt8) : ∃ q, nl svcT x ++ r = 10 :: 115 :: 101 :: q := ⟨_, rfl⟩
theorem top_first {f : PV} (h : topT f ≠ []) : (∃ r, topT f = 115 :: 112 :: r) ∨ ∃ r, topT f = 105 :: r := by
  revert h
  unfold topT
  cases ((f.fld 1).asStr == ([] : List UInt8)) with
  | false => intro _; exact Or.inl ⟨_, rfl⟩
  | true =>
    cases (f.fld 2).asList with
    | nil => intro h; exact absurd rfl h
    | cons x l => intro _; exact Or.inr ⟨_, rfl⟩
theorem tail_first {f : PV} {r : List UInt8} (h : tailT f = 10 :: r) : (∃ q, r = 109 :: q) ∨ (∃ q, r = 101 :: q) ∨ (∃ q, r = 111 :: q) ∨ ∃ q, r = 115 :: 101 :: q := by
  unfold tailT at h
  cases h3 : (f.fld 3).asList with
  | cons x l =>
    obtain ⟨q, hq⟩ := msg_first x (l.flatMap (nl msgT) ++ ((f.fld 4).asList.flatMap (nl enumT) ++ (f.fld 5).asList.flatMap (nl svcT)))
    rw [h3, List.flatMap_cons, List.append_assoc, hq] at h
    simp only [List.cons.injEq, true_and] at h
    exact Or.inl ⟨_, h.symm⟩
  | nil =>
    rw [h3, List.flatMap_nil, List.nil_append] at h
    cases h4 : (f.fld 4).asList with
    | cons x l =>
      rw [h4, List.flatMap_cons, List.append_assoc] at h
      rcases enum_first x (l.flatMap (nl enumT) ++ (f.fld 5).asList.flatMap (nl svcT)) with ⟨q, hq⟩ | ⟨q, hq⟩ <;> rw [hq] at h <;> simp only [List.cons.injEq, true_and] at h
      · exact Or.inr (Or.inl ⟨_, h.symm⟩)
      · exact Or.inr (Or.inr (Or.inl ⟨_, h.symm⟩))
    | nil =>
      rw [h4, List.flatMap_nil, List.nil_append] at h
      cases h5 : (f.fld 5).asList with
      | cons x l =>
        obtain ⟨q, hq⟩ := svc_first x (l.flatMap (nl svcT))
        rw [h5, List.flatMap_cons, hq] at h
        simp only [List.cons.injEq, true_and] at h
        exact Or.inr (Or.inr (Or.inr ⟨_, h.symm⟩))
      | nil => rw [h5] at h; cases h
end Go.Ab
namespace Go.Ab
open Go
set_option maxRecDepth 100000
/- What has been checked. -/
theorem chkL_right (t : Int) : ∀ (l : List PV) (last : List UInt8) (ok : Bool), chkL t l last ok = 0 → l.all rightN = true := by
  intro l
  induction l with
  | nil => intros; rfl
  | cons n r ih =>
    intro last ok h
    simp only [chkL] at h
    by_cases q : chk1 n t last ok = 0
    · rw [if_pos q] at h
      have hr : rightN n = true := by
        cases hr : rightN n with
        | true => rfl
        | false =>
          unfold chk1 at q
          rw [hr] at q
          repeat' split at q
          all_goals first | (cases q; done) | simp_all
      rw [List.all_cons, hr, ih _ _ h]; rfl
    · rw [if_neg q] at h
      exact absurd h q
theorem checkN_right {l : List PV} {t : Int} (h : checkN l t = 0) : l.all rightN = true := by
  unfold checkN at h
  split at h
  · cases h
  · exact chkL_right _ _ _ _ h
theorem row_good {x : PV} (h : RowOk x) (hn : nmFld x = true) (ha : argFld x = true) (ht : (x.fld 8).asList.all rightN = true) : RowGood x := ⟨h, hn, ha, ht⟩
theorem file_good {f : PV} (h : OkFile f) (hz : chkF f = 0) : FileGood f := by
  have ho := chk_zero h hz
  have hp : nmFile f = true ∧ argFile f = true ∧ ntFile f = 0 := by
    unfold chkF at hz
    cases h1 : nmFile f <;> rw [h1] at hz
    · cases hz
    cases h2 : argFile f <;> rw [h2] at hz
    · cases hz
    cases h3 : txFile f <;> rw [h3] at hz
    · cases hz
    simp only [Bool.not_true, cond_false] at hz
    by_cases hn : ntFile f = 0
    · exact ⟨rfl, rfl, hn⟩
    · rw [bneI hn] at hz
      exact absurd hz hn
  obtain ⟨h1, h2, h3⟩ := hp
  rw [← errL_file] at h3
  have nt : ∀ n, n ∈ nlFile f → (n.fld 0).asList.all rightN = true := fun n hn => checkN_right ((errL_zero _ _ h3).2 n hn)
  unfold nmFile at h1
  unfold argFile at h2
  simp only [Bool.and_eq_true, Bool.or_eq_true, beq_iff_eq] at h1 h2
  obtain ⟨⟨⟨n0, n3⟩, n4⟩, n5⟩ := h1
  obtain ⟨⟨a3, a4⟩, a5⟩ := h2
  refine ⟨ho, n0, fun m hm => ?_, fun m hm => ?_, fun m hm => ?_⟩
  · have hn := List.all_eq_true.1 n3 m hm
    have ha := List.all_eq_true.1 a3 m hm
    unfold nmMsg at hn
    unfold argMsg at ha
    simp only [Bool.and_eq_true] at hn ha
    have hin : ∀ n, n ∈ nlMsg m → n ∈ nlFile f := fun n hn => by
      unfold nlFile
      exact List.mem_append_left _ (List.mem_append_left _ (List.mem_flatMap.2 ⟨m, hm, hn⟩))
    refine ⟨ho.msg m hm, hn.1, fun x hx => row_good ((ho.msg m hm).rows x hx) (List.all_eq_true.1 hn.2 x hx) (List.all_eq_true.1 ha.1.1 x hx) ?_, ?_⟩
    · exact nt (nv (x.fld 8).asList 2) (hin _ (List.mem_cons_of_mem _ (List.mem_map.2 ⟨x, hx, rfl⟩)))
    · exact nt (nv (m.fld 4).asList 1) (hin _ (List.mem_cons_self ..))
  · have hn := List.all_eq_true.1 n4 m hm
    unfold nmEnum at hn
    simp only [Bool.and_eq_true] at hn
    have hin : ∀ n, n ∈ nlEnum m → n ∈ nlFile f := fun n hn => by
      unfold nlFile
      exact List.mem_append_left _ (List.mem_append_right _ (List.mem_flatMap.2 ⟨m, hm, hn⟩))
    have he := ho.enum m hm
    refine ⟨he, hn.1, fun x hx => ⟨he.ok.item x hx, List.all_eq_true.1 hn.2 x hx, (he.num x hx).1, (he.num x hx).2, ?_⟩, ?_⟩
    · exact nt (nv (x.fld 2).asList 4) (hin _ (List.mem_cons_of_mem _ (List.mem_map.2 ⟨x, hx, rfl⟩)))
    · exact nt (nv (m.fld 4).asList 3) (hin _ (List.mem_cons_self ..))
  · have hn := List.all_eq_true.1 n5 m hm
    have ha := List.all_eq_true.1 a5 m hm
    unfold nmSvc at hn
    unfold argSvc at ha
    simp only [Bool.and_eq_true] at hn
    have hin : ∀ n, n ∈ nlSvc m → n ∈ nlFile f := fun n hn => by
      unfold nlFile
      exact List.mem_append_right _ (List.mem_flatMap.2 ⟨m, hm, hn⟩)
    have hs := ho.svc m hm
    refine ⟨hs, hn.1, fun x hx => ?_, ?_⟩
    · have hq := List.all_eq_true.1 ha x hx
      unfold argMeth at hq
      simp only [Bool.and_eq_true, decide_eq_true_eq] at hq
      exact ⟨hs.ok.meth x hx, List.all_eq_true.1 hn.2 x hx, hq.1, hq.2, nt (nv (x.fld 4).asList 6) (hin _ (List.mem_cons_of_mem _ (List.mem_map.2 ⟨x, hx, rfl⟩)))⟩
    · exact nt (nv (m.fld 2).asList 5) (hin _ (List.mem_cons_self ..))
end Go.Ab
