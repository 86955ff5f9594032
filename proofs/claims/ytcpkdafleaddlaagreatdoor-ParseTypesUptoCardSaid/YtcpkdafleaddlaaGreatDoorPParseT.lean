/- Numbers read from digits: the program's and the specification's are the same. -/
import Derived.Test.YtcpkdafleaddlaaGreatDoorPUtfT
import Derived.Test.YtcpkdafleaddlaaGreatDoorAbEqL
import Derived.Test.YtcpkdafleaddlaaGreatDoorGenT
import Derived.Test.YtcpkdafleaddlaaGreatDoorAbPlain
set_option linter.unusedVariables false
set_option linter.unusedSimpArgs false
set_option linter.unnecessarySimpa false
namespace Go.Ab
open Go
set_option maxRecDepth 100000
end Go.Ab
namespace Go.Ab
open Go
set_option maxRecDepth 100000
end Go.Ab
namespace Go.Ab
open Go
set_option maxRecDepth 100000
end Go.Ab
namespace Go.Ab
open Go
set_option maxRecDepth 100000
end Go.Ab
namespace Go.Ab
open Go
end Go.Ab
namespace Go.Ab
open Go
set_option maxRecDepth 100000
end Go.Ab
namespace Go.Ab
open Go
set_option maxRecDepth 100000
noncomputable section
/-- A token, but for its line. -/
structure Tk where
  k : Int
  s : List UInt8
  n : Int
def tkOf (x : PV) : Tk := ⟨(x.fld 0).asInt, (x.fld 1).asStr, (x.fld 2).asInt⟩
/-- What reading gives: a value and the tokens behind it, or the tokens from the wrong one on and the error. -/
inductive Rs (α : Type) where
  | ok (v : α) (r : List Tk)
  | er (r : List Tk) (e : Int)
def Rs.bind {α β : Type} (x : Rs α) (f : α → List Tk → Rs β) : Rs β := match x with | .ok v r => f v r | .er r e => .er r e
theorem Rs.bind_ok {α β : Type} (v : α) (r : List Tk) (f : α → List Tk → Rs β) : (Rs.ok v r).bind f = f v r := rfl
theorem Rs.bind_er {α β : Type} (r : List Tk) (e : Int) (f : α → List Tk → Rs β) : (Rs.er r e : Rs α).bind f = .er r e := rfl
def kindS : List Tk → Int
  | [] => 0
  | x :: _ => x.k
def textS : List Tk → List UInt8
  | [] => []
  | x :: _ => x.s
/-- A token of a kind whose text passes a test. -/
def takeS (k : Int) (p : List UInt8 → Bool) (ts : List Tk) : Rs (List UInt8) :=
  bif kindS ts == k then (bif p (textS ts) then .ok (textS ts) ts.tail else .er ts 8) else .er ts 2
def typeTextS (ts : List Tk) : Rs (List UInt8) := takeS 1 typeP ts
/-- The kind of a word. -/
def wordK (w : List UInt8) : Int :=
  bif w == [98, 111, 111, 108] then 1 else bif w == [105, 51, 50] then 2 else bif w == [105, 54, 52] then 3 else bif w == [117, 51, 50] then 4 else bif w == [117, 54, 52] then 5 else bif w == [100, 111, 117, 98, 108, 101] then 6 else bif w == [116, 101, 120, 116] then 7 else bif w == [98, 121, 116, 101, 115] then 8 else 0
def tyOf (s : List UInt8) : PV := bif wordK s == 0 then PV.agg [PV.int 0, PV.str s] else PV.agg [PV.int (wordK s), PV.str []]
def typS (ts : List Tk) : Rs PV := (typeTextS ts).bind fun s r => .ok (tyOf s) r
/- Fields. -/
section
variable (pv : Int → List UInt8 → PV × Int) (kd : List UInt8 → Int)
/- Files. -/
end
/- Each reader leaves no more than it was given, and most leave less. -/
end
end Go.Ab
namespace Go.Ab
open Go
set_option maxRecDepth 100000
section
variable (pv : Int → List UInt8 → PV × Int) (kd : List UInt8 → Int)
end
end Go.Ab
namespace Go.Ab
open Go
set_option maxRecDepth 100000
/-- The tokens from a place on. -/
def ts (t : List PV) (i : Nat) : List Tk := (t.drop i).map tkOf
structure TOk (t : List PV) : Prop where
  len : t.length ≤ 1048576
  txt : ∀ x, x ∈ t → (x.fld 1).asStr.length ≤ 1048576
theorem ts_end {t : List PV} {i : Nat} (h : t.length ≤ i) : ts t i = [] := by unfold ts; rw [List.drop_eq_nil_of_le h]; rfl
theorem ts_cons {t : List PV} {i : Nat} (h : i < t.length) : ts t i = tkOf (t.getD i .bad) :: ts t (i + 1) := by unfold ts; rw [drop_cons h .bad]; rfl
theorem ts_tail (t : List PV) (i : Nat) : (ts t i).tail = ts t (i + 1) := by
  unfold ts
  by_cases h : i < t.length
  · rw [drop_cons h .bad]; rfl
  · rw [List.drop_eq_nil_of_le (by omega), List.drop_eq_nil_of_le (by omega)]; rfl
theorem ts_length (t : List PV) (i : Nat) : (ts t i).length = t.length - i := by unfold ts; simp
theorem kindS_lt {k : Int} {t : List PV} {i : Nat} (hk : (k == 0) = false) (h : (kindS (ts t i) == k) = true) : i < t.length := by
  by_cases hi : i < t.length
  · exact hi
  · rw [ts_end (by omega)] at h
    simp only [kindS, beq_iff_eq] at h
    subst h; simp at hk
/-- What a parser holds beside the tokens and the place. -/
abbrev QF : Type := List UInt8 × List UInt8 × Unit × Unit × Unit × List PV × List PV × List PV × List PV
/-- The program reads as the specification says. -/
inductive Par {α R : Type} (t : List PV) (q : QF) (mk : α → Q0 → R) (x : Rs α) (y : Option (R ⊕ (PV × Q0))) : Prop
  | ok (v : α) (j : Nat) : j ≤ t.length → x = .ok v (ts t j) → y = some (.inl (mk v (t, ((j : Nat) : Int), q))) → Par t q mk x y
  | er (j : Nat) (e : Int) : j ≤ t.length → e ≠ 0 → x = .er (ts t j) e → y = some (.inr (PV.agg [PV.int ((j : Nat) : Int), PV.int e], (t, ((j : Nat) : Int), q))) → Par t q mk x y
/- Tokens. -/
theorem kindP_eq (t : List PV) (i : Nat) (q : QF) : F117 0 () (t, (i : Int), q) = some (kindS (ts t i), (t, (i : Int), q)) := by
  unfold F117
  by_cases h : i < t.length
  · have e1 : decide ((i : Int) ≥ (t.length : Int)) = false := decide_eq_false (by omega)
    simp only [e1, cond_false, inRange_nat, h, decide_true, cond_true, Int.toNat_natCast, ts_cons h, kindS, tkOf]
  · have e1 : decide ((i : Int) ≥ (t.length : Int)) = true := decide_eq_true (by omega)
    simp only [e1, cond_true, ts_end (show t.length ≤ i by omega), kindS]
/- Names. -/
theorem txt_at {t : List PV} (ht : TOk t) {i : Nat} (h : i < t.length) : ((t.getD i .bad).fld 1).asStr.length ≤ 1048576 := ht.txt _ (getD_mem h _)
theorem type1_eq (s : List UInt8) (hs : s.length ≤ 1048576) : F229 0 s = some (typeP s) := typeBind_eq s hs
/-- A token of a kind whose text passes a test. -/
theorem take_go {T : List UInt8 → Option Bool} {p : List UInt8 → Bool} (hT : ∀ s, s.length ≤ 1048576 → T s = some (p s)) {f : Q0 → Option ((List UInt8 × Q0) ⊕ (PV × Q0))} (k : Int) (hk : (k == 0) = false)
    (hf : ∀ s : Q0, f s = (F117 0 () s).bind fun y1 => bif y1.1 != k then some (.inr (PV.agg [PV.int y1.2.2.1, PV.int 2], y1.2)) else bif inRange y1.2.2.1 y1.2.1.length then (T ((y1.2.1.getD y1.2.2.1.toNat .bad).fld 1).asStr).bind fun y8 =>
      bif !y8 then some (.inr (PV.agg [PV.int y1.2.2.1, PV.int 8], y1.2)) else some (.inl (((y1.2.1.getD y1.2.2.1.toNat .bad).fld 1).asStr, y1.2.1, IntKind.wrap .i64 (y1.2.2.1 + 1), y1.2.2.2)) else none)
    (t : List PV) (ht : TOk t) (i : Nat) (hi : i ≤ t.length) (q : QF) : Par t q (fun v s => (v, s)) (takeS k p (ts t i)) (f (t, (i : Int), q)) := by
  have hl := ht.len
  rw [hf, kindP_eq, Option.bind_some]
  unfold takeS
  by_cases hb : kindS (ts t i) = k
  · have e1 : (kindS (ts t i) != k) = false := by rw [hb]; simp
    have e2 : (kindS (ts t i) == k) = true := by rw [hb]; simp
    have h : i < t.length := kindS_lt hk e2
    have hx : textS (ts t i) = ((t.getD i .bad).fld 1).asStr := by rw [ts_cons h]; rfl
    simp only [e1, e2, cond_false, cond_true, inRange_nat, h, decide_true, Int.toNat_natCast, hT _ (txt_at ht h), Option.bind_some, hx, wadd' (show i ≤ 9223372036854775000 by omega)]
    cases hp : p ((t.getD i .bad).fld 1).asStr with
    | true => exact .ok _ (i + 1) h (by rw [cond_true, ts_tail]) rfl
    | false => exact .er i 8 hi (by decide) rfl rfl
  · have e1 : (kindS (ts t i) != k) = true := bneI hb
    have e2 : (kindS (ts t i) == k) = false := beqI hb
    simp only [e1, e2, cond_true, cond_false]
    exact .er i 2 hi (by decide) rfl rfl
theorem typeText_par (t : List PV) (ht : TOk t) (i : Nat) (hi : i ≤ t.length) (q : QF) : Par t q (fun v s => (v, s)) (typeTextS (ts t i)) (F115 0 () (t, (i : Int), q)) := by
  have h := take_go (f := fun s => F92_v4 0 () 1 () s) (T := F229 0) (p := typeP) (fun s hs => type1_eq s hs) 1 rfl (fun s => rfl) t ht i hi q
  unfold F115
  rcases h with ⟨v, j, hj, hx, hy⟩ | ⟨j, e, hj, he, hx, hy⟩
  · exact .ok v j hj hx (by simp only [hy, Option.bind_some, sumE_inl])
  · exact .er j e hj he hx (by simp only [hy, Option.bind_some, sumE_inr])
end Go.Ab
namespace Go.Ab
open Go
set_option maxRecDepth 100000
theorem textS_at {t : List PV} {i : Nat} (h : i < t.length) : textS (ts t i) = ((t.getD i .bad).fld 1).asStr := by rw [ts_cons h]; rfl
theorem kind_at {t : List PV} {i : Nat} (h : i < t.length) : kindS (ts t i) = ((t.getD i .bad).fld 0).asInt := by rw [ts_cons h]; rfl
end Go.Ab
namespace Go.Ab
open Go Go.Proofs
set_option maxRecDepth 100000
theorem kind_none (w : List UInt8) (h : w ≠ [98, 111, 111, 108] ∧ w ≠ [105, 51, 50] ∧ w ≠ [105, 54, 52] ∧ w ≠ [117, 51, 50] ∧ w ≠ [117, 54, 52] ∧ w ≠ [100, 111, 117, 98, 108, 101] ∧ w ≠ [116, 101, 120, 116] ∧ w ≠ [98, 121, 116, 101, 115]) : ∃ n, F19 0 w = some n ∧ n = 0 := by
  obtain ⟨h1, h2, h3, h4, h5, h6, h7, h8⟩ := h
  have g1 : (([98, 111, 111, 108] : List UInt8) == w) = false := by rw [beq_eq_false_iff_ne]; exact fun h => h1 h.symm
  have g2 : (([105, 51, 50] : List UInt8) == w) = false := by rw [beq_eq_false_iff_ne]; exact fun h => h2 h.symm
  have g3 : (([105, 54, 52] : List UInt8) == w) = false := by rw [beq_eq_false_iff_ne]; exact fun h => h3 h.symm
  have g4 : (([117, 51, 50] : List UInt8) == w) = false := by rw [beq_eq_false_iff_ne]; exact fun h => h4 h.symm
  have g5 : (([117, 54, 52] : List UInt8) == w) = false := by rw [beq_eq_false_iff_ne]; exact fun h => h5 h.symm
  have g6 : (([100, 111, 117, 98, 108, 101] : List UInt8) == w) = false := by rw [beq_eq_false_iff_ne]; exact fun h => h6 h.symm
  have g7 : (([116, 101, 120, 116] : List UInt8) == w) = false := by rw [beq_eq_false_iff_ne]; exact fun h => h7 h.symm
  have g8 : (([98, 121, 116, 101, 115] : List UInt8) == w) = false := by rw [beq_eq_false_iff_ne]; exact fun h => h8 h.symm
  refine ⟨0, ?_, rfl⟩
  unfold F19
  simp only [loopQ0]
  have e : loopW (S19_3step 0) (w, (1 : Int)) = some (.inr ()) := by
    refine loopW_of 9 ?_
    simp [loopR, S19_3step, S19_3, F21, g1, g2, g3, g4, g5, g6, g7, g8, (by decide : IntKind.wrap .i64 2 = 2), (by decide : IntKind.wrap .i64 3 = 3), (by decide : IntKind.wrap .i64 4 = 4), (by decide : IntKind.wrap .i64 5 = 5), (by decide : IntKind.wrap .i64 6 = 6), (by decide : IntKind.wrap .i64 7 = 7), (by decide : IntKind.wrap .i64 8 = 8), (by decide : IntKind.wrap .i64 9 = 9)]
  rw [e]; rfl
theorem kind_words (w : List UInt8) : ∃ n, F18 0 w = some n ∧ F19 0 w = some n := by
  by_cases h1 : w = [98, 111, 111, 108]
  · subst h1
    refine ⟨1, ?_, ?_⟩
    · unfold F18 F49; simp only [Option.bind_some, loopQ0]; rw [loopW_of 9 (y := .inl 1) (by kernel_rfl)]; rfl
    · unfold F19; simp only [loopQ0]; rw [loopW_of 9 (y := .inl 1) (by kernel_rfl)]; rfl
  by_cases h2 : w = [105, 51, 50]
  · subst h2
    refine ⟨2, ?_, ?_⟩
    · unfold F18 F49; simp only [Option.bind_some, loopQ0]; rw [loopW_of 9 (y := .inl 2) (by kernel_rfl)]; rfl
    · unfold F19; simp only [loopQ0]; rw [loopW_of 9 (y := .inl 2) (by kernel_rfl)]; rfl
  by_cases h3 : w = [105, 54, 52]
  · subst h3
    refine ⟨3, ?_, ?_⟩
    · unfold F18 F49; simp only [Option.bind_some, loopQ0]; rw [loopW_of 9 (y := .inl 3) (by kernel_rfl)]; rfl
    · unfold F19; simp only [loopQ0]; rw [loopW_of 9 (y := .inl 3) (by kernel_rfl)]; rfl
  by_cases h4 : w = [117, 51, 50]
  · subst h4
    refine ⟨4, ?_, ?_⟩
    · unfold F18 F49; simp only [Option.bind_some, loopQ0]; rw [loopW_of 9 (y := .inl 4) (by kernel_rfl)]; rfl
    · unfold F19; simp only [loopQ0]; rw [loopW_of 9 (y := .inl 4) (by kernel_rfl)]; rfl
  by_cases h5 : w = [117, 54, 52]
  · subst h5
    refine ⟨5, ?_, ?_⟩
    · unfold F18 F49; simp only [Option.bind_some, loopQ0]; rw [loopW_of 9 (y := .inl 5) (by kernel_rfl)]; rfl
    · unfold F19; simp only [loopQ0]; rw [loopW_of 9 (y := .inl 5) (by kernel_rfl)]; rfl
  by_cases h6 : w = [100, 111, 117, 98, 108, 101]
  · subst h6
    refine ⟨6, ?_, ?_⟩
    · unfold F18 F49; simp only [Option.bind_some, loopQ0]; rw [loopW_of 9 (y := .inl 6) (by kernel_rfl)]; rfl
    · unfold F19; simp only [loopQ0]; rw [loopW_of 9 (y := .inl 6) (by kernel_rfl)]; rfl
  by_cases h7 : w = [116, 101, 120, 116]
  · subst h7
    refine ⟨7, ?_, ?_⟩
    · unfold F18 F49; simp only [Option.bind_some, loopQ0]; rw [loopW_of 9 (y := .inl 7) (by kernel_rfl)]; rfl
    · unfold F19; simp only [loopQ0]; rw [loopW_of 9 (y := .inl 7) (by kernel_rfl)]; rfl
  by_cases h8 : w = [98, 121, 116, 101, 115]
  · subst h8
    refine ⟨8, ?_, ?_⟩
    · unfold F18 F49; simp only [Option.bind_some, loopQ0]; rw [loopW_of 9 (y := .inl 8) (by kernel_rfl)]; rfl
    · unfold F19; simp only [loopQ0]; rw [loopW_of 9 (y := .inl 8) (by kernel_rfl)]; rfl
  have g1 : (([98, 111, 111, 108] : List UInt8) == w) = false := by rw [beq_eq_false_iff_ne]; exact fun h => h1 h.symm
  have g2 : (([105, 51, 50] : List UInt8) == w) = false := by rw [beq_eq_false_iff_ne]; exact fun h => h2 h.symm
  have g3 : (([105, 54, 52] : List UInt8) == w) = false := by rw [beq_eq_false_iff_ne]; exact fun h => h3 h.symm
  have g4 : (([117, 51, 50] : List UInt8) == w) = false := by rw [beq_eq_false_iff_ne]; exact fun h => h4 h.symm
  have g5 : (([117, 54, 52] : List UInt8) == w) = false := by rw [beq_eq_false_iff_ne]; exact fun h => h5 h.symm
  have g6 : (([100, 111, 117, 98, 108, 101] : List UInt8) == w) = false := by rw [beq_eq_false_iff_ne]; exact fun h => h6 h.symm
  have g7 : (([116, 101, 120, 116] : List UInt8) == w) = false := by rw [beq_eq_false_iff_ne]; exact fun h => h7 h.symm
  have g8 : (([98, 121, 116, 101, 115] : List UInt8) == w) = false := by rw [beq_eq_false_iff_ne]; exact fun h => h8 h.symm
  refine ⟨0, ?_, ?_⟩
  · unfold F18 F49
    simp only [Option.bind_some, loopQ0]
    have e : loopW (S18_3step 0) (w, PV.agg [(PV.str ([98, 111, 111, 108] : List UInt8)), (PV.str ([105, 51, 50] : List UInt8)), (PV.str ([105, 54, 52] : List UInt8)), (PV.str ([117, 51, 50] : List UInt8)), (PV.str ([117, 54, 52] : List UInt8)), (PV.str ([100, 111, 117, 98, 108, 101] : List UInt8)), (PV.str ([116, 101, 120, 116] : List UInt8)), (PV.str ([98, 121, 116, 101, 115] : List UInt8))], (0 : Int)) = some (.inr ()) := by
      refine loopW_of 9 ?_
      simp [loopR, S18_3step, S18_3, inRange, PV.fld, PV.parts, PV.asStr, g1, g2, g3, g4, g5, g6, g7, g8, (by decide : IntKind.wrap .i64 1 = 1), (by decide : IntKind.wrap .i64 2 = 2), (by decide : IntKind.wrap .i64 3 = 3), (by decide : IntKind.wrap .i64 4 = 4), (by decide : IntKind.wrap .i64 5 = 5), (by decide : IntKind.wrap .i64 6 = 6), (by decide : IntKind.wrap .i64 7 = 7), (by decide : IntKind.wrap .i64 8 = 8)]
    rw [e]; rfl
  · unfold F19
    simp only [loopQ0]
    have e : loopW (S19_3step 0) (w, (1 : Int)) = some (.inr ()) := by
      refine loopW_of 9 ?_
      simp [loopR, S19_3step, S19_3, F21, g1, g2, g3, g4, g5, g6, g7, g8, (by decide : IntKind.wrap .i64 2 = 2), (by decide : IntKind.wrap .i64 3 = 3), (by decide : IntKind.wrap .i64 4 = 4), (by decide : IntKind.wrap .i64 5 = 5), (by decide : IntKind.wrap .i64 6 = 6), (by decide : IntKind.wrap .i64 7 = 7), (by decide : IntKind.wrap .i64 8 = 8), (by decide : IntKind.wrap .i64 9 = 9)]
    rw [e]; rfl
end Go.Ab
namespace Go.Ab
open Go
set_option maxRecDepth 100000
/- Types. -/
theorem wordK_eq (w : List UInt8) : F18 0 w = some (wordK w) ∧ F19 0 w = some (wordK w) := by
  obtain ⟨n, h1, h2⟩ := kind_words w
  suffices h : n = wordK w by rw [← h]; exact ⟨h1, h2⟩
  have hs : ∀ (x : List UInt8) (k : Int), F19 0 x = some k → w = x → n = k := fun x k hk e => by
    subst e; rw [h2] at hk; cases hk; rfl
  unfold wordK
  by_cases e1 : w = [98, 111, 111, 108]
  · rw [hs _ 1 (by unfold F19; simp only [loopQ0]; rw [loopW_of 9 (y := .inl 1) (by kernel_rfl)]; rfl) e1, e1]; rfl
  by_cases e2 : w = [105, 51, 50]
  · rw [hs _ 2 (by unfold F19; simp only [loopQ0]; rw [loopW_of 9 (y := .inl 2) (by kernel_rfl)]; rfl) e2, e2]; rfl
  by_cases e3 : w = [105, 54, 52]
  · rw [hs _ 3 (by unfold F19; simp only [loopQ0]; rw [loopW_of 9 (y := .inl 3) (by kernel_rfl)]; rfl) e3, e3]; rfl
  by_cases e4 : w = [117, 51, 50]
  · rw [hs _ 4 (by unfold F19; simp only [loopQ0]; rw [loopW_of 9 (y := .inl 4) (by kernel_rfl)]; rfl) e4, e4]; rfl
  by_cases e5 : w = [117, 54, 52]
  · rw [hs _ 5 (by unfold F19; simp only [loopQ0]; rw [loopW_of 9 (y := .inl 5) (by kernel_rfl)]; rfl) e5, e5]; rfl
  by_cases e6 : w = [100, 111, 117, 98, 108, 101]
  · rw [hs _ 6 (by unfold F19; simp only [loopQ0]; rw [loopW_of 9 (y := .inl 6) (by kernel_rfl)]; rfl) e6, e6]; rfl
  by_cases e7 : w = [116, 101, 120, 116]
  · rw [hs _ 7 (by unfold F19; simp only [loopQ0]; rw [loopW_of 9 (y := .inl 7) (by kernel_rfl)]; rfl) e7, e7]; rfl
  by_cases e8 : w = [98, 121, 116, 101, 115]
  · rw [hs _ 8 (by unfold F19; simp only [loopQ0]; rw [loopW_of 9 (y := .inl 8) (by kernel_rfl)]; rfl) e8, e8]; rfl
  have g : ∀ x : List UInt8, w ≠ x → (w == x) = false := fun x h => beq_eq_false_iff_ne.2 h
  rw [g _ e1, g _ e2, g _ e3, g _ e4, g _ e5, g _ e6, g _ e7, g _ e8]
  obtain ⟨m, q1, q2⟩ := kind_none w ⟨e1, e2, e3, e4, e5, e6, e7, e8⟩
  rw [h2] at q1; cases q1
  exact q2
theorem typ_par (t : List PV) (ht : TOk t) (i : Nat) (hi : i ≤ t.length) (q : QF) : Par t q (fun v s => (v, s)) (typS (ts t i)) (F52 0 () (t, (i : Int), q)) := by
  unfold F52 typS
  rcases typeText_par t ht i hi q with ⟨v, j, hj, hx, hy⟩ | ⟨j, e, hj, he, hx, hy⟩
  · rw [hx, Rs.bind_ok]
    simp only [hy, Option.bind_some, sumE_inl, (wordK_eq v).1]
    refine .ok (tyOf v) j hj rfl ?_
    unfold tyOf
    cases h : (wordK v == 0) with
    | true => have : (wordK v != 0) = false := by simp [bne, h]
              simp only [this, cond_true, cond_false]
    | false => have : (wordK v != 0) = true := by simp [bne, h]
               simp only [this, cond_true, cond_false]
  · rw [hx, Rs.bind_er]
    exact .er j e hj he rfl (by simp only [hy, Option.bind_some, sumE_inr])
end Go.Ab
namespace Go.Ab
open Go
set_option maxRecDepth 100000
/-- One reading behind another. -/
theorem Par.seq {α β R R' : Type} {t : List PV} {q : QF} {mk : α → Q0 → R} {mk' : β → Q0 → R'} {x : Rs α} {y : Option (R ⊕ (PV × Q0))} {f : α → List Tk → Rs β} {g : R → Option (R' ⊕ (PV × Q0))} (h : Par t q mk x y)
    (hc : ∀ v j, j ≤ t.length → x = .ok v (ts t j) → Par t q mk' (f v (ts t j)) (g (mk v (t, ((j : Nat) : Int), q)))) : Par t q mk' (x.bind f) (y.bind fun z => sumE g (fun e => some (.inr e)) z) := by
  rcases h with ⟨v, j, hj, hx, hy⟩ | ⟨j, e, hj, he, hx, hy⟩
  · have := hc v j hj hx
    rw [hx, hy]
    exact this
  · rw [hx, hy]
    exact .er j e hj he rfl rfl
theorem Par.map {α β R R' : Type} {t : List PV} {q : QF} {mk : α → Q0 → R} {mk' : β → Q0 → R'} {x : Rs α} {y : Option (R ⊕ (PV × Q0))} {f : α → β} {g : R → R'} (h : Par t q mk x y)
    (hc : ∀ v s, g (mk v s) = mk' (f v) s) : Par t q mk' (x.bind fun v r => .ok (f v) r) (y.bind fun z => sumE (fun a => some (.inl (g a))) (fun e => some (.inr e)) z) :=
  h.seq fun v j hj hx => .ok (f v) j hj rfl (by rw [hc])
/- What begins at an index. -/
/-- The place that is handed back, and the error. -/
def outS {α : Type} (t : List PV) (dflt : α) (x : Rs α) : α × Int × Int :=
  match x with
  | .ok v r => (v, ((t.length - r.length : Nat) : Int), 0)
  | .er r e => (dflt, ((t.length - r.length : Nat) : Int), e)
theorem outS_ok {α : Type} {t : List PV} {d v : α} {j : Nat} (hj : j ≤ t.length) : outS t d (.ok v (ts t j)) = (v, (j : Int), 0) := by
  show (v, ((t.length - (ts t j).length : Nat) : Int), (0 : Int)) = _
  rw [ts_length, show t.length - (t.length - j) = j by omega]
theorem outS_er {α : Type} {t : List PV} {d : α} {j : Nat} {e : Int} (hj : j ≤ t.length) : outS t d (.er (ts t j) e : Rs α) = (d, (j : Int), e) := by
  show (d, ((t.length - (ts t j).length : Nat) : Int), e) = _
  rw [ts_length, show t.length - (t.length - j) = j by omega]
def badPlace (t : List PV) (a : Int) : Bool := bif decide (a < 0) then true else decide (a > (t.length : Int))
theorem place_nat {t : List PV} {a : Int} (h : badPlace t a = false) : ∃ i : Nat, a = (i : Int) ∧ i ≤ t.length := by
  unfold badPlace at h
  by_cases h0 : a < 0
  · simp [h0] at h
  · simp only [h0, decide_false, cond_false, decide_eq_false_iff_not] at h
    exact ⟨a.toNat, by omega, by omega⟩
theorem parseType_eq (t : List PV) (ht : TOk t) (a : Int) : F23 0 t a = some (bif badPlace t a then (PV.agg [PV.int 0, PV.str []], 0, 1) else outS t (PV.agg [PV.int 0, PV.str []]) (typS (ts t a.toNat))) := by
  unfold F23 F50
  rw [show (bif decide (a < 0) then true else decide (a > (t.length : Int))) = badPlace t a from rfl]
  cases hb : badPlace t a with
  | true => rfl
  | false =>
    obtain ⟨i, rfl, hi⟩ := place_nat hb
    rw [Int.toNat_natCast]
    unfold F43_v1 F114 F51
    rcases typ_par t ht i hi ([], [], (), (), (), [], [], [], []) with ⟨v, j, hj, hx, hy⟩ | ⟨j, e, hj, he, hx, hy⟩
    · simp only [hy, Option.bind_some, sumE_inl, cond_false, hx, outS_ok hj]
      rfl
    · simp only [hy, Option.bind_some, sumE_inr, cond_false, hx, outS_er hj]
      have : ((((PV.agg [PV.int ((j : Nat) : Int), PV.int e]).fld 1).asInt) != (0 : Int)) = true := bneI he
      rw [this]; rfl
end Go.Ab
namespace Go.Ab
open Go
set_option maxRecDepth 100000
inductive RPar {α R : Type} (t : List PV) (q : QF) (mk : α → Q4 → R) (x : Rs α) (y : Option R) : Prop
  | ok (v : α) (j : Nat) : j ≤ t.length → x = .ok v (ts t j) → y = some (mk v (t, ((j : Nat) : Int), 0, q)) → RPar t q mk x y
  | er (j : Nat) (e : Int) (v : α) : j ≤ t.length → e ≠ 0 → x = .er (ts t j) e → y = some (mk v (t, ((j : Nat) : Int), e, q)) → RPar t q mk x y
/-- The reference reads as the specification says (where c holds), and does nothing once there is an error. -/
structure RF {α R : Type} (t : List PV) (q : QF) (mk : α → Q4 → R) (c : Prop) (f : List Tk → Rs α) (F : Q4 → Option R) : Prop where
  rp : c → ∀ i : Nat, i ≤ t.length → RPar t q mk (f (ts t i)) (F (t, (i : Int), 0, q))
  st : ∀ (j : Nat) (e : Int), j ≤ t.length → e ≠ 0 → ∃ v, F (t, (j : Int), e, q) = some (mk v (t, (j : Int), e, q))
section
variable {t : List PV} {q : QF} {c : Prop}
theorem RF.bind {α β R R' : Type} {mk : α → Q4 → R} {mk' : β → Q4 → R'} {f : List Tk → Rs α} {F : Q4 → Option R} {f2 : α → List Tk → Rs β} {g : R → Option R'} (h : RF t q mk c f F)
    (hc : ∀ v, RF t q mk' (c ∧ ∃ i j, i ≤ t.length ∧ j ≤ t.length ∧ f (ts t i) = .ok v (ts t j)) (f2 v) (fun s => g (mk v s))) : RF t q mk' c (fun r => (f r).bind f2) (fun s => (F s).bind g) := by
  refine ⟨fun hq i hi => ?_, fun j e hj he => ?_⟩
  · rcases h.rp hq i hi with ⟨v, j, hj, hx, hy⟩ | ⟨j, e, v, hj, he, hx, hy⟩
    · simp only [hx, hy, Rs.bind_ok, Option.bind_some]
      exact (hc v).rp ⟨hq, i, j, hi, hj, hx⟩ j hj
    · simp only [hx, hy, Rs.bind_er, Option.bind_some]
      obtain ⟨w, hw⟩ := (hc v).st j e hj he
      exact .er j e w hj he rfl hw
  · obtain ⟨v, hv⟩ := h.st j e hj he
    obtain ⟨w, hw⟩ := (hc v).st j e hj he
    exact ⟨w, by simp only [hv, Option.bind_some]; exact hw⟩
theorem RF.imp {α R : Type} {mk : α → Q4 → R} {c' : Prop} {f : List Tk → Rs α} {F : Q4 → Option R} (h : RF t q mk c f F) (hc : c' → c) : RF t q mk c' f F := ⟨fun x => h.rp (hc x), h.st⟩
theorem RF.ret {α β R : Type} {mk : α → Q4 → R} (v : α) : RF t q mk c (fun r => .ok v r) (fun s => some (mk v s)) := ⟨fun _ i hi => .ok v i hi rfl rfl, fun j e _ _ => ⟨v, rfl⟩⟩
theorem RF.ret' {α R : Type} {mk : α → Q4 → R} {g : Q4 → Option R} (v : α) (hg : ∀ s, g s = some (mk v s)) : RF t q mk c (fun r => .ok v r) g := ⟨fun _ i hi => .ok v i hi rfl (hg _), fun j e _ _ => ⟨v, hg _⟩⟩
theorem RF.congr {α R : Type} {mk : α → Q4 → R} {f f' : List Tk → Rs α} {F F' : Q4 → Option R} (h : RF t q mk c f F) (hf : ∀ r, f' r = f r) (hF : ∀ s, F' s = F s) : RF t q mk c f' F' :=
  ⟨fun hc i hi => by rw [hf, hF]; exact h.rp hc i hi, fun j e hj he => by rw [hF]; exact h.st j e hj he⟩
/- Tokens. -/
theorem hereR (k : Int) (hk : (k == 0) = false) (i : Nat) : F105 0 () k (t, (i : Int), 0, q) = some (kindS (ts t i) == k, (t, (i : Int), 0, q)) := by
  unfold F105
  by_cases h : i < t.length
  · have e1 : decide ((i : Int) < (t.length : Int)) = true := decide_eq_true (by omega)
    simp only [show ((0 : Int) == 0) = true from rfl, e1, cond_true, imp, inRange_nat, h, decide_true, Int.toNat_natCast, kind_at h]
  · have e1 : decide ((i : Int) < (t.length : Int)) = false := decide_eq_false (by omega)
    have e2 : (kindS (ts t i) == k) = false := by
      rw [ts_end (by omega)]
      have : k ≠ 0 := by simpa using hk
      simp only [kindS, beq_eq_false_iff_ne]
      exact fun x => this x.symm
    simp only [show ((0 : Int) == 0) = true from rfl, e1, e2, cond_true, cond_false, imp, Bool.not_false, cond_same]
theorem hereE (k : Int) (a e : Int) (he : e ≠ 0) : F105 0 () k (t, a, e, q) = some (false, (t, a, e, q)) := by
  unfold F105
  simp only [beqI he, cond_false, imp, Bool.not_false, cond_true, cond_same]
theorem failE (e' a e : Int) (he : e ≠ 0) : F106 0 () e' (t, a, e, q) = some (t, a, e, q) := by
  unfold F106
  simp only [beqI he, cond_false]
/-- A token of a kind whose text passes a test. -/
theorem takeRF (ht : TOk t) (k : Int) (hk : (k == 0) = false) {p : List UInt8 → Bool} {T : List UInt8 → Option Bool} (hT : ∀ s, s.length ≤ 1048576 → T s = some (!p s)) {g : Q4 → Option (List UInt8 × Q4)}
    (hg : ∀ z : Q4, g z = (F105 0 () k z).bind fun y1 => bif !y1.1 then (F106 0 () 2 y1.2).bind fun y3 => some ([], y3) else
      bif inRange y1.2.2.1 y1.2.1.length then (T ((y1.2.1.getD y1.2.2.1.toNat .bad).fld 1).asStr).bind fun y9 => bif y9 then (F106 0 () 8 y1.2).bind fun y11 => some ([], y11) else
        some (((y1.2.1.getD y1.2.2.1.toNat .bad).fld 1).asStr, y1.2.1, IntKind.wrap .i64 (y1.2.2.1 + 1), y1.2.2.2) else none) : RF t q (fun v z => (v, z)) c (takeS k p) g := by
  have hl := ht.len
  refine ⟨fun _ i hi => ?_, fun j e hj he => ?_⟩
  · rw [hg, hereR k hk, Option.bind_some]
    unfold takeS
    cases hb : (kindS (ts t i) == k) with
    | false => exact .er i 2 [] hi (by decide) rfl rfl
    | true =>
      have h := kindS_lt hk hb
      simp only [Bool.not_true, cond_false, cond_true, inRange_nat, h, decide_true, Int.toNat_natCast, hT _ (txt_at ht h), Option.bind_some, textS_at h, wadd' (show i ≤ 9223372036854775000 by omega)]
      cases hp : p ((t.getD i .bad).fld 1).asStr with
      | true => exact .ok _ (i + 1) h (by rw [cond_true, ts_tail]) rfl
      | false => exact .er i 8 [] hi (by decide) rfl rfl
  · refine ⟨[], ?_⟩
    rw [hg, hereE k _ e he]
    simp only [Option.bind_some, Bool.not_false, cond_true, failE 2 _ e he]
/-- A text that is no type. -/
noncomputable def writE (s : List UInt8) : Option Bool := (F219 0 s).bind (fun y9 =>
      let x10 := !y9
      let x12 := (s.length : Int) == (0 : Int)
      bif imp (bif !x12 then x10 else false) (inRange (0 : Int) s.length) then
      let x15 := bif x12 then true else (((s.getD (0 : Int).toNat 0).toNat : Int) != (46 : Int))
      bif imp (bif !x15 then x10 else false) (decide (0 ≤ (1 : Int) ∧ (1 : Int) ≤ (s.length : Int) ∧ (s.length : Int) ≤ (s.length : Int))) then
      (bif bif !x15 then x10 else false then F219 0 ((s.take (s.length : Int).toNat).drop (1 : Int).toNat) else some false).bind fun y17 => some (bif x10 then (bif x15 then true else (!y17)) else false)
      else none else none)
theorem writ_eq (s : List UInt8) (hs : s.length ≤ 1048576) : writE s = some (!typeP s) := by
  unfold writE
  rw [refFull_eq s hs, Option.bind_some]
  cases s with
  | nil => decide
  | cons b r =>
    have e0 : (((b :: r).length : Int) == (0 : Int)) = false := by rw [beq_eq_false_iff_ne]; simp only [List.length_cons]; omega
    have e1 : inRange (0 : Int) (b :: r).length = true := in0 b r
    have e2 : decide (0 ≤ (1 : Int) ∧ (1 : Int) ≤ ((b :: r).length : Int) ∧ ((b :: r).length : Int) ≤ ((b :: r).length : Int)) = true := decide_eq_true (by simp only [List.length_cons]; omega)
    have e3 : (((b :: r).take ((b :: r).length : Int).toNat).drop (1 : Int).toNat) = r := by rw [Int.toNat_natCast, List.take_length]; rfl
    have e4 : (((((b :: r).getD (0 : Int).toNat 0).toNat : Nat) : Int) != (46 : Int)) = !(b == 46) := by
      show ((b.toNat : Int) != (46 : Int)) = !(b == 46)
      unfold bne
      rw [bqI (c := b) (k := 46) (n := 46) rfl]
    have hf : (b == 46) = true → fullP (b :: r) = false := fun hb => by
      cases h : fullP (b :: r) with
      | false => rfl
      | true =>
        obtain ⟨c, z, e, hc⟩ := full_first h
        simp only [List.cons.injEq] at e
        have hb : b = 46 := by simpa using hb
        rw [← e.1, hb] at hc
        exact absurd hc (by decide)
    have hr : F219 0 r = some (fullP r) := refFull_eq r (by simp only [List.length_cons] at hs; omega)
    show _ = some (!(bif b == 46 then fullP r else fullP (b :: r)))
    simp only [e0, e1, e2, e3, e4, imp, Bool.not_false, cond_true, cond_false, cond_same, hr, Bool.not_not]
    cases hb : (b == 46) with
    | true => rw [hf hb]; simp
    | false => cases fullP (b :: r) <;> simp
theorem cbn {α β : Type} (b : Bool) (x : Option α) (K : α → Option β) : (bif b then x else none).bind K = bif b then x.bind K else none := by cases b <;> rfl
theorem writtenR (ht : TOk t) : RF t q (fun v z => (v, z)) c typeTextS (F116 0 ()) :=
  takeRF ht 1 rfl (p := typeP) (T := writE) (fun s hs => writ_eq s hs) fun z => by
    unfold F116 writE
    simp only [Option.bind_assoc, cbn, Option.bind_some]
theorem typR (ht : TOk t) : RF t q (fun v z => (v, z)) c typS (F53 0 ()) := by
  refine RF.congr (F := fun s => (F116 0 () s).bind fun y1 => some (tyOf y1.1, y1.2)) (RF.bind (f2 := fun s r => .ok (tyOf s) r) (writtenR ht) fun v => RF.ret' (tyOf v) fun s => rfl) (fun r => rfl) fun z => ?_
  unfold F53
  congr 1
  funext y1
  simp only [(wordK_eq _).2, Option.bind_some]
  unfold tyOf
  cases h : (wordK y1.1 == 0) with
  | true => have : (wordK y1.1 != 0) = false := by simp [bne, h]
            simp only [this, cond_true, cond_false]
  | false => have : (wordK y1.1 != 0) = true := by simp [bne, h]
             simp only [this, cond_true, cond_false]
theorem refTypeS_eq (ht : TOk t) (a : Int) : F24 0 t a = some (bif badPlace t a then (PV.agg [PV.int 0, PV.str []], 0, 1) else outS t (PV.agg [PV.int 0, PV.str []]) (typS (ts t a.toNat))) := by
  unfold F24
  rw [show (bif decide (a < 0) then true else decide (a > (t.length : Int))) = badPlace t a from rfl]
  cases hb : badPlace t a with
  | true => rfl
  | false =>
    obtain ⟨i, rfl, hi⟩ := place_nat hb
    rw [Int.toNat_natCast]
    rcases (typR (q := ([], [], (), (), (), [], [], [], [])) (c := True) ht).rp trivial i hi with ⟨v, j, hj, hx, hy⟩ | ⟨j, e, v, hj, he, hx, hy⟩
    · simp only [hy, Option.bind_some, cond_false, hx, outS_ok hj]
      rfl
    · simp only [hy, Option.bind_some, cond_false, hx, outS_er hj, bneI he, cond_true]
end
/- The law of types. -/
theorem smallT_eq (t : List PV) (hl : t.length ≤ 1048576) : ∃ b, F22 0 t = some b ∧ (b = true → t.length ≤ 80 ∧ ∀ x, x ∈ t → (x.fld 1).asStr.length ≤ 300) := by
  unfold F22
  by_cases h : t.length > 80
  · have e : decide ((t.length : Int) > 80) = true := decide_eq_true (by omega)
    exact ⟨false, by rw [e]; rfl, fun h => by cases h⟩
  · have e : decide ((t.length : Int) > 80) = false := decide_eq_false (by omega)
    have hlp := loopW_all (step := S22_5step 0) (fun i => (t, (i : Int))) t.length (fun i => decide (((t.getD i .bad).fld 1).asStr.length ≤ 300)) (.inl false) (.inr ())
      (fun i hi => by
        simp only [S22_5step, S22_5, declt, hi, decide_true, cond_true, inRange_nat, Int.toNat_natCast, wadd' (show i ≤ 9223372036854775000 by omega)]
        by_cases h3 : ((t.getD i .bad).fld 1).asStr.length ≤ 300
        · rw [decide_eq_true h3, decide_eq_false (by omega)]; rfl
        · rw [decide_eq_false h3, decide_eq_true (by omega)]; rfl)
      (by simp only [S22_5step, S22_5, declt, Nat.lt_irrefl, decide_false, cond_false]) t.length 0 (by omega)
    rw [allF_of (fun x : PV => decide ((x.fld 1).asStr.length ≤ 300)) .bad t] at hlp
    rw [e, cond_false, loopQ0, show (0 : Int) = ((0 : Nat) : Int) from rfl, hlp]
    cases ha : t.all (fun x => decide ((x.fld 1).asStr.length ≤ 300)) with
    | true => exact ⟨true, rfl, fun _ => ⟨by omega, fun x hx => by simpa using List.all_eq_true.1 ha x hx⟩⟩
    | false => exact ⟨false, rfl, fun h => by cases h⟩
theorem plain_types (t : List PV) (a : Int) (hl : t.length ≤ 1048576) : F5 0 t a = some true := by
  obtain ⟨b, hb, hs⟩ := smallT_eq t hl
  unfold F5
  rw [hb, Option.bind_some]
  cases b with
  | false => rfl
  | true =>
    obtain ⟨h1, h2⟩ := hs rfl
    have ht : TOk t := ⟨by omega, fun x hx => by have := h2 x hx; omega⟩
    simp [parseType_eq t ht a, refTypeS_eq ht a, Lawake09]
end Go.Ab
