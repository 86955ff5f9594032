/- The scanner on texts that are written token by token: texts, the loop. -/
import Derived.Test.YtcpkdafleaddlaaGreatDoorPUtfL
import Derived.Test.YtcpkdafleaddlaaGreatDoorAbEqL
import Derived.Test.YtcpkdafleaddlaaGreatDoorGenL
import Derived.Test.YtcpkdafleaddlaaGreatDoorAbPlain
set_option linter.unusedVariables false
set_option linter.unusedSimpArgs false
set_option linter.unnecessarySimpa false
namespace Go.Ab
open Go
set_option maxRecDepth 100000
theorem value_all : ((List.range 16).all fun h => (F305 0 ((hexd h).toNat : Int)) == some (h : Int)) = true := by kernel_rfl
theorem value_eq {h : Nat} (hh : h < 16) : F305 0 ((hexd h).toNat : Int) = some (h : Int) := by
 have := List.all_eq_true.1 value_all h (List.mem_range.2 hh)
 simpa using this
theorem or_all : ((List.range 256).all fun b => IntKind.wrap .u8 (bitsI .or .i64 (IntKind.wrap .i64 (((b / 16 : Nat) : Int) * 2 ^ (min (4 : Int).toNat (IntKind.bits .i64)))) ((b % 16 : Nat) : Int)) == (b : Int)) = true := by kernel_rfl
theorem or_eq {b : Nat} (h : b < 256) : IntKind.wrap .u8 (bitsI .or .i64 (IntKind.wrap .i64 (((b / 16 : Nat) : Int) * 2 ^ (min (4 : Int).toNat (IntKind.bits .i64)))) ((b % 16 : Nat) : Int)) = (b : Int) := by
 have := List.all_eq_true.1 or_all b (List.mem_range.2 h)
 simpa using this
theorem esc2 {src : List UInt8} {i : Nat} {e : UInt8} {q : List UInt8} (hl : src.length ≤ 1048576) (h : src.drop i = 92 :: e :: q) {v : Int} (hv : F304 0 ((e.toNat : Nat) : Int) = some (v, true)) : F237 0 src (i : Int) = some (v, 2) := by
 obtain ⟨h1, _, h2⟩ := drop_at 0 h
 obtain ⟨h3, h4, _⟩ := drop_at 0 h2
 have w1 : IntKind.wrap .i64 ((i : Int) + 1) = ((i + 1 : Nat) : Int) := wadd' (by omega)
 have d1 : decide (((i + 1 : Nat) : Int) ≥ (src.length : Int)) = false := decide_eq_false (by omega)
 have d2 : inRange ((i + 1 : Nat) : Int) src.length = true := by rw [inRange_nat]; exact decide_eq_true h3
 unfold F237
 simp only [w1, d1, d2, cond_true, cond_false, Int.toNat_natCast, h4, hv, Option.bind_some]
theorem escX {src : List UInt8} {i : Nat} {b : UInt8} {q : List UInt8} (hl : src.length ≤ 1048576) (h : src.drop i = 92 :: 120 :: (hex2 b.toNat ++ q)) : F237 0 src (i : Int) = some ((b.toNat : Int), 4) := by
 have h : src.drop i = 92 :: 120 :: hexd (b.toNat / 16) :: hexd (b.toNat % 16) :: q := h
 have hb := b.toNat_lt
 obtain ⟨h1, _, h2⟩ := drop_at 0 h
 obtain ⟨h3, h4, h5⟩ := drop_at 0 h2
 obtain ⟨h6, h7, h8⟩ := drop_at 0 h5
 obtain ⟨h9, h10, _⟩ := drop_at 0 h8
 have w1 : IntKind.wrap .i64 ((i : Int) + 1) = ((i + 1 : Nat) : Int) := wadd' (by omega)
 have w2 : IntKind.wrap .i64 ((i : Int) + 2) = ((i + 1 + 1 : Nat) : Int) := by rw [wrap64 (by omega) (by omega)]; omega
 have w3 : IntKind.wrap .i64 ((i : Int) + 3) = ((i + 1 + 1 + 1 : Nat) : Int) := by rw [wrap64 (by omega) (by omega)]; omega
 have d1 : decide (((i + 1 : Nat) : Int) ≥ (src.length : Int)) = false := decide_eq_false (by omega)
 have d3 : decide (((i + 1 + 1 + 1 : Nat) : Int) ≥ (src.length : Int)) = false := decide_eq_false (by omega)
 have r1 : inRange ((i + 1 : Nat) : Int) src.length = true := by rw [inRange_nat]; exact decide_eq_true h3
 have r2 : inRange ((i + 1 + 1 : Nat) : Int) src.length = true := by rw [inRange_nat]; exact decide_eq_true h6
 have r3 : inRange ((i + 1 + 1 + 1 : Nat) : Int) src.length = true := by rw [inRange_nat]; exact decide_eq_true h9
 have hp : F304 0 (((120 : UInt8).toNat : Nat) : Int) = some (0, false) := rfl
 have hx : ((((120 : UInt8).toNat : Nat) : Int) != (120 : Int)) = false := rfl
 have v1 := value_eq (h := b.toNat / 16) (by omega)
 have v2 := value_eq (h := b.toNat % 16) (by omega)
 have n1 : decide (((b.toNat / 16 : Nat) : Int) < 0) = false := decide_eq_false (by omega)
 have n2 : decide (((b.toNat % 16 : Nat) : Int) < 0) = false := decide_eq_false (by omega)
 unfold F237
 simp only [w1, w2, w3, d1, d3, r1, r2, r3, cond_true, cond_false, Int.toNat_natCast, h4, h7, h10, hp, hx, v1, v2, n1, n2, imp, Bool.not_false, Bool.true_or, cond_same, Option.bind_some, or_eq hb]
theorem unq_step {src : List UInt8} (hl : src.length ≤ 1048576) {i : Nat} {acc : List PV} (ha : acc.length ≤ i) {b : UInt8} {c q : List UInt8} (hc : codeOk b c) (h : src.drop i = c ++ q) : S131_6step 0 (src, acc, (i : Int)) = some (.inl (src, acc ++ [PV.int (b.toNat : Int)], ((i + c.length : Nat) : Int))) := by
 have ne : c ≠ [] := by
  rcases hc with ⟨rfl, _⟩ | ⟨_, rfl⟩ | ⟨_, rfl⟩ | ⟨_, rfl⟩ | ⟨_, rfl⟩ | ⟨_, rfl⟩ | rfl <;> simp
 have hi : i < src.length := by
  have := congrArg List.length h
  rw [List.length_drop, List.length_append] at this
  have : 0 < c.length := List.length_pos_iff.2 ne
  omega
 have e1 : decide ((i : Int) < (src.length : Int)) = true := decide_eq_true (by omega)
 have e2 : inRange (i : Int) src.length = true := by rw [inRange_nat]; exact decide_eq_true hi
 have ea : ∀ x : PV, decide (acc.length + [x].length ≤ accMax) = true := fun x => decide_eq_true (by simp only [List.length_cons, List.length_nil]; unfold accMax; omega)
 have esc : ∀ (e : UInt8) (r : List UInt8) (v : Int), src.drop i = 92 :: e :: r → F237 0 src (i : Int) = some (v, 2) → S131_6step 0 (src, acc, (i : Int)) = some (.inl (src, acc ++ [PV.int v], ((i + 2 : Nat) : Int))) := fun e r v hd hv => by
  obtain ⟨_, h4, _⟩ := drop_at 0 hd
  have w : IntKind.wrap .i64 ((i : Int) + 2) = ((i + 2 : Nat) : Int) := by rw [wrap64 (by omega) (by omega)]; omega
  simp only [S131_6step, S131_6, e1, e2, ea, h4, hv, w, imp, cond_true, cond_false, Bool.not_true, Bool.true_or, cond_same, Option.bind_some, Int.toNat_natCast]
  rfl
 rcases hc with ⟨rfl, b1, b2⟩ | ⟨rfl, rfl⟩ | ⟨rfl, rfl⟩ | ⟨rfl, rfl⟩ | ⟨rfl, rfl⟩ | ⟨rfl, rfl⟩ | rfl
 ·obtain ⟨_, h4, _⟩ := drop_at 0 (show src.drop i = b :: q from h)
  have w : IntKind.wrap .i64 ((i : Int) + 1) = ((i + 1 : Nat) : Int) := wadd' (by omega)
  have g1 : ((b.toNat : Int) != (34 : Int)) = true := by
   show (!((b.toNat : Int) == (34 : Int))) = true
   rw [bqI (c := b) (k := 34) (n := 34) rfl, beq_eq_false_iff_ne.2 b1]; rfl
  have g2 : ((b.toNat : Int) == (92 : Int)) = false := by rw [bqI (c := b) (k := 92) (n := 92) rfl]; exact beq_eq_false_iff_ne.2 b2
  simp only [S131_6step, S131_6, e1, e2, ea, h4, w, g1, g2, imp, cond_true, cond_false, Bool.not_true, Bool.true_or, cond_same, Option.bind_some, Int.toNat_natCast]
  rfl
 ·exact esc _ _ _ h (esc2 hl h rfl)
 ·exact esc _ _ _ h (esc2 hl h rfl)
 ·exact esc _ _ _ h (esc2 hl h rfl)
 ·exact esc _ _ _ h (esc2 hl h rfl)
 ·exact esc _ _ _ h (esc2 hl h rfl)
 ·have hv := escX (b := b) (q := q) hl h
  obtain ⟨_, h4, _⟩ := drop_at 0 (show src.drop i = 92 :: (120 :: (hex2 b.toNat ++ q)) from h)
  have w : IntKind.wrap .i64 ((i : Int) + 4) = ((i + 4 : Nat) : Int) := by rw [wrap64 (by omega) (by omega)]; omega
  simp only [S131_6step, S131_6, e1, e2, ea, h4, hv, w, imp, cond_true, cond_false, Bool.not_true, Bool.true_or, cond_same, Option.bind_some, Int.toNat_natCast]
  rfl
theorem unq_loop {src : List UInt8} (hl : src.length ≤ 1048576) {a x : List UInt8} (hc : Codes a x) : ∀ (i : Nat) (acc : List PV) (s : List UInt8), src.drop i = x ++ 34 :: s → acc.length ≤ i → loopW (S131_6step 0) (src, acc, (i : Int)) = some (.inr (src, acc ++ a.map (fun c => PV.int (c.toNat : Int)), ((i + x.length : Nat) : Int))) := by
 induction hc with
 | nil =>
  intro i acc s h ha
  obtain ⟨hi, h4, _⟩ := drop_at 0 (show src.drop i = 34 :: s from h)
  have e1 : decide ((i : Int) < (src.length : Int)) = true := decide_eq_true (by omega)
  have e2 : inRange (i : Int) src.length = true := by rw [inRange_nat]; exact decide_eq_true hi
  have g1 : ((((34 : UInt8).toNat : Nat) : Int) != (34 : Int)) = false := rfl
  refine (loopW_end (y := .inr (src, acc, (i : Int))) ?_).trans (by simp)
  simp only [S131_6step, S131_6, e1, e2, h4, g1, imp, cond_true, cond_false, Bool.not_true, Bool.true_or, cond_same, Option.bind_some, Int.toNat_natCast]
 | @cons b c r q hb hr ih =>
  intro i acc s h ha
  rw [List.append_assoc] at h
  have st := unq_step hl ha hb h
  have hn : src.drop (i + c.length) = q ++ 34 :: s := by
   rw [← List.drop_drop, h, List.drop_left]
  have hp : 0 < c.length := by
   rcases hb with ⟨rfl, _⟩ | ⟨_, rfl⟩ | ⟨_, rfl⟩ | ⟨_, rfl⟩ | ⟨_, rfl⟩ | ⟨_, rfl⟩ | rfl <;> simp
  rw [loopW_go st, ih (i + c.length) _ s hn (by simp; omega)]
  simp [Nat.add_assoc]
theorem unquote_eq {a : List UInt8} (ha : a.length ≤ 1048576) (s : List UInt8) (hl : (quote a ++ s).length ≤ 1048576) : F131 0 (quote a ++ s) = some (a, (((quote a).length : Nat) : Int), 0) := by
 have hq : quote a = 34 :: (quoteFrom a 0 ++ [34]) := by unfold quote; rfl
 have hlen : (quote a).length = (quoteFrom a 0).length + 2 := by rw [hq]; simp
 have hc := quote_codes a a.length 0 (by omega)
 rw [List.drop_zero] at hc
 have hd : (quote a ++ s).drop 1 = quoteFrom a 0 ++ 34 :: s := by rw [hq]; simp
 have lp : loopW (S131_6step 0) (quote a ++ s, [], (1 : Int)) = some (.inr (quote a ++ s, [] ++ a.map (fun c : UInt8 => PV.int (c.toNat : Int)), ((1 + (quoteFrom a 0).length : Nat) : Int))) := unq_loop hl hc 1 [] s hd (by simp)
 have hall : (quote a ++ s).length = (quoteFrom a 0).length + 2 + s.length := by rw [List.length_append, hlen]
 have e0 : ((quote a ++ s) == ([] : List UInt8)) = false := by rw [hq]; rfl
 have e1 : inRange (0 : Int) (quote a ++ s).length = true := by rw [hq, List.cons_append, in0]
 have e2 : ((((quote a ++ s).getD (0 : Int).toNat 0).toNat : Int) != (34 : Int)) = false := by rw [hq]; rfl
 have e3 : ([] ++ a.map (fun c : UInt8 => PV.int (c.toNat : Int))).map byteOfPV = a := by
  rw [List.nil_append, List.map_map]
  refine (List.map_congr_left (g := id) (fun x _ => byte_back x)).trans (List.map_id _)
 have e4 : decide (((1 + (quoteFrom a 0).length : Nat) : Int) ≥ ((quote a ++ s).length : Int)) = false := decide_eq_false (by omega)
 have w : IntKind.wrap .i64 (((1 + (quoteFrom a 0).length : Nat) : Int) + 1) = (((quote a).length : Nat) : Int) := by rw [wadd' (by omega), hlen]; congr 1; omega
 have e5 : decide (0 ≤ (0 : Int) ∧ (0 : Int) ≤ (((quote a).length : Nat) : Int) ∧ (((quote a).length : Nat) : Int) ≤ ((quote a ++ s).length : Int)) = true := decide_eq_true (by omega)
 have e6 : ((quote a ++ s).take (((quote a).length : Nat) : Int).toNat).drop (0 : Int).toNat = quote a := by
  rw [Int.toNat_natCast, List.take_left]; rfl
 unfold F131
 rw [loopQ0, lp]
 simp only [e0, e1, e2, imp, Bool.not_false, Bool.true_or, cond_same, cond_true, cond_false, Option.bind_some, sumE_inr, e3, e4, quote_eq a ha, w, e5, e6, beq_self_eq_true, Bool.not_true]
end Go.Ab
namespace Go.Ab
open Go
set_option maxRecDepth 100000
end Go.Ab
namespace Go.Ab
open Go
set_option maxRecDepth 100000
theorem num_loop (s : List UInt8) (neg : Bool) (V : Nat) (hV : V < 18446744073709551616) (hd : ∀ c, c ∈ s → isDig c) (hl : s.length ≤ 1048576) : ∀ (m i acc : Nat), s.length - i ≤ m → i ≤ s.length → valD acc (s.drop i) = V →
 loopW (S365_9step 0) (s, neg, (acc : Int), false, (i : Int)) = some (.inr (neg, (V : Int), false)) := by
 intro m
 induction m with
 | zero =>
  intro i acc hm hi hv
  have hlt : ¬ i < s.length := by omega
  rw [List.drop_eq_nil_of_le (by omega)] at hv
  have e : acc = V := hv
  subst e
  exact loopW_end (by simp only [S365_9step, S365_9, declt, hlt, decide_false, cond_false])
 | succ m ih =>
  intro i acc hm hi hv
  by_cases hlt : i < s.length
  ·rw [drop_cons hlt 0] at hv
   have hc : isDig (s.getD i 0) := hd _ (by rw [getD_of_lt hlt]; exact List.getElem_mem _)
   generalize hx : s.getD i 0 = c at hv hc
   have hv' : valD (acc * 10 + (c.toNat - 48)) (s.drop (i + 1)) = V := hv
   have hs : acc * 10 + (c.toNat - 48) ≤ V := by rw [← hv']; exact valD_ge _ _
   unfold isDig at hc
   obtain ⟨d, hdd⟩ : ∃ d : Nat, c.toNat = 48 + d := ⟨c.toNat - 48, by omega⟩
   rw [← ih (i + 1) (acc * 10 + (c.toNat - 48)) (by omega) (by omega) hv']
   rw [hdd] at hs hc ⊢
   have d1 : decide (((48 + d : Nat) : Int) < (48 : Int)) = false := decide_eq_false (by omega)
   have d2 : decide (((48 + d : Nat) : Int) > (57 : Int)) = false := decide_eq_false (by omega)
   have w1 : IntKind.wrap .u64 (IntKind.wrap .u8 (((48 + d : Nat) : Int) - (48 : Int))) = (d : Int) := by rw [IntKind.wrap_u8, IntKind.wrap_u64]; omega
   have w2 : IntKind.wrap .u64 ((18446744073709551615 : Int) - (d : Int)) = ((18446744073709551615 - d : Nat) : Int) := by rw [IntKind.wrap_u64]; omega
   have w3 : IntKind.wrap .u64 (((18446744073709551615 - d : Nat) : Int).tdiv (10 : Int)) = (((18446744073709551615 - d) / 10 : Nat) : Int) := by
    rw [show ((18446744073709551615 - d : Nat) : Int).tdiv (10 : Int) = (((18446744073709551615 - d) / 10 : Nat) : Int) from rfl, IntKind.wrap_u64]; omega
   have d3 : decide ((acc : Int) > (((18446744073709551615 - d) / 10 : Nat) : Int)) = false := decide_eq_false (by omega)
   have w4 : IntKind.wrap .u64 ((10 : Int) * (acc : Int)) = ((10 * acc : Nat) : Int) := by rw [IntKind.wrap_u64]; omega
   have w5 : IntKind.wrap .u64 (((10 * acc : Nat) : Int) + (d : Int)) = ((acc * 10 + (48 + d - 48) : Nat) : Int) := by rw [IntKind.wrap_u64]; omega
   refine loopW_go ?_
   simp only [S365_9step, S365_9, declt, inRange_nat, hlt, decide_true, cond_true, Int.toNat_natCast, hx, hdd, d1, d2, d3, w1, w2, w3, w4, w5, imp, Bool.not_false, cond_false, wadd1 (i := i) (by omega)]
  ·have e : acc = V := by rw [List.drop_eq_nil_of_le (by omega)] at hv; exact hv
   subst e
   exact loopW_end (by simp only [S365_9step, S365_9, declt, hlt, decide_false, cond_false])
theorem dec_len (u : Nat) (hu : u < 18446744073709551616) : (Lib.decDigits u).length ≤ 20 := by
 rw [← decB_eq (by omega)]; exact decB_len u
theorem num_dec (u : Nat) (hu : u < 18446744073709551616) : F365 0 (Lib.decDigits u) = some ((u : Int), false, 0) := by
 obtain ⟨h1, h2, h3, h4⟩ := dec_facts u
 have hlen := dec_len u hu
 have hloop := num_loop (Lib.decDigits u) false u hu h1 (by omega) (Lib.decDigits u).length 0 0 (by omega) (by omega) (by rw [List.drop_zero]; exact h2)
 have hz : u = 0 → Lib.decDigits u = [48] := fun h => by subst h; rw [Lib.decDigits]; rfl
 generalize Lib.decDigits u = s at *
 match s, h3 with
 | c :: r, _ =>
  have hc := h1 c (by simp)
  unfold isDig at hc
  have k45 : ((c.toNat : Int) == (45 : Int)) = false := by simp; omega
  have hp : decide (((c :: r).length : Int) > (0 : Int)) = true := decide_eq_true (by simp)
  have hi : inRange (0 : Int) (c :: r).length = true := by rw [show (0 : Int) = ((0 : Nat) : Int) from rfl, inRange_nat]; exact decide_eq_true (by simp)
  have hg : ((c :: r).getD (0 : Int).toNat 0) = c := rfl
  have hn : ((c :: r) == ([] : List UInt8)) = false := rfl
  have ht : (bif ((c.toNat : Int) == (48 : Int)) then (!((c :: r) == ([48] : List UInt8))) else false) = false := by
   by_cases h0 : u = 0
   ·rw [hz h0]; simp
   ·have := h4 h0 c rfl
    have : ((c.toNat : Int) == (48 : Int)) = false := by simp; omega
    rw [this]; rfl
  rw [show ((0 : Nat) : Int) = (0 : Int) from rfl] at hloop
  unfold F365
  simp only [hp, imp, hi, cond_true, hg, k45, cond_false, hn, Bool.not_false, ht, loopQ0, hloop, Option.bind_some, sumE_inr]
theorem num_neg (u : Nat) (hu : u < 18446744073709551616) : F365 0 (45 :: Lib.decDigits u) = some (if u = 0 then (0, false, 2) else ((u : Int), true, 0)) := by
 obtain ⟨h1, h2, h3, h4⟩ := dec_facts u
 have hlen := dec_len u hu
 have hloop := num_loop (Lib.decDigits u) true u hu h1 (by omega) (Lib.decDigits u).length 0 0 (by omega) (by omega) (by rw [List.drop_zero]; exact h2)
 have hz : u = 0 → Lib.decDigits u = [48] := fun h => by subst h; rw [Lib.decDigits]; rfl
 generalize Lib.decDigits u = s at *
 match s, h3 with
 | c :: r, _ =>
  have hc := h1 c (by simp)
  unfold isDig at hc
  have k45 : (((45 : UInt8).toNat : Int) == (45 : Int)) = true := rfl
  have hp : decide (((45 :: c :: r).length : Int) > (0 : Int)) = true := decide_eq_true (by simp; omega)
  have hi : inRange (0 : Int) (45 :: c :: r).length = true := by rw [show (0 : Int) = ((0 : Nat) : Int) from rfl, inRange_nat]; exact decide_eq_true (by simp)
  have hi2 : inRange (0 : Int) (c :: r).length = true := by rw [show (0 : Int) = ((0 : Nat) : Int) from rfl, inRange_nat]; exact decide_eq_true (by simp)
  have hg : ((45 :: c :: r).getD (0 : Int).toNat 0) = 45 := rfl
  have hg2 : ((c :: r).getD (0 : Int).toNat 0) = c := rfl
  have hsl : decide ((0 : Int) ≤ (1 : Int) ∧ (1 : Int) ≤ ((45 :: c :: r).length : Int) ∧ ((45 :: c :: r).length : Int) ≤ ((45 :: c :: r).length : Int)) = true := decide_eq_true (by simp; omega)
  have htk : ((45 :: c :: r).take ((45 :: c :: r).length : Int).toNat).drop (1 : Int).toNat = c :: r := by rw [Int.toNat_natCast, List.take_length]; rfl
  have hn : ((c :: r) == ([] : List UInt8)) = false := rfl
  have hne : ((45 :: c :: r) == ([48] : List UInt8)) = false := rfl
  rw [show ((0 : Nat) : Int) = (0 : Int) from rfl] at hloop
  by_cases h0 : u = 0
  ·have hcc : c = 48 := by have := hz h0; simp at this; exact this.1
   have ht : ((c.toNat : Int) == (48 : Int)) = true := by rw [hcc]; rfl
   unfold F365
   simp only [hp, imp, hi, hi2, cond_true, hg, hg2, k45, hsl, htk, hn, Bool.not_false, cond_false, ht, hne, h0, if_true]
  ·have := h4 h0 c rfl
   have ht : ((c.toNat : Int) == (48 : Int)) = false := by simp; omega
   unfold F365
   simp only [hp, imp, hi, hi2, cond_true, hg, hg2, k45, hsl, htk, hn, Bool.not_false, cond_false, ht, loopQ0, hloop, Option.bind_some, sumE_inr, h0, if_false]
end Go.Ab
namespace Go.Ab
open Go
set_option maxRecDepth 100000
def zeroV : PV := PV.agg [(PV.int (0 : Int)), (PV.int (0 : Int)), (PV.str ([] : List UInt8)), (PV.slice []), (PV.slice []), (PV.slice []), (PV.slice [])]
def mkV (k b : Int) : PV := PV.agg [(PV.int k), (PV.int b), (PV.str ([] : List UInt8)), (PV.slice []), (PV.slice []), (PV.slice []), (PV.slice [])]
def signed (neg : Bool) (l : List UInt8) : List UInt8 := if neg = true then 45 :: l else l
theorem mkV_small (k : Int) {b : Int} (h0 : 0 ≤ b) (h1 : b < 18446744073709551616) : smallV (mkV k b) := ⟨Nat.zero_le _, Nat.zero_le _, h0, h1⟩
theorem refNumber_eq (neg : Bool) (u : Nat) (hu : u < 18446744073709551616) : F365 0 (signed neg (Lib.decDigits u)) = some (if neg = true ∧ u = 0 then (0, false, 2) else ((u : Int), neg, 0)) := by
 cases neg with
 | false => simp only [signed, Bool.false_eq_true, if_false, false_and]; exact num_dec u hu
 | true => simp only [signed, if_true, true_and]; exact num_neg u hu
end Go.Ab
namespace Go.Ab
open Go
set_option maxRecDepth 100000
theorem trim_neg (l : List UInt8) : F141 0 (45 :: l) [45] = some l := by
 unfold F141 F245 F297
 have h1 : decide (((45 :: l : List UInt8).length : Int) ≥ (([45] : List UInt8).length : Int)) = true := decide_eq_true (by simp; omega)
 have h2 : decide ((0 : Int) ≤ 0 ∧ (0 : Int) ≤ (([45] : List UInt8).length : Int) ∧ (([45] : List UInt8).length : Int) ≤ ((45 :: l : List UInt8).length : Int)) = true := decide_eq_true (by simp; omega)
 have h3 : decide ((0 : Int) ≤ (([45] : List UInt8).length : Int) ∧ (([45] : List UInt8).length : Int) ≤ ((45 :: l : List UInt8).length : Int) ∧ ((45 :: l : List UInt8).length : Int) ≤ ((45 :: l : List UInt8).length : Int)) = true := decide_eq_true (by simp; omega)
 have h4 : (((45 :: l : List UInt8).take ((([45] : List UInt8).length : Int)).toNat).drop (0 : Int).toNat == ([45] : List UInt8)) = true := by
  simp
 have h5 : ((45 :: l : List UInt8).take ((45 :: l : List UInt8).length : Int).toNat).drop ((([45] : List UInt8).length : Int)).toNat = l := by
  rw [show (((45 :: l : List UInt8).length : Int)).toNat = (45 :: l : List UInt8).length from Int.toNat_natCast _, List.take_length]; rfl
 simp only [h1, h2, h3, h4, h5, imp, cond_true, Option.bind_some]
theorem trim_pos (c : UInt8) (l : List UInt8) (hc : c ≠ 45) : F141 0 (c :: l) [45] = some (c :: l) := by
 unfold F141 F245 F297
 have h1 : decide (((c :: l : List UInt8).length : Int) ≥ (([45] : List UInt8).length : Int)) = true := decide_eq_true (by simp; omega)
 have h2 : decide ((0 : Int) ≤ 0 ∧ (0 : Int) ≤ (([45] : List UInt8).length : Int) ∧ (([45] : List UInt8).length : Int) ≤ ((c :: l : List UInt8).length : Int)) = true := decide_eq_true (by simp; omega)
 have h4 : (((c :: l : List UInt8).take ((([45] : List UInt8).length : Int)).toNat).drop (0 : Int).toNat == ([45] : List UInt8)) = false := by
  simp [hc]
 simp only [h1, h2, h4, imp, cond_true, cond_false, Option.bind_some]
theorem dec_loop (s : List UInt8) (hd : ∀ c, c ∈ s → isDig c) (hl : s.length ≤ 1048576) : ∀ (m i : Nat), s.length - i ≤ m → i ≤ s.length →
 loopW (S357_6step 0) (s, (s.length : Int), (i : Int)) = some (.inr ()) := by
 intro m
 induction m with
 | zero =>
  intro i hm hi
  have hlt : ¬ i < s.length := by omega
  exact loopW_end (by simp only [S357_6step, S357_6, declt, hlt, decide_false, cond_false])
 | succ m ih =>
  intro i hm hi
  by_cases hlt : i < s.length
  ·have hc : isDig (s.getD i 0) := hd _ (by rw [getD_of_lt hlt]; exact List.getElem_mem _)
   generalize hx : s.getD i 0 = c at hc
   unfold isDig at hc
   have d1 : decide ((c.toNat : Int) < (48 : Int)) = false := decide_eq_false (by omega)
   have d2 : decide ((c.toNat : Int) > (57 : Int)) = false := decide_eq_false (by omega)
   rw [loopW_go (x1 := (s, (s.length : Int), ((i + 1 : Nat) : Int))), ih (i + 1) (by omega) (by omega)]
   simp only [S357_6step, S357_6, declt, inRange_nat, hlt, decide_true, cond_true, Int.toNat_natCast, hx, d1, d2, imp, Bool.not_false, cond_false, wadd1 (i := i) (by omega)]
  ·exact loopW_end (by simp only [S357_6step, S357_6, declt, hlt, decide_false, cond_false])
theorem decimal_ok (neg : Bool) (u : Nat) (hu : u < 18446744073709551616) : F357 0 (signed neg (Lib.decDigits u)) = some (!(neg && decide (u = 0))) := by
 obtain ⟨h1, h2, h3, h4⟩ := dec_facts u
 have hlen := dec_len u hu
 have hloop := dec_loop (Lib.decDigits u) h1 (by omega) (Lib.decDigits u).length 0 (by omega) (by omega)
 have hz : u = 0 → Lib.decDigits u = [48] := fun h => by subst h; rw [Lib.decDigits]; rfl
 generalize Lib.decDigits u = s at *
 match s, h3 with
 | c :: r, _ =>
  have hc := h1 c (by simp)
  unfold isDig at hc
  have hne : c ≠ 45 := fun h => by subst h; simp at hc
  have hi : inRange (0 : Int) (c :: r).length = true := by rw [show (0 : Int) = ((0 : Nat) : Int) from rfl, inRange_nat]; exact decide_eq_true (by simp)
  have hg : ((c :: r).getD (0 : Int).toNat 0) = c := rfl
  have hn : ((c :: r) == ([] : List UInt8)) = false := rfl
  rw [show ((0 : Nat) : Int) = (0 : Int) from rfl] at hloop
  have ht : F141 0 (signed neg (c :: r)) [45] = some (c :: r) := by
   cases neg with
   | true => exact trim_neg _
   | false => exact trim_pos c r hne
  unfold F357
  rw [ht]
  by_cases h0 : u = 0
  ·have hz := hz h0
   simp at hz
   obtain ⟨rfl, rfl⟩ := hz
   cases neg with
   | true => simp only [signed, if_true, Option.bind_some]; rw [h0]; rfl
   | false =>
    have e48 : ((([48] : List UInt8)) == [48]) = true := rfl
    simp only [signed, Bool.false_eq_true, if_false, Option.bind_some, hn, hi, imp, Bool.not_false, cond_true, cond_false, hg, e48, Bool.not_true, cond_same, loopQ0, hloop, sumE_inr, Bool.false_and]
  ·have := h4 h0 c rfl
   have hk : ((c.toNat : Int) == (48 : Int)) = false := by simp; omega
   simp only [Option.bind_some, hn, hi, imp, Bool.not_false, cond_true, cond_false, hg, hk, loopQ0, hloop, sumE_inr, h0, decide_false, Bool.and_false]
theorem signed_len (neg : Bool) (u : Nat) (hu : u < 18446744073709551616) : (signed neg (Lib.decDigits u)).length ≤ 21 := by
 have := dec_len u hu
 unfold signed
 split
 ·simp; omega
 ·omega
theorem lparseInt_ok (s : List UInt8) (hs : s.length ≤ 1048576) : LparseInt 0 s 10 64 = some (intRes s (Lib.parseIntB 64 s)) := by
 unfold LparseInt
 have : Nat.ble s.length 281474976710656 = true := Nat.ble_eq_true_of_le (by omega)
 simp [this]
theorem lparseUint_ok (s : List UInt8) (hs : s.length ≤ 1048576) : LparseUint 0 s 10 64 = some (uintRes (Lib.parseUintB 64 s)) := by
 unfold LparseUint
 have : Nat.ble s.length 281474976710656 = true := Nat.ble_eq_true_of_le (by omega)
 simp [this]
end Go.Ab
namespace Go.Ab
open Go
end Go.Ab
namespace Go.Ab
open Go
set_option maxRecDepth 100000
theorem u64nat (n : Int) : ∃ u : Nat, u < 18446744073709551616 ∧ IntKind.wrap .u64 n = (u : Int) := by
 refine ⟨(n % 18446744073709551616).toNat, by omega, ?_⟩
 rw [IntKind.wrap_u64]; omega
theorem fmt_ok (u : Nat) (hu : u < 18446744073709551616) : F135 0 (u : Int) 10 = some (Lib.decDigits u) := by
 have d0 : decide ((0 : Int) ≤ (u : Int)) = true := decide_eq_true (by omega)
 have d1 : decide ((u : Int) ≤ 18446744073709551615) = true := decide_eq_true (by omega)
 have hf : Lfmt 0 (u : Int) (10 : Int) = some (decB u) := by
  first
   | (unfold Lfmtu; simp [d0, d1])
   | (unfold Lfmt; rw [decide_eq_true rfl, cond_true]; unfold Lfmtu; simp [d0, d1])
 unfold F135
 rw [hf, Option.bind_some, decB_eq (by omega)]
end Go.Ab
namespace Go.Ab
open Go
set_option maxRecDepth 100000
noncomputable section
structure Tk where
 k : Int
 s : List UInt8
 n : Int
def tkOf (x : PV) : Tk := ⟨(x.fld 0).asInt, (x.fld 1).asStr, (x.fld 2).asInt⟩
inductive Rs (α : Type) where
 | ok (v : α) (r : List Tk)
 | er (r : List Tk) (e : Int)
def Rs.bind {α β : Type} (x : Rs α) (f : α → List Tk → Rs β) : Rs β := match x with | .ok v r => f v r | .er r e => .er r e
theorem Rs.bind_ok {α β : Type} (v : α) (r : List Tk) (f : α → List Tk → Rs β) : (Rs.ok v r).bind f = f v r := rfl
theorem Rs.bind_er {α β : Type} (r : List Tk) (e : Int) (f : α → List Tk → Rs β) : (Rs.er r e : Rs α).bind f = .er r e := rfl
def isS (k : Int) (s : List UInt8) : List Tk → Bool
 | [] => false
 | x :: _ => x.k == k && x.s == s
def kindS : List Tk → Int
 | [] => 0
 | x :: _ => x.k
def textS : List Tk → List UInt8
 | [] => []
 | x :: _ => x.s
def numS' : List Tk → Int
 | [] => 0
 | x :: _ => x.n
def takeS (k : Int) (p : List UInt8 → Bool) (ts : List Tk) : Rs (List UInt8) :=
 bif kindS ts == k then (bif p (textS ts) then .ok (textS ts) ts.tail else .er ts 8) else .er ts 2
def partS (ts : List Tk) : Rs (List UInt8) := takeS 1 simpP ts
def anyTextS (ts : List Tk) : Rs (List UInt8) := takeS 3 (fun _ => true) ts
def valS (pv : PV × Int) (back r : List Tk) : Rs PV := bif pv.2 == 0 then .ok pv.1 r else .er back pv.2
def itemVal (s : List UInt8) : PV := PV.agg [(PV.int 9), (PV.int 0), (PV.str s), (PV.slice []), (PV.slice []), (PV.slice []), (PV.slice [])]
def intS (pv : Int → List UInt8 → PV × Int) (k : Int) (neg : Bool) (ts : List Tk) : Rs PV :=
 bif kindS ts == 2 then valS (pv k ((bif neg then [45] else []) ++ decB (IntKind.wrap .u64 (numS' ts)).toNat)) ts ts.tail else .er ts 2
def litS (pv : Int → List UInt8 → PV × Int) (k : Int) (ts : List Tk) : Rs PV :=
 bif k == 0 then (partS ts).bind fun s r => .ok (itemVal s) r
 else bif k == 1 then (bif isS 1 [116, 114, 117, 101] ts || isS 1 [102, 97, 108, 115, 101] ts then valS (pv k (textS ts)) ts ts.tail else .er ts 2)
 else bif k == 6 || k == 8 then (anyTextS ts).bind fun s r => valS (pv k s) ts r
 else bif k == 7 then (anyTextS ts).bind fun s r => valS (pv k (quote s)) ts r
 else bif isS 4 [45] ts then intS pv k true ts.tail else intS pv k false ts
def mkVal (k b : Int) (s : List UInt8) : PV := PV.agg [(PV.int k), (PV.int b), (PV.str s), (PV.slice []), (PV.slice []), (PV.slice []), (PV.slice [])]
def zeroF : PV := PV.agg [(PV.int 0), (PV.int 0), (PV.str []), (PV.slice []), (PV.slice []), (PV.slice []), (PV.slice [])]
section
variable (pv : Int → List UInt8 → PV × Int) (kd : List UInt8 → Int)
end
end
end Go.Ab
namespace Go.Ab
open Go
set_option maxRecDepth 100000
section
variable (pv : Int → List UInt8 → PV × Int) (kd : List UInt8 → Int)
end
end Go.Ab
namespace Go.Ab
open Go
set_option maxRecDepth 100000
def ts (t : List PV) (i : Nat) : List Tk := (t.drop i).map tkOf
structure TOk (t : List PV) : Prop where
 len : t.length ≤ 1048576
 txt : ∀ x, x ∈ t → (x.fld 1).asStr.length ≤ 1048576
theorem ts_end {t : List PV} {i : Nat} (h : t.length ≤ i) : ts t i = [] := by unfold ts; rw [List.drop_eq_nil_of_le h]; rfl
theorem ts_cons {t : List PV} {i : Nat} (h : i < t.length) : ts t i = tkOf (t.getD i .bad) :: ts t (i + 1) := by unfold ts; rw [drop_cons h .bad]; rfl
theorem ts_tail (t : List PV) (i : Nat) : (ts t i).tail = ts t (i + 1) := by
 unfold ts
 by_cases h : i < t.length
 ·rw [drop_cons h .bad]; rfl
 ·rw [List.drop_eq_nil_of_le (by omega), List.drop_eq_nil_of_le (by omega)]; rfl
theorem ts_length (t : List PV) (i : Nat) : (ts t i).length = t.length - i := by unfold ts; simp
theorem isS_lt {k : Int} {s : List UInt8} {t : List PV} {i : Nat} (h : isS k s (ts t i) = true) : i < t.length := by
 by_cases hi : i < t.length
 ·exact hi
 ·rw [ts_end (by omega)] at h; cases h
theorem kindS_lt {k : Int} {t : List PV} {i : Nat} (hk : (k == 0) = false) (h : (kindS (ts t i) == k) = true) : i < t.length := by
 by_cases hi : i < t.length
 ·exact hi
 ·rw [ts_end (by omega)] at h
  simp only [kindS, beq_iff_eq] at h
  subst h; simp at hk
abbrev QF : Type := List UInt8 × List UInt8 × Unit × Unit × Unit × List PV × List PV × List PV × List PV
inductive Par {α R : Type} (t : List PV) (q : QF) (mk : α → Q0 → R) (x : Rs α) (y : Option (R ⊕ (PV × Q0))) : Prop
 | ok (v : α) (j : Nat) : j ≤ t.length → x = .ok v (ts t j) → y = some (.inl (mk v (t, ((j : Nat) : Int), q))) → Par t q mk x y
 | er (j : Nat) (e : Int) : j ≤ t.length → e ≠ 0 → x = .er (ts t j) e → y = some (.inr (PV.agg [PV.int ((j : Nat) : Int), PV.int e], (t, ((j : Nat) : Int), q))) → Par t q mk x y
theorem kindP_eq (t : List PV) (i : Nat) (q : QF) : F117 0 () (t, (i : Int), q) = some (kindS (ts t i), (t, (i : Int), q)) := by
 unfold F117
 by_cases h : i < t.length
 ·have e1 : decide ((i : Int) ≥ (t.length : Int)) = false := decide_eq_false (by omega)
  simp only [e1, cond_false, inRange_nat, h, decide_true, cond_true, Int.toNat_natCast, ts_cons h, kindS, tkOf]
 ·have e1 : decide ((i : Int) ≥ (t.length : Int)) = true := decide_eq_true (by omega)
  simp only [e1, cond_true, ts_end (show t.length ≤ i by omega), kindS]
def isA (s : List UInt8) : List Tk → Bool
 | [] => false
 | x :: _ => (x.k == 4 || x.k == 1) && x.s == s
theorem isP_eq (t : List PV) (ht : TOk t) (i : Nat) (hi : i ≤ t.length) (s : List UInt8) (q : QF) : F203 0 () 0 s (t, (i : Int), q) = some (isA s (ts t i), (t, (i : Int), q)) := by
 have hl := ht.len
 have w : IntKind.wrap .i64 ((i : Int) + 0) = (i : Int) := by rw [wrap64 (by omega) (by omega)]; omega
 unfold F203
 simp only [w]
 by_cases h : i < t.length
 ·have e1 : decide ((i : Int) < (t.length : Int)) = true := decide_eq_true (by omega)
  simp only [e1, imp, inRange_nat, h, decide_true, cond_true, Int.toNat_natCast, F286, Option.bind_some, ts_cons h, isA, tkOf]
  cases (((t.getD i .bad).fld 0).asInt == (4 : Int)) <;> cases (((t.getD i .bad).fld 0).asInt == (1 : Int)) <;> simp
 ·have e1 : decide ((i : Int) < (t.length : Int)) = false := decide_eq_false (by omega)
  simp only [e1, imp, cond_false, Bool.not_false, cond_same, cond_true, Option.bind_some, ts_end (show t.length ≤ i by omega), isA]
theorem sign_w {s : List UInt8} (hs : partP s = true) (t : List PV) (ht : TOk t) (i : Nat) (hi : i ≤ t.length) (q : QF) : F96 0 () s (t, (i : Int), q) = some (isS 1 s (ts t i), (t, (i : Int), q)) := by
 unfold F96
 rw [isPart_eq, hs]
 simp only [Option.bind_some, cond_true, isP_eq t ht i hi, kindP_eq]
 cases ts t i with
 | nil => rfl
 | cons x r =>
  simp only [isA, isS, kindS]
  cases h4 : (x.k == 4) <;> cases h1 : (x.k == 1) <;> cases (x.s == s) <;> simp [h1]
theorem sign_s {s : List UInt8} (hs : partP s = false) (t : List PV) (ht : TOk t) (i : Nat) (hi : i ≤ t.length) (q : QF) : F96 0 () s (t, (i : Int), q) = some (isS 4 s (ts t i), (t, (i : Int), q)) := by
 unfold F96
 rw [isPart_eq, hs]
 simp only [Option.bind_some, cond_false, isP_eq t ht i hi, kindP_eq]
 cases ts t i with
 | nil => rfl
 | cons x r =>
  simp only [isA, isS, kindS]
  cases h4 : (x.k == 4) <;> cases h1 : (x.k == 1) <;> cases (x.s == s) <;> simp [h4]
def kOf (s : List UInt8) : Int := bif partP s then 1 else 4
theorem sign_k (s : List UInt8) (k : Int) (hk : kOf s = k) (t : List PV) (ht : TOk t) (i : Nat) (hi : i ≤ t.length) (q : QF) : F96 0 () s (t, (i : Int), q) = some (isS k s (ts t i), (t, (i : Int), q)) := by
 unfold kOf at hk
 cases hp : partP s with
 | true => rw [hp] at hk; subst hk; exact sign_w hp t ht i hi q
 | false => rw [hp] at hk; subst hk; exact sign_s hp t ht i hi q
theorem may_k (s : List UInt8) (k : Int) (hk : kOf s = k) (t : List PV) (ht : TOk t) (i : Nat) (hi : i ≤ t.length) (q : QF) :
 F91 0 () s (t, (i : Int), q) = some (bif isS k s (ts t i) then (true, (t, ((i + 1 : Nat) : Int), q)) else (false, (t, (i : Int), q))) := by
 have hl := ht.len
 unfold F91
 simp only [sign_k s k hk t ht i hi, Option.bind_some, wadd' (show i ≤ 9223372036854775000 by omega)]
 cases isS k s (ts t i) <;> rfl
theorem txt_at {t : List PV} (ht : TOk t) {i : Nat} (h : i < t.length) : ((t.getD i .bad).fld 1).asStr.length ≤ 1048576 := ht.txt _ (getD_mem h _)
theorem part1_eq (s : List UInt8) : F238 0 s = some (simpP s) := by
 unfold F238 simpP
 rw [isPart_eq]
 cases partP s with
 | true => simp only [Option.bind_some, cond_true, word_eq, Bool.true_and]
 | false => simp only [Option.bind_some, cond_false, Bool.false_and]
theorem take_go {T : List UInt8 → Option Bool} {p : List UInt8 → Bool} (hT : ∀ s, s.length ≤ 1048576 → T s = some (p s)) {f : Q0 → Option ((List UInt8 × Q0) ⊕ (PV × Q0))} (k : Int) (hk : (k == 0) = false)
 (hf : ∀ s : Q0, f s = (F117 0 () s).bind fun y1 => bif y1.1 != k then some (.inr (PV.agg [PV.int y1.2.2.1, PV.int 2], y1.2)) else bif inRange y1.2.2.1 y1.2.1.length then (T ((y1.2.1.getD y1.2.2.1.toNat .bad).fld 1).asStr).bind fun y8 =>
  bif !y8 then some (.inr (PV.agg [PV.int y1.2.2.1, PV.int 8], y1.2)) else some (.inl (((y1.2.1.getD y1.2.2.1.toNat .bad).fld 1).asStr, y1.2.1, IntKind.wrap .i64 (y1.2.2.1 + 1), y1.2.2.2)) else none)
 (t : List PV) (ht : TOk t) (i : Nat) (hi : i ≤ t.length) (q : QF) : Par t q (fun v s => (v, s)) (takeS k p (ts t i)) (f (t, (i : Int), q)) := by
 have hl := ht.len
 rw [hf, kindP_eq, Option.bind_some]
 unfold takeS
 by_cases hb : kindS (ts t i) = k
 ·have e1 : (kindS (ts t i) != k) = false := by rw [hb]; simp
  have e2 : (kindS (ts t i) == k) = true := by rw [hb]; simp
  have h : i < t.length := kindS_lt hk e2
  have hx : textS (ts t i) = ((t.getD i .bad).fld 1).asStr := by rw [ts_cons h]; rfl
  simp only [e1, e2, cond_false, cond_true, inRange_nat, h, decide_true, Int.toNat_natCast, hT _ (txt_at ht h), Option.bind_some, hx, wadd' (show i ≤ 9223372036854775000 by omega)]
  cases hp : p ((t.getD i .bad).fld 1).asStr with
  | true => exact .ok _ (i + 1) h (by rw [cond_true, ts_tail]) rfl
  | false => exact .er i 8 hi (by decide) rfl rfl
 ·have e1 : (kindS (ts t i) != k) = true := bneI hb
  have e2 : (kindS (ts t i) == k) = false := beqI hb
  simp only [e1, e2, cond_true, cond_false]
  exact .er i 2 hi (by decide) rfl rfl
theorem anyText_par (t : List PV) (ht : TOk t) (i : Nat) (hi : i ≤ t.length) (q : QF) : Par t q (fun v s => (v, s)) (anyTextS (ts t i)) (F95 0 () (t, (i : Int), q)) := by
 have h := take_go (f := fun s => F92_v1 0 () 3 () s) (T := F201 0) (p := fun _ => true) (fun s _ => rfl) 3 rfl (fun s => rfl) t ht i hi q
 unfold F95
 rcases h with ⟨v, j, hj, hx, hy⟩ | ⟨j, e, hj, he, hx, hy⟩
 ·exact .ok v j hj hx (by simp only [hy, Option.bind_some, sumE_inl])
 ·exact .er j e hj he hx (by simp only [hy, Option.bind_some, sumE_inr])
theorem part_par (t : List PV) (ht : TOk t) (i : Nat) (hi : i ≤ t.length) (q : QF) : Par t q (fun v s => (v, s)) (partS (ts t i)) (F132 0 () (t, (i : Int), q)) := by
 have h := take_go (f := fun s => F92_v3 0 () 1 () s) (T := F238 0) (p := simpP) (fun s _ => part1_eq s) 1 rfl (fun s => rfl) t ht i hi q
 unfold F132
 rcases h with ⟨v, j, hj, hx, hy⟩ | ⟨j, e, hj, he, hx, hy⟩
 ·exact .ok v j hj hx (by simp only [hy, Option.bind_some, sumE_inl])
 ·exact .er j e hj he hx (by simp only [hy, Option.bind_some, sumE_inr])
end Go.Ab
namespace Go.Ab
open Go
set_option maxRecDepth 100000
noncomputable def parV (k : Int) (s : List UInt8) : PV × Int := (F239 0 k s).getD (zeroF, 0)
def Reach (k : Int) (s : List UInt8) : Prop := ((k = 1 ∨ k = 6 ∨ k = 8) ∧ s.length ≤ 16384) ∨ (k = 7 ∧ ∃ x : List UInt8, x.length ≤ 16384 ∧ s = quote x) ∨ ((2 ≤ k ∧ k ≤ 5) ∧ ∃ (neg : Bool) (u : Nat), u < 18446744073709551616 ∧ s = (bif neg then [45] else []) ++ decB u)
def ParOk : Prop := ∀ (k : Int) (s : List UInt8), Reach k s → F239 0 k s = some (parV k s)
structure TNum (t : List PV) : Prop extends TOk t where
 num : ∀ x, x ∈ t → -9223372036854775808 ≤ (x.fld 2).asInt ∧ (x.fld 2).asInt ≤ 9223372036854775807
 sml : ∀ x, x ∈ t → (x.fld 1).asStr.length ≤ 16384
theorem wrapN {n : Int} : ∃ u : Nat, u < 18446744073709551616 ∧ IntKind.wrap .u64 n = (u : Int) ∧ (IntKind.wrap .u64 n).toNat = u := by
 obtain ⟨u, h1, h2⟩ := u64nat n
 exact ⟨u, h1, h2, by rw [h2]; rfl⟩
theorem fmtB {u : Nat} (h : u < 18446744073709551616) : F135 0 (u : Int) 10 = some (decB u) := by rw [fmt_ok u h, decB_eq (by omega)]
theorem numS_at {t : List PV} {i : Nat} (h : i < t.length) : numS' (ts t i) = ((t.getD i .bad).fld 2).asInt := by rw [ts_cons h]; rfl
theorem textS_at {t : List PV} {i : Nat} (h : i < t.length) : textS (ts t i) = ((t.getD i .bad).fld 1).asStr := by rw [ts_cons h]; rfl
theorem kind_at {t : List PV} {i : Nat} (h : i < t.length) : kindS (ts t i) = ((t.getD i .bad).fld 0).asInt := by rw [ts_cons h]; rfl
theorem isS_at {k : Int} {s : List UInt8} {t : List PV} {i : Nat} (h : i < t.length) : isS k s (ts t i) = ((((t.getD i .bad).fld 0).asInt == k) && (((t.getD i .bad).fld 1).asStr == s)) := by rw [ts_cons h]; rfl
end Go.Ab
namespace Go.Ab
open Go Go.Proofs
set_option maxRecDepth 100000
end Go.Ab
namespace Go.Ab
open Go
set_option maxRecDepth 100000
theorem ts_inj {t : List PV} {j k : Nat} (hj : j ≤ t.length) (hk : k ≤ t.length) (h : ts t j = ts t k) : j = k := by
 have := congrArg List.length h
 rw [ts_length, ts_length] at this
 omega
theorem scalar_par (po : ParOk) (k : Int) (s : List UInt8) (hs : Reach k s) (t : List PV) (ht : TOk t) (j : Nat) (hj : j + 1 ≤ t.length) (q : QF) :
 Par t q (fun v s => (v, s)) (valS (parV k s) (ts t j) (ts t (j + 1))) (F133 0 () k s (t, ((j + 1 : Nat) : Int), q)) := by
 have hl := ht.len
 have w : IntKind.wrap .i64 (((j + 1 : Nat) : Int) - 1) = (j : Int) := by rw [wrap64 (by omega) (by omega)]; omega
 unfold F133 valS
 rw [po k s hs, Option.bind_some]
 by_cases hz : (parV k s).2 = 0
 ·have z1 : ((parV k s).2 != 0) = false := by rw [hz]; rfl
  have z2 : ((parV k s).2 == 0) = true := by rw [hz]; rfl
  simp only [z1, z2, cond_true, cond_false]
  exact .ok _ (j + 1) hj rfl rfl
 ·simp only [bneI hz, beqI hz, cond_true, cond_false, w]
  exact .er j _ (by omega) hz rfl rfl
theorem anyText_ok {t : List PV} {i j : Nat} {v : List UInt8} (hj : j ≤ t.length) (h : anyTextS (ts t i) = .ok v (ts t j)) : i < t.length ∧ v = ((t.getD i .bad).fld 1).asStr ∧ j = i + 1 := by
 unfold anyTextS takeS at h
 cases hb : (kindS (ts t i) == 3) with
 | false => rw [hb] at h; cases h
 | true =>
  have hlt := kindS_lt (show ((3 : Int) == 0) = false from rfl) hb
  rw [hb, textS_at hlt, ts_tail] at h
  simp only [cond_true, Rs.ok.injEq] at h
  exact ⟨hlt, h.1.symm, ts_inj hj hlt h.2.symm⟩
theorem litText_par (po : ParOk) (k : Int) (f : List UInt8 → List UInt8) (hf : ∀ s : List UInt8, s.length ≤ 16384 → Reach k (f s)) (g : List UInt8 × Q0 → Option (List UInt8)) (hg : ∀ (s : List UInt8) z, s.length ≤ 16384 → g (s, z) = some (f s)) (t : List PV) (ht : TNum t) (i : Nat) (hi : i ≤ t.length) (q : QF) :
 Par t q (fun v s => (v, s)) ((anyTextS (ts t i)).bind fun s r => valS (parV k (f s)) (ts t i) r) ((F95 0 () (t, (i : Int), q)).bind fun z => sumE (fun y31 => (g y31).bind fun y43 => (F133 0 () k y43 y31.2).bind fun z => sumE (fun y33 => some (.inl y33)) (fun y34 => some (.inr y34)) z) (fun y32 => some (.inr y32)) z) := by
 rcases anyText_par t ht.toTOk i hi q with ⟨v, j, hj, hx, hy⟩ | ⟨j, e, hj, he, hx, hy⟩
 ·obtain ⟨hlt, rfl, rfl⟩ := anyText_ok hj hx
  have hs := ht.sml _ (getD_mem hlt .bad)
  simp only [hx, hy, Rs.bind_ok, Option.bind_some, sumE_inl, hg _ _ hs]
  rcases scalar_par po k _ (hf _ hs) t ht.toTOk i hlt q with ⟨v, j, hj, hx, hy⟩ | ⟨j, e, hj, he, hx, hy⟩
  ·exact .ok v j hj hx (by simp only [hy, Option.bind_some, sumE_inl])
  ·exact .er j e hj he hx (by simp only [hy, Option.bind_some, sumE_inr])
 ·simp only [hx, hy, Rs.bind_er, Option.bind_some, sumE_inr]
  exact .er j e hj he rfl rfl
theorem litInt_par (po : ParOk) (k : Int) (hk : 2 ≤ k ∧ k ≤ 5) (t : List PV) (ht : TNum t) (neg : Bool) (pre : List UInt8) (hp : pre = bif neg then [45] else []) (i : Nat) (hi : i ≤ t.length) (q : QF) : Par t q (fun v s => (v, s)) (intS parV k neg (ts t i))
 ((F117 0 () (t, (i : Int), q)).bind fun y60 => bif (y60.1 != (2 : Int)) then some (.inr ((PV.agg [(PV.int y60.2.2.1), (PV.int (2 : Int))]), y60.2)) else
   bif inRange (IntKind.wrap .i64 (IntKind.wrap .i64 (y60.2.2.1 + (1 : Int)) - 1)) y60.2.1.length then
   (F135 0 (IntKind.wrap .u64 ((y60.2.1.getD (IntKind.wrap .i64 (IntKind.wrap .i64 (y60.2.2.1 + (1 : Int)) - 1)).toNat .bad).fld 2).asInt) (10 : Int)).bind fun y70 =>
   bif decide (pre.length + y70.length ≤ strMax) then
   (F133 0 () k (pre ++ y70) (y60.2.1, IntKind.wrap .i64 (y60.2.2.1 + (1 : Int)), y60.2.2.2)).bind fun z => sumE (fun y71 => some (.inl y71)) (fun y72 => some (.inr y72)) z
   else none else none) := by
 have hl := ht.len
 rw [kindP_eq, Option.bind_some]
 unfold intS
 by_cases hb : kindS (ts t i) = 2
 ·have e1 : (kindS (ts t i) != 2) = false := by rw [hb]; rfl
  have e2 : (kindS (ts t i) == 2) = true := by rw [hb]; rfl
  have h : i < t.length := kindS_lt rfl e2
  obtain ⟨u, hu, h1, h2⟩ := wrapN (n := ((t.getD i .bad).fld 2).asInt)
  have hlen := decB_len u
  have hpl : pre.length ≤ 1 := by subst hp; cases neg <;> simp
  have l1 : decide (pre.length + (decB u).length ≤ strMax) = true := leStr (by omega)
  have w1 : IntKind.wrap .i64 ((i : Int) + 1) = ((i + 1 : Nat) : Int) := wadd' (by omega)
  have w2 : IntKind.wrap .i64 (((i + 1 : Nat) : Int) - 1) = (i : Int) := by rw [wrap64 (by omega) (by omega)]; omega
  simp only [e1, e2, cond_false, cond_true, w1, w2, inRange_nat, h, decide_true, Int.toNat_natCast, h1, fmtB hu, Option.bind_some, l1, numS_at h, ← hp, ts_tail]
  rcases scalar_par po k (pre ++ decB u) (Or.inr (Or.inr ⟨hk, neg, u, hu, by rw [hp]⟩)) t ht.toTOk i h q with ⟨v, j, hj, hx, hy⟩ | ⟨j, e, hj, he, hx, hy⟩
  ·exact .ok v j hj hx (by simp only [hy, Option.bind_some, sumE_inl])
  ·exact .er j e hj he hx (by simp only [hy, Option.bind_some, sumE_inr])
 ·simp only [bneI hb, beqI hb, cond_true, cond_false]
  exact .er i 2 hi (by decide) rfl rfl
theorem lit_par (po : ParOk) (k : Int) (hk : 0 ≤ k ∧ k ≤ 8) (t : List PV) (ht : TNum t) (i : Nat) (hi : i ≤ t.length) (q : QF) : Par t q (fun v s => (v, s)) (litS parV k (ts t i)) (F63 0 () k (t, (i : Int), q)) := by
 have hl := ht.len
 unfold F63 litS
 by_cases k0 : k = 0
 ·subst k0
  rw [show ((0 : Int) == 0) = true from rfl, cond_true, cond_true]
  rcases part_par t ht.toTOk i hi q with ⟨v, j, hj, hx, hy⟩ | ⟨j, e, hj, he, hx, hy⟩
  ·simp only [hx, hy, Rs.bind_ok, Option.bind_some, sumE_inl]
   exact .ok (itemVal v) j hj rfl rfl
  ·simp only [hx, hy, Rs.bind_er, Option.bind_some, sumE_inr]
   exact .er j e hj he rfl rfl
 rw [beqI k0, cond_false, cond_false]
 by_cases k1 : k = 1
 ·subst k1
  rw [show ((1 : Int) == 1) = true from rfl, cond_true, cond_true]
  have w1 : IntKind.wrap .i64 ((i : Int) + 1) = ((i + 1 : Nat) : Int) := wadd' (by omega)
  have w2 : IntKind.wrap .i64 (((i + 1 : Nat) : Int) - 1) = (i : Int) := by rw [wrap64 (by omega) (by omega)]; omega
  have fin : ∀ h : i < t.length, Par t q (fun v s => (v, s)) (valS (parV 1 (textS (ts t i))) (ts t i) (ts t (i + 1))) ((F133 0 () 1 ((t.getD i .bad).fld 1).asStr (t, ((i + 1 : Nat) : Int), q)).bind fun z => sumE (fun y18 => some (.inl y18)) (fun y19 => some (.inr y19)) z) := fun h => by
   have hs := ht.sml _ (getD_mem h .bad)
   rw [textS_at h]
   rcases scalar_par po 1 ((t.getD i .bad).fld 1).asStr (Or.inl ⟨Or.inl rfl, hs⟩) t ht.toTOk i h q with ⟨v, j, hj, hx, hy⟩ | ⟨j, e, hj, he, hx, hy⟩
   ·exact .ok v j hj hx (by simp only [hy, Option.bind_some, sumE_inl])
   ·exact .er j e hj he hx (by simp only [hy, Option.bind_some, sumE_inr])
  simp only [sign_k [116, 114, 117, 101] 1 (by decide) t ht.toTOk i hi, sign_k [102, 97, 108, 115, 101] 1 (by decide) t ht.toTOk i hi, Option.bind_some]
  cases h1 : isS 1 [116, 114, 117, 101] (ts t i) with
  | true =>
   have h := isS_lt h1
   simp only [Bool.not_true, cond_false, Bool.true_or, cond_true, w1, w2, inRange_nat, h, decide_true, Int.toNat_natCast, ts_tail]
   exact fin h
  | false =>
   cases h2 : isS 1 [102, 97, 108, 115, 101] (ts t i) with
   | true =>
    have h := isS_lt h2
    simp only [Bool.not_true, Bool.not_false, cond_false, Bool.or_true, cond_true, w1, w2, inRange_nat, h, decide_true, Int.toNat_natCast, ts_tail]
    exact fin h
   | false =>
    simp only [Bool.not_false, cond_true, Bool.or_false, cond_false]
    exact .er i 2 hi (by decide) rfl rfl
 rw [beqI k1, cond_false, cond_false]
 have id_par := fun (h : k = 6 ∨ k = 8) => litText_par po k (fun s => s) (fun s hs => Or.inl ⟨Or.inr h, hs⟩) (fun y => some y.1) (fun s z h => rfl) t ht i hi q
 by_cases k6 : k = 6
 ·subst k6
  rw [show ((6 : Int) == 6) = true from rfl, cond_true, Bool.true_or, cond_true]
  exact id_par (Or.inl rfl)
 by_cases k8 : k = 8
 ·subst k8
  rw [show ((8 : Int) == 6) = false from rfl, show ((8 : Int) == 8) = true from rfl, cond_false, cond_true, Bool.or_true, cond_true]
  exact id_par (Or.inr rfl)
 rw [beqI k6, beqI k8, cond_false, cond_false, Bool.or_false, cond_false]
 by_cases k7 : k = 7
 ·subst k7
  rw [show ((7 : Int) == 7) = true from rfl, cond_true, cond_true]
  exact litText_par po 7 quote (fun s h => Or.inr (Or.inl ⟨rfl, s, h, rfl⟩)) (fun y => F134 0 y.1) (fun s z h => quote_eq s (by omega)) t ht i hi q
 rw [beqI k7, cond_false, cond_false]
 simp only [may_k [45] 4 (by decide) t ht.toTOk i hi, Option.bind_some]
 cases hs : isS 4 [45] (ts t i) with
 | true =>
  simp only [cond_true, ts_tail]
  exact litInt_par po k (by omega) t ht true [45] rfl (i + 1) (isS_lt hs) q
 | false =>
  simp only [cond_false]
  exact litInt_par po k (by omega) t ht false [] rfl i hi q
end Go.Ab
namespace Go.Ab
open Go
set_option maxRecDepth 100000
theorem Par.seq {α β R R' : Type} {t : List PV} {q : QF} {mk : α → Q0 → R} {mk' : β → Q0 → R'} {x : Rs α} {y : Option (R ⊕ (PV × Q0))} {f : α → List Tk → Rs β} {g : R → Option (R' ⊕ (PV × Q0))} (h : Par t q mk x y)
 (hc : ∀ v j, j ≤ t.length → x = .ok v (ts t j) → Par t q mk' (f v (ts t j)) (g (mk v (t, ((j : Nat) : Int), q)))) : Par t q mk' (x.bind f) (y.bind fun z => sumE g (fun e => some (.inr e)) z) := by
 rcases h with ⟨v, j, hj, hx, hy⟩ | ⟨j, e, hj, he, hx, hy⟩
 ·have := hc v j hj hx
  rw [hx, hy]
  exact this
 ·rw [hx, hy]
  exact .er j e hj he rfl rfl
theorem Par.map {α β R R' : Type} {t : List PV} {q : QF} {mk : α → Q0 → R} {mk' : β → Q0 → R'} {x : Rs α} {y : Option (R ⊕ (PV × Q0))} {f : α → β} {g : R → R'} (h : Par t q mk x y)
 (hc : ∀ v s, g (mk v s) = mk' (f v) s) : Par t q mk' (x.bind fun v r => .ok (f v) r) (y.bind fun z => sumE (fun a => some (.inl (g a))) (fun e => some (.inr e)) z) :=
 h.seq fun v j hj hx => .ok (f v) j hj rfl (by rw [hc])
def outS {α : Type} (t : List PV) (dflt : α) (x : Rs α) : α × Int × Int :=
 match x with
 | .ok v r => (v, ((t.length - r.length : Nat) : Int), 0)
 | .er r e => (dflt, ((t.length - r.length : Nat) : Int), e)
theorem outS_ok {α : Type} {t : List PV} {d v : α} {j : Nat} (hj : j ≤ t.length) : outS t d (.ok v (ts t j)) = (v, (j : Int), 0) := by
 show (v, ((t.length - (ts t j).length : Nat) : Int), (0 : Int)) = _
 rw [ts_length, show t.length - (t.length - j) = j by omega]
theorem outS_er {α : Type} {t : List PV} {d : α} {j : Nat} {e : Int} (hj : j ≤ t.length) : outS t d (.er (ts t j) e : Rs α) = (d, (j : Int), e) := by
 show (d, ((t.length - (ts t j).length : Nat) : Int), e) = _
 rw [ts_length, show t.length - (t.length - j) = j by omega]
def badPlace (t : List PV) (a : Int) : Bool := bif decide (a < 0) then true else decide (a > (t.length : Int))
theorem place_nat {t : List PV} {a : Int} (h : badPlace t a = false) : ∃ i : Nat, a = (i : Int) ∧ i ≤ t.length := by
 unfold badPlace at h
 by_cases h0 : a < 0
 ·simp [h0] at h
 ·simp only [h0, decide_false, cond_false, decide_eq_false_iff_not] at h
  exact ⟨a.toNat, by omega, by omega⟩
theorem literal_eq (po : ParOk) (k : Int) (t : List PV) (ht : TNum t) (a : Int) : F29 0 k t a = some (bif (bif decide (k < 0) then true else decide (k > 8)) || badPlace t a then (zeroF, 0, 1) else outS t zeroF (litS parV k (ts t a.toNat))) := by
 unfold F29 F50_v1
 by_cases h0 : k < 0
 ·rw [decide_eq_true h0]; rfl
 by_cases h8 : k > 8
 ·rw [decide_eq_true h8, decide_eq_false h0]; rfl
 rw [decide_eq_false h0, decide_eq_false h8, show (bif decide (a < 0) then true else decide (a > (t.length : Int))) = badPlace t a from rfl]
 cases hb : badPlace t a with
 | true => rfl
 | false =>
  obtain ⟨i, rfl, hi⟩ := place_nat hb
  rw [Int.toNat_natCast]
  unfold F43_v2 F114_v1 F62
  rcases lit_par po k (by omega) t ht i hi ([], [], (), (), (), [], [], [], []) with ⟨v, j, hj, hx, hy⟩ | ⟨j, e, hj, he, hx, hy⟩
  ·simp only [hy, Option.bind_some, sumE_inl, cond_false, hx, outS_ok hj, Bool.or_false]
   rfl
  ·simp only [hy, Option.bind_some, sumE_inr, cond_false, hx, outS_er hj, Bool.or_false]
   have : ((((PV.agg [PV.int ((j : Nat) : Int), PV.int e]).fld 1).asInt) != (0 : Int)) = true := bneI he
   rw [this]; rfl
end Go.Ab
namespace Go.Ab
open Go
set_option maxRecDepth 100000
inductive RPar {α R : Type} (t : List PV) (q : QF) (mk : α → Q4 → R) (x : Rs α) (y : Option R) : Prop
 | ok (v : α) (j : Nat) : j ≤ t.length → x = .ok v (ts t j) → y = some (mk v (t, ((j : Nat) : Int), 0, q)) → RPar t q mk x y
 | er (j : Nat) (e : Int) (v : α) : j ≤ t.length → e ≠ 0 → x = .er (ts t j) e → y = some (mk v (t, ((j : Nat) : Int), e, q)) → RPar t q mk x y
structure RF {α R : Type} (t : List PV) (q : QF) (mk : α → Q4 → R) (c : Prop) (f : List Tk → Rs α) (F : Q4 → Option R) : Prop where
 rp : c → ∀ i : Nat, i ≤ t.length → RPar t q mk (f (ts t i)) (F (t, (i : Int), 0, q))
 st : ∀ (j : Nat) (e : Int), j ≤ t.length → e ≠ 0 → ∃ v, F (t, (j : Int), e, q) = some (mk v (t, (j : Int), e, q))
section
variable {t : List PV} {q : QF} {c : Prop}
theorem RF.bind {α β R R' : Type} {mk : α → Q4 → R} {mk' : β → Q4 → R'} {f : List Tk → Rs α} {F : Q4 → Option R} {f2 : α → List Tk → Rs β} {g : R → Option R'} (h : RF t q mk c f F)
 (hc : ∀ v, RF t q mk' (c ∧ ∃ i j, i ≤ t.length ∧ j ≤ t.length ∧ f (ts t i) = .ok v (ts t j)) (f2 v) (fun s => g (mk v s))) : RF t q mk' c (fun r => (f r).bind f2) (fun s => (F s).bind g) := by
 refine ⟨fun hq i hi => ?_, fun j e hj he => ?_⟩
 ·rcases h.rp hq i hi with ⟨v, j, hj, hx, hy⟩ | ⟨j, e, v, hj, he, hx, hy⟩
  ·simp only [hx, hy, Rs.bind_ok, Option.bind_some]
   exact (hc v).rp ⟨hq, i, j, hi, hj, hx⟩ j hj
  ·simp only [hx, hy, Rs.bind_er, Option.bind_some]
   obtain ⟨w, hw⟩ := (hc v).st j e hj he
   exact .er j e w hj he rfl hw
 ·obtain ⟨v, hv⟩ := h.st j e hj he
  obtain ⟨w, hw⟩ := (hc v).st j e hj he
  exact ⟨w, by simp only [hv, Option.bind_some]; exact hw⟩
theorem RF.imp {α R : Type} {mk : α → Q4 → R} {c' : Prop} {f : List Tk → Rs α} {F : Q4 → Option R} (h : RF t q mk c f F) (hc : c' → c) : RF t q mk c' f F := ⟨fun x => h.rp (hc x), h.st⟩
theorem RF.ret {α β R : Type} {mk : α → Q4 → R} (v : α) : RF t q mk c (fun r => .ok v r) (fun s => some (mk v s)) := ⟨fun _ i hi => .ok v i hi rfl rfl, fun j e _ _ => ⟨v, rfl⟩⟩
theorem RF.ret' {α R : Type} {mk : α → Q4 → R} {g : Q4 → Option R} (v : α) (hg : ∀ s, g s = some (mk v s)) : RF t q mk c (fun r => .ok v r) g := ⟨fun _ i hi => .ok v i hi rfl (hg _), fun j e _ _ => ⟨v, hg _⟩⟩
theorem RF.congr {α R : Type} {mk : α → Q4 → R} {f f' : List Tk → Rs α} {F F' : Q4 → Option R} (h : RF t q mk c f F) (hf : ∀ r, f' r = f r) (hF : ∀ s, F' s = F s) : RF t q mk c f' F' :=
 ⟨fun hc i hi => by rw [hf, hF]; exact h.rp hc i hi, fun j e hj he => by rw [hF]; exact h.st j e hj he⟩
theorem hereR (k : Int) (hk : (k == 0) = false) (i : Nat) : F105 0 () k (t, (i : Int), 0, q) = some (kindS (ts t i) == k, (t, (i : Int), 0, q)) := by
 unfold F105
 by_cases h : i < t.length
 ·have e1 : decide ((i : Int) < (t.length : Int)) = true := decide_eq_true (by omega)
  simp only [show ((0 : Int) == 0) = true from rfl, e1, cond_true, imp, inRange_nat, h, decide_true, Int.toNat_natCast, kind_at h]
 ·have e1 : decide ((i : Int) < (t.length : Int)) = false := decide_eq_false (by omega)
  have e2 : (kindS (ts t i) == k) = false := by
   rw [ts_end (by omega)]
   have : k ≠ 0 := by simpa using hk
   simp only [kindS, beq_eq_false_iff_ne]
   exact fun x => this x.symm
  simp only [show ((0 : Int) == 0) = true from rfl, e1, e2, cond_true, cond_false, imp, Bool.not_false, cond_same]
theorem hereE (k : Int) (a e : Int) (he : e ≠ 0) : F105 0 () k (t, a, e, q) = some (false, (t, a, e, q)) := by
 unfold F105
 simp only [beqI he, cond_false, imp, Bool.not_false, cond_true, cond_same]
theorem failE (e' a e : Int) (he : e ≠ 0) : F106 0 () e' (t, a, e, q) = some (t, a, e, q) := by
 unfold F106
 simp only [beqI he, cond_false]
theorem isR (k : Int) (hk : (k == 0) = false) (s : List UInt8) (i : Nat) : F107 0 () k s (t, (i : Int), 0, q) = some (isS k s (ts t i), (t, (i : Int), 0, q)) := by
 unfold F107
 rw [hereR k hk, Option.bind_some]
 cases h : (kindS (ts t i) == k) with
 | true =>
  have hlt := kindS_lt hk h
  rw [kind_at hlt] at h
  simp only [imp, cond_true, inRange_nat, hlt, decide_true, Int.toNat_natCast, isS_at hlt, h, Bool.true_and]
 | false =>
  have : isS k s (ts t i) = false := by
   cases hx : ts t i with
   | nil => rfl
   | cons x r => rw [hx] at h; simp only [kindS] at h; simp only [isS, h, Bool.false_and]
  simp only [imp, cond_false, Bool.not_false, cond_true, cond_same, this]
theorem isE (k : Int) (s : List UInt8) (a e : Int) (he : e ≠ 0) : F107 0 () k s (t, a, e, q) = some (false, (t, a, e, q)) := by
 unfold F107
 rw [hereE k a e he]
 simp only [Option.bind_some, imp, cond_false, Bool.not_false, cond_true, cond_same]
theorem mayR (ht : TOk t) (k : Int) (hk : (k == 0) = false) (s : List UInt8) (i : Nat) : F102 0 () k s (t, (i : Int), 0, q) = some (bif isS k s (ts t i) then (true, (t, ((i + 1 : Nat) : Int), 0, q)) else (false, (t, (i : Int), 0, q))) := by
 have hl := ht.len
 unfold F102
 rw [isR k hk, Option.bind_some]
 cases h : isS k s (ts t i) with
 | true =>
  have hlt := isS_lt h
  simp only [Bool.not_true, cond_false, cond_true, wadd' (show i ≤ 9223372036854775000 by omega)]
 | false => rfl
theorem mayE (k : Int) (s : List UInt8) (a e : Int) (he : e ≠ 0) : F102 0 () k s (t, a, e, q) = some (false, (t, a, e, q)) := by
 unfold F102
 rw [isE k s a e he]; rfl
theorem takeRF (ht : TOk t) (k : Int) (hk : (k == 0) = false) {p : List UInt8 → Bool} {T : List UInt8 → Option Bool} (hT : ∀ s, s.length ≤ 1048576 → T s = some (!p s)) {g : Q4 → Option (List UInt8 × Q4)}
 (hg : ∀ z : Q4, g z = (F105 0 () k z).bind fun y1 => bif !y1.1 then (F106 0 () 2 y1.2).bind fun y3 => some ([], y3) else
  bif inRange y1.2.2.1 y1.2.1.length then (T ((y1.2.1.getD y1.2.2.1.toNat .bad).fld 1).asStr).bind fun y9 => bif y9 then (F106 0 () 8 y1.2).bind fun y11 => some ([], y11) else
   some (((y1.2.1.getD y1.2.2.1.toNat .bad).fld 1).asStr, y1.2.1, IntKind.wrap .i64 (y1.2.2.1 + 1), y1.2.2.2) else none) : RF t q (fun v z => (v, z)) c (takeS k p) g := by
 have hl := ht.len
 refine ⟨fun _ i hi => ?_, fun j e hj he => ?_⟩
 ·rw [hg, hereR k hk, Option.bind_some]
  unfold takeS
  cases hb : (kindS (ts t i) == k) with
  | false => exact .er i 2 [] hi (by decide) rfl rfl
  | true =>
   have h := kindS_lt hk hb
   simp only [Bool.not_true, cond_false, cond_true, inRange_nat, h, decide_true, Int.toNat_natCast, hT _ (txt_at ht h), Option.bind_some, textS_at h, wadd' (show i ≤ 9223372036854775000 by omega)]
   cases hp : p ((t.getD i .bad).fld 1).asStr with
   | true => exact .ok _ (i + 1) h (by rw [cond_true, ts_tail]) rfl
   | false => exact .er i 8 [] hi (by decide) rfl rfl
 ·refine ⟨[], ?_⟩
  rw [hg, hereE k _ e he]
  simp only [Option.bind_some, Bool.not_false, cond_true, failE 2 _ e he]
theorem usable_eq (s : List UInt8) (hs : s.length ≤ 1048576) : F218 0 s = some (simpP s) := by
 unfold F218 simpP
 rw [refPart_eq s (by omega)]
 cases partP s with
 | true => simp only [Option.bind_some, cond_true, refWord_eq, Bool.true_and]
 | false => simp only [Option.bind_some, cond_false, Bool.false_and]
theorem partR (ht : TOk t) : RF t q (fun v z => (v, z)) c partS (F136 0 ()) :=
 takeRF ht 1 rfl (p := simpP) (T := fun s => (F218 0 s).bind fun y => some (!y)) (fun s hs => by rw [usable_eq s hs]; rfl) fun z => by
  unfold F136
  simp only [Option.bind_assoc, Option.bind_some]
end
theorem smallT_eq (t : List PV) (hl : t.length ≤ 1048576) : ∃ b, F22 0 t = some b ∧ (b = true → t.length ≤ 80 ∧ ∀ x, x ∈ t → (x.fld 1).asStr.length ≤ 300) := by
 unfold F22
 by_cases h : t.length > 80
 ·have e : decide ((t.length : Int) > 80) = true := decide_eq_true (by omega)
  exact ⟨false, by rw [e]; rfl, fun h => by cases h⟩
 ·have e : decide ((t.length : Int) > 80) = false := decide_eq_false (by omega)
  have hlp := loopW_all (step := S22_5step 0) (fun i => (t, (i : Int))) t.length (fun i => decide (((t.getD i .bad).fld 1).asStr.length ≤ 300)) (.inl false) (.inr ())
   (fun i hi => by
    simp only [S22_5step, S22_5, declt, hi, decide_true, cond_true, inRange_nat, Int.toNat_natCast, wadd' (show i ≤ 9223372036854775000 by omega)]
    by_cases h3 : ((t.getD i .bad).fld 1).asStr.length ≤ 300
    ·rw [decide_eq_true h3, decide_eq_false (by omega)]; rfl
    ·rw [decide_eq_false h3, decide_eq_true (by omega)]; rfl)
   (by simp only [S22_5step, S22_5, declt, Nat.lt_irrefl, decide_false, cond_false]) t.length 0 (by omega)
  rw [allF_of (fun x : PV => decide ((x.fld 1).asStr.length ≤ 300)) .bad t] at hlp
  rw [e, cond_false, loopQ0, show (0 : Int) = ((0 : Nat) : Int) from rfl, hlp]
  cases ha : t.all (fun x => decide ((x.fld 1).asStr.length ≤ 300)) with
  | true => exact ⟨true, rfl, fun _ => ⟨by omega, fun x hx => by simpa using List.all_eq_true.1 ha x hx⟩⟩
  | false => exact ⟨false, rfl, fun h => by cases h⟩
end Go.Ab
namespace Go.Ab
open Go
set_option maxRecDepth 100000
def RefOk : Prop := ∀ (k : Int) (s : List UInt8), Reach k s → F242 0 k s = some (parV k s)
theorem dec09_loop : ∀ (k u i : Nat) (acc : List UInt8), u < 10 ^ (k + 1) → u < 18446744073709551616 → acc.length + k ≤ 1000 → i + k ≤ 19 → loopW (S138_4step 0) ((u : Int), acc, (i : Int)) = some (preD u ++ acc) := by
 intro k
 induction k with
 | zero =>
  intro u i acc hu _ _ hi
  have hd : decide ((u : Int) ≥ (10 : Int)) = false := decide_eq_false (by omega)
  rw [preD, if_pos (by omega)]
  exact loopW_end (by simp only [S138_4step, S138_4, hd, cond_same, cond_false]; rfl)
 | succ k ih =>
  intro u i acc hu h64 hb hi
  by_cases h : u < 10
  ·have hd : decide ((u : Int) ≥ (10 : Int)) = false := decide_eq_false (by omega)
   rw [preD, if_pos h]
   exact loopW_end (by simp only [S138_4step, S138_4, hd, cond_same, cond_false]; rfl)
  ·have hd : decide ((u : Int) ≥ (10 : Int)) = true := decide_eq_true (by omega)
   have hi2 : decide ((i : Int) < (20 : Int)) = true := decide_eq_true (by omega)
   have hw : IntKind.wrap .u64 ((u : Int).tdiv (10 : Int)) = ((u / 10 : Nat) : Int) := by
    rw [show (u : Int).tdiv (10 : Int) = ((u / 10 : Nat) : Int) from rfl, IntKind.wrap_u64]; omega
   have hm : ((u / 10 : Nat) : Int).tmod (10 : Int) = ((u / 10 % 10 : Nat) : Int) := rfl
   have hp : preD u ++ acc = preD (u / 10) ++ (UInt8.ofNat (48 + u / 10 % 10) :: acc) := by
    have := preD_eq (u / 10)
    rw [show preD u = Lib.decDigits (u / 10) by rw [preD, if_neg h], ← this, List.append_assoc]; rfl
   rw [hp, ← ih (u / 10) (i + 1) (UInt8.ofNat (48 + u / 10 % 10) :: acc) (by rw [Nat.pow_succ] at hu; omega) (by omega) (by simp; omega) (by omega)]
   refine loopW_go ?_
   have hl : decide ([UInt8.ofNat (48 + u / 10 % 10)].length + acc.length ≤ strMax) = true := leStr (by simp; omega)
   have hwi : IntKind.wrap .i64 ((i : Int) + 1) = ((i + 1 : Nat) : Int) := wadd' (by omega)
   simp only [S138_4step, S138_4, hd, hi2, hw, hm, hwi, cond_true, dig _ (Nat.mod_lt _ (by decide : 0 < 10)), hl]
   rfl
theorem dec09_eq (u : Nat) (hu : u < 18446744073709551616) : F138 0 (u : Int) = some (decB u) := by
 unfold F138
 have hm : ((u : Nat) : Int).tmod (10 : Int) = ((u % 10 : Nat) : Int) := rfl
 rw [hm, dig _ (Nat.mod_lt _ (by decide : 0 < 10)), loopQ0, show (0 : Int) = ((0 : Nat) : Int) from rfl, dec09_loop 19 u 0 _ (by omega) hu (by simp) (by omega), preD_eq, decB_eq (by omega)]
 rfl
section
variable {t : List PV} {q : QF} {c : Prop}
theorem scalR (ro : RefOk) (ht : TNum t) (k : Int) (s : List UInt8) (hs : Reach k s) (i : Nat) (hi : i < t.length) : RPar t q (fun v z => (v, z)) (valS (parV k s) (ts t i) (ts t (i + 1))) ((F137 0 () k s (t, (i : Int), 0, q)).bind fun y => some y) := by
 have hl := ht.len
 unfold F137 valS
 rw [ro k s hs, Option.bind_some]
 by_cases hz : (parV k s).2 = 0
 ·have z1 : ((parV k s).2 != 0) = false := by rw [hz]; rfl
  have z2 : ((parV k s).2 == 0) = true := by rw [hz]; rfl
  simp only [z1, z2, cond_true, cond_false, wadd' (show i ≤ 9223372036854775000 by omega)]
  exact .ok _ (i + 1) hi rfl rfl
 ·simp only [bneI hz, beqI hz, cond_true, cond_false]
  exact .er i _ zeroF (by omega) hz rfl rfl
theorem intR (ro : RefOk) (ht : TNum t) (k : Int) (hk : 2 ≤ k ∧ k ≤ 5) (neg : Bool) (pre : List UInt8) (hp : pre = bif neg then [45] else []) (i : Nat) (hi : i ≤ t.length) : RPar t q (fun v z => (v, z)) (intS parV k neg (ts t i))
 ((F105 0 () 2 (t, (i : Int), 0, q)).bind fun y27 => bif !y27.1 then (F106 0 () 2 y27.2).bind fun y29 => some (zeroF, y29) else
   bif inRange y27.2.2.1 y27.2.1.length then (F138 0 (IntKind.wrap .u64 ((y27.2.1.getD y27.2.2.1.toNat .bad).fld 2).asInt)).bind fun y36 =>
   bif decide (pre.length + y36.length ≤ strMax) then (F137 0 () k (pre ++ y36) y27.2).bind fun y37 => some y37 else none else none) := by
 rw [hereR 2 rfl, Option.bind_some]
 unfold intS
 cases hb : (kindS (ts t i) == 2) with
 | false => exact .er i 2 zeroF hi (by decide) rfl rfl
 | true =>
  have h := kindS_lt (show ((2 : Int) == 0) = false from rfl) hb
  obtain ⟨u, hu, h1, h2⟩ := wrapN (n := ((t.getD i .bad).fld 2).asInt)
  have hlen := decB_len u
  have hpl : pre.length ≤ 1 := by subst hp; cases neg <;> simp
  have l1 : decide (pre.length + (decB u).length ≤ strMax) = true := leStr (by omega)
  simp only [Bool.not_true, cond_false, cond_true, inRange_nat, h, decide_true, Int.toNat_natCast, h1, dec09_eq u hu, Option.bind_some, l1, numS_at h, ← hp, ts_tail]
  exact scalR ro ht k (pre ++ decB u) (Or.inr (Or.inr ⟨hk, neg, u, hu, by rw [hp]⟩)) i h
theorem intE (k : Int) (pre : List UInt8) (a e : Int) (he : e ≠ 0) : ((F105 0 () 2 (t, a, e, q)).bind fun y27 => bif !y27.1 then (F106 0 () 2 y27.2).bind fun y29 => some (zeroF, y29) else
 bif inRange y27.2.2.1 y27.2.1.length then (F138 0 (IntKind.wrap .u64 ((y27.2.1.getD y27.2.2.1.toNat .bad).fld 2).asInt)).bind fun y36 =>
 bif decide (pre.length + y36.length ≤ strMax) then (F137 0 () k (pre ++ y36) y27.2).bind fun y37 => some y37 else none else none) = some (zeroF, (t, a, e, q)) := by
 rw [hereE 2 a e he]
 simp only [Option.bind_some, Bool.not_false, cond_true, failE 2 _ e he]
theorem signedR (ro : RefOk) (ht : TNum t) (k : Int) (hk : 2 ≤ k ∧ k ≤ 5) {g : Q4 → Option (PV × Q4)}
 (hg : ∀ s, g s = (F102 0 () 4 [45] s).bind fun y26 => bif y26.1 then
  ((F105 0 () 2 y26.2).bind fun y27 => bif !y27.1 then (F106 0 () 2 y27.2).bind fun y29 => some (zeroF, y29) else
  bif inRange y27.2.2.1 y27.2.1.length then (F138 0 (IntKind.wrap .u64 ((y27.2.1.getD y27.2.2.1.toNat .bad).fld 2).asInt)).bind fun y36 =>
  bif decide (([45] : List UInt8).length + y36.length ≤ strMax) then (F137 0 () k ([45] ++ y36) y27.2).bind fun y37 => some y37 else none else none)
  else ((F105 0 () 2 y26.2).bind fun y27 => bif !y27.1 then (F106 0 () 2 y27.2).bind fun y29 => some (zeroF, y29) else
  bif inRange y27.2.2.1 y27.2.1.length then (F138 0 (IntKind.wrap .u64 ((y27.2.1.getD y27.2.2.1.toNat .bad).fld 2).asInt)).bind fun y36 =>
  bif decide (([] : List UInt8).length + y36.length ≤ strMax) then (F137 0 () k ([] ++ y36) y27.2).bind fun y37 => some y37 else none else none)) :
 RF t q (fun v z => (v, z)) c (fun r => bif isS 4 [45] r then intS parV k true r.tail else intS parV k false r) g := by
 refine ⟨fun _ i hi => ?_, fun j e hj he => ⟨zeroF, ?_⟩⟩
 ·rw [hg, mayR ht.toTOk 4 rfl, Option.bind_some]
  cases hs : isS 4 [45] (ts t i) with
  | true =>
   simp only [cond_true, ts_tail]
   exact intR ro ht k hk true [45] rfl (i + 1) (isS_lt hs)
  | false =>
   simp only [cond_false]
   exact intR ro ht k hk false [] rfl i hi
 ·rw [hg, mayE 4 _ _ e he, Option.bind_some]
  simp only [cond_false]
  exact intE k [] _ e he
theorem textR (ro : RefOk) (ht : TNum t) (k : Int) (f : List UInt8 → List UInt8) (hf : ∀ s : List UInt8, s.length ≤ 16384 → Reach k (f s)) {T : List UInt8 → Option (List UInt8)} (hT : ∀ s : List UInt8, s.length ≤ 16384 → T s = some (f s)) {g : Q4 → Option (PV × Q4)}
 (hg : ∀ s, g s = (F105 0 () 3 s).bind fun y121 => bif !y121.1 then (F106 0 () 2 y121.2).bind fun y123 => some (zeroF, y123) else
  bif inRange y121.2.2.1 y121.2.1.length then (T ((y121.2.1.getD y121.2.2.1.toNat .bad).fld 1).asStr).bind fun y130 => (F137 0 () k y130 y121.2).bind fun y131 => some y131 else none) :
 RF t q (fun v z => (v, z)) c (fun r => (anyTextS r).bind fun s z => valS (parV k (f s)) r z) g := by
 refine ⟨fun _ i hi => ?_, fun j e hj he => ⟨zeroF, ?_⟩⟩
 ·rw [hg, hereR 3 rfl, Option.bind_some]
  unfold anyTextS takeS
  cases hb : (kindS (ts t i) == 3) with
  | false => exact .er i 2 zeroF hi (by decide) rfl rfl
  | true =>
   have h := kindS_lt (show ((3 : Int) == 0) = false from rfl) hb
   have hs := ht.sml _ (getD_mem h .bad)
   simp only [Bool.not_true, cond_false, cond_true, inRange_nat, h, decide_true, Int.toNat_natCast, hT _ hs, Option.bind_some, textS_at h, ts_tail, Rs.bind_ok]
   exact scalR ro ht k _ (hf _ hs) i h
 ·rw [hg, hereE 3 _ e he]
  simp only [Option.bind_some, Bool.not_false, cond_true, failE 2 _ e he]
theorem boolR (ro : RefOk) (ht : TNum t) {g : Q4 → Option (PV × Q4)} (hg : ∀ s, g s = F64 0 () 1 s) :
 RF t q (fun v z => (v, z)) c (fun r => bif isS 1 [116, 114, 117, 101] r || isS 1 [102, 97, 108, 115, 101] r then valS (parV 1 (textS r)) r r.tail else .er r 2) g := by
 refine ⟨fun _ i hi => ?_, fun j e hj he => ⟨zeroF, ?_⟩⟩
 ·rw [hg]
  unfold F64
  simp only [show ((1 : Int) == 0) = false from rfl, show ((1 : Int) == 1) = true from rfl, cond_false, cond_true, isR 1 rfl, Option.bind_some]
  cases h1 : isS 1 [116, 114, 117, 101] (ts t i) with
  | true =>
   have h := isS_lt h1
   have hs := ht.sml _ (getD_mem h .bad)
   simp only [Bool.not_true, cond_false, Bool.true_or, cond_true, inRange_nat, h, decide_true, Int.toNat_natCast, ts_tail, textS_at h]
   exact scalR ro ht 1 ((t.getD i .bad).fld 1).asStr (Or.inl ⟨Or.inl rfl, hs⟩) i h
  | false =>
   cases h2 : isS 1 [102, 97, 108, 115, 101] (ts t i) with
   | true =>
    have h := isS_lt h2
    have hs := ht.sml _ (getD_mem h .bad)
    simp only [Bool.not_true, Bool.not_false, cond_false, Bool.or_true, cond_true, inRange_nat, h, decide_true, Int.toNat_natCast, ts_tail, textS_at h]
    exact scalR ro ht 1 ((t.getD i .bad).fld 1).asStr (Or.inl ⟨Or.inl rfl, hs⟩) i h
   | false =>
    simp only [Bool.not_false, cond_true, Bool.or_false, cond_false]
    exact .er i 2 zeroF hi (by decide) rfl rfl
 ·rw [hg]
  unfold F64
  simp only [show ((1 : Int) == 0) = false from rfl, show ((1 : Int) == 1) = true from rfl, cond_false, cond_true, isE 1 _ _ e he, Option.bind_some, Bool.not_false, failE 2 _ e he]
  rfl
theorem litR (ro : RefOk) (ht : TNum t) (k : Int) (hk : c → 0 ≤ k ∧ k ≤ 8) : RF t q (fun v z => (v, z)) c (litS parV k) (F64 0 () k) := by
 have idf : ∀ s : List UInt8, s.length ≤ 16384 → (fun s : List UInt8 => s) s = s := fun s _ => rfl
 have h0 : RF t q (fun v z => (v, z)) c (litS parV 0) (F64 0 () 0) :=
  RF.bind (f2 := fun s r => .ok (itemVal s) r) (g := fun y2 => some (itemVal y2.1, y2.2)) (partR ht.toTOk) fun v => RF.ret' (itemVal v) fun s => rfl
 have h1 : RF t q (fun v z => (v, z)) c (litS parV 1) (F64 0 () 1) := boolR ro ht fun s => rfl
 have h2 : RF t q (fun v z => (v, z)) c (litS parV 2) (F64 0 () 2) := signedR ro ht 2 (by decide) fun s => rfl
 have h3 : RF t q (fun v z => (v, z)) c (litS parV 3) (F64 0 () 3) := signedR ro ht 3 (by decide) fun s => rfl
 have h4 : RF t q (fun v z => (v, z)) c (litS parV 4) (F64 0 () 4) := signedR ro ht 4 (by decide) fun s => rfl
 have h5 : RF t q (fun v z => (v, z)) c (litS parV 5) (F64 0 () 5) := signedR ro ht 5 (by decide) fun s => rfl
 have h6 : RF t q (fun v z => (v, z)) c (litS parV 6) (F64 0 () 6) := textR ro ht 6 (fun s => s) (fun s h => Or.inl ⟨Or.inr (Or.inl rfl), h⟩) (T := fun s => some s) (fun s h => rfl) fun s => rfl
 have h7 : RF t q (fun v z => (v, z)) c (litS parV 7) (F64 0 () 7) := textR ro ht 7 quote (fun s h => Or.inr (Or.inl ⟨rfl, s, h, rfl⟩)) (T := F139 0) (fun s h => refQuote_eq s (by omega)) fun s => rfl
 have h8 : RF t q (fun v z => (v, z)) c (litS parV 8) (F64 0 () 8) := textR ro ht 8 (fun s => s) (fun s h => Or.inl ⟨Or.inr (Or.inr rfl), h⟩) (T := fun s => some s) (fun s h => rfl) fun s => rfl
 refine ⟨fun hc i hi => ?_, fun j e hj he => ?_⟩
 ·obtain ⟨k0, k8⟩ := hk hc
  rcases (show k = 0 ∨ k = 1 ∨ k = 2 ∨ k = 3 ∨ k = 4 ∨ k = 5 ∨ k = 6 ∨ k = 7 ∨ k = 8 by omega) with rfl | rfl | rfl | rfl | rfl | rfl | rfl | rfl | rfl
  ·exact h0.rp hc i hi
  ·exact h1.rp hc i hi
  ·exact h2.rp hc i hi
  ·exact h3.rp hc i hi
  ·exact h4.rp hc i hi
  ·exact h5.rp hc i hi
  ·exact h6.rp hc i hi
  ·exact h7.rp hc i hi
  ·exact h8.rp hc i hi
 ·by_cases k0 : k = 0
  ·subst k0; exact h0.st j e hj he
  by_cases k1 : k = 1
  ·subst k1; exact h1.st j e hj he
  by_cases k2 : k = 2
  ·subst k2; exact h2.st j e hj he
  by_cases k3 : k = 3
  ·subst k3; exact h3.st j e hj he
  by_cases k4 : k = 4
  ·subst k4; exact h4.st j e hj he
  by_cases k5 : k = 5
  ·subst k5; exact h5.st j e hj he
  refine ⟨zeroF, ?_⟩
  unfold F64
  simp only [beqI k0, beqI k1, beqI k2, beqI k3, beqI k4, beqI k5, cond_false, hereE 3 _ e he, Option.bind_some, Bool.not_false, cond_true, failE 2 _ e he]
  rfl
theorem refLit_eq (ro : RefOk) (ht : TNum t) (k a : Int) : F30 0 k t a = some (bif (bif decide (k < 0) then true else decide (k > 8)) || badPlace t a then (zeroF, 0, 1) else outS t zeroF (litS parV k (ts t a.toNat))) := by
 unfold F30
 rw [show (bif decide (a < 0) then true else decide (a > (t.length : Int))) = badPlace t a from rfl]
 cases hb : badPlace t a with
 | true => rw [Bool.or_true]; rfl
 | false =>
  obtain ⟨i, rfl, hi⟩ := place_nat hb
  rw [Int.toNat_natCast]
  by_cases h0 : k < 0
  ·rw [decide_eq_true h0]; rfl
  by_cases h8 : k > 8
  ·rw [decide_eq_true h8, decide_eq_false h0]; rfl
  rw [decide_eq_false h0, decide_eq_false h8]
  rcases (litR (q := ([], [], (), (), (), [], [], [], [])) (c := True) ro ht k (fun _ => by omega)).rp trivial i hi with ⟨v, j, hj, hx, hy⟩ | ⟨j, e, v, hj, he, hx, hy⟩
  ·simp only [hy, Option.bind_some, cond_false, hx, outS_ok hj, Bool.or_false]
   rfl
  ·simp only [hy, Option.bind_some, cond_false, hx, outS_er hj, bneI he, cond_true, Bool.or_false]
   rfl
end
end Go.Ab
