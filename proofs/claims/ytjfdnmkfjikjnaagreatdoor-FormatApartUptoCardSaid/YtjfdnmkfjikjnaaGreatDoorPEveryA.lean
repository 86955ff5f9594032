/- format.every: all elements of a list pass a test. -/
import Derived.Test.YtjfdnmkfjikjnaaGreatDoorPNameA
set_option linter.unusedVariables false
set_option linter.unusedSimpArgs false
set_option linter.unnecessarySimpa false
namespace Go.Ab
open Go
set_option maxRecDepth 100000
theorem evG (l : List PV) (p : PV → Bool) (E1 : PV → Option (Bool × Unit)) (step : (List PV × Unit × Int × Int × Unit) → Option ((List PV × Unit × Int × Int × Unit) ⊕ ((Int × Unit) ⊕ Unit))) (hl : l.length ≤ 1048576) (h : ∀ x, x ∈ l → E1 x = some (!p x, ()))
    (hs : ∀ a : Int, step (l, (), (l.length : Int), a, ()) = bif decide (a < (l.length : Int)) then (bif inRange a l.length then (E1 (l.getD a.toNat .bad)).bind fun y => bif y.1 then some (.inr (.inl (a, ()))) else some (.inl (l, (), (l.length : Int), (IntKind.wrap .i64 (a + (1 : Int))), ())) else none) else some (.inr (.inr ()))) :
    ((((loopW step (l, (), (l.length : Int), (0 : Int), ())).bind fun z => sumE (fun y => some (y.1, ())) (fun _ => some ((-1 : Int), ())) z).bind fun y => some (decide (y.1 ≥ (0 : Int)), ())).bind fun y => some (!y.1)) = some (l.all p) := by
  obtain ⟨r, h1, h2, h3⟩ := loopW_first (step := step) (fun i => (l, (), (l.length : Int), (i : Int), ())) l.length (fun i => p (l.getD i .bad)) (fun i => (Sum.inl ((i : Int), ()) : (Int × Unit) ⊕ Unit)) (Sum.inr ()) (fun i hi => by
    simp only [hs, lt_int, inRange_nat, hi, decide_true, cond_true, Int.toNat_natCast, h _ (getD_mem hi .bad), Option.bind_some, wadd' (i := i) (by omega)]
    cases p (l.getD i .bad) <;> rfl) (by simp only [hs, lt_int, Nat.lt_irrefl, decide_false, cond_false]) l.length 0 (by omega)
  rw [allF_of] at h2 h3
  rw [show (0 : Int) = ((0 : Nat) : Int) from rfl, h1]
  cases ha : l.all p with
  | true => rw [h2 ha]; rfl
  | false =>
    obtain ⟨j, _, _, rfl⟩ := h3 ha
    simp [sumE]
theorem ev_nf (l : List PV) (p : PV → Bool) (hl : l.length ≤ 1048576) (h : ∀ x, x ∈ l → F76 0 x = some (p x)) : F75 0 l () = some (l.all p) :=
  evG l p (fun x => F186 0 x () ()) (S261_3step 0) hl (fun x hx => by show (F76 0 x).bind _ = _; rw [h x hx]; rfl) (fun _ => rfl)
theorem ev_nm (l : List PV) (p : PV → Bool) (hl : l.length ≤ 1048576) (h : ∀ x, x ∈ l → F74 0 x = some (p x)) : F73 0 l () = some (l.all p) :=
  evG l p (fun x => F184 0 x () ()) (S260_3step 0) hl (fun x hx => by show (F74 0 x).bind _ = _; rw [h x hx]; rfl) (fun _ => rfl)
theorem ev_ni (l : List PV) (p : PV → Bool) (hl : l.length ≤ 1048576) (h : ∀ x, x ∈ l → F82 0 x = some (p x)) : F81 0 l () = some (l.all p) :=
  evG l p (fun x => F192 0 x () ()) (S264_3step 0) hl (fun x hx => by show (F82 0 x).bind _ = _; rw [h x hx]; rfl) (fun _ => rfl)
theorem ev_ne (l : List PV) (p : PV → Bool) (hl : l.length ≤ 1048576) (h : ∀ x, x ∈ l → F80 0 x = some (p x)) : F79 0 l () = some (l.all p) :=
  evG l p (fun x => F190 0 x () ()) (S263_3step 0) hl (fun x hx => by show (F80 0 x).bind _ = _; rw [h x hx]; rfl) (fun _ => rfl)
theorem ev_nd (l : List PV) (p : PV → Bool) (hl : l.length ≤ 1048576) (h : ∀ x, x ∈ l → F86 0 x = some (p x)) : F85 0 l () = some (l.all p) :=
  evG l p (fun x => F196 0 x () ()) (S266_3step 0) hl (fun x hx => by show (F86 0 x).bind _ = _; rw [h x hx]; rfl) (fun _ => rfl)
theorem ev_ns (l : List PV) (p : PV → Bool) (hl : l.length ≤ 1048576) (h : ∀ x, x ∈ l → F84 0 x = some (p x)) : F83 0 l () = some (l.all p) :=
  evG l p (fun x => F194 0 x () ()) (S265_3step 0) hl (fun x hx => by show (F84 0 x).bind _ = _; rw [h x hx]; rfl) (fun _ => rfl)
theorem ev_af (l : List PV) (p : PV → Bool) (hl : l.length ≤ 1048576) (h : ∀ x, x ∈ l → F88 0 x = some (p x)) : F75_v1 0 l () = some (l.all p) :=
  evG l p (fun x => F186_v1 0 x () ()) (S261_v1_3step 0) hl (fun x hx => by show (F88 0 x).bind _ = _; rw [h x hx]; rfl) (fun _ => rfl)
theorem ev_am (l : List PV) (p : PV → Bool) (hl : l.length ≤ 1048576) (h : ∀ x, x ∈ l → F87 0 x = some (p x)) : F73_v1 0 l () = some (l.all p) :=
  evG l p (fun x => F184_v1 0 x () ()) (S260_v1_3step 0) hl (fun x hx => by show (F87 0 x).bind _ = _; rw [h x hx]; rfl) (fun _ => rfl)
theorem ev_ai (l : List PV) (p : PV → Bool) (hl : l.length ≤ 1048576) (h : ∀ x, x ∈ l → F92 0 x = some (p x)) : F81_v1 0 l () = some (l.all p) :=
  evG l p (fun x => F192_v1 0 x () ()) (S264_v1_3step 0) hl (fun x hx => by show (F92 0 x).bind _ = _; rw [h x hx]; rfl) (fun _ => rfl)
theorem ev_ae (l : List PV) (p : PV → Bool) (hl : l.length ≤ 1048576) (h : ∀ x, x ∈ l → F91 0 x = some (p x)) : F79_v1 0 l () = some (l.all p) :=
  evG l p (fun x => F190_v1 0 x () ()) (S263_v1_3step 0) hl (fun x hx => by show (F91 0 x).bind _ = _; rw [h x hx]; rfl) (fun _ => rfl)
theorem ev_ad (l : List PV) (p : PV → Bool) (hl : l.length ≤ 1048576) (h : ∀ x, x ∈ l → F94 0 x = some (p x)) : F85_v1 0 l () = some (l.all p) :=
  evG l p (fun x => F196_v1 0 x () ()) (S266_v1_3step 0) hl (fun x hx => by show (F94 0 x).bind _ = _; rw [h x hx]; rfl) (fun _ => rfl)
theorem ev_as (l : List PV) (p : PV → Bool) (hl : l.length ≤ 1048576) (h : ∀ x, x ∈ l → F93 0 x = some (p x)) : F83_v1 0 l () = some (l.all p) :=
  evG l p (fun x => F194_v1 0 x () ()) (S265_v1_3step 0) hl (fun x hx => by show (F93 0 x).bind _ = _; rw [h x hx]; rfl) (fun _ => rfl)
theorem ev_tx (l : List PV) (p : PV → Bool) (hl : l.length ≤ 1048576) (h : ∀ x, x ∈ l → F96 0 x.asStr = some (p x)) : F95 0 l () = some (l.all p) :=
  evG l p (fun x => F201 0 x.asStr () ()) (S258_v1_3step 0) hl (fun x hx => by show (F96 0 x.asStr).bind _ = _; rw [h x hx]; rfl) (fun _ => rfl)
theorem ev_tm (l : List PV) (p : PV → Bool) (hl : l.length ≤ 1048576) (h : ∀ x, x ∈ l → F97 0 x = some (p x)) : F73_v2 0 l () = some (l.all p) :=
  evG l p (fun x => F184_v2 0 x () ()) (S260_v2_3step 0) hl (fun x hx => by show (F97 0 x).bind _ = _; rw [h x hx]; rfl) (fun _ => rfl)
theorem ev_cm (l : List PV) (p : PV → Bool) (hl : l.length ≤ 1048576) (h : ∀ x, x ∈ l → F99 0 x = some (p x)) : F73_v3 0 l () = some (l.all p) :=
  evG l p (fun x => F184_v3 0 x () ()) (S260_v3_3step 0) hl (fun x hx => by show (F99 0 x).bind _ = _; rw [h x hx]; rfl) (fun _ => rfl)
theorem ev_ce (l : List PV) (p : PV → Bool) (hl : l.length ≤ 1048576) (h : ∀ x, x ∈ l → F100 0 x = some (p x)) : F79_v2 0 l () = some (l.all p) :=
  evG l p (fun x => F190_v2 0 x () ()) (S263_v2_3step 0) hl (fun x hx => by show (F100 0 x).bind _ = _; rw [h x hx]; rfl) (fun _ => rfl)
theorem ev_cs (l : List PV) (p : PV → Bool) (hl : l.length ≤ 1048576) (h : ∀ x, x ∈ l → F101 0 x = some (p x)) : F83_v2 0 l () = some (l.all p) :=
  evG l p (fun x => F194_v2 0 x () ()) (S265_v2_3step 0) hl (fun x hx => by show (F101 0 x).bind _ = _; rw [h x hx]; rfl) (fun _ => rfl)
end Go.Ab
