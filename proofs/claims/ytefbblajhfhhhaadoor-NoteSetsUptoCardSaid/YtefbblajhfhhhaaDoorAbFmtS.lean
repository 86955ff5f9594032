/- strconv.FormatUint at base 10: the decimal numeral. -/
import Derived.Test.YtefbblajhfhhhaaDoorAbLibS
import Derived.Lib.ItoaMem
import Derived.BigCall
import Derived.BigGuard
set_option linter.unusedVariables false
set_option linter.unusedSimpArgs false
set_option linter.unnecessarySimpa false
namespace Go.Ab
open Go Go.Proofs Go.Shelf Go.RowKit Go.Sort Go.Lib

theorem holds_zero0 (w : World) (T : TypeId) (nd : Nat) (hs : nd ≤ 24) : Holds (fun (b : UInt8) => Value.int .u8 (b.toNat : Int)) (w.alloc (.cells zeros24 T)) w.heap.size 0 (Array.replicate nd (0 : UInt8)) := fun j hj => by
  have hj' : j < nd := by simpa using hj
  refine ⟨?_, World.frozen?_alloc_new _ _ _ _⟩
  rw [World.cell?_alloc_new, zeros24_at _ (by omega), getElem!_pos _ j hj]
  simp
theorem fin0 (w : World) (o : Obj) (dk : Array UInt8) (k : Nat) : ∃ os, (putRow (fun (b : UInt8) => Value.int .u8 (b.toNat : Int)) (w.alloc o) w.heap.size 0 dk).drewN k = grow (w.drewN k) os := by
  rw [alloc_eq_grow]
  obtain ⟨os', _, e⟩ := putRow_grow_new (fun (b : UInt8) => Value.int .u8 (b.toNat : Int)) w #[o] w.heap.size 0 dk (Nat.le_refl _)
  exact ⟨os', by rw [e]; rfl⟩

set_option maxHeartbeats 6400000 in
set_option maxRecDepth 100000 in
theorem formatUint10 (u : Nat) (hu64 : u < 18446744073709551616) (w : World) (htab : Lib.TabIs Tryd.prog w "internal/strconv.uint64pow10" .u64 Lib.pow10Tab) :
    Calls Tryd.prog 48 #[.int .u64 u, .int .i64 10] w fun e w' => e = .returned (.string ⟨(Lib.decDigits u).toArray⟩) ∧ ∃ k os, w' = grow (w.drewN k) os := by
  have e87 : ∀ args w, (callFunc 60 args).run Tryd.prog w = .ok (.enter 60 args) w := canEnter_of Tryd.func60 (by kernel_rfl) (by kernel_rfl)
  have e88 : ∀ args w, (callFunc 61 args).run Tryd.prog w = .ok (.enter 61 args) w := canEnter_of Tryd.func61 (by kernel_rfl) (by kernel_rfl)
  have e89 : ∀ args w, (callFunc 62 args).run Tryd.prog w = .ok (.enter 62 args) w := canEnter_of Tryd.func62 (by kernel_rfl) (by kernel_rfl)
  by_cases hi : u < 100
  · go_enter Tryd.func48, Tryd.ntmps48
    go_wp2_with (go_at_fn 60; refine (Tryd.internal_strconv_small u hi _).mono ?_; rintro e w' ⟨rfl, rfl⟩)
    go_ret
    exact ⟨rfl, 0, #[], by simp [World.drewN_zero]⟩
  · have hu1 : 1 ≤ u := by omega
    have hnd20 : Lib.nDigits u ≤ 20 := by have := Lib.numDigits_eq u hu1 hu64; split at this <;> omega
    have hb3 : Lib.nDigits u ≤ 23 := by omega
    have hal : Tryd.prog.arrayLen 92 = 24 := by simp [Program.arrayLen, Tryd.underlying92]
    have hsl1 : ∀ W, (Instr.sliceAt 92 (.pointer (some ⟨w.heap.size, 0, none⟩)) none (some (.int .i64 (Lib.nDigits u : Int))) none).run Tryd.prog W = .ok (.slice (some ⟨w.heap.size, 0, none⟩) (Lib.nDigits u) 24) W := fun W => by
      rw [run_sliceAt_array_h W 92 ⟨w.heap.size, 0, none⟩ (by simp [Program.arrayLen, Program.elem, Tryd.underlying92]) .i64 (Lib.nDigits u : Int) (by omega) (by rw [hal]; omega)]
      go_simp
    have hH0 : Holds (fun (b : UInt8) => Value.int .u8 (b.toNat : Int)) (w.alloc (.cells Lib.zeros24 92)) w.heap.size 0 (Array.replicate (Lib.nDigits u) 0) := holds_zero0 w 92 _ (by omega)
    have hfmt := Tryd.internal_strconv_formatBase10 w.heap.size 0 24 u (Array.replicate (Lib.nDigits u) 0) (w.alloc (.cells Lib.zeros24 92)) hH0 (by rw [Array.size_replicate]; exact Lib.lt_pow_nDigits u) hu64 (by rw [Array.size_replicate]; omega)
    rw [Array.size_replicate] at hfmt
    have HH0 := Lib.hid hH0
    clear hH0 hal
    go_enter Tryd.func48, Tryd.ntmps48
    go_wp2_with (first
      | (go_at_fn 61; refine (Tryd.internal_strconv_numDigits u hu1 hu64 _ (Lib.tabIs_alloc htab _)).mono ?_; rintro e w' ⟨rfl, rfl⟩))
    go_at_fn 62
    refine hfmt.mono ?_
    rintro e w' ⟨rfl, k, v', dk, rfl, hF⟩
    have hcv : (convert 66 9 (.slice (some ⟨w.heap.size, 0, none⟩) (Lib.nDigits u) 24)).run Tryd.prog ((putRow (fun (b : UInt8) => Value.int .u8 (b.toNat : Int)) (w.alloc (.cells Lib.zeros24 92)) w.heap.size 0 dk).drewN k) = .ok (.string ⟨(Lib.decDigits u).toArray⟩) ((putRow (fun (b : UInt8) => Value.int .u8 (b.toNat : Int)) (w.alloc (.cells Lib.zeros24 92)) w.heap.size 0 dk).drewN k) := by
      have h := run_convert_bytes_back (P := Tryd.prog) ((putRow (fun (b : UInt8) => Value.int .u8 (b.toNat : Int)) (w.alloc (.cells Lib.zeros24 92)) w.heap.size 0 dk).drewN k) 66 9 5 ⟨w.heap.size, 0, none⟩ 24 (Lib.decDigits u) Tryd.underlying66 Tryd.underlying5 Tryd.underlying9 (fun j hj => by
        rw [Lib.row_is_numeral hF j hj, Lib.add_plain, World.cell?_drewN]
        exact cell?_putRow (fun (b : UInt8) => Value.int .u8 (b.toNat : Int)) _ w.heap.size 0 _ dk HH0.out (by rw [hF.size, Array.size_replicate]) j (by rw [hF.size]; rw [Lib.decDigits_length] at hj; exact hj))
      rw [Lib.decDigits_length] at h
      exact h
    go_wp2
    go_ret
    obtain ⟨os, eo⟩ := fin0 w (.cells Lib.zeros24 92) dk k
    exact ⟨rfl, k, os, eo⟩

/- strconv.FormatUint, of a number below 2^64, at base 10 -/
def Lfmtu (fuel : Nat) (u base : Int) : Option (List UInt8) := bif decide (0 ≤ u) && decide (u ≤ 18446744073709551615) && decide (base = 10) then some (decB u.toNat) else none
def Lfmtuc (fuel : Nat) : CallE := { f := 48, A := ⟨2, [], [.int .u64, .int .i64]⟩, R := ⟨1, [], [.str]⟩, F := fun x => Lfmtu fuel x.1 x.2, dflt := [] }
theorem Lfmtuok (fuel : Nat) : (Lfmtuc fuel).Ok Tryd.prog := by
  intro x y h
  obtain ⟨n, base⟩ := x
  have h : Lfmtu fuel n base = some y := h
  unfold Lfmtu at h
  obtain ⟨hb, rfl⟩ := cond_some h
  simp only [Bool.and_eq_true, decide_eq_true_eq] at hb
  obtain ⟨⟨h0, h1⟩, rfl⟩ := hb
  obtain ⟨u, rfl⟩ : ∃ u : Nat, n = (u : Int) := ⟨n.toNat, (Int.toNat_of_nonneg h0).symm⟩
  refine pure_meets (canEnter_of Tryd.func48 (by kernel_rfl) (by kernel_rfl)) (fun D ow μ w vals pre => ?_)
  obtain ⟨v, b, rfl, h1, h2⟩ := vals2 pre
  cases h1; cases h2
  refine (formatUint10 u (by omega) w (tab10 pre.tabs)).mono ?_
  rintro e w' ⟨rfl, k, os, rfl⟩
  refine ⟨_, rfl, fun ow' μ' st' => ?_, below_grow w k os⟩
  rw [Int.toNat_natCast, ← decB_eq (by omega)]
  exact .str
end Go.Ab
