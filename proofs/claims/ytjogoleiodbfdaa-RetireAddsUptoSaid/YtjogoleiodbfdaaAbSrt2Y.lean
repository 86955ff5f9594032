/- sort.Slice at rows of api.Use of any length, as retire.sorted calls it (keys: LIB=AbSrt1E slice=201 less=202 sl=115 el=131 swap=271: reflectlite.Swapper$9). -/
import Derived.Test.YtjogoleiodbfdaaAbSrt1Y
import Derived.Shelf.SlSortFuncK.WholeK
set_option linter.unusedVariables false
set_option linter.unusedSimpArgs false
set_option linter.unnecessarySimpa false
set_option maxRecDepth 100000
namespace Go.Ab
open Go Go.Proofs Go.Shelf Go.RowKit Go.Sort Go.Lib

abbrev UseT := List UInt8 × Int × Int
def encU (x : UseT) : List Value := [.string ⟨x.1.toArray⟩, .int .i64 x.2.1, .int .i64 x.2.2]
def ltU (x y : UseT) : Bool := bif x.1 == y.1 then decide (x.2.1 < y.2.1) else Op.bytesLess x.1 y.1

theorem drewN_two (w : World) (n m : Nat) : (w.drewN n).drewN m = w.drewN (n + m) := by simp [World.drewN, Nat.add_assoc]
set_option maxHeartbeats 4000000 in
theorem lessU (blk off c Bs size : Nat) (W : World) (S : Nat → List UInt8) (G : Nat → Int) (hs : W.cell? ⟨Bs, 0, none⟩ = some (.slice (some ⟨blk, off, none⟩) size c))
    (hc0 : ∀ t, t < size → W.cell? ⟨blk, off + t * 3, none⟩ = some (.string ⟨(S t).toArray⟩)) (hc1 : ∀ t, t < size → W.cell? ⟨blk, off + t * 3 + 1, none⟩ = some (.int .i64 (G t))) (i j : Nat) (hi : i < size) (hj : j < size) (hsz : size < 4611686018427387904) :
    Calls Try.prog 14 #[.int .i64 i, .int .i64 j, .pointer (some ⟨Bs, 0, none⟩)] W fun e w' => e = .returned (.bool (bif S i == S j then decide (G i < G j) else Op.bytesLess (S i) (S j))) ∧ ∃ q, w' = W.drewN q := by
  have ci := hc0 i hi
  have cj := hc0 j hj
  have di := hc1 i hi
  have dj := hc1 j hj
  go_enter Try.func14, Try.ntmps14
  go_wp2
  go_quiet (fail)
  go_wp2
  · go_quiet (fail)
    go_wp2
    go_ret
    have he : (S i == S j) = false := by simpa using (by assumption : (!S i == S j) = true)
    refine ⟨by rw [he]; rfl, ?_⟩
    exact ⟨_, drewN_two _ _ _⟩
  · go_quiet (fail)
    go_wp2
    go_ret
    have he : (S i == S j) = true := by simpa using (by assumption : (!S i == S j) = false)
    refine ⟨by rw [he]; rfl, ?_⟩
    exact ⟨_, drewN_two _ _ _⟩
theorem ltU_iff (x y : UseT) : ltU x y = true ↔ x.1 < y.1 ∨ (x.1 = y.1 ∧ x.2.1 < y.2.1) := by
  unfold ltU
  cases h : x.1 == y.1 with
  | true =>
    have e := eq_of_beq h
    simp [e, List.lt_irrefl]
  | false =>
    have e : x.1 ≠ y.1 := by simpa using h
    simp [bytesLess_eq, e]
theorem swo_ltU : SWO ltU where
  irrefl := fun x => by simp [ltU]
  trans := fun x y z h1 h2 => by
    rw [ltU_iff] at *
    rcases h1 with h1 | ⟨e1, h1⟩
    · rcases h2 with h2 | ⟨e2, h2⟩
      · exact .inl (List.lt_trans h1 h2)
      · exact .inl (e2 ▸ h1)
    · rcases h2 with h2 | ⟨e2, h2⟩
      · exact .inl (e1 ▸ h2)
      · exact .inr ⟨e1.trans e2, by omega⟩
  ntrans := fun x y z h1 h2 => by
    rw [← Bool.not_eq_true, ltU_iff] at *
    have a1 : ¬ x.1 < y.1 := fun h => h1 (.inl h)
    have a2 : ¬ y.1 < z.1 := fun h => h2 (.inl h)
    have b1 := List.not_lt.1 a1; have b2 := List.not_lt.1 a2
    rintro (h | ⟨e, h⟩)
    · exact List.not_lt.2 (List.le_trans b2 b1) h
    · have e1 : x.1 = y.1 := List.le_antisymm (e ▸ b2) b1
      have e2 : y.1 = z.1 := e1.symm.trans e
      by_cases q : x.2.1 < y.2.1
      · exact h1 (.inr ⟨e1, q⟩)
      · exact h2 (.inr ⟨e2, by omega⟩)

/-- sort.Slice as retire.sorted calls it. -/
theorem sortU (blk off c Bs : Nat) (d : Array UseT) (h2 : 2 ≤ d.size) (hsz : d.size < 4611686018427387904) (w : World) (hH : HoldsK encU 3 w blk off d) (hblk : blk < w.heap.size)
    (hBs : w.cell? ⟨Bs, 0, none⟩ = some (.slice (some ⟨blk, off, none⟩) d.size c)) (hB1 : Bs < w.heap.size) (hB2 : Bs ≠ blk) :
    Calls Try.prog 13 #[.iface 22 (.slice (some ⟨blk, off, none⟩) d.size c), .func (.func 14) #[] #[.pointer (some ⟨Bs, 0, none⟩)]] w fun e w' =>
      e = .returned (.tuple #[]) ∧ ∃ d' n os, PermIn 0 d.size d d' ∧ SortedIn ltU 0 d.size d' ∧ w' = grow (putRowK encU 3 (Sort.ahead w n) blk off d') os := by
  have hless : LessReadsK Try.prog 14 #[.pointer (some ⟨Bs, 0, none⟩)] encU 3 ltU blk off d.size w := by
    intro m os dk hs i j hi hj
    have e : sortWorldK encU 3 w blk off m dk os = putRowK encU 3 (grow (Sort.ahead w m) os) blk off dk := by
      unfold sortWorldK; rw [putRowK_grow _ _ (Sort.ahead w m) _ blk off _ hblk]
    have hHg : HoldsK encU 3 (grow (Sort.ahead w m) os) blk off d := holdsK_grow _ _ _ _ blk off d hblk (holdsK_ahead _ _ _ _ _ _ _ hH)
    refine lessU blk off c Bs d.size _ (fun t => dk[t]!.1) (fun t => dk[t]!.2.1) ?_ (fun t ht => ?_) (fun t ht => ?_) i j hi hj (by omega)
    · rw [e, cell?_putRowK_other _ _ _ blk off dk _ (by exact hB2), cell?_grow _ _ _ (by exact hB1)]; exact hBs
    · rw [e]; exact ((holdsK_putRowK _ _ _ blk off d dk hHg hs).cell (i := t) (c := 0) (by omega) (by omega)).1
    · rw [e]; exact ((holdsK_putRowK _ _ _ blk off d dk hHg hs).cell (i := t) (c := 1) (by omega) (by omega)).1
  have hk : ∀ n, 2 ≤ n → swapperK n ((Try.prog.info? 28).getD default) 25 = 9 := by
    intro n h2
    have c : (n == 0) = false := by simp; omega
    have d : (n == 1) = false := by simp; omega
    have a : ((Try.prog.info? 28).getD default).hasPointers = true := by kernel_rfl
    have b : (((Try.prog.info? 28).getD default).bytes == 8) = false := by kernel_rfl
    have f : ((25 : Nat) == 24) = false := rfl
    unfold swapperK
    rw [c, d, a, b, f]
    rfl
  exact Any.sort_Slice_cells_sorted Try.laysGg6 22 28 ((Try.prog.info? 22).getD default) ((Try.prog.info? 28).getD default) (by kernel_rfl) (by kernel_rfl) (by kernel_rfl) (by kernel_rfl) 25 (fun w => by kernel_rfl) encU 3 (fun _ => rfl) (by kernel_rfl) (fun _ => by kernel_rfl)
    (fun x v hv => by simp [encU] at hv; rcases hv with rfl | rfl | rfl <;> rfl) ltU swo_ltU 14 _
    (enters_of Try.func14 (by kernel_rfl) rfl) blk off c d h2 hsz 35 (by rw [hk _ h2]; kernel_rfl) false
    (fun args W => run_callFunc_extern Try.func35 (by kernel_rfl) (by kernel_rfl) (by kernel_rfl) (e := Extern.ReflectliteSwapper.swap false) (by kernel_rfl) args W) w hless hH hblk
end Go.Ab
