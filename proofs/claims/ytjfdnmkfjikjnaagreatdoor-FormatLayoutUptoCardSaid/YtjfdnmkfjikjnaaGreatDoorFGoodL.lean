/- What a row's reading gives is small enough (files, fields, values). -/
import Derived.Test.YtjfdnmkfjikjnaaGreatDoorAbLawL
import Derived.Test.YtjfdnmkfjikjnaaGreatDoorPCheckL
set_option linter.unusedVariables false
set_option linter.unusedSimpArgs false
set_option linter.unnecessarySimpa false
namespace Go.Ab
open Go Go.Proofs Go.Proofs.YtjfdnmkfjikjnaaGreatDoor
theorem good_fld {P : Program} {n : Nat} {T : TypeId} {v : PV} {fs : Array Field} (h : goodPV P n T v) (hu : P.underlying T = some (.struct fs)) (i : Nat) (f : Field) (hf : fs[i]? = some f) : ∃ m, goodPV P m f.type (v.fld i) := by
  obtain ⟨vs, m, rfl, hl, hx⟩ := good_struct h hu
  have hi : i < vs.length := by rw [hl]; exact (Array.getElem?_eq_some_iff.1 hf).1
  refine ⟨m, hx i _ f ?_ hf⟩
  show vs[i]? = some (vs.getD i .bad)
  rw [getD_of_lt hi]
  exact List.getElem?_eq_getElem hi
theorem good_el {P : Program} {n : Nat} {T E : TypeId} {v : PV} (h : goodPV P n T v) (hu : P.underlying T = some (.slice E)) : ∀ x, x ∈ v.asList → ∃ m, goodPV P m E x := by
  obtain ⟨xs, m, rfl, hx⟩ := good_slice h hu
  exact fun x hm => ⟨m, hx x hm⟩
theorem bfld {v : PV} {n : Nat} (hb : bulkPV v ≤ n) (i : Nat) : bulkPV (v.fld i) ≤ n := Nat.le_trans (bulk_part v i) hb
theorem bel {v : PV} {n : Nat} (hb : bulkPV v ≤ n) : ∀ x, x ∈ v.asList → bulkPV x ≤ n := fun x hx => by
  have h1 := bulk_parts v
  have h2 := bulkPVs_mem hx
  omega
theorem bstr {v : PV} {n : Nat} (hb : bulkPV v ≤ n) : v.asStr.length ≤ n := by have := bulk_str v; omega
theorem blist {v : PV} {n : Nat} (hb : bulkPV v ≤ n) : v.asList.length ≤ n := by have := bulk_list v; omega
theorem value_small {n : Nat} {v : PV} (h : goodPV Tryz.prog n 42 v) (hb : bulkPV v ≤ 1048576) : smallV v := by
  obtain ⟨vs, m, rfl, hl, hf⟩ := good_struct h Tryz.underlying42
  match vs, hl with
  | [a0, a1, a2, a3, a4, a5, a6], _ =>
    obtain ⟨b, rfl, hw⟩ := good_int (hf 1 a1 _ rfl rfl) Tryz.underlying36
    have h3 := bulk_list a3
    have h4 := bulk_list a4
    have h5 := bulk_list a5
    have h6 := bulk_list a6
    have h2 := bulk_str a2
    have hw := bounds_u64 hw
    simp only [bulkPV, bulkPVs] at hb
    refine ⟨?_, ?_, ?_, ?_⟩
    · show a3.asList.length + a4.asList.length + a5.asList.length + a6.asList.length ≤ 1048576
      omega
    · show a2.asStr.length ≤ 1048576
      omega
    · exact hw.1
    · show b < 18446744073709551616
      omega
theorem note_small {n : Nat} {v : PV} (h : goodPV Tryz.prog n 119 v) (hb : bulkPV v ≤ 1048576) : smallN v := by
  obtain ⟨m, g⟩ := good_fld h Tryz.underlying119 1 _ rfl
  exact ⟨value_small g (bfld hb 1), bstr (bfld hb 0)⟩
theorem notes_ok {n : Nat} {v : PV} (h : goodPV Tryz.prog n 43 v) (hb : bulkPV v ≤ 1048576) : ∀ x, x ∈ v.asList → smallN x := fun x hx => by
  obtain ⟨m, g⟩ := good_el h Tryz.underlying43 x hx
  exact note_small g (bel hb x hx)
theorem fld_ok {n : Nat} {x : PV} (h : goodPV Tryz.prog n 45 x) (hb : bulkPV x ≤ 1048576) : OkFld x := by
  obtain ⟨m7, g7⟩ := good_fld h Tryz.underlying45 7 _ rfl
  obtain ⟨m8, g8⟩ := good_fld h Tryz.underlying45 8 _ rfl
  exact ⟨bstr (bfld hb 1), bstr (bfld (bfld hb 4) 1), bstr (bfld hb 5), value_small g7 (bfld hb 7), blist (bfld hb 8), notes_ok g8 (bfld hb 8)⟩
theorem msg_ok {n : Nat} {x : PV} (h : goodPV Tryz.prog n 61 x) (hb : bulkPV x ≤ 1048576) : OkMsg x := by
  obtain ⟨m1, g1⟩ := good_fld h Tryz.underlying61 1 _ rfl
  obtain ⟨m4, g4⟩ := good_fld h Tryz.underlying61 4 _ rfl
  refine ⟨bstr (bfld hb 0), blist (bfld hb 1), fun y hy => ?_, blist (bfld hb 2), blist (bfld hb 3), fun y hy => bstr (bel (bfld hb 3) y hy), blist (bfld hb 4), notes_ok g4 (bfld hb 4)⟩
  obtain ⟨m, g⟩ := good_el g1 Tryz.underlying58 y hy
  exact fld_ok g (bel (bfld hb 1) y hy)
theorem item_ok {n : Nat} {x : PV} (h : goodPV Tryz.prog n 106 x) (hb : bulkPV x ≤ 1048576) : OkItem x := by
  obtain ⟨m2, g2⟩ := good_fld h Tryz.underlying106 2 _ rfl
  exact ⟨bstr (bfld hb 0), blist (bfld hb 2), notes_ok g2 (bfld hb 2)⟩
theorem enum_ok {n : Nat} {x : PV} (h : goodPV Tryz.prog n 64 x) (hb : bulkPV x ≤ 1048576) : OkEnum x := by
  obtain ⟨m2, g2⟩ := good_fld h Tryz.underlying64 2 _ rfl
  obtain ⟨m4, g4⟩ := good_fld h Tryz.underlying64 4 _ rfl
  refine ⟨bstr (bfld hb 0), blist (bfld hb 2), fun y hy => ?_, blist (bfld hb 3), blist (bfld hb 4), notes_ok g4 (bfld hb 4)⟩
  obtain ⟨m, g⟩ := good_el g2 Tryz.underlying62 y hy
  exact item_ok g (bel (bfld hb 2) y hy)
theorem meth_ok {n : Nat} {x : PV} (h : goodPV Tryz.prog n 112 x) (hb : bulkPV x ≤ 1048576) : OkMeth x := by
  obtain ⟨m4, g4⟩ := good_fld h Tryz.underlying112 4 _ rfl
  exact ⟨bstr (bfld hb 0), bstr (bfld hb 1), bstr (bfld hb 2), blist (bfld hb 4), notes_ok g4 (bfld hb 4)⟩
theorem svc_ok {n : Nat} {x : PV} (h : goodPV Tryz.prog n 67 x) (hb : bulkPV x ≤ 1048576) : OkSvc x := by
  obtain ⟨m1, g1⟩ := good_fld h Tryz.underlying67 1 _ rfl
  obtain ⟨m2, g2⟩ := good_fld h Tryz.underlying67 2 _ rfl
  refine ⟨bstr (bfld hb 0), blist (bfld hb 1), fun y hy => ?_, blist (bfld hb 2), notes_ok g2 (bfld hb 2)⟩
  obtain ⟨m, g⟩ := good_el g1 Tryz.underlying65 y hy
  exact meth_ok g (bel (bfld hb 1) y hy)
theorem parts1_le (i : Nat) : ∀ l : List PV, parts1 l i ≤ 2 * bulkPVs l := by
  intro l
  induction l with
  | nil => exact Nat.le_refl _
  | cons m r ih =>
    have h1 := blist (bfld (Nat.le_refl (bulkPV m)) i)
    have h2 := bulkPV_pos m
    show (m.fld i).asList.length + 1 + parts1 r i ≤ 2 * (bulkPV m + bulkPVs r)
    omega
theorem fileOk {n : Nat} {f : PV} (h : goodPV Tryz.prog n 27 f) (hb : bulkPV f ≤ 1048576) : OkFile f := by
  obtain ⟨m3, g3⟩ := good_fld h Tryz.underlying27 3 _ rfl
  obtain ⟨m4, g4⟩ := good_fld h Tryz.underlying27 4 _ rfl
  obtain ⟨m5, g5⟩ := good_fld h Tryz.underlying27 5 _ rfl
  refine ⟨bstr (bfld hb 1), blist (bfld hb 2), fun y hy => bstr (bel (bfld hb 2) y hy), blist (bfld hb 3), fun y hy => ?_, blist (bfld hb 4), fun y hy => ?_, blist (bfld hb 5), fun y hy => ?_, ?_⟩
  · obtain ⟨m, g⟩ := good_el g3 Tryz.underlying23 y hy
    exact msg_ok g (bel (bfld hb 3) y hy)
  · obtain ⟨m, g⟩ := good_el g4 Tryz.underlying24 y hy
    exact enum_ok g (bel (bfld hb 4) y hy)
  · obtain ⟨m, g⟩ := good_el g5 Tryz.underlying25 y hy
    exact svc_ok g (bel (bfld hb 5) y hy)
  · have p3 := parts1_le 1 (f.fld 3).asList
    have p4 := parts1_le 2 (f.fld 4).asList
    have p5 := parts1_le 1 (f.fld 5).asList
    have q3 := bsub hb 3
    have q4 := bsub hb 4
    have q5 := bsub hb 5
    omega
end Go.Ab
