/- Slices, lengths, fields, maps that are read. -/
import Derived.Test.YtjogoleiodbfdaaAbMem
set_option linter.unusedVariables false
set_option linter.unusedSimpArgs false
set_option linter.unnecessarySimpa false
namespace Go.Ab
open Go

section
variable {Γ : Ctx} {D : Dom} {ow : Own} {μ : Nat → Nat} {st : List BX} {w : World}

theorem bnd_spec {x : Option SV} {xv : Option Value} {dflt n : Int} (hx : ∀ s v, x = some s → xv = some v → SRep Γ.P D w ow μ st s v) (hsame : x.isSome = xv.isSome) (h : bnd x dflt = some n) :
    (xv = none ∧ n = dflt) ∨ ∃ k, xv = some (.int k n) := by
  unfold bnd at h
  split at h
  · simp at hsame; simp at h
    exact Or.inl ⟨hsame, h.symm⟩
  · rename_i k m
    simp at h; subst h
    cases xv with
    | none => simp at hsame
    | some v =>
      have := hx _ v rfl rfl
      cases this
      exact Or.inr ⟨k, rfl⟩
  · simp at h

theorem run_bound (k : IntKind) (n : Int) (y : Nat) (code : BoundsCode) (h0 : 0 ≤ n) (h1 : n ≤ y) : (Instr.sliceBound (.int k n) y code).run Γ.P w = .ok n.toNat w := by
  simp only [Instr.sliceBound, asIntOf, Sem.run_bind, Sem.run_pure, Result.andThen_ok, h0, h1, and_self, if_true]
theorem run_bounds (isSlice : Bool) (n cap : Nat) (lo hi : Option Value) (l h : Int) (hl : (lo = none ∧ l = 0) ∨ ∃ k, lo = some (.int k l)) (hh : (hi = none ∧ h = n) ∨ ∃ k, hi = some (.int k h)) (h0 : 0 ≤ l) (h1 : l ≤ h) (h2 : h ≤ n) (hc : n ≤ cap) :
    (Instr.sliceBounds isSlice n cap lo hi none).run Γ.P w = .ok (l.toNat, h.toNat, cap) w := by
  have a1 : 0 ≤ h := by omega
  have a2 : h ≤ (cap : Int) := by omega
  have a3 : l ≤ ((h.toNat : Nat) : Int) := by omega
  have a4 : l ≤ ((n : Nat) : Int) := by omega
  rcases hh with ⟨rfl, rfl⟩ | ⟨k, rfl⟩ <;> rcases hl with ⟨rfl, rfl⟩ | ⟨k', rfl⟩
  · simp [Instr.sliceBounds]
  · simp [Instr.sliceBounds, run_bound (Γ := Γ) (w := w) k' l n _ h0 a4]
  · simp [Instr.sliceBounds, run_bound (Γ := Γ) (w := w) k h cap _ a1 a2]
  · simp only [Instr.sliceBounds, Sem.run_bind, Sem.run_pure, Result.andThen_ok, run_bound (Γ := Γ) (w := w) k h cap _ a1 a2, run_bound (Γ := Γ) (w := w) k' l h.toNat _ h0 a3]

theorem arrSlice_sound (T : TypeId) (x : SV) (xv : Value) (lo hi : Option SV) (lov hiv : Option Value) (hx : SRep Γ.P D w ow μ st x xv)
    (hlo : ∀ s u, lo = some s → lov = some u → SRep Γ.P D w ow μ st s u) (hlo' : lo.isSome = lov.isSome) (hhi : ∀ s u, hi = some s → hiv = some u → SRep Γ.P D w ow μ st s u) (hhi' : hi.isSome = hiv.isSome)
    {r : Bool × SV} (h : arrSlice Γ.P T x lo hi = some r) (h1 : r.1 = true) : ∃ u, (Instr.sliceAt T xv lov hiv none).run Γ.P w = .ok u w ∧ SRep Γ.P D w ow μ st r.2 u := by
  unfold arrSlice at h
  split at h
  case h_2 => cases h
  rename_i n E k T' hT
  split at h
  case h_2 => cases h
  rename_i l hh hbl hbh
  cases hb : (Nat.beq T T' && elemLay Γ.P E) with
  | false => rw [hb] at h; cases h
  | true =>
    rw [hb] at h
    simp only [cond_true, Option.some.injEq] at h
    subst h
    simp only [Bool.and_eq_true, elemLay, Bool.not_eq_true'] at hb
    have := Nat.eq_of_beq_eq_true hb.1; subst this
    have hne : Γ.P.cellsOf E ≠ 0 := fun e => by have := hb.2.1.1; rw [e] at this; cases this
    obtain ⟨inf, hinf, hs⟩ := info_of_cells hne
    simp only [decide_eq_true_eq] at h1
    obtain ⟨h0, h1, h2, h3⟩ := h1
    have q1 := bnd_spec hlo hlo' hbl
    have q2 := bnd_spec hhi hhi' hbh
    have hr := run_bounds (Γ := Γ) (w := w) false n n lov hiv l hh q1 q2 h0 h2 h3 (Nat.le_refl _)
    cases hx with
    | ref hk hp =>
      simp only [pathOff, Option.some.injEq, Prod.mk.injEq] at hp
      obtain ⟨rfl, rfl⟩ := hp
      refine ⟨.slice (some ⟨μ k, l.toNat * Γ.P.cellsOf E, none⟩) (hh.toNat - l.toNat) (n - l.toNat), ?_, .asl hk hT (by omega) (by omega)⟩
      simp only [Instr.sliceAt, Instr.sureAddr, Sem.run_bind, run_underlying hT, Result.andThen_ok, Sem.run_pure, hr, run_sizeOf' hinf hs]
      rw [if_neg (by omega)]
      simp [addr_add]

theorem convSt_sound (hw : WRel Γ D ow μ st w) (src dst : TypeId) (x : SV) (a : Value) (v : SV) (ha : SRep Γ.P D w ow μ st x a) (h : convStAc Γ.P st src dst x = .val true v) : ∃ u, (convert src dst a).run Γ.P w = .ok u w ∧ SRep Γ.P D w ow μ st v u := by
  unfold convStAc at h
  split at h
  case h_2 => exact conv_sound src dst x a v ha h
  rename_i k lo n E
  split at h
  case h_2 => cases h
  rename_i TB TB' pv hd hk
  cases hb : (Nat.beq TB TB' && arrOf Γ.P TB E && srcBytes Γ.P src E) with
  | false => rw [hb] at h; cases h
  | true =>
    rw [hb] at h
    simp only [cond_true, Ac.val.injEq, true_and] at h; subst h
    simp only [Bool.and_eq_true] at hb
    obtain ⟨⟨hb1, hb2⟩, hb3⟩ := hb
    have := Nat.eq_of_beq_eq_true hb1; subst this
    cases ha with
    | @asl _ _ _ m cap _ TB2 v2 hk2 hT hl hc =>
      rw [hk] at hk2
      simp only [Option.some.injEq, BX.box.injEq] at hk2
      obtain ⟨rfl, rfl⟩ := hk2
      obtain ⟨cells, T', q1, q2, q3, q4, q5⟩ := hw.box k TB _ hk
      obtain ⟨a1, a2, a3, a4, a5⟩ := arr_cells hT q5 q2
      have hcE : Γ.P.cellsOf E = 1 := by
        unfold srcBytes at hb3
        simp only [Bool.and_eq_true] at hb3
        exact Nat.eq_of_beq_eq_true hb3.2
      have hcT : Γ.P.cellsOf TB = m := by
        unfold arrOf at hb2
        rw [hT] at hb2
        simp only [Bool.and_eq_true] at hb2
        have := Nat.eq_of_beq_eq_true hb2.2
        rw [hcE] at this; omega
      refine ⟨_, bytes_sound (D := fun _ _ => True) hb3 hd ?_, .str⟩
      have hlen : ((pv.parts.drop lo).take n).length = n := by simp; omega
      have e := SliceRep.mk (P := Γ.P) (D := fun _ _ => True) (w := w) (E := E) (b := μ k) (off := lo * Γ.P.cellsOf E) (cap := cap) (xs := (pv.parts.drop lo).take n) (L := (cells.drop lo).take n) (by omega) (by rw [hlen, hcE]; simp; omega) (fun i x hx => ?_) (fun j u hj => ⟨trivial, ?_⟩)
      · rw [hlen] at e; exact e
      · have hi : i < n := by have := (List.getElem?_eq_some_iff.1 hx).1; omega
        rw [List.getElem?_take_of_lt hi, List.getElem?_drop] at hx
        have r := a5 (lo + i) x hx
        rw [hcE, Nat.mul_one] at r ⊢
        have e2 : (((cells.drop lo).take n).drop i).take 1 = (cells.drop (lo + i)).take 1 := by
          rw [List.drop_take, List.take_take, List.drop_drop, Nat.min_eq_left (by omega)]
        rw [e2]
        exact r.mono (fun _ _ _ => trivial) (Keeps.refl _ _)
      · have hj' : j < n := by have := (List.getElem?_eq_some_iff.1 hj).1; rw [List.length_take] at this; omega
        rw [List.getElem?_take_of_lt hj', List.getElem?_drop] at hj
        simp [World.cell?, q1, hj, hcE]

theorem slice_sound (T : TypeId) (x0 : SV) (lo hi mx : Option SV) (xv : Value) (lov hiv mxv : Option Value) (v : SV) (hx : SRep Γ.P D w ow μ st x0 xv)
    (hlo : ∀ s u, lo = some s → lov = some u → SRep Γ.P D w ow μ st s u) (hlo' : lo.isSome = lov.isSome) (hhi : ∀ s u, hi = some s → hiv = some u → SRep Γ.P D w ow μ st s u) (hhi' : hi.isSome = hiv.isSome) (hmx : mx.isSome = mxv.isSome)
    (h : sliceAc Γ.P T x0 lo hi mx = .val true v) : ∃ u, (Instr.sliceAt T xv lov hiv mxv).run Γ.P w = .ok u w ∧ SRep Γ.P D w ow μ st v u := by
  unfold sliceAc at h
  split at h
  · simp at h
  · have hm : mxv = none := by simpa using hmx.symm
    subst hm
    cases he0 : arrSlice Γ.P T x0 lo hi with
    | some r =>
      rw [he0] at h
      simp only [Ac.val.injEq] at h
      obtain ⟨h1, rfl⟩ := h
      exact arrSlice_sound T x0 xv lo hi lov hiv hx hlo hlo' hhi hhi' he0 h1
    | none =>
    rw [he0] at h
    simp only at h
    split at h
    · rename_i s hT
      split at h
      · rename_i l hh hbl hbh
        simp only [Ac.val.injEq, decide_eq_true_eq] at h
        obtain ⟨⟨h0, h1, h2⟩, rfl⟩ := h
        cases hx
        have q1 := bnd_spec hlo hlo' hbl
        have q2 := bnd_spec hhi hhi' hbh
        have hsz : (⟨s.toArray⟩ : ByteArray).size = s.length := by show s.toArray.size = _; simp
        have hr := run_bounds (Γ := Γ) (w := w) false s.length s.length lov hiv l hh q1 q2 h0 h1 h2 (Nat.le_refl _)
        refine ⟨_, ?_, .str (s := (s.take hh.toNat).drop l.toNat)⟩
        simp only [Instr.sliceAt, Sem.run_bind, run_underlying hT, Result.andThen_ok, Instr.slice, hsz, Option.isSome_none, Bool.false_eq_true, if_false, Sem.run_pure, ByteArray.extract_mk, List.drop_take]
        rw [hr]
        rfl
      · simp at h
    · rename_i x0 _ _ E hT
      split at h
      · rename_i xs hl
        split at h
        · rename_i l hh hbl hbh
          cases he : (elemOk Γ.P E x0 && !(Nat.beq (Γ.P.cellsOf E) 0)) with
          | false => rw [he] at h; simp at h
          | true =>
            rw [he] at h
            simp only [cond_true, Ac.val.injEq, decide_eq_true_eq] at h
            obtain ⟨⟨h0, h1, h2⟩, rfl⟩ := h
            simp only [Bool.and_eq_true, Bool.not_eq_true'] at he
            have hne : Γ.P.cellsOf E ≠ 0 := fun e => by rw [e] at he; cases he.2
            have hsl := slice_list hx hl he.1
            have q1 := bnd_spec hlo hlo' hbl
            have q2 := bnd_spec hhi hhi' hbh
            cases hsl with
            | @nil ad cp hac =>
              have e1 : hh = 0 := by simp at h2; omega
              have e2 : l = 0 := by omega
              subst e1; subst e2
              obtain ⟨inf, hi, hs⟩ := info_of_cells hne
              have hr := run_bounds (Γ := Γ) (w := w) true 0 cp lov hiv 0 0 q1 (by simpa using q2) (by omega) (by omega) (by omega) (Nat.zero_le _)
              refine ⟨.slice (if cp = 0 then ad else ad.map (·.add (0 * Γ.P.cellsOf E))) 0 cp, ?_, .slice (.nil fun he => ?_)⟩
              · simp only [Instr.sliceAt, Sem.run_bind, run_underlying hT, Result.andThen_ok, Instr.slice, hr, run_sizeOf' hi hs]
                rfl
              · by_cases hc : cp = 0
                · exact hc
                · rw [if_neg hc] at he
                  cases ad with
                  | none => exact hac rfl
                  | some a => simp at he
            | @mk b off cap _ L hcap hL hrep hheld =>
              obtain ⟨inf, hi, hs⟩ := info_of_cells hne
              have hr := run_bounds (Γ := Γ) (w := w) true xs.length cap lov hiv l hh q1 q2 h0 h1 h2 hcap
              have hlen : ((xs.take hh.toNat).drop l.toNat).length = hh.toNat - l.toNat := by simp; omega
              by_cases e : cap = l.toNat
              · have e0 : hh.toNat - l.toNat = 0 := by omega
                have e1 : (xs.take hh.toNat).drop l.toNat = [] := List.eq_nil_of_length_eq_zero (by omega)
                refine ⟨.slice (some ⟨b, off, none⟩) 0 0, ?_, ?_⟩
                · simp only [Instr.sliceAt, Sem.run_bind, run_underlying hT, Result.andThen_ok, Instr.slice, hr, run_sizeOf' hi hs, Sem.run_pure, Option.map_some, addr_add]
                  rw [if_pos e, e0, e, Nat.sub_self]
                · rw [e1]
                  exact .slice (.mk (xs := []) (L := []) (by simp) (by simp) (fun i y hy => by simp at hy) (fun j v hj => by simp at hj))
              refine ⟨.slice (some ⟨b, off + l.toNat * Γ.P.cellsOf E, none⟩) (hh.toNat - l.toNat) (cap - l.toNat), ?_, ?_⟩
              · simp only [Instr.sliceAt, Sem.run_bind, run_underlying hT, Result.andThen_ok, Instr.slice, hr, run_sizeOf' hi hs, Sem.run_pure, Option.map_some, addr_add]
                rw [if_neg e]
              · rw [← hlen]
                refine .slice (.mk (L := (L.drop (l.toNat * Γ.P.cellsOf E)).take ((hh.toNat - l.toNat) * Γ.P.cellsOf E)) (by rw [hlen]; omega) ?_ (fun i y hy => ?_) (hheld.sub _ _))
                · rw [hlen]
                  have : hh.toNat * Γ.P.cellsOf E ≤ xs.length * Γ.P.cellsOf E := Nat.mul_le_mul_right _ (by omega)
                  have h3 : (hh.toNat - l.toNat) * Γ.P.cellsOf E = hh.toNat * Γ.P.cellsOf E - l.toNat * Γ.P.cellsOf E := Nat.sub_mul _ _ _
                  rw [List.length_take, List.length_drop, hL]
                  omega
                · have hlt : i < hh.toNat - l.toNat := by have := (List.getElem?_eq_some_iff.1 hy).1; omega
                  rw [List.getElem?_drop, List.getElem?_take_of_lt (by omega)] at hy
                  have := hrep _ _ hy
                  rw [Nat.add_mul] at this
                  rw [List.drop_take, List.take_take, List.drop_drop, Nat.min_eq_left]
                  · exact this
                  · have h4 : (i + 1) * Γ.P.cellsOf E ≤ (hh.toNat - l.toNat) * Γ.P.cellsOf E := Nat.mul_le_mul_right _ (by omega)
                    rw [Nat.add_mul] at h4; omega
        · simp at h
      · simp at h
    · simp at h

theorem len_sound (hw : WRel Γ D ow μ st w) (T : TypeId) (x : SV) (xv : Value) (v : SV) (hx : SRep Γ.P D w ow μ st x xv) (h : lenAc Γ.P T st x = .val true v) (ty : TypeId) :
    ∃ u, (Builtin.len_ #[T] ty #[xv]).run Γ.P w = .ok u w ∧ SRep Γ.P D w ow μ st v u := by
  unfold lenAc at h
  split at h
  · rename_i s hT
    simp only [Ac.val.injEq, true_and] at h; subst h
    cases hx
    have hsz : (⟨s.toArray⟩ : ByteArray).size = s.length := by show s.toArray.size = _; simp
    exact ⟨.int .i64 s.length, by simp [Builtin.len_, run_underlying hT, goInt, hsz], .int⟩
  · rename_i E E' xs hT
    simp only [Ac.val.injEq, true_and] at h; subst h
    cases hx with
    | slice hs => cases hs <;> exact ⟨_, by simp [Builtin.len_, run_underlying hT, goInt], .int⟩
  · rename_i E k g E' xs hT
    simp only [Ac.val.injEq, true_and] at h; subst h
    cases hx with
    | acc hs => cases hs <;> exact ⟨_, by simp [Builtin.len_, run_underlying hT, goInt], .int⟩
  · rename_i E E' xs hT
    simp only [Ac.val.injEq, true_and] at h; subst h
    cases hx with
    | lit hs => exact ⟨_, by simp [Builtin.len_, run_underlying hT, goInt], .int⟩
  · rename_i E hT
    simp only [Ac.val.injEq, true_and] at h; subst h
    cases hx
    exact ⟨_, by simp [Builtin.len_, run_underlying hT, goInt], .int⟩
  · rename_i E k g E' hT
    split at h
    · rename_i xs hat
      have hk0 := arrAt_some hat
      simp only [Ac.val.injEq, true_and] at h; subst h
      cases hx with
      | arrOld hk hg => rw [hk0] at hk; cases hk; omega
      | arrNil hk => rw [hk0] at hk; cases hk; exact ⟨_, by simp [Builtin.len_, run_underlying hT, goInt], .int⟩
      | arr hk => rw [hk0] at hk; cases hk; exact ⟨_, by simp [Builtin.len_, run_underlying hT, goInt], .int⟩
    · cases h
  · rename_i K E K' E' es hT
    simp only [Ac.val.injEq, true_and] at h; subst h
    cases hx with
    | map hs =>
      cases hs with
      | nil => exact ⟨_, by simp [Builtin.len_, run_underlying hT, goInt], .int⟩
      | mk kc vc hh hd hsz => exact ⟨.int .i64 es.length, by simp [Builtin.len_, run_underlying hT, goInt, getObj, Sem.run, hh, hsz], .int⟩
  · rename_i K E k hT
    split at h
    · rename_i K' E' es hk
      simp only [Ac.val.injEq, true_and] at h; subst h
      cases hx
      obtain ⟨ents, clock, kc, vc, h1, _, _, h4, _⟩ := hw.map k K' E' es hk
      exact ⟨.int .i64 es.length, by simp [Builtin.len_, run_underlying hT, goInt, getObj, Sem.run, h1, h4], .int⟩
    · simp at h
  · simp at h

theorem field_sound (S : TypeId) (i : Nat) (a : SV) (av : Value) (v : SV) (ha : SRep Γ.P D w ow μ st a av) (h : fieldAc Γ.P S i a = .val true v) :
    ∃ u, (Instr.field S av i).run Γ.P w = .ok u w ∧ SRep Γ.P D w ow μ st v u := by
  unfold fieldAc at h
  split at h
  · rename_i fs hS
    split at h
    · rename_i f hf
      cases hc : (layoutOk Γ.P S && elemLay Γ.P f.type) with
      | false => rw [hc] at h; simp at h
      | true =>
        rw [hc] at h
        simp only [cond_true] at h
        simp only [Bool.and_eq_true, elemLay, Bool.not_eq_true', Bool.or_eq_true] at hc
        obtain ⟨hL, ⟨hb2, hb3⟩, hb4⟩ := hc
        have hL := layoutOk_spec hL hS
        have key : ∀ cs : List Value, cs.length = Γ.P.cellsOf S → (Instr.field S (.agg cs.toArray) i).run Γ.P w = .ok (pack Γ.P f.type ((cs.drop f.offset).take (Γ.P.cellsOf f.type))) w := by
          intro cs hl
          have hp := run_part hb3 cs f.offset (by rw [hl]; exact hL.inside i f hf) (hb4.imp id Nat.eq_of_beq_eq_true) w
          simp only [Instr.field, Sem.run_bind, run_underlying hS, Result.andThen_ok, hf, asAgg, Sem.run_pure]
          exact hp
        split at h
        · rename_i T pv
          cases hb : Nat.beq S T with
          | false => rw [hb] at h; simp at h
          | true =>
            rw [hb] at h
            simp only [cond_true, Ac.val.injEq, true_and] at h
            have := Nat.eq_of_beq_eq_true hb; subst this; subst h
            cases ha with
            | @data _ _ cs hagg hr =>
              refine ⟨_, key cs (hr.aggLen hagg), ?_⟩
              cases hr with
              | @agg _ fs2 vs _ hT2 hl2 ho2 hv2 hr2 =>
                rw [hS] at hT2; cases hT2
                have hlt : i < vs.length := by rw [hv2]; exact (Array.getElem?_eq_some_iff.1 hf).1
                have hvi : vs[i]? = some vs[i] := List.getElem?_eq_getElem hlt
                rw [fld_get hvi]
                exact (hr2 i vs[i] f hvi hf).ofPV
              | arr hT2 => rw [hS] at hT2; cases hT2
              | bool hT2 => rw [hS] at hT2; cases hT2
              | int hT2 => rw [hS] at hT2; cases hT2
              | str hT2 => rw [hS] at hT2; cases hT2
              | nil hT2 => rw [hS] at hT2; cases hT2
              | slice hT2 => rw [hS] at hT2; cases hT2
              | mapnil hT2 => rw [hS] at hT2; cases hT2
              | map _ _ hT2 => rw [hS] at hT2; cases hT2
              | raw hr2 => simp [rawT, hS] at hr2
        · rename_i T vs
          cases hb : Nat.beq S T with
          | false => rw [hb] at h; simp at h
          | true =>
            rw [hb] at h
            simp only [cond_true] at h
            have := Nat.eq_of_beq_eq_true hb; subst this
            split at h
            · rename_i x hx
              simp only [Ac.val.injEq, true_and] at h; subst h
              cases ha with
              | @agg _ fs2 _ cs hT2 hl2 ho2 hv2 hp2 =>
                rw [hS] at hT2; cases hT2
                exact ⟨_, key cs hl2, hp2 i _ f hx hf⟩
            · simp at h
        · simp at h
    · simp at h
  · simp at h
end
end Go.Ab
