/- Structs of plain fields: are they equal? -/
import Derived.Test.YtjogoleiodbfdaaAbRead
import Derived.Laws.StructEq
set_option linter.unusedVariables false
set_option linter.unusedSimpArgs false
set_option linter.unnecessarySimpa false
namespace Go.Ab
open Go

theorem info_of_cells {P : Program} {T : TypeId} (h : P.cellsOf T ≠ 0) : ∃ i, P.info? T = some i ∧ i.size = P.cellsOf T := by
  cases hi : P.info? T with
  | none => simp [Program.cellsOf, hi] at h
  | some i => exact ⟨i, rfl, by simp [Program.cellsOf, hi]⟩
theorem info_of_under {P : Program} {T : TypeId} {d : TypeDesc} (h : P.underlying T = some d) : ∃ i, P.info? T = some i ∧ i.size = P.cellsOf T := by
  cases hi : P.info? T with
  | none => simp [Program.underlying, hi] at h
  | some i => exact ⟨i, rfl, by simp [Program.cellsOf, hi]⟩
theorem run_sizeOf' {P : Program} {T : TypeId} {i : TypeInfo} (h : P.info? T = some i) (hs : i.size = P.cellsOf T) (w : World) : (sizeOf T).run P w = .ok (P.cellsOf T) w := by
  simp [sizeOf, typeInfo, h, hs]
theorem run_isAgg' {P : Program} {T : TypeId} (h : (P.underlying T).isSome = true) (w : World) : (isAgg T).run P w = .ok (isAggB P T) w := by
  obtain ⟨d, hd⟩ := Option.isSome_iff_exists.1 h
  cases d <;> simp [isAgg, run_underlying hd, isAggB, hd]

/-- A part of a struct's value. -/
theorem run_part {P : Program} {T : TypeId} (hT : (P.underlying T).isSome = true) (cs : List Value) (off : Nat) (h : off + P.cellsOf T ≤ cs.length) (h1 : isAggB P T = true ∨ P.cellsOf T = 1) (w : World) :
    (part T cs.toArray off).run P w = .ok (pack P T ((cs.drop off).take (P.cellsOf T))) w := by
  unfold part
  simp only [Sem.run_bind, run_isAgg' hT, Result.andThen_ok]
  cases ha : isAggB P T with
  | true =>
    obtain ⟨d, hd⟩ := Option.isSome_iff_exists.1 hT
    obtain ⟨i, hi, hs⟩ := info_of_under hd
    simp only [if_true, Sem.run_bind, run_sizeOf' hi hs, Result.andThen_ok, pack, ha]
    simp [List.extract_toArray, List.extract_eq_take_drop]
  | false =>
    have h1 : P.cellsOf T = 1 := by rcases h1 with h1 | h1 <;> simp_all
    rw [h1] at h ⊢
    have hlt : off < cs.length := by omega
    have e : (cs.drop off).take 1 = [cs[off]] := by rw [List.drop_eq_getElem_cons hlt]; rfl
    simp [hlt, pack, ha, e]


section
variable {P : Program} {D : Dom} {ow : Own} {μ : Nat → Nat} {st : List BX} {w : World}

/-- A struct's value, by its parts. -/
theorem expand_agg {T : TypeId} {s : SV} {fs : List SV} {v : Value} (h : SRep P D w ow μ st s v) (he : expand P T s = some fs) : SRep P D w ow μ st (.agg T fs) v := by
  have h0 := he
  unfold expand at he
  cases hl : layoutOk P T with
  | false => rw [hl] at he; cases he
  | true =>
    rw [hl] at he
    simp only [cond_true] at he
    split at he
    · rename_i T' fs'
      cases hb : Nat.beq T T' with
      | false => rw [hb] at he; cases he
      | true =>
        rw [hb] at he
        simp only [cond_true, Option.some.injEq] at he; subst he
        have := Nat.eq_of_beq_eq_true hb; subst this
        exact h
    · rename_i T' pv
      cases hb : Nat.beq T T' with
      | false => rw [hb] at he; cases he
      | true =>
        rw [hb] at he
        simp only [cond_true] at he
        have := Nat.eq_of_beq_eq_true hb; subst this
        split at he
        · rename_i ds hT
          cases h with
          | @data _ _ cs ha hr =>
            have hp : SRep P D w ow μ st (.data T pv) (pack P T cs) := by
              simp only [pack, ha, if_true]; exact .data ha hr
            obtain ⟨h1, h2, h3, h4, h5⟩ := expand_sound hp h0 hT
            exact .agg hT h2 h4 h3 h5
        · cases he
    · cases he

theorem fieldEq_sound {T : TypeId} {x y : SV} {a b : Value} {r : Bool} (hx : SRep P D w ow μ st x a) (hy : SRep P D w ow μ st y b) (h : fieldEq P T x y = some r) (d : Nat) : (Op.equalIn (d + 1) T a b).run P w = .ok r w := by
  unfold fieldEq at h
  split at h
  · rename_i hT
    cases hx; cases hy
    simp only [Option.some.injEq] at h; subst h
    exact run_equalIn_bool w d T _ _ hT
  · rename_i k0 k a' k' b' hT
    cases hx; cases hy
    cases hkk : decide (k = k') with
    | false => rw [hkk] at h; cases h
    | true =>
      rw [hkk] at h
      have := of_decide_eq_true hkk; subst this
      simp only [cond_true, Option.some.injEq] at h; subst h
      exact run_equalIn_int w d T k k0 _ _ hT
  · rename_i hT
    cases hx; cases hy
    simp only [Option.some.injEq] at h; subst h
    rw [run_equalIn_string w d T _ _ hT]
    simp [ByteArray.toList_mk]
  · cases h

theorem structEq_sound (d : Nat) {xc yc : List Value} : ∀ (ds : List Field) (xs ys : List SV) (r : Bool), structEq P ds xs ys = some r → (∀ f, f ∈ ds → f.name ≠ "_") →
    (∀ (i : Nat) (f : Field) (x : SV), ds[i]? = some f → xs[i]? = some x → ∃ a, (part f.type xc.toArray f.offset).run P w = .ok a w ∧ SRep P D w ow μ st x a) →
    (∀ (i : Nat) (f : Field) (y : SV), ds[i]? = some f → ys[i]? = some y → ∃ a, (part f.type yc.toArray f.offset).run P w = .ok a w ∧ SRep P D w ow μ st y a) →
    (Op.eqFields (d + 1) xc.toArray yc.toArray ds).run P w = .ok r w := by
  intro ds
  induction ds with
  | nil =>
    intro xs ys r h _ _ _
    cases xs <;> cases ys <;> simp [structEq] at h
    subst h
    simp [Op.eqFields]
  | cons f ds ih =>
    intro xs ys r h hn hx hy
    cases xs with
    | nil => simp [structEq] at h
    | cons x xs =>
      cases ys with
      | nil => simp [structEq] at h
      | cons y ys =>
        simp only [structEq] at h
        split at h
        · rename_i b c hb hc
          simp only [Option.some.injEq] at h; subst h
          obtain ⟨a1, p1, q1⟩ := hx 0 f x rfl rfl
          obtain ⟨a2, p2, q2⟩ := hy 0 f y rfl rfl
          have he := fieldEq_sound q1 q2 hb d
          have hi := ih xs ys c hc (fun g hg => hn g (by simp [hg])) (fun i g z h1 h2 => hx (i + 1) g z (by simpa using h1) (by simpa using h2)) (fun i g z h1 h2 => hy (i + 1) g z (by simpa using h1) (by simpa using h2))
          simp only [Op.eqFields, hn f (by simp), ne_eq, not_false_eq_true, if_true, Sem.run_bind, p1, p2, he, Result.andThen_ok]
          cases b
          · simp
          · simpa using hi
        · cases h

theorem struct_sound (T : TypeId) (op : BinOp) (x y : SV) (a b : Value) (v : SV) (ha : SRep P D w ow μ st x a) (hb : SRep P D w ow μ st y b) (h : structAc P op T x y = .val true v) (ox oy : Operand) :
    ∃ u, (do eqGuard op T ox oy a b; binOp op T a b : Sem Value).run P w = .ok u w ∧ SRep P D w ow μ st v u := by
  unfold structAc at h
  split at h
  · rename_i ds xs ys hT hxs hys
    have hax := expand_agg ha hxs
    have hby := expand_agg hb hys
    have hlay : layoutOk P T = true := by
      unfold expand at hxs
      cases hl : layoutOk P T with
      | true => rfl
      | false => rw [hl] at hxs; cases hxs
    have hL := layoutOk_spec hlay hT
    cases hc : (ds.toList.all (fun f => !(f.name == "_")) && !(P.stoodInHeld T) && !(P.eqGuardType P.depth T)) with
    | false => rw [hc] at h; cases h
    | true =>
      rw [hc] at h
      simp only [cond_true] at h
      simp only [Bool.and_eq_true, Bool.not_eq_true'] at hc
      obtain ⟨⟨c1, c2⟩, c3⟩ := hc
      cases hax with
      | @agg _ fs _ cs hT1 hl1 ho1 hv1 hp1 =>
        rw [hT] at hT1; cases hT1
        cases hby with
        | @agg _ fs2 _ cs2 hT2 hl2 ho2 hv2 hp2 =>
          rw [hT] at hT2; cases hT2
          have hf : P.fieldsOf T = ds := by simp [Program.fieldsOf, hT]
          have hone : ∀ (zc : List Value) (zs : List SV), zc.length = P.cellsOf T → (∀ (i : Nat) (v : SV) (f : Field), zs[i]? = some v → ds[i]? = some f → SRep P D w ow μ st v (pack P f.type ((zc.drop f.offset).take (P.cellsOf f.type)))) →
              ∀ (i : Nat) (f : Field) (z : SV), ds.toList[i]? = some f → (P.underlying f.type).isSome = true → zs[i]? = some z → ∃ u, (part f.type zc.toArray f.offset).run P w = .ok u w ∧ SRep P D w ow μ st z u := by
            intro zc zs hl hz i f z hf hs hzi
            have hfi : ds[i]? = some f := by simpa using hf
            exact ⟨_, run_part hs zc f.offset (by rw [hl]; exact hL.inside i f hfi) (by rcases hL.one i f hfi with h | h; exact Or.inl h; exact Or.inr h) w, hz i z f hzi hfi⟩
          have hsome : ∀ (ds : List Field) (xs ys : List SV) (r : Bool), structEq P ds xs ys = some r → ∀ f, f ∈ ds → (P.underlying f.type).isSome = true := by
            intro ds
            induction ds with
            | nil => intro xs ys r _ f hf; cases hf
            | cons g r ih =>
              intro xs ys b hb f hf
              cases xs with
              | nil => simp [structEq] at hb
              | cons x xs =>
                cases ys with
                | nil => simp [structEq] at hb
                | cons y ys =>
                  simp only [structEq] at hb
                  split at hb
                  · rename_i b1 b2 h1 h2
                    rcases List.mem_cons.1 hf with rfl | hf
                    · unfold fieldEq at h1
                      split at h1 <;> first | (rename_i hT; rw [hT]; rfl) | cases h1
                    · exact ih xs ys b2 h2 f hf
                  · cases hb
          have key : ∀ r, structEq P ds.toList xs ys = some r → (Op.equalIn 10000 T (.agg cs.toArray) (.agg cs2.toArray)).run P w = .ok r w := by
            intro r hr
            rw [run_equalIn_struct w 9999 T cs.toArray cs2.toArray (by rw [hf]; exact hT) c2, hf]
            refine structEq_sound 9998 ds.toList xs ys r hr (fun f hf => ?_) (fun i f z h1 h2 => hone cs xs hl1 hp1 i f z h1 (hsome _ _ _ _ hr f (List.mem_of_getElem? h1)) h2) (fun i f z h1 h2 => hone cs2 ys hl2 hp2 i f z h1 (hsome _ _ _ _ hr f (List.mem_of_getElem? h1)) h2)
            have := List.all_eq_true.1 c1 f hf
            simpa using this
          split at h
          · rename_i r hr
            simp only [Ac.val.injEq, true_and] at h; subst h
            exact ⟨.bool r, by rw [Sem.run_bind, run_eqGuard_agg w .eql T ox oy _ _ c3, Result.andThen_ok, run_eql_struct, key r hr]; rfl, .bool⟩
          · rename_i r hr
            simp only [Ac.val.injEq, true_and] at h; subst h
            exact ⟨.bool (!r), by rw [Sem.run_bind, run_eqGuard_agg w .neq T ox oy _ _ c3, Result.andThen_ok, run_neq_struct, key r hr]; rfl, .bool⟩
          · cases h
  · cases h
end
end Go.Ab
