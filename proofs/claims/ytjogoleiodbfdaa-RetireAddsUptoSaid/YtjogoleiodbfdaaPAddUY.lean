/- Lists of uses: counts in a map, and counts in a sorted list. -/
import Derived.Test.YtjogoleiodbfdaaAbSrt3Y
set_option linter.unusedVariables false
set_option linter.unusedSimpArgs false
set_option linter.unnecessarySimpa false
namespace Go.Ab
open Go
set_option maxRecDepth 100000

def eqK (x y : UseT) : Bool := x.1 == y.1 && x.2.1 == y.2.1
theorem eqK_iff {x y : UseT} : eqK x y = true ↔ x.1 = y.1 ∧ x.2.1 = y.2.1 := by simp [eqK]
theorem eqK_refl (x : UseT) : eqK x x = true := by simp [eqK]
theorem eqK_symm {x y : UseT} (h : eqK x y = true) : eqK y x = true := by rw [eqK_iff] at *; exact ⟨h.1.symm, h.2.symm⟩
theorem eqK_trans {x y z : UseT} (h : eqK x y = true) (k : eqK y z = true) : eqK x z = true := by rw [eqK_iff] at *; exact ⟨h.1.trans k.1, h.2.trans k.2⟩
theorem eqK_comm (x y : UseT) : eqK x y = eqK y x := by
  cases h : eqK y x with
  | true => exact eqK_symm h
  | false => cases k : eqK x y with
    | true => rw [eqK_symm k] at h; cases h
    | false => rfl
theorem ltU_cong {x x' y y' : UseT} (h : eqK x x' = true) (k : eqK y y' = true) : ltU x y = ltU x' y' := by
  rw [eqK_iff] at h k
  unfold ltU
  rw [h.1, h.2, k.1, k.2]
theorem ltU_ne {x y : UseT} (h : ltU x y = true) : eqK x y = false := by
  cases e : eqK x y with
  | false => rfl
  | true => rw [ltU_cong e (eqK_refl y), swo_ltU.irrefl] at h; cases h
theorem ltU_asymm {x y : UseT} (h : ltU x y = true) : ltU y x = false := by
  cases e : ltU y x with
  | false => rfl
  | true => have := swo_ltU.trans _ _ _ h e; rw [swo_ltU.irrefl] at this; cases this
theorem triU (x y : UseT) : ltU x y = true ∨ eqK x y = true ∨ ltU y x = true := by
  rcases Classical.em (x.1 = y.1) with h | h
  · rcases Int.lt_trichotomy x.2.1 y.2.1 with q | q | q
    · exact .inl ((ltU_iff _ _).2 (.inr ⟨h, q⟩))
    · exact .inr (.inl (eqK_iff.2 ⟨h, q⟩))
    · exact .inr (.inr ((ltU_iff _ _).2 (.inr ⟨h.symm, q⟩)))
  · by_cases q : x.1 < y.1
    · exact .inl ((ltU_iff _ _).2 (.inl q))
    · refine .inr (.inr ((ltU_iff _ _).2 (.inl ?_)))
      rcases List.not_lt.1 q |> List.le_iff_lt_or_eq.1 with q | q
      · exact q
      · exact absurd q.symm h

def w64 (n : Int) : Int := IntKind.wrap .i64 n
theorem w64_add (a b : Int) : w64 (w64 a + b) = w64 (a + b) := by
  unfold w64
  rw [IntKind.wrap_i64, IntKind.wrap_i64, IntKind.wrap_i64]
  omega
/-- A sorted list with a count added. -/
def withU : List UseT → UseT → List UseT
  | [], u => [u]
  | x :: r, u => bif ltU x u then x :: withU r u else bif eqK x u then (u.1, u.2.1, w64 (u.2.2 + x.2.2)) :: r else u :: x :: r
/-- A map with a count added. -/
def addU : List UseT → UseT → List UseT
  | [], u => [(u.1, u.2.1, w64 (0 + u.2.2))]
  | x :: r, u => bif eqK x u then (x.1, x.2.1, w64 (x.2.2 + u.2.2)) :: r else x :: addU r u
def insU (x : UseT) : List UseT → List UseT
  | [] => [x]
  | y :: r => bif ltU x y then x :: y :: r else y :: insU x r
def srtU : List UseT → List UseT
  | [] => []
  | x :: r => insU x (srtU r)
def okU : List UseT → Bool
  | [] => true
  | x :: r => r.all (fun y => !eqK x y) && okU r
theorem okU_cons {x : UseT} {r : List UseT} : okU (x :: r) = true ↔ (∀ y, y ∈ r → eqK x y = false) ∧ okU r = true := by
  simp [okU]

theorem useOf_ofUse (u : UseT) : useOf (ofUse u) = u := rfl
theorem insP_map (x : UseT) : ∀ l : List UseT, insP (ofUse x) (l.map ofUse) = (insU x l).map ofUse
  | [] => rfl
  | y :: r => by
    simp only [List.map_cons, insP, insU, insP_map x r]
    show (bif ltU x y then _ else _) = _
    cases ltU x y <;> rfl
theorem sortP_map : ∀ l : List UseT, sortP (l.map ofUse) = (srtU l).map ofUse
  | [] => rfl
  | x :: r => by simp only [List.map_cons, sortP, srtU, sortP_map r, insP_map]
theorem keysNe_map : ∀ l : List UseT, okU l = true → keysNe (l.map ofUse) = true
  | [], _ => rfl
  | x :: r, h => by
    rw [okU_cons] at h
    simp only [List.map_cons, keysNe, keysNe_map r h.2, Bool.and_true, List.all_map, List.all_eq_true]
    intro y hy
    show (ltU x y || ltU y x) = true
    have := h.1 y hy
    rcases triU x y with q | q | q
    · rw [q]; rfl
    · rw [q] at this; cases this
    · rw [q, Bool.or_true]
theorem insU_mem {x : UseT} : ∀ {l : List UseT} {y : UseT}, y ∈ insU x l ↔ y = x ∨ y ∈ l
  | [], y => by simp [insU]
  | z :: r, y => by
    unfold insU
    cases ltU x z with
    | true => simp
    | false => simp only [cond_false, List.mem_cons, insU_mem]; constructor <;> (rintro (h | h | h) <;> simp [h])
theorem srtU_mem : ∀ {l : List UseT} {y : UseT}, y ∈ srtU l ↔ y ∈ l
  | [], y => by simp [srtU]
  | x :: r, y => by simp [srtU, insU_mem, srtU_mem]
theorem insU_pw {x : UseT} : ∀ {l : List UseT}, l.Pairwise (fun a b => ltU a b = true) → (∀ y, y ∈ l → eqK x y = false) → (insU x l).Pairwise (fun a b => ltU a b = true)
  | [], _, _ => by simp [insU]
  | y :: r, h, hx => by
    rw [List.pairwise_cons] at h
    unfold insU
    cases hxy : ltU x y with
    | true =>
      refine List.pairwise_cons.2 ⟨fun z hz => ?_, List.pairwise_cons.2 h⟩
      rcases List.mem_cons.1 hz with rfl | hz
      · exact hxy
      · exact swo_ltU.trans _ _ _ hxy (h.1 z hz)
    | false =>
      refine List.pairwise_cons.2 ⟨fun z hz => ?_, insU_pw h.2 fun z hz => hx z (List.mem_cons_of_mem _ hz)⟩
      rcases insU_mem.1 hz with rfl | hz
      · have := hx y (by simp)
        rcases triU z y with q | q | q
        · rw [hxy] at q; cases q
        · rw [q] at this; cases this
        · exact q
      · exact h.1 z hz
theorem srtU_pw : ∀ {l : List UseT}, okU l = true → (srtU l).Pairwise (fun a b => ltU a b = true)
  | [], _ => .nil
  | x :: r, h => by
    rw [okU_cons] at h
    exact insU_pw (srtU_pw h.2) fun y hy => h.1 y (srtU_mem.1 hy)
/-- Sorted lists are the same for the same elements. -/
theorem pw_ext : ∀ {l l' : List UseT}, l.Pairwise (fun a b => ltU a b = true) → l'.Pairwise (fun a b => ltU a b = true) → (∀ x, x ∈ l ↔ x ∈ l') → l = l'
  | [], [], _, _, _ => rfl
  | [], y :: q, _, _, hm => by have := (hm y).2 (by simp); cases this
  | x :: r, [], _, _, hm => by have := (hm x).1 (by simp); cases this
  | x :: r, y :: q, h, k, hm => by
    rw [List.pairwise_cons] at h k
    have ir : ∀ {z : UseT}, ltU z z ≠ true := fun {z} h => by rw [swo_ltU.irrefl] at h; cases h
    have e : x = y := by
      rcases List.mem_cons.1 ((hm x).1 (by simp)) with e | h1
      · exact e
      · rcases List.mem_cons.1 ((hm y).2 (by simp)) with e | h2
        · exact e.symm
        · exact absurd (swo_ltU.trans _ _ _ (h.1 y h2) (k.1 x h1)) ir
    subst e
    rw [pw_ext h.2 k.2 fun z => ⟨fun hz => ?_, fun hz => ?_⟩]
    · rcases List.mem_cons.1 ((hm z).1 (List.mem_cons_of_mem _ hz)) with rfl | q
      · exact absurd (h.1 _ hz) ir
      · exact q
    · rcases List.mem_cons.1 ((hm z).2 (List.mem_cons_of_mem _ hz)) with rfl | q
      · exact absurd (k.1 _ hz) ir
      · exact q
theorem srtU_perm {l l' : List UseT} (h : okU l = true) (h' : okU l' = true) (hm : ∀ x, x ∈ l ↔ x ∈ l') : srtU l = srtU l' :=
  pw_ext (srtU_pw h) (srtU_pw h') fun x => by rw [srtU_mem, srtU_mem]; exact hm x

/-- One more count. -/
theorem addU_mem {u x : UseT} : ∀ {l : List UseT}, x ∈ addU l u → eqK x u = true ∨ x ∈ l
  | [], h => by simp [addU] at h; subst h; exact .inl (by simp [eqK])
  | y :: r, h => by
    unfold addU at h
    cases e : eqK y u with
    | true =>
      rw [e] at h
      rcases List.mem_cons.1 h with rfl | h
      · exact .inl e
      · exact .inr (List.mem_cons_of_mem _ h)
    | false =>
      rw [e] at h
      rcases List.mem_cons.1 h with rfl | h
      · exact .inr (by simp)
      · rcases addU_mem h with h | h
        · exact .inl h
        · exact .inr (List.mem_cons_of_mem _ h)
theorem addU_ok {u : UseT} : ∀ {l : List UseT}, okU l = true → okU (addU l u) = true
  | [], _ => rfl
  | y :: r, h => by
    rw [okU_cons] at h
    unfold addU
    cases e : eqK y u with
    | true => exact okU_cons.2 ⟨fun z hz => h.1 z hz, h.2⟩
    | false =>
      refine okU_cons.2 ⟨fun z hz => ?_, addU_ok h.2⟩
      rcases addU_mem hz with q | q
      · cases w : eqK y z with
        | false => rfl
        | true => rw [eqK_trans w q] at e; cases e
      · exact h.1 z q
/-- Where the key is not there yet. -/
theorem addU_new {u : UseT} : ∀ {l : List UseT}, (∀ x, x ∈ l → eqK x u = false) → addU l u = l ++ [(u.1, u.2.1, w64 (0 + u.2.2))]
  | [], _ => rfl
  | y :: r, h => by
    unfold addU
    rw [h y (by simp), cond_false, addU_new fun x hx => h x (List.mem_cons_of_mem _ hx)]
    rfl
def bump (u x : UseT) : UseT := bif eqK x u then (x.1, x.2.1, w64 (x.2.2 + u.2.2)) else x
theorem bump_key (u x : UseT) : eqK (bump u x) x = true := by
  unfold bump
  cases eqK x u <;> simp [eqK]
theorem map_bump {u : UseT} {l : List UseT} (h : ∀ x, x ∈ l → eqK x u = false) : l.map (bump u) = l := by
  rw [List.map_congr_left (g := id) fun x hx => by simp [bump, h x hx]]
  simp
theorem addU_old {u : UseT} : ∀ {l : List UseT}, okU l = true → (∃ x, x ∈ l ∧ eqK x u = true) → addU l u = l.map (bump u)
  | [], _, h => by obtain ⟨x, hx, _⟩ := h; cases hx
  | y :: r, h, k => by
    rw [okU_cons] at h
    unfold addU
    cases e : eqK y u with
    | true =>
      have : r.map (bump u) = r := map_bump fun x hx => by
        cases q : eqK x u with
        | false => rfl
        | true => have := h.1 x hx; rw [eqK_trans e (eqK_symm q)] at this; cases this
      rw [List.map_cons, this]
      simp [bump, e]
    | false =>
      obtain ⟨x, hx, q⟩ := k
      rcases List.mem_cons.1 hx with rfl | hx
      · rw [e] at q; cases q
      · rw [List.map_cons, cond_false, addU_old h.2 ⟨x, hx, q⟩]
        simp [bump, e]
theorem insU_bump (u x : UseT) : ∀ l : List UseT, insU (bump u x) (l.map (bump u)) = (insU x l).map (bump u)
  | [] => rfl
  | y :: r => by
    simp only [List.map_cons, insU, insU_bump u x r, ltU_cong (bump_key u x) (bump_key u y)]
    cases ltU x y <;> rfl
theorem srtU_bump (u : UseT) : ∀ l : List UseT, srtU (l.map (bump u)) = (srtU l).map (bump u)
  | [] => rfl
  | x :: r => by simp only [List.map_cons, srtU, srtU_bump u r, insU_bump]
theorem withU_new {u : UseT} : ∀ {l : List UseT}, (∀ x, x ∈ l → eqK x u = false) → withU l u = insU u l
  | [], _ => rfl
  | y :: r, h => by
    unfold withU insU
    have hy := h y (by simp)
    rw [withU_new fun x hx => h x (List.mem_cons_of_mem _ hx), hy, cond_false]
    rcases triU y u with q | q | q
    · rw [q, ltU_asymm q]; rfl
    · rw [q] at hy; cases hy
    · rw [q, ltU_asymm q]; rfl
theorem withU_old {u : UseT} : ∀ {l : List UseT}, l.Pairwise (fun a b => ltU a b = true) → (∃ x, x ∈ l ∧ eqK x u = true) → withU l u = l.map (bump u)
  | [], _, h => by obtain ⟨x, hx, _⟩ := h; cases hx
  | y :: r, h, k => by
    rw [List.pairwise_cons] at h
    obtain ⟨x, hx, q⟩ := k
    unfold withU
    cases e : eqK y u with
    | true =>
      have lt : ltU y u = false := by rw [ltU_cong e (eqK_refl u)]; exact swo_ltU.irrefl _
      have : r.map (bump u) = r := map_bump fun x hx => by
        have := ltU_ne (h.1 x hx)
        cases q : eqK x u with
        | false => rfl
        | true => rw [eqK_trans e (eqK_symm q)] at this; cases this
      rw [lt, List.map_cons, this]
      have he := eqK_iff.1 e
      simp only [bump, e, cond_true, cond_false, he.1, he.2, Int.add_comm]
    | false =>
      rcases List.mem_cons.1 hx with rfl | hx
      · rw [e] at q; cases q
      · have lt : ltU y u = true := by rw [← ltU_cong (eqK_refl y) q]; exact h.1 x hx
        rw [lt, List.map_cons, cond_true, withU_old h.2 ⟨x, hx, q⟩]
        simp [bump, e]
theorem srtU_add {l : List UseT} {u : UseT} (h : okU l = true) (hu : w64 u.2.2 = u.2.2) : srtU (addU l u) = withU (srtU l) u := by
  by_cases k : ∃ x, x ∈ l ∧ eqK x u = true
  · rw [addU_old h k, srtU_bump, withU_old (srtU_pw h)]
    obtain ⟨x, hx, q⟩ := k
    exact ⟨x, srtU_mem.2 hx, q⟩
  · have k' : ∀ x, x ∈ l → eqK x u = false := fun x hx => by
      cases q : eqK x u with
      | false => rfl
      | true => exact absurd ⟨x, hx, q⟩ k
    have e : (u.1, u.2.1, w64 (0 + u.2.2)) = u := by rw [Int.zero_add, hu]
    rw [addU_new k', e, withU_new fun x hx => k' x (srtU_mem.1 hx)]
    have hok : okU (l ++ [u]) = true := by have := addU_ok (u := u) h; rw [addU_new k', e] at this; exact this
    refine pw_ext (srtU_pw hok) (insU_pw (srtU_pw h) fun y hy => by rw [eqK_comm]; exact k' y (srtU_mem.1 hy)) fun x => ?_
    rw [srtU_mem, insU_mem, srtU_mem]
    simp [or_comm]
theorem srtU_fold : ∀ {L l : List UseT}, okU l = true → (∀ u, u ∈ L → w64 u.2.2 = u.2.2) → okU (L.foldl addU l) = true ∧ srtU (L.foldl addU l) = L.foldl withU (srtU l)
  | [], l, h, _ => ⟨h, rfl⟩
  | u :: L, l, h, k => by
    have := srtU_fold (L := L) (addU_ok (u := u) h) fun v hv => k v (List.mem_cons_of_mem _ hv)
    rw [srtU_add h (k u (by simp))] at this
    exact this

/-- The order of two counts does not matter. -/
theorem withU_comm (u v : UseT) : ∀ l : List UseT, withU (withU l u) v = withU (withU l v) u
  | [] => by
    simp only [withU]
    rcases triU u v with q | q | q
    · rw [q, ltU_asymm q, eqK_comm v u, ltU_ne q]; rfl
    · have q' := eqK_symm q
      rw [q, q', ltU_cong q (eqK_refl v), ltU_cong q' (eqK_refl u), swo_ltU.irrefl, swo_ltU.irrefl]
      have e := eqK_iff.1 q
      simp only [cond_false, cond_true, e.1, e.2, Int.add_comm]
    · rw [q, ltU_asymm q, eqK_comm u v, ltU_ne q]; rfl
  | x :: r => by
    have ih := withU_comm u v r
    have T : ∀ {a b c : UseT}, ltU a b = true → ltU b c = true → ltU a c = true := fun {a b c} h k => swo_ltU.trans a b c h k
    have I : ∀ a : UseT, ltU a a = false := swo_ltU.irrefl
    rcases triU x u with a | a | a
    · rcases triU x v with b | b | b
      · simp only [withU, a, b, cond_true, ih]
      · have e1 : ltU v u = true := by rw [← ltU_cong b (eqK_refl u)]; exact a
        have e2 : ltU x v = false := by rw [ltU_cong b (eqK_refl v)]; exact I v
        have e3 : ltU (v.1, v.2.1, w64 (v.2.2 + x.2.2)) u = true := e1
        simp only [withU, a, b, e2, e3, cond_true, cond_false]
      · have e1 := ltU_asymm b
        have e2 : eqK x v = false := by rw [eqK_comm]; exact ltU_ne b
        have e3 : ltU v u = true := T b a
        simp only [withU, a, e1, e2, e3, cond_true, cond_false]
    · have a2 : ltU x u = false := by rw [ltU_cong a (eqK_refl u)]; exact I u
      rcases triU x v with b | b | b
      · have e1 : ltU u v = true := by rw [← ltU_cong a (eqK_refl v)]; exact b
        have e3 : ltU (u.1, u.2.1, w64 (u.2.2 + x.2.2)) v = true := e1
        simp only [withU, a, a2, b, e3, cond_true, cond_false]
      · have b2 : ltU x v = false := by rw [ltU_cong b (eqK_refl v)]; exact I v
        have q : eqK u v = true := eqK_trans (eqK_symm a) b
        have e3 : ltU (u.1, u.2.1, w64 (u.2.2 + x.2.2)) v = false := by show ltU u v = false; rw [ltU_cong q (eqK_refl v)]; exact I v
        have e4 : ltU (v.1, v.2.1, w64 (v.2.2 + x.2.2)) u = false := by show ltU v u = false; rw [ltU_cong (eqK_symm q) (eqK_refl u)]; exact I u
        have e5 : eqK (u.1, u.2.1, w64 (u.2.2 + x.2.2)) v = true := q
        have e6 : eqK (v.1, v.2.1, w64 (v.2.2 + x.2.2)) u = true := eqK_symm q
        have e := eqK_iff.1 q
        have s : w64 (v.2.2 + w64 (u.2.2 + x.2.2)) = w64 (u.2.2 + w64 (v.2.2 + x.2.2)) := by
          rw [Int.add_comm v.2.2, w64_add, Int.add_comm u.2.2 (w64 _), w64_add]; congr 1; omega
        simp only [withU, a, b, a2, b2, e3, e4, e5, e6, cond_true, cond_false, s]
        simp only [e.1, e.2]
      · have e1 := ltU_asymm b
        have e2 : eqK x v = false := by rw [eqK_comm]; exact ltU_ne b
        have e3 : ltU v u = true := by rw [← ltU_cong (eqK_refl v) a]; exact b
        have e4 : ltU (u.1, u.2.1, w64 (u.2.2 + x.2.2)) v = false := ltU_asymm e3
        have e5 : eqK (u.1, u.2.1, w64 (u.2.2 + x.2.2)) v = false := by rw [eqK_comm]; exact ltU_ne e3
        simp only [withU, a, a2, e1, e2, e3, e4, e5, cond_true, cond_false]
    · have a1 := ltU_asymm a
      have a2 : eqK x u = false := by rw [eqK_comm]; exact ltU_ne a
      rcases triU x v with b | b | b
      · have e3 : ltU u v = true := T a b
        simp only [withU, a1, a2, b, e3, cond_true, cond_false]
      · have b2 : ltU x v = false := by rw [ltU_cong b (eqK_refl v)]; exact I v
        have e3 : ltU u v = true := by rw [← ltU_cong (eqK_refl u) b]; exact a
        have e4 : ltU (v.1, v.2.1, w64 (v.2.2 + x.2.2)) u = false := ltU_asymm e3
        have e5 : eqK (v.1, v.2.1, w64 (v.2.2 + x.2.2)) u = false := by rw [eqK_comm]; exact ltU_ne e3
        simp only [withU, a1, a2, b, b2, e3, e4, e5, cond_true, cond_false]
      · have b1 := ltU_asymm b
        have b2 : eqK x v = false := by rw [eqK_comm]; exact ltU_ne b
        rcases triU u v with q | q | q
        · simp only [withU, a1, a2, b1, b2, q, ltU_asymm q, eqK_comm v u, ltU_ne q, cond_true, cond_false]
        · have e3 : ltU u v = false := by rw [ltU_cong q (eqK_refl v)]; exact I v
          have e4 : ltU v u = false := by rw [ltU_cong (eqK_symm q) (eqK_refl u)]; exact I u
          have e := eqK_iff.1 q
          simp only [withU, a1, a2, b1, b2, e3, e4, q, eqK_symm q, cond_true, cond_false, e.1, e.2, Int.add_comm]
        · simp only [withU, a1, a2, b1, b2, q, ltU_asymm q, eqK_comm u v, ltU_ne q, cond_true, cond_false]
theorem fold_with (u : UseT) : ∀ (L l : List UseT), L.foldl withU (withU l u) = withU (L.foldl withU l) u
  | [], _ => rfl
  | v :: L, l => by rw [List.foldl_cons, List.foldl_cons, withU_comm, fold_with u L]
theorem fold_swap : ∀ (A B l : List UseT), B.foldl withU (A.foldl withU l) = A.foldl withU (B.foldl withU l)
  | [], _, _ => rfl
  | u :: A, B, l => by
    rw [List.foldl_cons, List.foldl_cons, fold_swap A B, fold_with]
end Go.Ab
