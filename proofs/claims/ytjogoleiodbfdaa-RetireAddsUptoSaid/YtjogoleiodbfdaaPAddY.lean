/- The law RetireAdds: counts in a map, sorted, are the counts in a sorted list. -/
import Derived.Test.YtjogoleiodbfdaaGenY
import Derived.Test.YtjogoleiodbfdaaPAddUY
import Derived.Test.YtjogoleiodbfdaaAbPlain
set_option linter.unusedVariables false
set_option linter.unusedSimpArgs false
set_option linter.unnecessarySimpa false
namespace Go.Ab
open Go
set_option maxRecDepth 100000

theorem declt' (i n : Nat) : decide ((i : Int) < (n : Int)) = decide (i < n) := lt_int i n
theorem wstep {i : Nat} (h : i ≤ 1048576) : IntKind.wrap .i64 ((i : Int) + 1) = ((i + 1 : Nat) : Int) := by
  rw [wrap64 (by omega) (by omega)]; rfl

/- The map. -/
def keyPV (u : UseT) : PV := .agg [.str u.1, .int u.2.1]
def mapOf (l : List UseT) : List (PV × PV) := l.map fun x => (keyPV x, .int x.2.2)
theorem keyEq_eq (u x : UseT) : keyEq (keyPV u) (keyPV x) = eqK x u := by
  show (bif u.1 == x.1 then (bif u.2.1 == x.2.1 then true else false) else false) = _
  rw [eqK_comm]
  unfold eqK
  cases u.1 == x.1 <;> cases u.2.1 == x.2.1 <;> rfl
theorem mset_cons (e : PV × PV) (l : List (PV × PV)) (n : Nat) (v : PV) : PV.mset (e :: l) (n + 1) v = e :: PV.mset l n v := by
  unfold PV.mset
  rw [List.getElem?_cons_succ]
  cases l[n]? <;> rfl
theorem map_add (u : UseT) : ∀ l : List UseT,
    PV.midx (mapOf l) (keyPV u) < (PV.mput (mapOf l) (keyPV u) ((PV.mget (mapOf l) (keyPV u)).getD (.int 0))).length ∧
    PV.mset (PV.mput (mapOf l) (keyPV u) ((PV.mget (mapOf l) (keyPV u)).getD (.int 0))) (PV.midx (mapOf l) (keyPV u)) (.int (IntKind.wrap .i64 (((PV.mget (mapOf l) (keyPV u)).getD (.int 0)).asInt + u.2.2))) = mapOf (addU l u)
  | [] => ⟨by simp [mapOf, PV.midx, PV.mput], rfl⟩
  | x :: r => by
    obtain ⟨h1, h2⟩ := map_add u r
    show PV.midx ((keyPV x, .int x.2.2) :: mapOf r) _ < (PV.mput ((keyPV x, .int x.2.2) :: mapOf r) _ ((PV.mget ((keyPV x, .int x.2.2) :: mapOf r) _).getD _)).length ∧ PV.mset (PV.mput ((keyPV x, .int x.2.2) :: mapOf r) _ ((PV.mget ((keyPV x, .int x.2.2) :: mapOf r) _).getD _)) (PV.midx ((keyPV x, .int x.2.2) :: mapOf r) _) (.int (IntKind.wrap .i64 (((PV.mget ((keyPV x, .int x.2.2) :: mapOf r) _).getD _).asInt + u.2.2))) = _
    unfold addU
    cases e : eqK x u with
    | true =>
      have e' : keyEq (keyPV u) (keyPV x) = true := (keyEq_eq u x).trans e
      simp only [PV.midx, PV.mput, PV.mget, List.find?_cons, e', cond_true]
      exact ⟨by simp, rfl⟩
    | false =>
      have e' : keyEq (keyPV u) (keyPV x) = false := (keyEq_eq u x).trans e
      have hg : PV.mget ((keyPV x, .int x.2.2) :: mapOf r) (keyPV u) = PV.mget (mapOf r) (keyPV u) := by simp only [PV.mget, List.find?_cons, e']
      rw [hg]
      simp only [PV.midx, PV.mput, e', cond_false, mset_cons, List.length_cons]
      exact ⟨by omega, by rw [h2]; rfl⟩

theorem keyE (x : UseT) : PV.agg [.str ((ofUse x).fld 0).asStr, .int ((ofUse x).fld 1).asInt] = keyPV x := rfl
theorem cntE (x : UseT) : ((ofUse x).fld 2).asInt = x.2.2 := rfl

/- What comes of a map. -/
theorem erase_map {α β : Type} (f : α → β) : ∀ (l : List α) (i : Nat), (l.map f).eraseIdx i = (l.eraseIdx i).map f
  | [], _ => rfl
  | _ :: _, 0 => rfl
  | x :: r, i + 1 => by simp only [List.map_cons, List.eraseIdx_cons_succ, erase_map f r i]
theorem erase_perm {α : Type} : ∀ (l : List α) (i : Nat) (h : i < l.length), (l[i] :: l.eraseIdx i).Perm l
  | [], _, h => by simp at h
  | x :: r, 0, _ => .refl _
  | x :: r, i + 1, h => by
    simp only [List.getElem_cons_succ, List.eraseIdx_cons_succ]
    exact (List.Perm.swap _ _ _).trans ((erase_perm r i (by simpa using h)).cons x)
theorem okU_pw : ∀ {l : List UseT}, okU l = true ↔ l.Pairwise (fun a b => eqK a b = false)
  | [] => by simp [okU]
  | x :: r => by rw [okU_cons, List.pairwise_cons, okU_pw]
theorem okU_perm {l l' : List UseT} (h : l.Perm l') (k : okU l' = true) : okU l = true := by
  rw [okU_pw] at *
  exact (h.pairwise_iff (fun {a b} e => by rw [eqK_comm]; exact e)).2 k
theorem sorted_mend {K : Unit × Unit × List (PV × PV) × List PV → Option (List PV)} {l : List UseT} (hl : l.length ≤ 1048576) (hK : ∀ o : List UseT, o.Perm l → K ((), (), [], o.map ofUse) = some ((srtU l).map ofUse)) :
    ∀ (n : Nat) (m o : List UseT), m.length = n → (o ++ m).Perm l → mend S8_4rem (S8_4go 0) (S8_4fin 0) n ((), (), (), mapOf m, o.map ofUse) (fun y => K y = some ((srtU l).map ofUse)) := by
  intro n
  induction n with
  | zero =>
    intro m o hm hp
    obtain rfl : m = [] := List.length_eq_zero_iff.1 hm
    exact ⟨rfl, _, rfl, hK o (by simpa using hp)⟩
  | succ n ih =>
    intro m o hm hp
    refine ⟨by show (mapOf m).length = _; simp [mapOf, hm], fun i e hi => .inl ?_⟩
    have hi : (mapOf m)[i]? = some e := hi
    obtain ⟨x, hx, rfl⟩ : ∃ x, m[i]? = some x ∧ e = (keyPV x, .int x.2.2) := by
      unfold mapOf at hi
      rw [List.getElem?_map] at hi
      cases hx : m[i]? with
      | none => rw [hx] at hi; cases hi
      | some x => rw [hx] at hi; cases hi; exact ⟨x, rfl, rfl⟩
    obtain ⟨hlt, rfl⟩ := List.getElem?_eq_some_iff.1 hx
    have hlen : o.length + m.length = l.length := by rw [← List.length_append]; exact hp.length_eq
    have er : (mapOf m).eraseIdx i = mapOf (m.eraseIdx i) := erase_map _ _ _
    have hp2 : ((o ++ [m[i]]) ++ m.eraseIdx i).Perm l := by
      refine List.Perm.trans ?_ hp
      rw [List.append_assoc]
      exact (List.perm_append_left_iff o).2 (erase_perm m i hlt)
    refine ⟨((), (), (), mapOf (m.eraseIdx i), (o ++ [m[i]]).map ofUse), ?_, ih _ _ (by rw [List.length_eraseIdx_of_lt hlt]; omega) hp2⟩
    show S8_4go 0 _ ((mapOf m).eraseIdx i) _ = _
    rw [er]
    have hb : decide ((o.map ofUse).length + [ofUse m[i]].length ≤ accMax) = true := decide_eq_true (by simp only [List.length_map, List.length_cons, List.length_nil, accMax]; omega)
    show (bif decide ((o.map ofUse).length + [ofUse m[i]].length ≤ accMax) then _ else none) = _
    rw [hb, cond_true, List.map_append]
    rfl
theorem sorted_eq' {l : List UseT} (h : okU l = true) (hl : l.length ≤ 1048576) : F8 0 (mapOf l) = some ((srtU l).map ofUse) := by
  unfold F8
  refine loopA_of _ ?_
  show mend _ _ _ (mapOf l).length _ _
  rw [show (mapOf l).length = l.length by simp [mapOf]]
  refine sorted_mend hl (fun o ho => ?_) _ l [] rfl (by simp)
  show (Lsort2 0 (o.map ofUse) ()).bind _ = _
  have hk := keysNe_map o (okU_perm ho h)
  have hb : decide ((o.map ofUse).length ≤ accMax) = true := decide_eq_true (by rw [List.length_map, ho.length_eq]; simp only [accMax]; omega)
  unfold Lsort2
  rw [hk, hb, Bool.and_true, cond_true, Option.bind_some, sortP_map, srtU_perm (okU_perm ho h) h fun x => ho.mem_iff]

/- Add in the program. -/
theorem useAt {A : List UseT} {i : Nat} (h : i < A.length) : (A.map ofUse).getD i .bad = ofUse A[i] := by rw [getD_of_lt (by simpa using h)]; simp
theorem addU_len (u : UseT) : ∀ l : List UseT, (addU l u).length ≤ l.length + 1
  | [] => by simp [addU]
  | x :: r => by
    unfold addU
    have := addU_len u r
    cases eqK x u <;> simp <;> omega
theorem fold_len {f : List UseT → UseT → List UseT} (h : ∀ u l, (f l u).length ≤ l.length + 1) : ∀ (L l : List UseT), (L.foldl f l).length ≤ l.length + L.length
  | [], l => by simp
  | u :: L, l => by
    have h1 := fold_len h L (f l u)
    have h2 := h u l
    simp only [List.foldl_cons, List.length_cons]; omega
theorem add_loop1 (A : List UseT) (b : List PV) (hl : A.length ≤ 1000) : ∀ (m i : Nat) (l : List UseT), A.length - i ≤ m → i ≤ A.length →
    loopW (S4_4step 0) (b, (), A.map ofUse, (A.length : Int), (i : Int), mapOf l) = some (b, (), mapOf ((A.drop i).foldl addU l)) := by
  intro m
  induction m with
  | zero =>
    intro i l hm hi
    have hlt : ¬ i < A.length := by omega
    rw [List.drop_eq_nil_of_le (by omega)]
    exact loopW_end (by simp only [S4_4step, S4_4, declt', hlt, decide_false, cond_false]; rfl)
  | succ m ih =>
    intro i l hm hi
    by_cases hlt : i < A.length
    · obtain ⟨h1, h2⟩ := map_add A[i] l
      rw [List.drop_eq_getElem_cons hlt, List.foldl_cons, ← ih (i + 1) _ (by omega) (by omega), ← h2]
      refine loopW_go ?_
      simp only [S4_4step, S4_4, declt', inRange_nat, List.length_map, hlt, decide_true, cond_true, Int.toNat_natCast, useAt hlt, wstep (i := i) (by omega), keyE, cntE, decide_eq_true h1]
    · rw [List.drop_eq_nil_of_le (by omega)]
      exact loopW_end (by simp only [S4_4step, S4_4, declt', hlt, decide_false, cond_false]; rfl)
theorem add_loop2 (A : List UseT) (hl : A.length ≤ 1000) : ∀ (m i : Nat) (l : List UseT), A.length - i ≤ m → i ≤ A.length →
    loopW (S4_9step 0) ((), A.map ofUse, (A.length : Int), (i : Int), mapOf l) = some ((), mapOf ((A.drop i).foldl addU l)) := by
  intro m
  induction m with
  | zero =>
    intro i l hm hi
    have hlt : ¬ i < A.length := by omega
    rw [List.drop_eq_nil_of_le (by omega)]
    exact loopW_end (by simp only [S4_9step, S4_9, declt', hlt, decide_false, cond_false]; rfl)
  | succ m ih =>
    intro i l hm hi
    by_cases hlt : i < A.length
    · obtain ⟨h1, h2⟩ := map_add A[i] l
      rw [List.drop_eq_getElem_cons hlt, List.foldl_cons, ← ih (i + 1) _ (by omega) (by omega), ← h2]
      refine loopW_go ?_
      simp only [S4_9step, S4_9, declt', inRange_nat, List.length_map, hlt, decide_true, cond_true, Int.toNat_natCast, useAt hlt, wstep (i := i) (by omega), keyE, cntE, decide_eq_true h1]
    · rw [List.drop_eq_nil_of_le (by omega)]
      exact loopW_end (by simp only [S4_9step, S4_9, declt', hlt, decide_false, cond_false]; rfl)
def addR (A B : List UseT) : List UseT := B.foldl withU (A.foldl withU [])
theorem add_eq (A B : List UseT) (ha : A.length ≤ 1000) (hb : B.length ≤ 1000) (wa : ∀ u, u ∈ A → w64 u.2.2 = u.2.2) (wb : ∀ u, u ∈ B → w64 u.2.2 = u.2.2) : F4 0 (A.map ofUse) (B.map ofUse) = some ((addR A B).map ofUse) := by
  have h1 := add_loop1 A (B.map ofUse) ha A.length 0 [] (by omega) (by omega)
  have h2 := add_loop2 B hb B.length 0 (A.foldl addU []) (by omega) (by omega)
  rw [List.drop_zero] at h1 h2
  obtain ⟨p1, p2⟩ := srtU_fold (L := A) (l := []) rfl wa
  obtain ⟨q1, q2⟩ := srtU_fold (L := B) p1 wb
  have l1 := fold_len addU_len A []
  have l2 := fold_len addU_len B (A.foldl addU [])
  have h3 := sorted_eq' q1 (by simp at l1; omega)
  rw [q2, p2] at h3
  unfold F4
  have h1 : loopW (S4_4step 0) (B.map ofUse, (), A.map ofUse, (A.length : Int), (0 : Int), []) = some (B.map ofUse, (), mapOf (A.foldl addU [])) := h1
  have h2 : loopW (S4_9step 0) ((), B.map ofUse, (B.length : Int), (0 : Int), mapOf (A.foldl addU [])) = some ((), mapOf (B.foldl addU (A.foldl addU []))) := h2
  rw [loopQ0, List.length_map, h1, Option.bind_some]
  show (loopQ 0 _ ((), B.map ofUse, ((B.map ofUse).length : Int), _, _)).bind _ = _
  rw [loopQ0, List.length_map, h2, Option.bind_some]
  show (F8 0 _).bind _ = _
  rw [h3]
  rfl

/- Add in the specification. -/
def frontU (u : UseT) : List UseT → List UseT
  | [] => []
  | x :: r => bif ltU x u then x :: frontU u r else []
def backU (u : UseT) : List UseT → List UseT
  | [] => [u]
  | x :: r => bif eqK x u then (u.1, u.2.1, w64 (u.2.2 + x.2.2)) :: r else u :: x :: r
theorem withU_front (u : UseT) : ∀ l : List UseT, withU l u = frontU u l ++ backU u (l.drop (frontU u l).length)
  | [] => rfl
  | x :: r => by
    unfold withU frontU
    cases h : ltU x u with
    | true => simp only [cond_true, List.cons_append, List.length_cons, List.drop_succ_cons]; rw [← withU_front u r]
    | false => rfl
theorem frontU_len (u : UseT) : ∀ l : List UseT, (frontU u l).length ≤ l.length
  | [] => Nat.le_refl _
  | x :: r => by
    unfold frontU
    have := frontU_len u r
    cases ltU x u <;> simp; omega
theorem less_ltU (x u : UseT) : (bif Op.bytesLess x.1 u.1 then true else bif x.1 == u.1 then decide (x.2.1 < u.2.1) else false) = ltU x u := by
  unfold ltU
  cases e : x.1 == u.1 with
  | true =>
    have : Op.bytesLess x.1 u.1 = false := by rw [eq_of_beq e]; simp [Go.Proofs.bytesLess_eq, List.lt_irrefl]
    rw [this]; rfl
  | false => cases Op.bytesLess x.1 u.1 <;> rfl
theorem imp_all (a b : Bool) (h : a = true → b = true) : imp a b = true := by
  unfold imp
  cases a with
  | true => rw [h rfl]; cases h rfl; rfl
  | false => cases b <;> rfl
theorem with_loop (l : List UseT) (u : UseT) (hl : l.length ≤ 1000) : ∀ (m i : Nat) (o : List UseT), l.length - i ≤ m → i ≤ l.length → o.length = i →
    loopW (S9_4step 0) (l.map ofUse, u.1, u.2.1, u.2.2, o.map ofUse, (i : Int)) = some (l.map ofUse, u.1, u.2.1, u.2.2, (o ++ frontU u (l.drop i)).map ofUse, ((i + (frontU u (l.drop i)).length : Nat) : Int)) := by
  intro m
  induction m with
  | zero =>
    intro i o hm hi ho
    have hlt : ¬ i < l.length := by omega
    rw [List.drop_eq_nil_of_le (by omega)]
    refine loopW_end ?_
    simp only [S9_4step, S9_4, declt', inRange_nat, List.length_map, hlt, decide_false, frontU, List.append_nil, List.length_nil, Nat.add_zero]
    simp [imp]
  | succ m ih =>
    intro i o hm hi ho
    by_cases hlt : i < l.length
    · have hi1 : ∀ b, imp b true = true := fun b => imp_all _ _ fun _ => rfl
      rw [List.drop_eq_getElem_cons hlt]
      have hc : (bif Op.bytesLess (l[i]).1 u.1 then true else bif (l[i]).1 == u.1 then decide ((l[i]).2.1 < u.2.1) else false) = ltU l[i] u := less_ltU _ _
      have hs : S9_4step 0 (l.map ofUse, u.1, u.2.1, u.2.2, o.map ofUse, (i : Int)) = bif ltU l[i] u then (bif decide ((o.map ofUse).length + [ofUse l[i]].length ≤ accMax) then some (.inl (l.map ofUse, u.1, u.2.1, u.2.2, o.map ofUse ++ [ofUse l[i]], IntKind.wrap .i64 ((i : Int) + 1))) else none) else some (.inr (l.map ofUse, u.1, u.2.1, u.2.2, o.map ofUse, (i : Int))) := by
        rw [← hc]
        simp only [S9_4step, S9_4, declt', inRange_nat, List.length_map, hlt, decide_true, hi1, cond_true, Int.toNat_natCast, useAt hlt]
        rfl
      unfold frontU
      cases hq : ltU l[i] u with
      | true =>
        rw [hq, cond_true, decide_eq_true (by simp only [List.length_map, List.length_cons, List.length_nil, accMax]; omega), cond_true, wstep (i := i) (by omega)] at hs
        rw [loopW_go hs]
        have := ih (i + 1) (o ++ [l[i]]) (by omega) (by omega) (by simp [ho])
        rw [List.map_append] at this
        rw [show [ofUse l[i]] = [l[i]].map ofUse from rfl, this, cond_true, List.append_assoc, List.length_cons]
        simp only [List.singleton_append]
        congr 6
        omega
      | false =>
        rw [hq, cond_false] at hs
        rw [loopW_end hs, cond_false, List.append_nil]
        rfl
    · rw [List.drop_eq_nil_of_le (by omega)]
      refine loopW_end ?_
      simp only [S9_4step, S9_4, declt', inRange_nat, List.length_map, hlt, decide_false, frontU, List.append_nil, List.length_nil, Nat.add_zero]
      simp [imp]
theorem with_eq (l : List UseT) (u : UseT) (hl : l.length ≤ 1000) : F9 0 (l.map ofUse) u.1 u.2.1 u.2.2 = some ((withU l u).map ofUse) := by
  have h := with_loop l u hl l.length 0 [] (by omega) (by omega) rfl
  rw [List.drop_zero, List.nil_append, Nat.zero_add] at h
  have hf := frontU_len u l
  rw [withU_front]
  generalize frontU u l = fr at *
  unfold F9
  have h : loopW (S9_4step 0) (l.map ofUse, u.1, u.2.1, u.2.2, [], (0 : Int)) = some (l.map ofUse, u.1, u.2.1, u.2.2, fr.map ofUse, (fr.length : Int)) := h
  rw [loopQ0, h, Option.bind_some]
  have hi1 : ∀ b, imp b true = true := fun b => imp_all _ _ fun _ => rfl
  have hi2 : ∀ b, imp false b = true := fun b => imp_all _ _ fun h => by cases h
  have b1 : ∀ u : UseT, decide ((fr.map ofUse).length + [ofUse u].length ≤ accMax) = true := fun u => decide_eq_true (by simp only [List.length_map, List.length_cons, List.length_nil, accMax]; omega)
  by_cases hlt : fr.length < l.length
  · rw [List.drop_eq_getElem_cons hlt]
    unfold backU
    have e1 : ((ofUse l[fr.length]).fld 0).asStr = l[fr.length].1 := rfl
    have e2 : ((ofUse l[fr.length]).fld 1).asInt = l[fr.length].2.1 := rfl
    have e3 : ((ofUse l[fr.length]).fld 2).asInt = l[fr.length].2.2 := rfl
    simp only [declt', inRange_nat, List.length_map, hlt, decide_true, hi1, cond_true, Int.toNat_natCast, useAt hlt, e1, e2, e3]
    have hk : eqK l[fr.length] u = (bif l[fr.length].1 == u.1 then l[fr.length].2.1 == u.2.1 else false) := by
      unfold eqK
      cases l[fr.length].1 == u.1 <;> rfl
    rw [← hk]
    cases hq : eqK l[fr.length] u with
    | true =>
      have hw := wstep (i := fr.length) (by omega)
      rw [hw]
      have b2 : decide ((0 : Int) ≤ ((fr.length + 1 : Nat) : Int) ∧ ((fr.length + 1 : Nat) : Int) ≤ (l.length : Int) ∧ (l.length : Int) ≤ (l.length : Int)) = true := decide_eq_true (by omega)
      have b3 := b1 (u.1, u.2.1, w64 (u.2.2 + l[fr.length].2.2))
      simp only [List.length_map] at b3
      show (bif decide (fr.length + _ ≤ accMax) then _ else none) = _
      rw [show [PV.agg [PV.str u.1, PV.int u.2.1, PV.int (IntKind.wrap .i64 (u.2.2 + l[fr.length].2.2))]] = [ofUse (u.1, u.2.1, w64 (u.2.2 + l[fr.length].2.2))] from rfl, b3, cond_true, b2, cond_true]
      rw [Int.toNat_natCast, List.take_of_length_le (by simp), ← List.map_drop]
      have b4 : decide ((fr.map ofUse ++ [ofUse (u.1, u.2.1, w64 (u.2.2 + l[fr.length].2.2))]).length + ((l.drop (fr.length + 1)).map ofUse).length ≤ accMax) = true := decide_eq_true (by simp only [List.length_append, List.length_map, List.length_cons, List.length_nil, List.length_drop, accMax]; omega)
      rw [b4, cond_true, cond_true, List.map_append, List.append_assoc]
      rfl
    | false =>
      have b2 : decide ((0 : Int) ≤ (fr.length : Int) ∧ (fr.length : Int) ≤ (l.length : Int) ∧ (l.length : Int) ≤ (l.length : Int)) = true := decide_eq_true (by omega)
      have b3 := b1 u
      simp only [List.length_map] at b3
      show (bif decide (fr.length + _ ≤ accMax) then _ else none) = _
      rw [show [PV.agg [PV.str u.1, PV.int u.2.1, PV.int u.2.2]] = [ofUse u] from rfl, b3, cond_true, b2, cond_true]
      rw [List.take_of_length_le (by simp), ← List.map_drop]
      have b4 : decide ((fr.map ofUse ++ [ofUse u]).length + ((l.drop fr.length).map ofUse).length ≤ accMax) = true := decide_eq_true (by simp only [List.length_append, List.length_map, List.length_cons, List.length_nil, List.length_drop, accMax]; omega)
      rw [b4, cond_true, cond_false, List.map_append, List.append_assoc, List.drop_eq_getElem_cons hlt]
      rfl
  · have hd : l.drop fr.length = [] := List.drop_eq_nil_of_le (by omega)
    rw [hd]
    simp only [declt', List.length_map, hlt, decide_false, hi2, cond_true, cond_false]
    have b2 : decide ((0 : Int) ≤ (fr.length : Int) ∧ (fr.length : Int) ≤ (l.length : Int) ∧ (l.length : Int) ≤ (l.length : Int)) = true := decide_eq_true (by omega)
    have b3 := b1 u
    simp only [List.length_map] at b3
    show (bif decide (fr.length + _ ≤ accMax) then _ else none) = _
    rw [show [PV.agg [PV.str u.1, PV.int u.2.1, PV.int u.2.2]] = [ofUse u] from rfl, b3, cond_true, b2, cond_true]
    rw [List.take_of_length_le (by simp), ← List.map_drop, Int.toNat_natCast, hd]
    have b4 : decide ((fr.map ofUse ++ [ofUse u]).length + (([] : List UseT).map ofUse).length ≤ accMax) = true := decide_eq_true (by simp only [List.length_append, List.length_map, List.length_cons, List.length_nil, accMax]; omega)
    rw [b4, cond_true, List.map_append]
    simp [backU]
theorem withU_len (u : UseT) : ∀ l : List UseT, (withU l u).length ≤ l.length + 1
  | [] => by simp [withU]
  | x :: r => by
    unfold withU
    have := withU_len u r
    cases ltU x u
    · cases eqK x u <;> simp
    · simp; omega
theorem refAdd_loop1 (A : List UseT) (b : List PV) (hl : A.length ≤ 400) : ∀ (m i : Nat) (l : List UseT), A.length - i ≤ m → i ≤ A.length → l.length ≤ 400 + i →
    loopW (S6_4step 0) (A.map ofUse, b, l.map ofUse, (i : Int)) = some (b, ((A.drop i).foldl withU l).map ofUse) := by
  intro m
  induction m with
  | zero =>
    intro i l hm hi hll
    have hlt : ¬ i < A.length := by omega
    rw [List.drop_eq_nil_of_le (by omega)]
    exact loopW_end (by simp only [S6_4step, S6_4, declt', List.length_map, hlt, decide_false, cond_false]; rfl)
  | succ m ih =>
    intro i l hm hi hll
    by_cases hlt : i < A.length
    · have hw := with_eq l A[i] (by omega)
      rw [List.drop_eq_getElem_cons hlt, List.foldl_cons, ← ih (i + 1) _ (by omega) (by omega) (by have := withU_len A[i] l; omega)]
      refine loopW_go ?_
      simp only [S6_4step, S6_4, declt', inRange_nat, List.length_map, hlt, decide_true, cond_true, Int.toNat_natCast, useAt hlt, wstep (i := i) (by omega)]
      show (F9 0 (l.map ofUse) (A[i]).1 (A[i]).2.1 (A[i]).2.2).bind _ = _
      rw [hw]; rfl
    · rw [List.drop_eq_nil_of_le (by omega)]
      exact loopW_end (by simp only [S6_4step, S6_4, declt', List.length_map, hlt, decide_false, cond_false]; rfl)
theorem refAdd_loop2 (A : List UseT) (hl : A.length ≤ 400) : ∀ (m i : Nat) (l : List UseT), A.length - i ≤ m → i ≤ A.length → l.length ≤ 500 + i →
    loopW (S6_8step 0) (A.map ofUse, l.map ofUse, (i : Int)) = some (((A.drop i).foldl withU l).map ofUse) := by
  intro m
  induction m with
  | zero =>
    intro i l hm hi hll
    have hlt : ¬ i < A.length := by omega
    rw [List.drop_eq_nil_of_le (by omega)]
    exact loopW_end (by simp only [S6_8step, S6_8, declt', List.length_map, hlt, decide_false, cond_false]; rfl)
  | succ m ih =>
    intro i l hm hi hll
    by_cases hlt : i < A.length
    · have hw := with_eq l A[i] (by omega)
      rw [List.drop_eq_getElem_cons hlt, List.foldl_cons, ← ih (i + 1) _ (by omega) (by omega) (by have := withU_len A[i] l; omega)]
      refine loopW_go ?_
      simp only [S6_8step, S6_8, declt', inRange_nat, List.length_map, hlt, decide_true, cond_true, Int.toNat_natCast, useAt hlt, wstep (i := i) (by omega)]
      show (F9 0 (l.map ofUse) (A[i]).1 (A[i]).2.1 (A[i]).2.2).bind _ = _
      rw [hw]; rfl
    · rw [List.drop_eq_nil_of_le (by omega)]
      exact loopW_end (by simp only [S6_8step, S6_8, declt', List.length_map, hlt, decide_false, cond_false]; rfl)
theorem refAdd_eq (A B : List UseT) (ha : A.length ≤ 400) (hb : B.length ≤ 400) : F6 0 (A.map ofUse) (B.map ofUse) = some ((addR A B).map ofUse) := by
  have h1 := refAdd_loop1 A (B.map ofUse) ha A.length 0 [] (by omega) (by omega) (by simp)
  have l1 := fold_len withU_len A []
  have h2 := refAdd_loop2 B hb B.length 0 (A.foldl withU []) (by omega) (by omega) (by simp at l1; omega)
  rw [List.drop_zero] at h1 h2
  unfold F6
  have h1 : loopW (S6_4step 0) (A.map ofUse, B.map ofUse, [], (0 : Int)) = some (B.map ofUse, (A.foldl withU []).map ofUse) := h1
  have h2 : loopW (S6_8step 0) (B.map ofUse, (A.foldl withU []).map ofUse, (0 : Int)) = some ((addR A B).map ofUse) := h2
  rw [loopQ0, h1, Option.bind_some]
  show (loopQ 0 _ (B.map ofUse, (A.foldl withU []).map ofUse, _)).bind _ = _
  rw [loopQ0, h2]
  rfl
theorem useSame (x : PV) : (bif ((x.fld 0).asStr) == ((x.fld 0).asStr) then (bif ((x.fld 1).asInt) == ((x.fld 1).asInt) then (bif ((x.fld 2).asInt) == ((x.fld 2).asInt) then true else false) else false) else false) = true := by simp
theorem same40_loop (l : List PV) (hl : l.length ≤ 1000000) : ∀ (m i : Nat), l.length - i ≤ m → i ≤ l.length → loopW (S5_5step 0) (l, l, (i : Int)) = some (.inr ()) := by
  intro m
  induction m with
  | zero =>
    intro i hm hi
    have hlt : ¬ i < l.length := by omega
    exact loopW_end (by simp only [S5_5step, S5_5, declt', hlt, decide_false, cond_false])
  | succ m ih =>
    intro i hm hi
    by_cases hlt : i < l.length
    · rw [← ih (i + 1) (by omega) (by omega)]
      refine loopW_go ?_
      simp only [S5_5step, S5_5, declt', inRange_nat, hlt, decide_true, cond_true, Int.toNat_natCast, useSame, Bool.not_true, cond_false, wstep (i := i) (by omega)]
    · exact loopW_end (by simp only [S5_5step, S5_5, declt', hlt, decide_false, cond_false])
theorem same40 (l : List PV) (hl : l.length ≤ 1000000) : F5 0 l l = some true := by
  have h := same40_loop l hl l.length 0 (by omega) (by omega)
  unfold F5
  rw [loopQ0, show (0 : Int) = ((0 : Nat) : Int) from rfl, h]
  have e : ((l.length : Int) != (l.length : Int)) = false := by simp
  rw [e]
  rfl
/-- Uses as a row's reading gives them. -/
def UsesOk (l : List PV) : Prop := ∀ x, x ∈ l → ∃ u : UseT, x = ofUse u ∧ w64 u.2.2 = u.2.2
theorem usesOf : ∀ {l : List PV}, UsesOk l → ∃ A : List UseT, l = A.map ofUse ∧ ∀ u, u ∈ A → w64 u.2.2 = u.2.2
  | [], _ => ⟨[], rfl, fun _ h => by cases h⟩
  | x :: r, h => by
    obtain ⟨u, rfl, hu⟩ := h x (by simp)
    obtain ⟨A, rfl, hA⟩ := usesOf fun y hy => h y (List.mem_cons_of_mem _ hy)
    exact ⟨u :: A, rfl, fun v hv => by
      rcases List.mem_cons.1 hv with rfl | hv
      · exact hu
      · exact hA v hv⟩
theorem plain_adds {a b : List PV} (ha : UsesOk a) (hb : UsesOk b) : F3 0 a b = some true := by
  obtain ⟨A, rfl, wa⟩ := usesOf ha
  obtain ⟨B, rfl, wb⟩ := usesOf hb
  unfold F3
  cases hc : (bif (decide (((A.map ofUse).length : Int) > (100 : Int))) then true else (decide (((B.map ofUse).length : Int) > (100 : Int)))) with
  | true => rfl
  | false =>
    rw [cond_false]
    have h1 : decide (((A.map ofUse).length : Int) > (100 : Int)) = false := by
      cases q : decide (((A.map ofUse).length : Int) > (100 : Int)) with
      | false => rfl
      | true => rw [q] at hc; cases hc
    rw [h1, cond_false] at hc
    have la := of_decide_eq_false h1
    have lb := of_decide_eq_false hc
    rw [List.length_map] at la lb
    have e1 := add_eq A B (by omega) (by omega) wa wb
    have e2 := refAdd_eq A B (by omega) (by omega)
    have e3 := add_eq B A (by omega) (by omega) wb wa
    have e4 : addR B A = addR A B := fold_swap B A []
    rw [e4] at e3
    have l1 := fold_len withU_len A []
    have l2 := fold_len withU_len B (A.foldl withU [])
    have e5 := same40 ((addR A B).map ofUse) (by rw [List.length_map]; unfold addR; simp at l1; omega)
    rw [e1, Option.bind_some, e2, Option.bind_some, e5, Option.bind_some, e3]
    simp only [cond_true, Option.bind_some, e5]
    rfl
end Go.Ab
