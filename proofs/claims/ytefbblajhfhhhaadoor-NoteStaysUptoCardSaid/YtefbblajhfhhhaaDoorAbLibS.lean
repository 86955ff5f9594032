/- Go's library: contracts of the functions that are not printed. -/
import Derived.Test.YtefbblajhfhhhaaDoorAbLoop
import Derived.Test.YtefbblajhfhhhaaDoorAbBldS
import Derived.Test.YtefbblajhfhhhaaDoorTrydShelf
import Derived.Lib.ItoaNum
import Derived.Lib.Join
import Derived.Lib.Repeat
import Derived.Sort.Grow
import Derived.Lib.LaidTab
set_option linter.unusedVariables false
set_option linter.unusedSimpArgs false
set_option linter.unnecessarySimpa false
namespace Go.Ab
open Go Go.Proofs Go.RowKit

/-- A function that makes new blocks and nothing else. -/
theorem pure_meets {P : Program} {f : FuncId} {args rs : List SV} (he : CanEnter P f) (h : ∀ (D : Dom) (ow : Own) (μ : Nat → Nat) (w : World) (vals : Array Value), Pre P D ow μ [] w args vals → Calls P f vals w fun e w' => ∃ v, e = .returned v ∧ Closed P D w' (resSV rs) v ∧ Below w.heap.size w w') : Meets P f args [] rs [] := by
  refine ⟨he, fun D ow μ w vals pre => (h D ow μ w vals pre).mono ?_⟩
  rintro e w' ⟨v, rfl, hc, hb⟩
  obtain ⟨hc1, hc2⟩ := resRep_of (hc (fun _ => none) μ [])
  refine ⟨v, D, hc2.symm, fun _ _ d => d, fun _ _ d => Or.inl d, ⟨fun _ => none, μ, ⟨fun k b h => (by simp at h), fun b k h => (by cases h), fun b o d => Nat.lt_of_lt_of_le (pre.dlt b o d) hb.size, fun b k x h => (by cases h)⟩, hc1, fun b k h => (by cases h), fun k b h => (by simp at h), fun k E g xs ys h => (by simp at h)⟩, hb.os, hb.tape, hb.output, hb.size, fun b hb' _ => hb.block b hb', Keeps.of_heap fun b o d => hb.block b (pre.dlt b o d)⟩

theorem below_grow (w : World) (k : Nat) (os : Array Obj) : Below w.heap.size w (Sort.grow (w.drewN k) os) := by
  refine ⟨rfl, rfl, rfl, by simp [Sort.grow, World.drewN], fun b hb => ?_⟩
  show ((w.drewN k).heap ++ os)[b]? = _
  rw [Array.getElem?_append_left (by exact hb)]
  rfl

/- Numbers in digits. -/
def decF : Nat → Nat → List UInt8
  | 0, _ => []
  | f + 1, u => bif Nat.ble u 9 then [UInt8.ofNat (48 + u)] else decF f (u / 10) ++ [UInt8.ofNat (48 + u % 10)]
theorem decF_eq : ∀ (f u : Nat), u < 10 ^ (f + 1) → decF (f + 1) u = Lib.decDigits u := by
  intro f
  induction f with
  | zero =>
    intro u hu
    have h9 : Nat.ble u 9 = true := by rw [Nat.ble_eq]; omega
    rw [Lib.decDigits, dif_pos (by omega)]
    simp only [decF, h9, cond_true]
  | succ f ih =>
    intro u hu
    rw [Lib.decDigits]
    by_cases h : u < 10
    · have h9 : Nat.ble u 9 = true := by rw [Nat.ble_eq]; omega
      rw [dif_pos h, decF, h9]; rfl
    · have h9 : Nat.ble u 9 = false := by rw [← Bool.not_eq_true, Nat.ble_eq]; omega
      rw [dif_neg h, decF, h9]
      show decF (f + 1) (u / 10) ++ _ = _
      rw [ih (u / 10) (by rw [Nat.pow_succ] at hu; omega)]
def decB (u : Nat) : List UInt8 := decF 20 u
theorem decB_eq {u : Nat} (h : u < 100000000000000000000) : decB u = Lib.decDigits u := decF_eq 19 u (by simpa using h)
def itoaB (n : Int) : List UInt8 := bif decide (n < 0) then 45 :: decB n.natAbs else decB n.toNat
theorem itoaB_eq {n : Int} (h0 : -9223372036854775808 ≤ n) (h1 : n ≤ 9223372036854775807) : itoaB n = Lib.itoa n := by
  unfold itoaB Lib.itoa
  by_cases h : n < 0
  · simp only [h, decide_true, cond_true, if_true]
    rw [decB_eq (by omega)]
  · simp only [h, decide_false, cond_false, if_false]
    rw [decB_eq (by omega)]

theorem tab10 {ow : Own} {w : World} (h : Tabs Tryd.prog ow w) : Lib.TabIs Tryd.prog w "internal/strconv.uint64pow10" .u64 Lib.pow10Tab := by
  have hg : Tryd.prog.globalNamed "internal/strconv.uint64pow10" = some 0 := by kernel_rfl
  obtain ⟨_, cs, T, fr, h1, h2⟩ := h _ (List.mem_cons_self ..) _ hg
  have h2 : cs = ((List.range 20).map fun i => Value.int .u64 ((10 ^ i : Nat) : Int)).toArray := h2
  subst h2
  simp [Lib.TabIs, World.var?, hg, h1, Lib.pow10Tab]

theorem vals1 {P : Program} {D : Dom} {ow : Own} {μ : Nat → Nat} {st : List BX} {w : World} {s : SV} {vals : Array Value} (pre : Pre P D ow μ st w [s] vals) : ∃ v, vals = #[v] ∧ SRep P D w ow μ st s v := by
  have := pre.size
  match vals, this, pre with
  | ⟨[a]⟩, _, pre => exact ⟨a, rfl, pre.arg 0 _ a rfl rfl⟩
theorem vals2 {P : Program} {D : Dom} {ow : Own} {μ : Nat → Nat} {st : List BX} {w : World} {s t : SV} {vals : Array Value} (pre : Pre P D ow μ st w [s, t] vals) : ∃ u v, vals = #[u, v] ∧ SRep P D w ow μ st s u ∧ SRep P D w ow μ st t v := by
  have := pre.size
  match vals, this, pre with
  | ⟨[a, b]⟩, _, pre => exact ⟨a, b, rfl, pre.arg 0 _ a rfl rfl, pre.arg 1 _ b rfl rfl⟩

/- strconv.Itoa -/
def Litoa (fuel : Nat) (n : Int) : Option (List UInt8) := bif decide (-9223372036854775808 ≤ n) && decide (n ≤ 9223372036854775807) then some (itoaB n) else none
def Litoac (fuel : Nat) : CallE := { f := 30, A := ⟨1, [], [.int .i64]⟩, R := ⟨1, [], [.str]⟩, F := fun x => Litoa fuel x, dflt := [] }
theorem Litoaok (fuel : Nat) : (Litoac fuel).Ok Tryd.prog := by
  intro n y h
  have h : Litoa fuel n = some y := h
  unfold Litoa at h
  obtain ⟨hb, rfl⟩ := cond_some h
  simp only [Bool.and_eq_true, decide_eq_true_eq] at hb
  refine pure_meets (canEnter_of Tryd.func30 (by kernel_rfl) (by kernel_rfl)) (fun D ow μ w vals pre => ?_)
  obtain ⟨v, rfl, h1⟩ := vals1 pre
  cases h1
  refine (Tryd.strconv_Itoa n hb.1 hb.2 w (tab10 pre.tabs)).mono ?_
  rintro e w' ⟨rfl, k, os, rfl⟩
  refine ⟨_, rfl, fun ow' μ' st' => ?_, below_grow w k os⟩
  rw [← itoaB_eq hb.1 hb.2]
  exact .str

theorem rep_str {P : Program} {D : Dom} {w : World} {T : TypeId} {p : PV} {cs : List Value} (h : Rep P D w T p cs) (hT : P.underlying T = some .string) : cs = [.string ⟨p.asStr.toArray⟩] := by
  cases h with
  | str _ => rfl
  | raw h => simp [rawT, hT] at h
  | bool h => rw [hT] at h; cases h
  | int h => rw [hT] at h; cases h
  | nil h => rw [hT] at h; cases h
  | slice h => rw [hT] at h; cases h
  | agg h => rw [hT] at h; cases h
  | arr h => rw [hT] at h; cases h
  | mapnil h => rw [hT] at h; cases h
  | map _ _ h => rw [hT] at h; cases h
theorem take1 {L : List Value} {j : Nat} {v : Value} (h : (L.drop (j * 1)).take 1 = [v]) : L[j]? = some v := by
  have h1 : ((L.drop (j * 1)).take 1)[0]? = some v := by rw [h]; rfl
  rw [List.getElem?_take_of_lt (by omega), List.getElem?_drop, Nat.mul_one] at h1
  simpa using h1

/- strings.Join -/
def Ljoin (fuel : Nat) (xs : List PV) (sep : List UInt8) : Option (List UInt8) :=
  bif Nat.ble xs.length 140737488355328 && Nat.ble (sep.intercalate (xs.map PV.asStr)).length 140737488355328 then some (sep.intercalate (xs.map PV.asStr)) else none
def Ljoinc (fuel : Nat) : CallE := { f := 23, A := ⟨2, [], [.slice 9, .str]⟩, R := ⟨1, [], [.str]⟩, F := fun x => Ljoin fuel x.1 x.2, dflt := [] }
theorem Ljoinok (fuel : Nat) : (Ljoinc fuel).Ok Tryd.prog := by
  intro x y h
  obtain ⟨xs, sep⟩ := x
  have h : Ljoin fuel xs sep = some y := h
  unfold Ljoin at h
  obtain ⟨hb, rfl⟩ := cond_some h
  simp only [Bool.and_eq_true, Nat.ble_eq] at hb
  refine pure_meets (canEnter_of Tryd.func23 (by kernel_rfl) (by kernel_rfl)) (fun D ow μ w vals pre => ?_)
  obtain ⟨v, u, rfl, h1, h2⟩ := vals2 pre
  cases h2
  cases h1 with
  | slice h1 =>
    cases h1 with
    | @nil a c _ =>
      refine (Tryd.strings_Join_none a c ⟨sep.toArray⟩ w).mono ?_
      rintro e w' ⟨rfl, rfl⟩
      exact ⟨_, rfl, fun ow' μ' st' => .str, Below.refl _ _⟩
    | @mk b off cap _ L hcap hL hr hh =>
      have hc1 : Tryd.prog.cellsOf 9 = 1 := by kernel_rfl
      by_cases h0 : xs.length = 0
      · have : xs = [] := List.length_eq_zero_iff.1 h0
        subst this
        refine (Tryd.strings_Join_none (some ⟨b, off, none⟩) cap ⟨sep.toArray⟩ w).mono ?_
        rintro e w' ⟨rfl, rfl⟩
        exact ⟨_, rfl, fun ow' μ' st' => .str, Below.refl _ _⟩
      · have hlist : (xs.map fun x => (⟨x.asStr.toArray⟩ : ByteArray)).map (fun b => b.data.toList) = xs.map PV.asStr := by simp
        have hcells : ∀ (j : Nat) x, (xs.map fun x => (⟨x.asStr.toArray⟩ : ByteArray))[j]? = some x → w.cell? ⟨b, off + j, none⟩ = some (.string x) := by
          intro j x hx
          simp only [List.getElem?_map, Option.map_eq_some_iff] at hx
          obtain ⟨p, hp, rfl⟩ := hx
          have hrp := hr j p hp
          rw [hc1] at hrp
          have h1 := take1 (rep_str hrp Tryd.underlying9)
          exact (hh j _ h1).2
        have hbk : b < w.heap.size := by
          have hp : xs[0]? = some xs[0] := List.getElem?_eq_getElem (by omega)
          have hrp := hr 0 _ hp
          rw [hc1] at hrp
          exact pre.dlt b _ (hh 0 _ (take1 (rep_str hrp Tryd.underlying9))).1
        have hjl : (Lib.join ((xs.map fun x => (⟨x.asStr.toArray⟩ : ByteArray)).map (·.data.toList)) (⟨sep.toArray⟩ : ByteArray).data.toList) = sep.intercalate (xs.map PV.asStr) := by
          rw [hlist]; rfl
        have := Tryd.strings_Join b off cap (xs.map fun x => (⟨x.asStr.toArray⟩ : ByteArray)) ⟨sep.toArray⟩ w hcells hbk (by simpa using hb.1) (by simpa using hcap) (by rw [hjl]; exact hb.2)
        rw [hjl, List.length_map] at this
        refine this.mono ?_
        rintro e w' ⟨rfl, hb⟩
        exact ⟨_, rfl, fun ow' μ' st' => .str, hb⟩

/- strings.Repeat -/
def Lrepeat (fuel : Nat) (s : List UInt8) (c : Int) : Option (List UInt8) :=
  bif decide (0 ≤ c) && decide (c ≤ 9223372036854775807) && Nat.ble (s.length * c.toNat) 140737488355328 then some (Lib.repeatL s c.toNat) else none
def Lrepeatc (fuel : Nat) : CallE := { f := 46, A := ⟨2, [], [.str, .int .i64]⟩, R := ⟨1, [], [.str]⟩, F := fun x => Lrepeat fuel x.1 x.2, dflt := [] }
theorem Lrepeatok (fuel : Nat) : (Lrepeatc fuel).Ok Tryd.prog := by
  intro x y h
  obtain ⟨s, c⟩ := x
  have h : Lrepeat fuel s c = some y := h
  unfold Lrepeat at h
  obtain ⟨hb, rfl⟩ := cond_some h
  simp only [Bool.and_eq_true, Nat.ble_eq, decide_eq_true_eq] at hb
  obtain ⟨⟨h0, h1⟩, h2⟩ := hb
  obtain ⟨n, rfl⟩ : ∃ n : Nat, c = (n : Int) := ⟨c.toNat, (Int.toNat_of_nonneg h0).symm⟩
  refine pure_meets (canEnter_of Tryd.func46 (by kernel_rfl) (by kernel_rfl)) (fun D ow μ w vals pre => ?_)
  obtain ⟨v, u, rfl, a1, a2⟩ := vals2 pre
  cases a1; cases a2
  refine (Tryd.strings_Repeat ⟨s.toArray⟩ n w (by omega) (by simpa [ByteArray.size] using h2)).mono ?_
  rintro e w' ⟨rfl, hb⟩
  exact ⟨_, rfl, fun ow' μ' st' => .str, hb⟩

/- strings.Builder -/
def LwriteString (fuel : Nat) (s bs : List UInt8) : Option (Int × Value × List UInt8) := bif Nat.ble (bs.length + s.length) 140737488355328 then some ((s.length : Int), .nilIface, bs ++ s) else none
def Lstring (fuel : Nat) (bs : List UInt8) : Option (List UInt8 × List UInt8) := some (bs, bs)
def LlenB (fuel : Nat) (bs : List UInt8) : Option (Int × List UInt8) := some ((bs.length : Int), bs)
def LwriteString_68c (fuel : Nat) : CallE := { f := 36, A := ⟨2, [.bld 68], [.con (.bref 0 68), .str, .str]⟩, R := ⟨2, [.bld 68], [.int .i64, .raw, .str]⟩, F := fun x => LwriteString fuel x.2.1 x.2.2, dflt := (0, undef, []) }
theorem bldOk_68 : BldOk 68 := ⟨by kernel_rfl, by decide, by kernel_rfl⟩
theorem LwriteString_68ok (fuel : Nat) : (LwriteString_68c fuel).Ok Tryd.prog := by
  intro x y h
  obtain ⟨_, s, bs⟩ := x
  have h : LwriteString fuel s bs = some y := h
  unfold LwriteString at h
  obtain ⟨hb, rfl⟩ := cond_some h
  exact writeString_meets bldOk_68 bs s (by simpa using hb)
def Lstring_68c (fuel : Nat) : CallE := { f := 37, A := ⟨1, [.bld 68], [.con (.bref 0 68), .str]⟩, R := ⟨1, [.bld 68], [.str, .str]⟩, F := fun x => Lstring fuel x.2, dflt := ([], []) }
theorem Lstring_68ok (fuel : Nat) : (Lstring_68c fuel).Ok Tryd.prog := by
  intro x y h
  obtain ⟨_, bs⟩ := x
  have h : some (bs, bs) = some y := h
  cases h
  exact string_meets bldOk_68 bs
def LlenB_68c (fuel : Nat) : CallE := { f := 57, A := ⟨1, [.bld 68], [.con (.bref 0 68), .str]⟩, R := ⟨1, [.bld 68], [.int .i64, .str]⟩, F := fun x => LlenB fuel x.2, dflt := (0, []) }
theorem LlenB_68ok (fuel : Nat) : (LlenB_68c fuel).Ok Tryd.prog := by
  intro x y h
  obtain ⟨_, bs⟩ := x
  have h : some ((bs.length : Int), bs) = some y := h
  cases h
  exact len_meets bldOk_68 bs
end Go.Ab
