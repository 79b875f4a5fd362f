/-
  The plain law of measures: truths by lists of settings; parts of measures.
-/
import Derived.Test.YtoefcofplkbnkaaLh
namespace Go.Proofs.Ytoefcofplkbnkaa
open ZW

/-- A setting is right. -/
def setOk (m : Meas) (p : Nat → Int) (x : Int × Int × Bool) : Prop :=
  (x.2.2 = true → (travelP m x.2.1).1 ≤ p 1 - p (2 + x.1.toNat) ∧ p 1 - p (2 + x.1.toNat) ≤ (travelP m x.2.1).2) ∧
  (x.2.2 = false → (travelP m x.2.1).1 ≤ p (2 + x.1.toNat) - p 0 ∧ p (2 + x.1.toNat) - p 0 ≤ (travelP m x.2.1).2)
theorem truth_set {m : Meas} (hM : MeasOk m) {S : Nat} {p : Nat → Int} : TruthP m S p ↔ (m.sum.1 ≤ p 1 - p 0 ∧ p 1 - p 0 ≤ m.sum.2) ∧ ∀ i, i < m.sets.length → S.testBit i = true → setOk m p (setAt m i) := truth_iff hM
theorem setAt_mem {m : Meas} {i : Nat} (h : i < m.sets.length) : setAt m i ∈ m.sets := getD_mem h _
theorem mem_setAt {m : Meas} {x : Int × Int × Bool} (h : x ∈ m.sets) : ∃ i, i < m.sets.length ∧ setAt m i = x := by
  obtain ⟨i, hi, rfl⟩ := List.mem_iff_getElem.1 h
  exact ⟨i, hi, by unfold setAt; rw [← List.getElem_eq_getD (h := hi)]⟩
theorem truth_all {m : Meas} (hM : MeasOk m) {p : Nat → Int} : TruthP m (fullS m) p ↔ (m.sum.1 ≤ p 1 - p 0 ∧ p 1 - p 0 ≤ m.sum.2) ∧ ∀ x ∈ m.sets, setOk m p x := by
  rw [truth_set hM]
  constructor
  · rintro ⟨h1, h2⟩
    refine ⟨h1, fun x hx => ?_⟩
    obtain ⟨i, hi, rfl⟩ := mem_setAt hx
    exact h2 i hi (full_bit m hi)
  · rintro ⟨h1, h2⟩
    exact ⟨h1, fun i hi _ => h2 _ (setAt_mem hi)⟩
theorem sub_can {m : Meas} (hM : MeasOk m) {S T : Nat} (h : ∀ i, i < m.sets.length → S.testBit i = true → T.testBit i = true) (hT : canF m T = true) : canF m S = true := by
  obtain ⟨p, hp⟩ := (canF_iff hM T).1 hT
  exact (canF_iff hM S).2 ⟨p, hp.1, fun i hi hb => hp.2 i hi (h i hi hb)⟩

/-! ### A part of a measure -/
def partL (m : Meas) (S n : Nat) : List (Int × Int × Bool) := (List.range n).foldl (fun l i => if S.testBit i = true then l ++ [setAt m i] else l) []
theorem partL_succ (m : Meas) (S n : Nat) : partL m S (n + 1) = if S.testBit n = true then partL m S n ++ [setAt m n] else partL m S n := range_foldl_succ _ _ _
theorem partL_len (m : Meas) (S : Nat) : ∀ n, (partL m S n).length ≤ n
  | 0 => Nat.le_refl _
  | n + 1 => by
    have ih := partL_len m S n
    rw [partL_succ]
    split
    · rw [List.length_append]; simp; omega
    · omega
theorem partL_mem (m : Meas) (S : Nat) (x : Int × Int × Bool) : ∀ n, x ∈ partL m S n ↔ ∃ i, i < n ∧ S.testBit i = true ∧ setAt m i = x
  | 0 => by simp [partL]
  | n + 1 => by
    have ih := partL_mem m S x n
    rw [partL_succ]
    constructor
    · intro h
      split at h
      · rename_i hb
        rcases List.mem_append.1 h with h | h
        · obtain ⟨i, hi, h⟩ := ih.1 h; exact ⟨i, by omega, h⟩
        · simp only [List.mem_singleton] at h; exact ⟨n, by omega, hb, h.symm⟩
      · obtain ⟨i, hi, h⟩ := ih.1 h; exact ⟨i, by omega, h⟩
    · rintro ⟨i, hi, hb, he⟩
      rcases Nat.lt_or_ge i n with h | h
      · have := ih.2 ⟨i, h, hb, he⟩
        split
        · exact List.mem_append_left _ this
        · exact this
      · obtain rfl : i = n := by omega
        rw [if_pos hb]; simp [he]
def partM (m : Meas) (S : Nat) : Meas := { m with sets := partL m S m.sets.length }
theorem part_ok {m : Meas} (hM : MeasOk m) (S : Nat) : MeasOk (partM m S) := by
  refine ⟨⟨hM.s.n, hM.s.e, hM.s.y⟩, hM.i, hM.u, Nat.le_trans (partL_len m S _) hM.n, fun x hx => ?_⟩
  obtain ⟨i, hi, _, rfl⟩ := (partL_mem m S x _).1 hx
  exact hM.a _ (setAt_mem hi)
theorem part_truth {m : Meas} (hM : MeasOk m) (S : Nat) (p : Nat → Int) : TruthP (partM m S) (fullS (partM m S)) p ↔ TruthP m S p := by
  rw [truth_all (part_ok hM S), truth_set hM]
  constructor
  · rintro ⟨h1, h2⟩
    exact ⟨h1, fun i hi hb => h2 _ ((partL_mem m S _ _).2 ⟨i, hi, hb, rfl⟩)⟩
  · rintro ⟨h1, h2⟩
    refine ⟨h1, fun x hx => ?_⟩
    obtain ⟨i, hi, hb, rfl⟩ := (partL_mem m S x _).1 hx
    exact h2 i hi hb
theorem part_can {m : Meas} (hM : MeasOk m) (S : Nat) : canF (partM m S) (fullS (partM m S)) = canF m S := by
  have h : canF (partM m S) (fullS (partM m S)) = true ↔ canF m S = true := by
    rw [canF_iff (part_ok hM S), canF_iff hM]
    exact ⟨fun ⟨p, hp⟩ => ⟨p, (part_truth hM S p).1 hp⟩, fun ⟨p, hp⟩ => ⟨p, (part_truth hM S p).2 hp⟩⟩
  cases h1 : canF m S
  · cases h2 : canF (partM m S) (fullS (partM m S))
    · rfl
    · rw [h.1 h2] at h1; cases h1
  · exact h.2 h1

/-! ### How many are in a set -/
theorem bits_le {a b : Nat} (h : ∀ i, a.testBit i = true → b.testBit i = true) : a ≤ b := by
  have : a = a &&& b := by
    refine Nat.eq_of_testBit_eq fun i => ?_
    rw [Nat.testBit_and]
    cases ha : a.testBit i
    · rfl
    · rw [h i ha]; rfl
  rw [this]; exact Nat.and_le_right
theorem popF_sub : ∀ (f a b : Nat), (∀ i, a.testBit i = true → b.testBit i = true) → popF f a ≤ popF f b
  | 0, _, _, _ => Nat.le_refl _
  | f + 1, a, b, h => by
    have ih := popF_sub f (a / 2) (b / 2) fun i hi => by
      have := h (i + 1)
      rw [Nat.testBit_succ, Nat.testBit_succ] at this
      exact this hi
    have h0 := h 0
    rw [Nat.testBit_zero, Nat.testBit_zero] at h0
    simp only [decide_eq_true_eq] at h0
    simp only [popF]
    have := Nat.mod_two_eq_zero_or_one a
    have := Nat.mod_two_eq_zero_or_one b
    omega
theorem popF_or : ∀ (f a b : Nat), popF f (a ||| b) ≤ popF f a + popF f b
  | 0, _, _ => Nat.le_refl _
  | f + 1, a, b => by
    have ih := popF_or f (a / 2) (b / 2)
    have h0 : ((a ||| b) % 2 = 1) ↔ (a % 2 = 1 ∨ b % 2 = 1) := by
      have := Nat.testBit_or a b 0
      rw [Nat.testBit_zero, Nat.testBit_zero, Nat.testBit_zero] at this
      constructor
      · intro h; rw [decide_eq_true h] at this
        have := this.symm
        simpa using this
      · intro h
        have h2 : (decide (a % 2 = 1) || decide (b % 2 = 1)) = true := by simpa using h
        rw [h2] at this; exact of_decide_eq_true this
    simp only [popF, Nat.or_div_two]
    have := Nat.mod_two_eq_zero_or_one a
    have := Nat.mod_two_eq_zero_or_one b
    have := Nat.mod_two_eq_zero_or_one (a ||| b)
    omega
theorem popc_pow : ∀ i, i < 13 → popc (2 ^ i) = 1 := of_decide_eq_true (by kernel_rfl)
theorem popc_small : ∀ c, c < 8192 → (popc c = 0 → c = 0) ∧ (popc c = 1 → ∃ i, i < 13 ∧ c = 2 ^ i) := by
  have h : ((List.range 8192).all fun c => (!decide (popc c = 0) || decide (c = 0)) && (!decide (popc c = 1) || (List.range 13).any fun i => decide (c = 2 ^ i))) = true := by kernel_rfl
  intro c hc
  have := List.all_eq_true.1 h c (List.mem_range.2 hc)
  simp only [Bool.and_eq_true, Bool.or_eq_true, Bool.not_eq_true', decide_eq_false_iff_not, decide_eq_true_eq, List.any_eq_true, List.mem_range] at this
  refine ⟨fun h0 => this.1.resolve_left (not_not_intro h0), fun h1 => this.2.resolve_left (not_not_intro h1)⟩
/-- The set of some numbers. -/
def setOf (l : List Nat) : Nat := l.foldr (fun i t => 2 ^ i ||| t) 0
theorem setOf_bit (j : Nat) : ∀ l : List Nat, (setOf l).testBit j = true ↔ j ∈ l
  | [] => by simp [setOf]
  | i :: l => by
    have ih := setOf_bit j l
    show (2 ^ i ||| setOf l).testBit j = true ↔ _
    rw [Nat.testBit_or, Bool.or_eq_true, ih, Nat.testBit_two_pow, decide_eq_true_eq, List.mem_cons]
    exact ⟨fun h => h.imp (fun h => h.symm) id, fun h => h.imp (fun h => h.symm) id⟩
theorem setOf_pop : ∀ l : List Nat, (∀ i ∈ l, i < 13) → popc (setOf l) ≤ l.length
  | [], _ => by decide
  | i :: l, h => by
    have ih := setOf_pop l fun j hj => h j (List.mem_cons_of_mem _ hj)
    have h1 := popF_or 13 (2 ^ i) (setOf l)
    have h2 := popc_pow i (h i (List.mem_cons_self ..))
    unfold popc at ih h2 ⊢
    show popF 13 (2 ^ i ||| setOf l) ≤ _
    rw [List.length_cons]; omega
theorem setOf_le {m : Meas} {l : List Nat} (h : ∀ i ∈ l, i < m.sets.length) : setOf l ≤ fullS m :=
  bits_le fun i hi => full_bit m (h i ((setOf_bit i l).1 hi))
end Go.Proofs.Ytoefcofplkbnkaa
