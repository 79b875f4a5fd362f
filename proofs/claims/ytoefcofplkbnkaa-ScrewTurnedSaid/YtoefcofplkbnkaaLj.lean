/-
  The plain law of measures: what sets clash, and which must be wrong.
-/
import Derived.Test.YtoefcofplkbnkaaLi
namespace Go.Proofs.Ytoefcofplkbnkaa
open ZW

def clashS (m : Meas) : Nat := (bestS (badF m) (fullS m + 1)).getD 0
def dropS (m : Meas) : Nat := (bestS (canL m) (fullS m + 1)).getD (fullS m)
theorem clashE_S {m : Meas} (hM : MeasOk m) : clashE m = (((clashS m : Nat) : Int), 0) := by rw [clashE_eq]; exact if_neg (not_not_intro hM)
theorem dropE_S {m : Meas} (hM : MeasOk m) : dropE m = (((dropS m : Nat) : Int), 0) := by rw [dropE_eq]; exact if_neg (not_not_intro hM)

theorem less_bit (a b i : Nat) : (less a b).testBit i = (a.testBit i && !b.testBit i) := by
  unfold less
  rw [Nat.testBit_xor, Nat.testBit_and]
  cases a.testBit i <;> cases b.testBit i <;> rfl
theorem full_testBit (m : Meas) (i : Nat) : (fullS m).testBit i = decide (i < m.sets.length) := by
  unfold fullS; rw [Nat.testBit_two_pow_sub_one]
theorem le_full_bit {m : Meas} {s i : Nat} (h : s ≤ fullS m) (hb : s.testBit i = true) : i < m.sets.length := by
  refine Decidable.byContradiction fun hn => ?_
  have hp := Nat.two_pow_pos m.sets.length
  have h1 : s < 2 ^ i := by
    have : 2 ^ m.sets.length ≤ 2 ^ i := Nat.pow_le_pow_right (by omega) (by omega)
    unfold fullS at h; omega
  rw [Nat.testBit_lt_two_pow h1] at hb; cases hb
theorem less_full_0 (m : Meas) : less (fullS m) 0 = fullS m := Nat.eq_of_testBit_eq fun i => by rw [less_bit]; simp
theorem less_full_self (a : Nat) : less a a = 0 := Nat.eq_of_testBit_eq fun i => by rw [less_bit]; simp

/-! ### Who is the witness -/
theorem toldF_wit (m : Meas) (S : Nat) (g : Int) (r : Bool) : ∀ n, n ≤ m.sets.length →
    ((toldF m S g r n).1 = -never ∨ ∃ i, i < n ∧ S.testBit i = true ∧ (setAt m i).1 = g ∧ (setAt m i).2.2 = r ∧ (toldF m S g r n).1 = (travelP m (setAt m i).2.1).1) ∧
    ((toldF m S g r n).2 = never ∨ ∃ i, i < n ∧ S.testBit i = true ∧ (setAt m i).1 = g ∧ (setAt m i).2.2 = r ∧ (toldF m S g r n).2 = (travelP m (setAt m i).2.1).2)
  | 0, _ => ⟨.inl rfl, .inl rfl⟩
  | n + 1, hn => by
    obtain ⟨h1, h2⟩ := toldF_wit m S g r n (by omega)
    rw [toldF_succ]
    by_cases hc : S.testBit n = true ∧ (setAt m n).1 = g ∧ (setAt m n).2.2 = r
    · rw [if_pos hc]
      dsimp only
      constructor
      · by_cases hx : (travelP m (setAt m n).2.1).1 ≤ (toldF m S g r n).1
        · rw [Int.max_eq_left hx]
          exact h1.imp id fun ⟨i, hi, h⟩ => ⟨i, by omega, h⟩
        · rw [Int.max_eq_right (by omega)]
          exact .inr ⟨n, by omega, hc.1, hc.2.1, hc.2.2, rfl⟩
      · by_cases hx : (toldF m S g r n).2 ≤ (travelP m (setAt m n).2.1).2
        · rw [Int.min_eq_left hx]
          exact h2.imp id fun ⟨i, hi, h⟩ => ⟨i, by omega, h⟩
        · rw [Int.min_eq_right (by omega)]
          exact .inr ⟨n, by omega, hc.1, hc.2.1, hc.2.2, rfl⟩
    · rw [if_neg hc]
      exact ⟨h1.imp id fun ⟨i, hi, h⟩ => ⟨i, by omega, h⟩, h2.imp id fun ⟨i, hi, h⟩ => ⟨i, by omega, h⟩⟩
theorem toldA_wit (m : Meas) (S : Nat) (g : Int) (r : Bool) :
    ((toldA m S g r).1 = -1099511627776 ∨ ∃ i, i < m.sets.length ∧ S.testBit i = true ∧ (setAt m i).1 = g ∧ (setAt m i).2.2 = r ∧ (toldA m S g r).1 = (travelP m (setAt m i).2.1).1) ∧
    ((toldA m S g r).2 = 1099511627776 ∨ ∃ i, i < m.sets.length ∧ S.testBit i = true ∧ (setAt m i).1 = g ∧ (setAt m i).2.2 = r ∧ (toldA m S g r).2 = (travelP m (setAt m i).2.1).2) := toldF_wit m S g r _ (Nat.le_refl _)
theorem toldA_bd {m : Meas} (hM : MeasOk m) (S : Nat) (g : Int) (r : Bool) : -1099511627776 ≤ (toldA m S g r).1 ∧ (toldA m S g r).1 ≤ 41000 ∧ -200 ≤ (toldA m S g r).2 ∧ (toldA m S g r).2 ≤ 1099511627776 := toldF_bd hM S g r _ (Nat.le_refl _)
theorem sumsTo_wit (m : Meas) (S : Nat) : ∀ n,
    ((sumsTo m S n).1 = m.sum.1 ∨ ∃ g, g < n ∧ (sumsTo m S n).1 = (toldA m S (g : Nat) false).1 + (toldA m S (g : Nat) true).1) ∧
    ((sumsTo m S n).2 = m.sum.2 ∨ ∃ g, g < n ∧ (sumsTo m S n).2 = (toldA m S (g : Nat) false).2 + (toldA m S (g : Nat) true).2)
  | 0 => ⟨.inl rfl, .inl rfl⟩
  | n + 1 => by
    obtain ⟨h1, h2⟩ := sumsTo_wit m S n
    rw [sumsTo_succ]
    dsimp only
    constructor
    · by_cases hx : (toldA m S (n : Nat) false).1 + (toldA m S (n : Nat) true).1 ≤ (sumsTo m S n).1
      · rw [Int.max_eq_left hx]
        exact h1.imp id fun ⟨i, hi, h⟩ => ⟨i, by omega, h⟩
      · rw [Int.max_eq_right (by omega)]
        exact .inr ⟨n, by omega, rfl⟩
    · by_cases hx : (sumsTo m S n).2 ≤ (toldA m S (n : Nat) false).2 + (toldA m S (n : Nat) true).2
      · rw [Int.min_eq_left hx]
        exact h2.imp id fun ⟨i, hi, h⟩ => ⟨i, by omega, h⟩
      · rw [Int.min_eq_right (by omega)]
        exact .inr ⟨n, by omega, rfl⟩
/-- A truth of some settings is a truth of each. -/
theorem setOf_truth {m : Meas} (hM : MeasOk m) {l : List Nat} {p : Nat → Int} (hp : TruthP m (setOf l) p) {i : Nat} (hi : i ∈ l) (hl : i < m.sets.length) : setOk m p (setAt m i) :=
  ((truth_set hM).1 hp).2 i hl ((setOf_bit i l).2 hi)
/-- Where all cannot be right, four at most cannot. -/
theorem four {m : Meas} (hM : MeasOk m) (S : Nat) (h : canF m S = false) : ∃ l : List Nat, l.length ≤ 4 ∧ (∀ i ∈ l, i < m.sets.length) ∧ canF m (setOf l) = false := by
  have hu := hM.u
  unfold spanOk at hu
  have hno : ∀ l : List Nat, (∀ p, TruthP m (setOf l) p → False) → canF m (setOf l) = false := fun l hl => by
    cases hc : canF m (setOf l)
    · rfl
    · obtain ⟨p, hp⟩ := (canF_iff hM _).1 hc; exact absurd hp (hl p)
  have hn : ¬ (sumsF m S).1 ≤ (sumsF m S).2 := of_decide_eq_false h
  have ei : ∀ {g : Nat} {x : Int × Int × Bool}, x.1 = (g : Nat) → x.1.toNat = g := fun h => by omega
  by_cases ht : toldsOk m S m.images.toNat
  · have hs : sumsF m S = sumsTo m S m.images.toNat := if_pos ht
    rw [hs] at hn
    obtain ⟨h1, h2⟩ := sumsTo_wit m S m.images.toNat
    have hiff := fun s => sumsTo_iff m S s m.images.toNat
    -- what bounds the sum below
    have lo : ∃ l : List Nat, l.length ≤ 2 ∧ (∀ i ∈ l, i < m.sets.length) ∧ ∀ p, (m.sum.1 ≤ p 1 - p 0 ∧ p 1 - p 0 ≤ m.sum.2) → (∀ i ∈ l, setOk m p (setAt m i)) → (sumsTo m S m.images.toNat).1 ≤ p 1 - p 0 := by
      rcases h1 with h1 | ⟨g, hg, h1⟩
      · exact ⟨[], by simp, by simp, fun p hp _ => by rw [h1]; exact hp.1⟩
      · have b1 := toldA_bd hM S (g : Nat) false
        have b2 := toldA_bd hM S (g : Nat) true
        by_cases hc : (toldA m S (g : Nat) false).1 + (toldA m S (g : Nat) true).1 ≤ m.sum.1
        · exact ⟨[], by simp, by simp, fun p hp _ => by rw [h1]; omega⟩
        · rcases (toldA_wit m S (g : Nat) false).1 with c1 | ⟨i, hi, _, gi, ri, c1⟩
          · omega
          · rcases (toldA_wit m S (g : Nat) true).1 with c2 | ⟨j, hj, _, gj, rj, c2⟩
            · omega
            · refine ⟨[i, j], by simp, by simp; exact ⟨hi, hj⟩, fun p _ hp => ?_⟩
              have o1 := (hp i (by simp)).2 ri
              have o2 := (hp j (by simp)).1 rj
              rw [ei gi] at o1
              rw [ei gj] at o2
              rw [h1]; omega
    have hi : ∃ l : List Nat, l.length ≤ 2 ∧ (∀ i ∈ l, i < m.sets.length) ∧ ∀ p, (m.sum.1 ≤ p 1 - p 0 ∧ p 1 - p 0 ≤ m.sum.2) → (∀ i ∈ l, setOk m p (setAt m i)) → p 1 - p 0 ≤ (sumsTo m S m.images.toNat).2 := by
      rcases h2 with h2 | ⟨g, hg, h2⟩
      · exact ⟨[], by simp, by simp, fun p hp _ => by rw [h2]; exact hp.2⟩
      · have b1 := toldA_bd hM S (g : Nat) false
        have b2 := toldA_bd hM S (g : Nat) true
        by_cases hc : m.sum.2 ≤ (toldA m S (g : Nat) false).2 + (toldA m S (g : Nat) true).2
        · exact ⟨[], by simp, by simp, fun p hp _ => by rw [h2]; omega⟩
        · rcases (toldA_wit m S (g : Nat) false).2 with c1 | ⟨i, hi, _, gi, ri, c1⟩
          · omega
          · rcases (toldA_wit m S (g : Nat) true).2 with c2 | ⟨j, hj, _, gj, rj, c2⟩
            · omega
            · refine ⟨[i, j], by simp, by simp; exact ⟨hi, hj⟩, fun p _ hp => ?_⟩
              have o1 := (hp i (by simp)).2 ri
              have o2 := (hp j (by simp)).1 rj
              rw [ei gi] at o1
              rw [ei gj] at o2
              rw [h2]; omega
    obtain ⟨l1, n1, i1, w1⟩ := lo
    obtain ⟨l2, n2, i2, w2⟩ := hi
    refine ⟨l1 ++ l2, by rw [List.length_append]; omega, fun i hi => (List.mem_append.1 hi).elim (i1 i) (i2 i), hno _ fun p hp => ?_⟩
    have a1 := w1 p hp.1 fun i hi => setOf_truth hM hp (List.mem_append_left _ hi) (i1 i hi)
    have a2 := w2 p hp.1 fun i hi => setOf_truth hM hp (List.mem_append_right _ hi) (i2 i hi)
    omega
  · -- an image's own settings clash
    have hg : ∃ (g : Nat) (r : Bool), ¬ (toldA m S (g : Nat) r).1 ≤ (toldA m S (g : Nat) r).2 := by
      refine Classical.byContradiction fun hc => ht fun g _ => ⟨?_, ?_⟩
      · exact Classical.byContradiction fun h => hc ⟨g, false, h⟩
      · exact Classical.byContradiction fun h => hc ⟨g, true, h⟩
    obtain ⟨g, r, hg⟩ := hg
    have b1 := toldA_bd hM S (g : Nat) r
    rcases (toldA_wit m S (g : Nat) r).1 with c1 | ⟨i, hi, _, gi, ri, c1⟩
    · omega
    · rcases (toldA_wit m S (g : Nat) r).2 with c2 | ⟨j, hj, _, gj, rj, c2⟩
      · omega
      · have hl : ∀ k ∈ [i, j], k < m.sets.length := by simp; exact ⟨hi, hj⟩
        refine ⟨[i, j], by simp, hl, hno _ fun p hp => ?_⟩
        have o1 := setOf_truth hM hp (i := i) (by simp) hi
        have o2 := setOf_truth hM hp (i := j) (by simp) hj
        cases r
        · have o1 := o1.2 ri
          have o2 := o2.2 rj
          rw [ei gi] at o1
          rw [ei gj] at o2
          omega
        · have o1 := o1.1 ri
          have o2 := o2.1 rj
          rw [ei gi] at o1
          rw [ei gj] at o2
          omega
/-- One setting alone can be right. -/
theorem one_can {m : Meas} (hM : MeasOk m) {i : Nat} (hi : i < m.sets.length) : canF m (2 ^ i) = true := by
  have hu := hM.u
  unfold spanOk at hu
  have ht := travel_bd hM (hM.a _ (getD_mem hi (0, 0, false))).2
  have ht' : (travelP m (setAt m i).2.1).1 ≤ (travelP m (setAt m i).2.1).2 := by unfold setAt; omega
  refine (canF_iff hM _).2 ⟨fun k => if k = 0 then 0 else if k = 1 then m.sum.1 else if (setAt m i).2.2 = true then m.sum.1 - (travelP m (setAt m i).2.1).1 else (travelP m (setAt m i).2.1).1, (truth_set hM).2 ⟨?_, fun j hj hb => ?_⟩⟩
  · simp only [if_true]; simp; omega
  · rw [Nat.testBit_two_pow, decide_eq_true_eq] at hb
    subst hb
    have e2 : (2 + (setAt m i).1.toNat = 0) = False := by simp
    have e3 : (2 + (setAt m i).1.toNat = 1) = False := by simp; omega
    refine ⟨fun hr => ?_, fun hr => ?_⟩
    · simp only [e2, e3, if_false, if_true, hr]; simp; omega
    · have hr' : ¬ (setAt m i).2.2 = true := by rw [hr]; decide
      simp only [e2, e3, if_false, if_true, if_neg hr']; simp; omega

/-! ### The facts -/
theorem less_pow {a i : Nat} (h : a.testBit i = true) : less a (2 ^ i) < a ∧ popc (less a (2 ^ i)) ≤ popc a := by
  have hs : ∀ j, (less a (2 ^ i)).testBit j = true → a.testBit j = true := fun j hj => by
    rw [less_bit] at hj; simp at hj; exact hj.1
  have h1 := bits_le hs
  have h2 : less a (2 ^ i) ≠ a := fun he => by
    have := less_bit a (2 ^ i) i
    rw [he, h, Nat.testBit_two_pow] at this
    simp at this
  exact ⟨by omega, popF_sub 13 _ _ hs⟩
structure ClashFacts (m : Meas) (c d : Nat) : Prop where
  cle : c ≤ fullS m
  dle : d ≤ fullS m
  c0 : okF m ↔ c = 0
  d0 : okF m ↔ d = 0
  cd : c ≠ 0 → c &&& d ≠ 0
  c2 : c ≠ 0 → 2 ≤ popc c ∧ popc c ≤ 4
  cbad : c ≠ 0 → canF m c = false
  cmin : c ≠ 0 → ∀ i, c.testBit i = true → canF m (less c (2 ^ i)) = true
  dcan : canF m (less (fullS m) d) = true
  dmin : ∀ s, s ≤ fullS m → canF m (less (fullS m) s) = true → popc d < popc s ∨ popc d = popc s ∧ d ≤ s
  cbest : ∀ s, s ≤ fullS m → canF m s = false → c ≠ 0 ∧ (popc c < popc s ∨ popc c = popc s ∧ c ≤ s)
theorem okF_can (m : Meas) : okF m ↔ canF m (fullS m) = true := by unfold okF canF; rw [decide_eq_true_iff]
theorem clash_facts {m : Meas} (hM : MeasOk m) : ClashFacts m (clashS m) (dropS m) := by
  have hF := fullS_lt hM
  have hN := hM.n
  have hcb : (clashS m = 0 ∧ ∀ s, s ≤ fullS m → canF m s = true) ∨ (clashS m ≠ 0 ∧ clashS m ≤ fullS m ∧ canF m (clashS m) = false ∧ ∀ s, s ≤ fullS m → canF m s = false → popc (clashS m) < popc s ∨ popc (clashS m) = popc s ∧ clashS m ≤ s) := by
    have hs := bestS_spec (badF m) (fullS m + 1)
    unfold clashS
    cases hb : bestS (badF m) (fullS m + 1) with
    | none =>
      rw [hb] at hs
      refine .inl ⟨rfl, fun s h => ?_⟩
      have h2 : (!canF m s) = false := hs s (by omega)
      simpa using h2
    | some b =>
      rw [hb] at hs
      have h1 : b < fullS m + 1 := hs.1
      have h2 : (!canF m b) = true := hs.2.1
      have h2 : canF m b = false := by simpa using h2
      refine .inr ⟨fun h => ?_, by simp only [Option.getD_some]; omega, h2, fun s h hc => hs.2.2 s (by omega) (by unfold badF; rw [hc]; rfl)⟩
      have h : b = 0 := h
      rw [h, can_0 hM] at h2; cases h2
  have hdb : dropS m ≤ fullS m ∧ canF m (less (fullS m) (dropS m)) = true ∧ ∀ s, s ≤ fullS m → canF m (less (fullS m) s) = true → popc (dropS m) < popc s ∨ popc (dropS m) = popc s ∧ dropS m ≤ s := by
    have hs := bestS_spec (canL m) (fullS m + 1)
    unfold dropS
    cases hb : bestS (canL m) (fullS m + 1) with
    | none =>
      rw [hb] at hs
      have h1 : canF m (less (fullS m) (fullS m)) = false := hs (fullS m) (by omega)
      rw [less_full_self, can_0 hM] at h1; cases h1
    | some b =>
      rw [hb] at hs
      have h1 : b < fullS m + 1 := hs.1
      exact ⟨by simp only [Option.getD_some]; omega, hs.2.1, fun s h hc => hs.2.2 s (by omega) hc⟩
  obtain ⟨dle, dcan, dmin⟩ := hdb
  have cle : clashS m ≤ fullS m := by rcases hcb with h | h; (· omega); (· exact h.2.1)
  have cbad : clashS m ≠ 0 → canF m (clashS m) = false := fun h => by rcases hcb with h1 | h1; (· exact absurd h1.1 h); (· exact h1.2.2.1)
  have cbest : ∀ s, s ≤ fullS m → canF m s = false → clashS m ≠ 0 ∧ (popc (clashS m) < popc s ∨ popc (clashS m) = popc s ∧ clashS m ≤ s) := fun s hs hc => by
    rcases hcb with h1 | h1
    · rw [h1.2 s hs] at hc; cases hc
    · exact ⟨h1.1, h1.2.2.2 s hs hc⟩
  have c0 : okF m ↔ clashS m = 0 := by
    rw [okF_can]
    constructor
    · intro h
      refine Decidable.byContradiction fun hn => ?_
      have := cbad hn
      rw [can_mono hM h] at this; cases this
    · intro h
      rcases hcb with h1 | h1
      · exact h1.2 _ (Nat.le_refl _)
      · exact absurd h h1.1
  have d0 : okF m ↔ dropS m = 0 := by
    rw [okF_can]
    constructor
    · intro h
      have h1 := dmin 0 (Nat.zero_le _) (by rw [less_full_0]; exact h)
      have h2 : popc 0 = 0 := rfl
      have := (popc_small (dropS m) (by omega)).1
      omega
    · intro h
      rw [h, less_full_0] at dcan; exact dcan
  refine ⟨cle, dle, c0, d0, fun hn hcd => ?_, fun hn => ⟨?_, ?_⟩, cbad, fun hn i hi => ?_, dcan, dmin, cbest⟩
  · have := cbad hn
    rw [sub_can hM (S := clashS m) (T := less (fullS m) (dropS m)) (fun i hi hb => ?_) dcan] at this
    · cases this
    · rw [less_bit, full_bit m hi]
      have h2 := Nat.testBit_and (clashS m) (dropS m) i
      rw [hcd, hb] at h2
      simp at h2
      rw [h2]; rfl
  · refine Decidable.byContradiction fun h2 => ?_
    have hs := popc_small (clashS m) (by omega)
    have : popc (clashS m) = 0 ∨ popc (clashS m) = 1 := by omega
    rcases this with h | h
    · exact hn (hs.1 h)
    · obtain ⟨i, _, he⟩ := hs.2 h
      have hb : (clashS m).testBit i = true := by rw [he, Nat.testBit_two_pow]; simp
      have := cbad hn
      rw [he, one_can hM (le_full_bit cle hb)] at this; cases this
  · have hf : canF m (fullS m) = false := by
      cases hc : canF m (fullS m)
      · rfl
      · exact absurd (c0.1 ((okF_can m).2 hc)) hn
    obtain ⟨l, hl, hi, hb⟩ := four hM _ hf
    have h1 := (cbest (setOf l) (setOf_le hi) hb).2
    have h2 := setOf_pop l fun i h => by have := hi i h; omega
    omega
  · have h1 := less_pow hi
    cases hc : canF m (less (clashS m) (2 ^ i))
    · have := (cbest _ (by omega) hc).2
      omega
    · rfl
end Go.Proofs.Ytoefcofplkbnkaa
