/-
  The plain law of measures: without a setting that tells nothing.
-/
import Derived.Test.YtoefcofplkbnkaaLk
namespace Go.Proofs.Ytoefcofplkbnkaa
open ZW

theorem idleW_bit (m : Meas) (n : Nat) : ∀ k, (idleW m k).testBit n = (decide (n < k) && bEqB (tightB m (less (fullS m) (1 * 2 ^ n))) (tightB m (fullS m)))
  | 0 => by simp [idleW]
  | k + 1 => by
    have ih := idleW_bit m n k
    rw [idleW_succ]
    by_cases hb : bEqB (tightB m (less (fullS m) (1 * 2 ^ k))) (tightB m (fullS m)) = true
    · rw [if_pos hb, Nat.testBit_or, ih, Nat.one_mul (2 ^ k), Nat.testBit_two_pow]
      by_cases hk : k = n
      · subst hk
        rw [hb]; simp
      · have h1 : decide (k = n) = false := decide_eq_false hk
        have h2 : decide (n < k + 1) = decide (n < k) := decide_eq_decide.2 (by omega)
        rw [h1, h2]; simp
    · rw [if_neg hb, ih]
      by_cases hk : n = k
      · subst hk
        have : bEqB (tightB m (less (fullS m) (1 * 2 ^ n))) (tightB m (fullS m)) = false := by simpa using hb
        rw [this]; simp
      · have h2 : decide (n < k + 1) = decide (n < k) := decide_eq_decide.2 (by omega)
        rw [h2]
theorem part_seen {m : Meas} {S : Nat} {g : Nat} : seenP (partM m S) (g : Nat) ↔ hasS m S g := by
  rw [seenP_iff]
  constructor
  · rintro ⟨x, hx, he⟩
    obtain ⟨i, hi, hb, rfl⟩ := (partL_mem m S x _).1 hx
    exact ⟨i, hi, hb, he⟩
  · rintro ⟨i, hi, hb, he⟩
    exact ⟨setAt m i, (partL_mem m S _ _).2 ⟨i, hi, hb, rfl⟩, he⟩
theorem full_seen {m : Meas} {g : Nat} : seenP m (g : Nat) ↔ hasS m (fullS m) g := by
  refine ⟨seen_has, fun ⟨i, hi, _, he⟩ => (seenP_iff m _).2 ⟨setAt m i, setAt_mem hi, he⟩⟩
theorem part_okF {m : Meas} (hM : MeasOk m) (S : Nat) : okF (partM m S) ↔ canF m S = true := by rw [okF_can, part_can hM]

/-! ### The same truths -/
theorem part_same {m : Meas} (hM : MeasOk m) (ho : okF m) {S : Nat} (h : sameF m S) : sumE (partM m S) = sumE m ∧ (∀ a, placeE (partM m S) a = placeE m a) ∧ ∀ a b, apartE (partM m S) a b = apartE m a b := by
  have hF : canF m (fullS m) = true := (okF_can m).1 ho
  have hP := part_ok hM S
  have hpo : okF (partM m S) := (part_okF hM S).2 (can_mono hM hF S)
  have t1 : ∀ p, Truth (partM m S) p → Truth m p := fun p hp => truths_of_same hM hF h ((part_truth hM S p).1 hp)
  have t2 : ∀ p, Truth m p → Truth (partM m S) p := fun p hp => (part_truth hM S p).2 (truth_full hp)
  have hsn : ∀ a : Int, 0 ≤ a → (seenP (partM m S) a ↔ seenP m a) := fun a ha => by
    obtain ⟨g, rfl⟩ : ∃ g : Nat, a = (g : Nat) := ⟨a.toNat, by omega⟩
    rw [part_seen, full_seen]
    exact ⟨has_full, same_has hM hF h⟩
  have himg : ∀ a, Img m a → Img (partM m S) a := fun a ha => ⟨ha.r, (hsn a ha.r.1).2 ha.s⟩
  refine ⟨?_, fun a => ?_, fun a b => ?_⟩
  · have e := (sum_span hP hpo).eq (sum_span hM ho) (fun p hp => ⟨p, t2 p hp, rfl⟩) (fun p hp => ⟨p, t1 p hp, rfl⟩)
    rw [sumE_ok hP hpo, sumE_ok hM ho] at e ⊢
    exact Prod.ext e rfl
  · by_cases hI : 0 ≤ a ∧ a ≤ m.images - 1
    · by_cases hs : seenP m a
      · have hi : Img m a := ⟨hI, hs⟩
        have e := (place_span hP hpo (himg a hi)).1.eq (place_span hM ho hi).1 (fun p hp => ⟨p, t2 p hp, rfl⟩) (fun p hp => ⟨p, t1 p hp, rfl⟩)
        exact Prod.ext e (((place_code hP hpo).2 (himg a hi)).trans ((place_code hM ho).2 hi).symm)
      · have hs' : ¬ seenP (partM m S) a := fun h => hs ((hsn a hI.1).1 h)
        rw [place_end hP hpo, place_end hM ho]
        have e1 : endF (partM m S) a = 12 := by unfold endF; rw [if_neg (not_not_intro (show 0 ≤ a ∧ a ≤ (partM m S).images - 1 from hI)), if_pos hs']
        have e2 : endF m a = 12 := by unfold endF; rw [if_neg (not_not_intro hI), if_pos hs]
        rw [e1, e2]; rfl
    · rw [place_end hP hpo, place_end hM ho]
      have e1 : endF (partM m S) a = 2 := by unfold endF; rw [if_pos (show ¬ (0 ≤ a ∧ a ≤ (partM m S).images - 1) from hI)]
      have e2 : endF m a = 2 := by unfold endF; rw [if_pos hI]
      rw [e1, e2]; rfl
  · by_cases hI : (0 ≤ a ∧ a ≤ m.images - 1) ∧ (0 ≤ b ∧ b ≤ m.images - 1)
    · have hI' : (0 ≤ a ∧ a ≤ (partM m S).images - 1) ∧ (0 ≤ b ∧ b ≤ (partM m S).images - 1) := hI
      by_cases hab : a = b
      · subst hab
        rw [apart_eqv hP hpo hI'.1, apart_eqv hM ho hI.1]
      · by_cases hs : seenP m a ∧ seenP m b
        · have i1 : Img m a := ⟨hI.1, hs.1⟩
          have i2 : Img m b := ⟨hI.2, hs.2⟩
          have e := (apart_span hP hpo (himg a i1) (himg b i2) hab).eq (apart_span hM ho i1 i2 hab) (fun p hp => ⟨p, t2 p hp, rfl⟩) (fun p hp => ⟨p, t1 p hp, rfl⟩)
          refine Prod.ext e ?_
          rw [apart_ok hP hpo (himg a i1) (himg b i2) hab, apart_ok hM ho i1 i2 hab]
        · have hs' : ¬ (seenP (partM m S) a ∧ seenP (partM m S) b) := fun h => hs ⟨(hsn a hI.1.1).1 h.1, (hsn b hI.2.1).1 h.2⟩
          unfold apartE
          rw [if_neg (not_not_intro hP), if_neg (not_not_intro hI'), if_neg (not_not_intro (okF_diag hP hpo)), if_neg hab, if_pos hs', if_neg (not_not_intro hM), if_neg (not_not_intro hI), if_neg (not_not_intro (okF_diag hM ho)), if_neg hab, if_pos hs]
    · have hI' : ¬ ((0 ≤ a ∧ a ≤ (partM m S).images - 1) ∧ (0 ≤ b ∧ b ≤ (partM m S).images - 1)) := hI
      unfold apartE
      rw [if_neg (not_not_intro hP), if_pos hI', if_neg (not_not_intro hM), if_pos hI]

/-! ### A bound that tells more -/
def endN (m : Meas) (j : Nat) : Int := if j = 0 then (sumsF m (fullS m)).1 else (sumsF m (fullS m)).2
def boundB (m x : Meas) : Bool := !(decide (sumsF m (fullS m) = sumsF x (fullS x)) && (List.range 2).all fun j => (List.range m.images.toNat).all fun i => decide (placeE (withS m (endN m j)) (i : Nat) = placeE (withS x (endN m j)) (i : Nat)))
theorem told_le {m : Meas} (S : Nat) (g : Int) (r : Bool) : ∀ n, n ≤ m.sets.length → (toldF m S g r n).1 ≤ (toldF m (fullS m) g r n).1 ∧ (toldF m (fullS m) g r n).2 ≤ (toldF m S g r n).2
  | 0, _ => ⟨Int.le_refl _, Int.le_refl _⟩
  | n + 1, hn => by
    have ih := told_le (m := m) S g r n (by omega)
    rw [toldF_succ, toldF_succ]
    by_cases hc : S.testBit n = true ∧ (setAt m n).1 = g ∧ (setAt m n).2.2 = r
    · rw [if_pos hc, if_pos ⟨full_bit m (by omega), hc.2⟩]
      dsimp only
      omega
    · rw [if_neg hc]
      split
      · dsimp only; omega
      · exact ih
theorem told_part {m : Meas} (hM : MeasOk m) {S : Nat} (hS : canF m S = true) {g : Nat} (hg : g < m.images.toNat) (r : Bool) : toldA (partM m S) (fullS (partM m S)) (g : Nat) r = toldA m S (g : Nat) r := by
  have hok : toldsOk m S m.images.toNat := by
    refine Decidable.byContradiction fun hn => ?_
    have h := of_decide_eq_true hS
    rw [show sumsF m S = (1, 0) from if_neg hn] at h
    exact absurd h (by decide)
  refine span_ext (fun v => ?_) (by cases r; (· exact (hok g hg).1); (· exact (hok g hg).2))
  rw [toldF_iff, toldF_iff]
  constructor
  · rintro ⟨h1, h2⟩
    refine ⟨h1, fun i hi hb hgi hri => ?_⟩
    obtain ⟨j, hj, he⟩ := mem_setAt (m := partM m S) ((partL_mem m S (setAt m i) _).2 ⟨i, hi, hb, rfl⟩)
    have := h2 j hj (full_bit _ hj) (by rw [he]; exact hgi) (by rw [he]; exact hri)
    rw [he] at this
    exact this
  · rintro ⟨h1, h2⟩
    refine ⟨h1, fun j hj _ hgj hrj => ?_⟩
    obtain ⟨i, hi, hb, he⟩ := (partL_mem m S _ _).1 (setAt_mem hj : setAt (partM m S) j ∈ (partM m S).sets)
    have := h2 i hi hb (by rw [he]; exact hgj) (by rw [he]; exact hrj)
    rw [he] at this
    exact this
theorem places_mid {m : Meas} {S : Nat} {g lo hi n : Int} (h1 : lo ≤ n) (h2 : n ≤ hi) (hl : placesF m S g lo = placesF m (fullS m) g lo) (hh : placesF m S g hi = placesF m (fullS m) g hi) : placesF m S g n = placesF m (fullS m) g n := by
  have a1 := told_le (m := m) S g false _ (Nat.le_refl _)
  have a2 := told_le (m := m) S g true _ (Nat.le_refl _)
  unfold placesF at hl hh ⊢
  have l1 := congrArg Prod.fst hl
  have l2 := congrArg Prod.snd hl
  have k1 := congrArg Prod.fst hh
  have k2 := congrArg Prod.snd hh
  dsimp only at l1 l2 k1 k2
  refine Prod.ext ?_ ?_
  · dsimp only; omega
  · dsimp only; omega
theorem bound_true {m : Meas} (hM : MeasOk m) (ho : okF m) {S : Nat} (h : ¬ sameF m S) : boundB m (partM m S) = true := by
  have hF : canF m (fullS m) = true := (okF_can m).1 ho
  have hS := can_mono hM hF S
  have hP := part_ok hM S
  have hpo : okF (partM m S) := (part_okF hM S).2 hS
  have ho' : (sumsF m (fullS m)).1 ≤ (sumsF m (fullS m)).2 := ho
  cases hb : boundB m (partM m S) with
  | true => rfl
  | false =>
    refine absurd ?_ h
    unfold boundB at hb
    simp only [Bool.not_eq_false', Bool.and_eq_true, decide_eq_true_eq, List.all_eq_true, List.mem_range] at hb
    obtain ⟨hs, hp⟩ := hb
    have hSs : sumsF (partM m S) (fullS (partM m S)) = sumsF m S := by
      refine span_ext (fun s => ?_) (of_decide_eq_true hS)
      rw [sums_truth hP, sums_truth hM]
      exact ⟨fun ⟨p, hp, he⟩ => ⟨p, (part_truth hM S p).1 hp, he⟩, fun ⟨p, hp, he⟩ => ⟨p, (part_truth hM S p).2 hp, he⟩⟩
    refine ⟨hSs.symm.trans hs.symm, fun g hg j hj => ?_⟩
    have hj' := sumsN_lt hj
    have hI : 0 ≤ ((g : Nat) : Int) ∧ ((g : Nat) : Int) ≤ m.images - 1 := by omega
    have key : ∀ n, (sumsF m (fullS m)).1 ≤ n → n ≤ (sumsF m (fullS m)).2 → placeE (withS m n) (g : Nat) = placeE (withS (partM m S) n) (g : Nat) → (seenP m (g : Nat) → placesF m S (g : Nat) n = placesF m (fullS m) (g : Nat) n) := fun n n1 n2 he hsn => by
      rw [with_in hM ⟨n1, n2⟩, with_in hP (by rw [← hs]; exact ⟨n1, n2⟩)] at he
      have c1 := congrArg Prod.snd he
      have c2 := congrArg Prod.fst he
      dsimp only at c1 c2
      have e0 : endF m (g : Nat) = 0 := by unfold endF; rw [if_neg (not_not_intro hI), if_neg (not_not_intro hsn)]
      rw [← c1, if_pos e0, if_pos e0] at c2
      rw [c2]
      unfold placesF
      rw [told_part hM hS hg, told_part hM hS hg]
    by_cases hsn : seenP m (g : Nat)
    · refine places_mid hj'.1 hj'.2 (key _ (Int.le_refl _) ho' (hp 0 (by decide) g hg) hsn) (key _ ho' (Int.le_refl _) (hp 1 (by decide) g hg) hsn)
    · have hn : ¬ hasS m (fullS m) g := fun h => hsn (full_seen.2 h)
      rw [places_none hn (sums_in' hM hj'), places_none (fun h => hn (has_full h)) (sums_in' hM hj')]
end Go.Proofs.Ytoefcofplkbnkaa
