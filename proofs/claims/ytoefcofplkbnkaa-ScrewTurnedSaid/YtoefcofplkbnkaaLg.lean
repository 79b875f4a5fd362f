/-
  The plain law of measures: settings that tell nothing.
-/
import Derived.Test.YtoefcofplkbnkaaLf
namespace Go.Proofs.Ytoefcofplkbnkaa
open ZW

/-! ### Points of which nothing is told -/
def Iso (G : Nat) (b : BMat) : Prop := ∀ k, k ≠ G → b G k = never ∧ b k G = never
theorem Iso.upd {G i k : Nat} {b : BMat} {v : Int} (h : Iso G b) (hi : i ≠ G) (hk : k ≠ G) : Iso G (bUpd b i k v) := fun x hx => by
  unfold bUpd
  rw [if_neg (by omega), if_neg (by omega)]; exact h x hx
theorem Iso.updD {G : Nat} {b : BMat} {v : Int} (h : Iso G b) : Iso G (bUpd b G G v) := fun x hx => by
  unfold bUpd
  rw [if_neg (by omega), if_neg (by omega)]; exact h x hx
theorem Iso.step {G j i k : Nat} {b : BMat} (h : Iso G b) : Iso G (stepP j b i k) := by
  unfold stepP
  by_cases hc : b i j < never ∧ b j k < never
  · rw [if_pos hc]
    by_cases hi : i = G
    · by_cases hk : k = G
      · rw [hi, hk]; exact h.updD
      · by_cases hj : j = G
        · have := (h k hk).1; rw [hj] at hc; omega
        · have := (h j hj).1; rw [hi] at hc; omega
    · by_cases hk : k = G
      · by_cases hj : j = G
        · have := (h i hi).2; rw [hj] at hc; omega
        · have := (h j hj).2; rw [hk] at hc; omega
      · exact h.upd hi hk
  · rw [if_neg hc]; exact h
theorem Iso.row {G j i : Nat} {b : BMat} (h : Iso G b) : ∀ n, Iso G (rowP j b i n)
  | 0 => h
  | n + 1 => by rw [rowP_succ]; exact (Iso.row h n).step
theorem Iso.round {G j : Nat} {b : BMat} (h : Iso G b) : ∀ n, Iso G (roundP b j n)
  | 0 => h
  | n + 1 => by rw [roundP_succ]; exact (Iso.round h n).row 8
theorem Iso.close {G : Nat} {b : BMat} (h : Iso G b) : ∀ n, Iso G (closeP b n)
  | 0 => h
  | n + 1 => by rw [closeP_succ]; exact (Iso.close h n).round 8
theorem Iso.put {G f t : Nat} {b : BMat} {x : Int × Int} (h : Iso G b) (hf : f ≠ G) (ht : t ≠ G) : Iso G (putP b f t x) := (h.upd hf ht).upd ht hf
theorem Iso.free (G : Nat) : Iso G freeP := fun k hk => by unfold freeP; rw [if_neg (by omega), if_neg hk]; exact ⟨rfl, rfl⟩
theorem Iso.b0 {m : Meas} (hM : MeasOk m) {S g : Nat} (hn : ¬ hasS m S g) : ∀ n, n ≤ m.sets.length → Iso (2 + g) (b0P m S n)
  | 0, _ => (Iso.free _).put (by omega) (by omega)
  | n + 1, h => by
    have ih := Iso.b0 hM hn n (by omega)
    have e : b0P m S (n + 1) = if S.testBit n then tellP (b0P m S n) ((toldP m).getD n told0) else b0P m S n := tellsP_succ _ _ _ _
    rw [e]
    by_cases hb : S.testBit n = true
    · rw [if_pos hb]
      have hg : (setAt m n).1.toNat ≠ g := fun he => hn ⟨n, by omega, hb, by have := (img_lt hM (i := n) (by omega)).1; omega⟩
      rw [told_get m (by omega)]
      unfold tellP
      have hg' : 2 + (m.sets.getD n (0, 0, false)).1.toNat ≠ 2 + g := by unfold setAt at hg; omega
      split
      · exact ih.put hg' (by omega)
      · exact ih.put (by omega) hg'
    · rw [if_neg hb]; exact ih
theorem iso_tight {m : Meas} (hM : MeasOk m) {S g : Nat} (hn : ¬ hasS m S g) : Iso (2 + g) (tightB m S) := by
  rw [tightB_eq]; exact (Iso.b0 hM hn _ (Nat.le_refl _)).close 8

/-! ### The same truths -/
theorem span_ext {a b : Int × Int} (h : ∀ s, (a.1 ≤ s ∧ s ≤ a.2) ↔ (b.1 ≤ s ∧ s ≤ b.2)) (hb : b.1 ≤ b.2) : a = b := by
  have h1 := (h b.1).2 ⟨Int.le_refl _, hb⟩
  have h2 := (h b.2).2 ⟨hb, Int.le_refl _⟩
  have h3 := (h a.1).1 ⟨Int.le_refl _, by omega⟩
  have h4 := (h a.2).1 ⟨by omega, Int.le_refl _⟩
  exact Prod.ext (by omega) (by omega)
theorem bEqB_of {b c : BMat} (h : ∀ i k, i < 8 → k < 8 → b i k = c i k) : bEqB b c = true := by
  unfold bEqB
  refine List.all_eq_true.2 fun i hi => List.all_eq_true.2 fun k hk => decide_eq_true (h i k (List.mem_range.1 hi) (List.mem_range.1 hk))
theorem mat_truth {m : Meas} (hM : MeasOk m) {S T : Nat} (h : bEqB (tightB m S) (tightB m T) = true) {p : Nat → Int} (hp : TruthP m S p) : TruthP m T p := by
  refine (Sat.truth hM).1 fun i k hi hk hf => ?_
  have h1 := ((Sat.truth hM).2 hp).close 8 (Nat.le_refl _) i k hi hk
  have h2 := close_le (b0P m T m.sets.length) i k 8
  rw [← tightB_eq] at h1 h2
  rw [bEqB_at h hi hk] at h1
  have := h1 (by omega)
  omega
/-- A set of settings has the same sums and places as all. -/
def sameF (m : Meas) (S : Nat) : Prop := sumsF m S = sumsF m (fullS m) ∧ ∀ g, g < m.images.toNat → ∀ j, j < sumsN m (fullS m) → placesF m S (g : Nat) ((sumsF m (fullS m)).1 + (j : Nat)) = placesF m (fullS m) (g : Nat) ((sumsF m (fullS m)).1 + (j : Nat))
instance (m : Meas) (S : Nat) : Decidable (sameF m S) := inferInstanceAs (Decidable (_ ∧ ∀ g, g < m.images.toNat → ∀ j, j < _ → _))

theorem toldF_none {m : Meas} {S : Nat} {g : Nat} {r : Bool} (h : ¬ hasS m S g) : ∀ n, n ≤ m.sets.length → toldF m S (g : Nat) r n = (-never, never)
  | 0, _ => rfl
  | n + 1, hn => by
    rw [toldF_succ, if_neg fun hc => h ⟨n, by omega, hc.1, hc.2.1⟩]
    exact toldF_none h n (by omega)
theorem places_none {m : Meas} {S : Nat} {g : Nat} (h : ¬ hasS m S g) {s : Int} (hs : 0 ≤ s ∧ s ≤ 131072) : placesF m S (g : Nat) s = (s - never, never) := by
  unfold placesF
  rw [show toldA m S (g : Nat) false = (-never, never) from toldF_none h _ (Nat.le_refl _), show toldA m S (g : Nat) true = (-never, never) from toldF_none h _ (Nat.le_refl _)]
  unfold never
  refine Prod.ext ?_ ?_ <;> simp only <;> omega
theorem has_full {m : Meas} {S g : Nat} (h : hasS m S g) : hasS m (fullS m) g := by
  obtain ⟨i, hi, _, hg⟩ := h
  exact ⟨i, hi, full_bit m hi, hg⟩
theorem places_sub {m : Meas} {S : Nat} {g s x : Int} (h : (placesF m (fullS m) g s).1 ≤ x ∧ x ≤ (placesF m (fullS m) g s).2) : (placesF m S g s).1 ≤ x ∧ x ≤ (placesF m S g s).2 := by
  rw [placesF_iff, toldF_iff, toldF_iff] at h ⊢
  exact ⟨⟨h.1.1, fun i hi _ => h.1.2 i hi (full_bit m hi)⟩, ⟨h.2.1, fun i hi _ => h.2.2 i hi (full_bit m hi)⟩⟩
theorem sums_in' {m : Meas} (hM : MeasOk m) {S : Nat} {s : Int} (h : (sumsF m S).1 ≤ s ∧ s ≤ (sumsF m S).2) : 0 ≤ s ∧ s ≤ 131072 := by
  have h1 := ((sums_iff hM).1 h).1
  have h2 := hM.u
  unfold spanOk at h2; omega
theorem same_of_truths {m : Meas} (hM : MeasOk m) {S : Nat} (hF : canF m (fullS m) = true) (h : ∀ p, TruthP m S p → TruthP m (fullS m) p) : sameF m S := by
  have ho : (sumsF m (fullS m)).1 ≤ (sumsF m (fullS m)).2 := of_decide_eq_true hF
  have hs : sumsF m S = sumsF m (fullS m) := by
    refine span_ext (fun s => ?_) ho
    rw [sums_truth hM, sums_truth hM]
    exact ⟨fun ⟨p, hp, he⟩ => ⟨p, h p hp, he⟩, fun ⟨p, hp, he⟩ => ⟨p, truth_full hp, he⟩⟩
  refine ⟨hs, fun g hg j hj => ?_⟩
  have hj' := sumsN_lt hj
  by_cases hh : hasS m (fullS m) g
  · refine span_ext (fun x => ⟨fun hx => ?_, places_sub⟩) (places_ok hM hj' hg)
    obtain ⟨p, hp, h1, h2, _⟩ := place_truth hM (S := S) (by rw [hs]; exact hj') hg hg hx hx (fun _ => rfl)
    have := truth_places hM (h p hp) hh
    rwa [h1, h2] at this
  · rw [places_none hh (sums_in' hM hj'), places_none (fun h => hh (has_full h)) (sums_in' hM hj')]
theorem same_has {m : Meas} (hM : MeasOk m) {S : Nat} (hF : canF m (fullS m) = true) (h : sameF m S) {g : Nat} (hh : hasS m (fullS m) g) : hasS m S g := by
  refine Classical.byContradiction fun hn => ?_
  have ho : (sumsF m (fullS m)).1 ≤ (sumsF m (fullS m)).2 := of_decide_eq_true hF
  obtain ⟨i, hi, hb, hg⟩ := hh
  have hI := img_lt hM hi
  have him := hM.a _ (getD_mem hi (0, 0, false))
  have hMi := hM.i
  have hgi : g < m.images.toNat := by
    have : (setAt m i).1 ≤ m.images - 1 := him.1.2
    omega
  have hN : 0 < sumsN m (fullS m) := by unfold sumsN; omega
  have he := h.2 g hgi 0 hN
  have hs0 := sums_in' hM (S := fullS m) ⟨Int.le_refl _, ho⟩
  rw [show (sumsF m (fullS m)).1 + ((0 : Nat) : Int) = (sumsF m (fullS m)).1 from by simp] at he
  rw [places_none hn hs0] at he
  have ht := travel_bd hM him.2
  have hm1 := (placesF_iff m (fullS m) (g : Nat) (sumsF m (fullS m)).1 never).1 (by rw [← he]; simp only; unfold never; omega)
  have hm2 := (placesF_iff m (fullS m) (g : Nat) (sumsF m (fullS m)).1 ((sumsF m (fullS m)).1 - never)).1 (by rw [← he]; simp only; unfold never; omega)
  rw [toldF_iff, toldF_iff] at hm1 hm2
  cases hr : (setAt m i).2.2
  · have := (hm1.1.2 i hi hb hg hr).2
    unfold setAt never at this
    omega
  · have := (hm2.2.2 i hi hb hg hr).2
    unfold setAt never at this
    omega
theorem truths_of_same {m : Meas} (hM : MeasOk m) {S : Nat} (hF : canF m (fullS m) = true) (h : sameF m S) {p : Nat → Int} (hp : TruthP m S p) : TruthP m (fullS m) p := by
  have hst := (sums_truth hM (S := S) (s := p 1 - p 0)).2 ⟨p, hp, rfl⟩
  have hj : ∃ j : Nat, j < sumsN m (fullS m) ∧ p 1 - p 0 = (sumsF m (fullS m)).1 + (j : Nat) := by
    rw [h.1] at hst
    exact ⟨(p 1 - p 0 - (sumsF m (fullS m)).1).toNat, by unfold sumsN; omega, by omega⟩
  obtain ⟨j, hj, hje⟩ := hj
  rw [truth_iff hM]
  refine ⟨hp.1, fun i hi hb => ?_⟩
  have hI := img_lt hM hi
  have him := hM.a _ (getD_mem hi (0, 0, false))
  have hMi := hM.i
  have hgi : (setAt m i).1.toNat < m.images.toNat := by
    have : (setAt m i).1 ≤ m.images - 1 := him.1.2
    omega
  have hge : (((setAt m i).1.toNat : Nat) : Int) = (setAt m i).1 := Int.toNat_of_nonneg hI.1
  have hh := same_has hM hF h (g := (setAt m i).1.toNat) ⟨i, hi, hb, hge.symm⟩
  have hx := truth_places hM hp hh
  rw [hje, h.2 _ hgi j hj, placesF_iff, toldF_iff, toldF_iff, hge] at hx
  refine ⟨fun hr => ?_, fun hr => ?_⟩
  · have := hx.2.2 i hi hb rfl hr
    omega
  · exact hx.1.2 i hi hb rfl hr
/-- Bounds are the same just if sums and places are. -/
theorem idle_same {m : Meas} (hM : MeasOk m) {S : Nat} (hF : canF m (fullS m) = true) : bEqB (tightB m S) (tightB m (fullS m)) = true ↔ sameF m S := by
  constructor
  · exact fun h => same_of_truths hM hF fun p hp => mat_truth hM h hp
  · intro h
    have hS := can_mono hM hF S
    have d1 := (can_eq hM S).2 (of_decide_eq_true hS)
    have d2 := (can_eq hM (fullS m)).2 (of_decide_eq_true hF)
    have hl : ∀ i, i < 8 → (Lk (tightB m S) i ∧ Lk (tightB m (fullS m)) i) ∨ (Iso i (tightB m S) ∧ Iso i (tightB m (fullS m))) := fun i hi => by
      rcases Nat.lt_or_ge i 2 with h2 | h2
      · have : i = 0 ∨ i = 1 := by omega
        rcases this with rfl | rfl
        · exact .inl ⟨cl_lk0 hM d1, cl_lk0 hM d2⟩
        · exact .inl ⟨cl_lk1 hM d1, cl_lk1 hM d2⟩
      · obtain ⟨g, rfl⟩ : ∃ g, i = 2 + g := ⟨i - 2, by omega⟩
        by_cases hh : hasS m (fullS m) g
        · exact .inl ⟨lk_has hM d1 (same_has hM hF h hh), lk_has hM d2 hh⟩
        · exact .inr ⟨iso_tight hM fun h => hh (has_full h), iso_tight hM hh⟩
    refine bEqB_of fun i k hi hk => ?_
    by_cases hik : i = k
    · subst hik
      rw [cl_diag hM d1 hi, cl_diag hM d2 hi]
    · rcases hl i hi with ⟨l1, l2⟩ | ⟨l1, l2⟩
      · rcases hl k hk with ⟨k1, k2⟩ | ⟨k1, k2⟩
        · obtain ⟨u, p, hp, he⟩ := cl_max hM d2 hi hk l2 k2
          exact cl_eq hM d1 hi hk l1 k1 (fun p hp => u p (truths_of_same hM hF h hp)) ⟨p, truth_full hp, he⟩
        · rw [(k1 i hik).2, (k2 i hik).2]
      · rw [(l1 k (Ne.symm hik)).1, (l2 k (Ne.symm hik)).1]
end Go.Proofs.Ytoefcofplkbnkaa
