/-
  The plain law of measures: both ends of the sum.
-/
import Derived.Test.YtoefcofplkbnkaaLg
namespace Go.Proofs.Ytoefcofplkbnkaa
open ZW

/-- A measure of which the sum is known. -/
def withS (m : Meas) (n : Int) : Meas := { m with sum := (n, n) }
theorem withS_places (m : Meas) (n : Int) (S : Nat) (g s : Int) : placesF (withS m n) S g s = placesF m S g s := rfl
theorem withS_ok {m : Meas} (hM : MeasOk m) {n : Int} (hn : 0 ≤ n ∧ n ≤ 131072) : MeasOk (withS m n) := ⟨hM.s.1 |> fun _ => ⟨hM.s.n, hM.s.e, hM.s.y⟩, hM.i, by unfold spanOk withS; simp only; omega, hM.n, hM.a⟩
theorem withS_sums {m : Meas} (hM : MeasOk m) {n : Int} (hn : m.sum.1 ≤ n ∧ n ≤ m.sum.2) (S : Nat) (s : Int) :
    ((sumsF (withS m n) S).1 ≤ s ∧ s ≤ (sumsF (withS m n) S).2) ↔ s = n ∧ ((sumsF m S).1 ≤ s ∧ s ≤ (sumsF m S).2) := by
  have hu := hM.u
  unfold spanOk at hu
  rw [sums_iff (withS_ok hM (n := n) (by omega)), sums_iff hM]
  constructor
  · rintro ⟨h1, h2⟩
    have h1 : n ≤ s ∧ s ≤ n := h1
    exact ⟨by omega, by omega, h2⟩
  · rintro ⟨h0, h1, h2⟩
    exact ⟨show n ≤ s ∧ s ≤ n by omega, h2⟩
theorem withS_in {m : Meas} (hM : MeasOk m) {n : Int} {S : Nat} (hn : (sumsF m S).1 ≤ n ∧ n ≤ (sumsF m S).2) : sumsF (withS m n) S = (n, n) := by
  have h1 := ((sums_iff hM).1 hn).1
  refine span_ext (fun s => ?_) (Int.le_refl _)
  rw [withS_sums hM h1]
  simp only
  constructor
  · rintro ⟨h0, h2⟩; omega
  · intro h; exact ⟨by omega, by omega⟩
/-- Of what an image's place cannot be told. -/
def endF (m : Meas) (a : Int) : Int := if ¬ (0 ≤ a ∧ a ≤ m.images - 1) then 2 else if ¬ seenP m a then 12 else 0
theorem endF_or (m : Meas) (a : Int) : endF m a = 0 ∨ endF m a = 2 ∨ endF m a = 12 := by unfold endF; split; (· simp); (· split <;> simp)
theorem place_end {m : Meas} (hM : MeasOk m) (ho : okF m) (a : Int) : placeE m a = (if endF m a = 0 then placeF m (fullS m) a else (0, 0), endF m a) := by
  rw [placeE_eq]
  unfold placeR endF
  rw [if_neg (not_not_intro hM)]
  by_cases hI : 0 ≤ a ∧ a ≤ m.images - 1
  · rw [if_neg (not_not_intro hI), if_neg (not_not_intro ho), if_neg (not_not_intro hI)]
    by_cases hs : seenP m a
    · rw [if_neg (not_not_intro hs), if_neg (not_not_intro hs), if_pos rfl]
    · rw [if_pos hs, if_pos hs]; rfl
  · rw [if_pos hI, if_pos hI]; rfl
theorem with_in {m : Meas} (hM : MeasOk m) {n : Int} (hn : (sumsF m (fullS m)).1 ≤ n ∧ n ≤ (sumsF m (fullS m)).2) (a : Int) :
    placeE (withS m n) a = (if endF m a = 0 then placesF m (fullS m) a n else (0, 0), endF m a) := by
  have h1 := ((sums_iff hM).1 hn).1
  have hu := hM.u
  unfold spanOk at hu
  have hW := withS_ok hM (n := n) (by omega)
  have hs := withS_in hM hn
  have hF : fullS (withS m n) = fullS m := rfl
  have ho : okF (withS m n) := by unfold okF; rw [hF, hs]; exact Int.le_refl _
  rw [place_end hW ho a, show endF (withS m n) a = endF m a from rfl]
  have hp : placeF (withS m n) (fullS (withS m n)) a = placesF m (fullS m) a n := by
    unfold placeF sumsN
    rw [hF, hs]
    have : (((n, n) : Int × Int).2 - ((n, n) : Int × Int).1 + 1).toNat = 1 := by simp
    rw [this, mmTo_succ]
    show (min (placesF m (fullS m) a n).1 (placesF m (fullS m) a (n + ((0 : Nat) : Int))).1, max (placesF m (fullS m) a n).2 (placesF m (fullS m) a (n + ((0 : Nat) : Int))).2) = _
    rw [show n + ((0 : Nat) : Int) = n from by simp]
    refine Prod.ext ?_ ?_ <;> simp only <;> omega
  rw [hp]
theorem with_out {m : Meas} (hM : MeasOk m) {n : Int} (hn : m.sum.1 ≤ n ∧ n ≤ m.sum.2) (ho : ¬ ((sumsF m (fullS m)).1 ≤ n ∧ n ≤ (sumsF m (fullS m)).2)) (a : Int) : (placeE (withS m n) a).2 = 10 ∨ (placeE (withS m n) a).2 = 2 := by
  have hu := hM.u
  unfold spanOk at hu
  have hW := withS_ok hM (n := n) (by omega)
  rw [placeE_eq]
  unfold placeR
  rw [if_neg (not_not_intro hW)]
  by_cases hI : 0 ≤ a ∧ a ≤ (withS m n).images - 1
  · rw [if_neg (not_not_intro hI)]
    have hno : ¬ okF (withS m n) := fun h => by
      have h2 := (withS_sums hM hn (fullS m) _).1 ⟨Int.le_refl _, h⟩
      rw [h2.1] at h2
      exact ho h2.2
    rw [if_pos hno]; exact .inl rfl
  · rw [if_pos hI]; exact .inr rfl
theorem places_mono (m : Meas) (S : Nat) (g : Int) {s t : Int} (h : s ≤ t) : (placesF m S g s).1 ≤ (placesF m S g t).1 ∧ (placesF m S g s).2 ≤ (placesF m S g t).2 := by
  unfold placesF; simp only; omega
theorem place_ends {m : Meas} (ho : okF m) (a : Int) : (placeF m (fullS m) a).1 = (placesF m (fullS m) a (sumsF m (fullS m)).1).1 ∧ (placeF m (fullS m) a).2 = (placesF m (fullS m) a (sumsF m (fullS m)).2).2 ∧
    ∀ n, (sumsF m (fullS m)).1 ≤ n → n ≤ (sumsF m (fullS m)).2 → (placeF m (fullS m) a).1 ≤ (placesF m (fullS m) a n).1 ∧ (placesF m (fullS m) a n).2 ≤ (placeF m (fullS m) a).2 := by
  unfold okF at ho
  have hN : 0 < sumsN m (fullS m) := by unfold sumsN; omega
  have hnN : sumsN m (fullS m) = ((sumsF m (fullS m)).2 - (sumsF m (fullS m)).1 + 1).toNat := rfl
  have hall : ∀ n, (sumsF m (fullS m)).1 ≤ n → n ≤ (sumsF m (fullS m)).2 → (placeF m (fullS m) a).1 ≤ (placesF m (fullS m) a n).1 ∧ (placesF m (fullS m) a n).2 ≤ (placeF m (fullS m) a).2 := fun n h1 h2 => by
    have := ((mm_spec (fun j => placesF m (fullS m) a ((sumsF m (fullS m)).1 + j)) (placesF m (fullS m) a (sumsF m (fullS m)).1) (sumsN m (fullS m))).2.1 (n - (sumsF m (fullS m)).1).toNat (by omega))
    rw [show (sumsF m (fullS m)).1 + (((n - (sumsF m (fullS m)).1).toNat : Nat) : Int) = n from by omega] at this
    exact this
  have hlo := hall _ (Int.le_refl _) ho
  have hhi := hall _ ho (Int.le_refl _)
  have hle := places_mono m (fullS m) a ho
  obtain ⟨_, _, h3, h4⟩ := mm_spec (fun j => placesF m (fullS m) a ((sumsF m (fullS m)).1 + j)) (placesF m (fullS m) a (sumsF m (fullS m)).1) (sumsN m (fullS m))
  refine ⟨?_, ?_, hall⟩
  · rcases h3 with h | ⟨j, hj, h⟩
    · exact h
    · have h : (placeF m (fullS m) a).1 = _ := h
      have := (places_mono m (fullS m) a (s := (sumsF m (fullS m)).1) (t := (sumsF m (fullS m)).1 + (j : Nat)) (by omega)).1
      omega
  · rcases h4 with h | ⟨j, hj, h⟩
    · have h : (placeF m (fullS m) a).2 = _ := h
      omega
    · have h : (placeF m (fullS m) a).2 = _ := h
      have := (places_mono m (fullS m) a (s := (sumsF m (fullS m)).1 + (j : Nat)) (t := (sumsF m (fullS m)).2) (by omega)).2
      omega
abbrev outV (lo hi e : Int) : Value := .tuple [.agg [i64 lo, i64 hi].toArray, i64 e].toArray
theorem sumE_ok {m : Meas} (hM : MeasOk m) (ho : okF m) : sumE m = (sumsF m (fullS m), 0) := by
  rw [sumE_eq]; exact (if_neg (not_not_intro hM)).trans (if_neg (not_not_intro ho))
theorem sumE_clash {m : Meas} (hM : MeasOk m) (ho : ¬ okF m) : sumE m = ((0, 0), 10) := by
  rw [sumE_eq]; exact (if_neg (not_not_intro hM)).trans (if_pos ho)
theorem sums_sub {m : Meas} (hM : MeasOk m) (ho : okF m) : m.sum.1 ≤ (sumsF m (fullS m)).1 ∧ (sumsF m (fullS m)).2 ≤ m.sum.2 := by
  unfold okF at ho
  have h1 := ((sums_iff hM).1 ⟨Int.le_refl _, ho⟩).1
  have h2 := ((sums_iff hM).1 ⟨ho, Int.le_refl _⟩).1
  exact ⟨h1.1, h2.2⟩
end Go.Proofs.Ytoefcofplkbnkaa
