/-
  The plain law of measures: the document's sums, places and distances are those of all truths.
-/
import Derived.Test.YtoefcofplkbnkaaLb
namespace Go.Proofs.Ytoefcofplkbnkaa
open ZW

/-- What settings of a set that are reversed, or the others, tell of an image, after the first n. -/
def toldF (m : Meas) (S : Nat) (g : Int) (r : Bool) (n : Nat) : Int × Int := (List.range n).foldl (fun o i => if S.testBit i = true ∧ (setAt m i).1 = g ∧ (setAt m i).2.2 = r then
  (max o.1 (travelP m (setAt m i).2.1).1, min o.2 (travelP m (setAt m i).2.1).2) else o) (-never, never)
theorem toldF_succ (m : Meas) (S : Nat) (g : Int) (r : Bool) (n : Nat) : toldF m S g r (n + 1) = if S.testBit n = true ∧ (setAt m n).1 = g ∧ (setAt m n).2.2 = r then
  (max (toldF m S g r n).1 (travelP m (setAt m n).2.1).1, min (toldF m S g r n).2 (travelP m (setAt m n).2.1).2) else toldF m S g r n := range_foldl_succ _ _ _
abbrev toldA (m : Meas) (S : Nat) (g : Int) (r : Bool) : Int × Int := toldF m S g r m.sets.length
theorem toldF_iff (m : Meas) (S : Nat) (g : Int) (r : Bool) (v : Int) : ∀ n, ((toldF m S g r n).1 ≤ v ∧ v ≤ (toldF m S g r n).2) ↔
    ((-never ≤ v ∧ v ≤ never) ∧ ∀ i, i < n → S.testBit i = true → (setAt m i).1 = g → (setAt m i).2.2 = r → (travelP m (setAt m i).2.1).1 ≤ v ∧ v ≤ (travelP m (setAt m i).2.1).2)
  | 0 => by
    constructor
    · intro h; exact ⟨h, fun i hi => absurd hi (by omega)⟩
    · intro h; exact h.1
  | n + 1 => by
    have ih := toldF_iff m S g r v n
    rw [toldF_succ]
    by_cases hc : S.testBit n = true ∧ (setAt m n).1 = g ∧ (setAt m n).2.2 = r
    · rw [if_pos hc]
      constructor
      · intro h
        simp only at h
        obtain ⟨h1, h2⟩ := ih.1 ⟨by omega, by omega⟩
        refine ⟨h1, fun i hi a b c => ?_⟩
        rcases Nat.lt_or_ge i n with hl | hl
        · exact h2 i hl a b c
        · obtain rfl : i = n := by omega
          exact ⟨by omega, by omega⟩
      · rintro ⟨h1, h2⟩
        have h3 := ih.2 ⟨h1, fun i hi => h2 i (by omega)⟩
        have h4 := h2 n (by omega) hc.1 hc.2.1 hc.2.2
        exact ⟨by simp only; omega, by simp only; omega⟩
    · rw [if_neg hc, ih]
      constructor
      · rintro ⟨h1, h2⟩
        refine ⟨h1, fun i hi a b c => ?_⟩
        rcases Nat.lt_or_ge i n with hl | hl
        · exact h2 i hl a b c
        · obtain rfl : i = n := by omega
          exact absurd ⟨a, b, c⟩ hc
      · rintro ⟨h1, h2⟩
        exact ⟨h1, fun i hi => h2 i (by omega)⟩
theorem toldF_bd {m : Meas} (hM : MeasOk m) (S : Nat) (g : Int) (r : Bool) : ∀ n, n ≤ m.sets.length → -never ≤ (toldF m S g r n).1 ∧ (toldF m S g r n).1 ≤ 41000 ∧ -200 ≤ (toldF m S g r n).2 ∧ (toldF m S g r n).2 ≤ never
  | 0, _ => by
    have : toldF m S g r 0 = (-never, never) := rfl
    rw [this]; unfold never; simp only; omega
  | n + 1, hn => by
    have ih := toldF_bd hM S g r n (by omega)
    have ht := travel_bd hM (hM.a _ (getD_mem (i := n) (by omega) (0, 0, false))).2
    rw [toldF_succ]
    split
    · unfold setAt; simp only; omega
    · exact ih

/-! ### Sums -/
def sumsTo (m : Meas) (S : Nat) (n : Nat) : Int × Int := (List.range n).foldl (fun o g =>
  (max o.1 ((toldA m S (g : Nat) false).1 + (toldA m S (g : Nat) true).1), min o.2 ((toldA m S (g : Nat) false).2 + (toldA m S (g : Nat) true).2))) m.sum
theorem sumsTo_succ (m : Meas) (S n : Nat) : sumsTo m S (n + 1) = (max (sumsTo m S n).1 ((toldA m S (n : Nat) false).1 + (toldA m S (n : Nat) true).1), min (sumsTo m S n).2 ((toldA m S (n : Nat) false).2 + (toldA m S (n : Nat) true).2)) := range_foldl_succ _ _ _
def toldsOk (m : Meas) (S : Nat) (n : Nat) : Prop := ∀ g, g < n → (toldA m S (g : Nat) false).1 ≤ (toldA m S (g : Nat) false).2 ∧ (toldA m S (g : Nat) true).1 ≤ (toldA m S (g : Nat) true).2
instance (m : Meas) (S n : Nat) : Decidable (toldsOk m S n) := inferInstanceAs (Decidable (∀ g, g < n → _))
def sumsF (m : Meas) (S : Nat) : Int × Int := if toldsOk m S m.images.toNat then sumsTo m S m.images.toNat else (1, 0)
def canF (m : Meas) (S : Nat) : Bool := decide ((sumsF m S).1 ≤ (sumsF m S).2)

theorem sumsTo_iff (m : Meas) (S : Nat) (s : Int) : ∀ n, ((sumsTo m S n).1 ≤ s ∧ s ≤ (sumsTo m S n).2) ↔ (m.sum.1 ≤ s ∧ s ≤ m.sum.2) ∧
    ∀ g, g < n → (toldA m S (g : Nat) false).1 + (toldA m S (g : Nat) true).1 ≤ s ∧ s ≤ (toldA m S (g : Nat) false).2 + (toldA m S (g : Nat) true).2
  | 0 => ⟨fun h => ⟨h, fun g hg => absurd hg (by omega)⟩, fun h => h.1⟩
  | n + 1 => by
    have ih := sumsTo_iff m S s n
    rw [sumsTo_succ]
    constructor
    · intro h
      simp only at h
      obtain ⟨h1, h2⟩ := ih.1 ⟨by omega, by omega⟩
      refine ⟨h1, fun g hg => ?_⟩
      rcases Nat.lt_or_ge g n with hl | hl
      · exact h2 g hl
      · obtain rfl : g = n := by omega
        exact ⟨by omega, by omega⟩
    · rintro ⟨h1, h2⟩
      have h3 := ih.2 ⟨h1, fun g hg => h2 g (by omega)⟩
      have h4 := h2 n (by omega)
      exact ⟨by simp only; omega, by simp only; omega⟩

/-- With a sum, an image stands at one of these places. -/
def placesF (m : Meas) (S : Nat) (g : Int) (s : Int) : Int × Int := (max (toldA m S g false).1 (s - (toldA m S g true).2), min (toldA m S g false).2 (s - (toldA m S g true).1))
theorem placesF_iff (m : Meas) (S : Nat) (g s x : Int) : ((placesF m S g s).1 ≤ x ∧ x ≤ (placesF m S g s).2) ↔
    (((toldA m S g false).1 ≤ x ∧ x ≤ (toldA m S g false).2) ∧ ((toldA m S g true).1 ≤ s - x ∧ s - x ≤ (toldA m S g true).2)) := by
  unfold placesF
  simp only
  omega

/-- A truth, told by its sum and its places. -/
theorem truth_iff {m : Meas} (hM : MeasOk m) {S : Nat} {p : Nat → Int} : TruthP m S p ↔ (m.sum.1 ≤ p 1 - p 0 ∧ p 1 - p 0 ≤ m.sum.2) ∧
    ∀ i, i < m.sets.length → S.testBit i = true → ((setAt m i).2.2 = true → (travelP m (setAt m i).2.1).1 ≤ p 1 - p (2 + (setAt m i).1.toNat) ∧ p 1 - p (2 + (setAt m i).1.toNat) ≤ (travelP m (setAt m i).2.1).2) ∧
      ((setAt m i).2.2 = false → (travelP m (setAt m i).2.1).1 ≤ p (2 + (setAt m i).1.toNat) - p 0 ∧ p (2 + (setAt m i).1.toNat) - p 0 ≤ (travelP m (setAt m i).2.1).2) := by
  have hk : ∀ i, i < m.sets.length → (toldOk p ((toldP m).getD i told0) ↔ (((setAt m i).2.2 = true → (travelP m (setAt m i).2.1).1 ≤ p 1 - p (2 + (setAt m i).1.toNat) ∧ p 1 - p (2 + (setAt m i).1.toNat) ≤ (travelP m (setAt m i).2.1).2) ∧
      ((setAt m i).2.2 = false → (travelP m (setAt m i).2.1).1 ≤ p (2 + (setAt m i).1.toNat) - p 0 ∧ p (2 + (setAt m i).1.toNat) - p 0 ≤ (travelP m (setAt m i).2.1).2))) := by
    intro i hi
    rw [told_get m hi]
    show (if (setAt m i).2.2 = true then _ else _) ↔ _
    cases hr : (setAt m i).2.2
    · simp [setAt]
    · simp [setAt]
  unfold TruthP
  constructor
  · rintro ⟨h1, h2⟩; exact ⟨h1, fun i hi hS => (hk i hi).1 (h2 i hi hS)⟩
  · rintro ⟨h1, h2⟩; exact ⟨h1, fun i hi hS => (hk i hi).2 (h2 i hi hS)⟩

/-- Places of all images, with a sum, make a truth. -/
theorem truth_of {m : Meas} (hM : MeasOk m) {S : Nat} {s : Int} {x : Nat → Int} (hs : m.sum.1 ≤ s ∧ s ≤ m.sum.2) (hx : ∀ g, g < m.images.toNat → (placesF m S (g : Nat) s).1 ≤ x g ∧ x g ≤ (placesF m S (g : Nat) s).2) :
    TruthP m S (fun k => if k = 0 then 0 else if k = 1 then s else x (k - 2)) := by
  rw [truth_iff hM]
  simp only [if_true]
  refine ⟨by simpa using hs, fun i hi hS => ?_⟩
  have him := hM.a _ (getD_mem hi (0, 0, false))
  have hI := hM.i
  have hg : (setAt m i).1.toNat < m.images.toNat := by unfold setAt; omega
  have hgi : (((setAt m i).1.toNat : Nat) : Int) = (setAt m i).1 := by unfold setAt; omega
  have h := (placesF_iff m S _ s _).1 (hx _ hg)
  rw [hgi] at h
  have e2 : (2 + (setAt m i).1.toNat = 0) = False := by simp
  have e3 : (2 + (setAt m i).1.toNat = 1) = False := by simp; omega
  have e4 : 2 + (setAt m i).1.toNat - 2 = (setAt m i).1.toNat := by omega
  simp only [e2, e3, if_false, e4]
  refine ⟨fun hr => ?_, fun hr => ?_⟩
  · exact ((toldF_iff m S _ true _ _).1 h.2).2 i hi hS rfl hr
  · have := ((toldF_iff m S _ false _ _).1 h.1).2 i hi hS rfl hr
    omega
/-- And a truth has such places. -/
theorem of_truth {m : Meas} (hM : MeasOk m) {S : Nat} {p : Nat → Int} (hp : TruthP m S p) : (m.sum.1 ≤ p 1 - p 0 ∧ p 1 - p 0 ≤ m.sum.2) ∧
    ∀ g : Nat, ∃ x, ((placesF m S (g : Nat) (p 1 - p 0)).1 ≤ x ∧ x ≤ (placesF m S (g : Nat) (p 1 - p 0)).2) ∧ ((∃ i, i < m.sets.length ∧ S.testBit i = true ∧ (setAt m i).1 = (g : Nat)) → x = p (2 + g) - p 0) := by
  obtain ⟨h1, h2⟩ := (truth_iff hM).1 hp
  refine ⟨h1, fun g => ?_⟩
  have hu := hM.u
  unfold spanOk at hu
  by_cases hs : ∃ i, i < m.sets.length ∧ S.testBit i = true ∧ (setAt m i).1 = (g : Nat)
  · refine ⟨p (2 + g) - p 0, (placesF_iff m S _ _ _).2 ⟨(toldF_iff m S _ _ _ _).2 ⟨?_, fun i hi hS hg hr => ?_⟩, (toldF_iff m S _ _ _ _).2 ⟨?_, fun i hi hS hg hr => ?_⟩⟩, fun _ => rfl⟩
    · obtain ⟨i, hi, hS, hg⟩ := hs
      have ht := travel_bd hM (hM.a _ (getD_mem hi (0, 0, false))).2
      have h3 := h2 i hi hS
      rw [hg, Int.toNat_natCast] at h3
      unfold never
      unfold setAt at h3
      cases hr : (m.sets.getD i (0, 0, false)).2.2
      · have := h3.2 hr; omega
      · have := h3.1 hr; omega
    · have h3 := (h2 i hi hS).2 hr
      rw [hg, Int.toNat_natCast] at h3
      exact h3
    · obtain ⟨i, hi, hS, hg⟩ := hs
      have ht := travel_bd hM (hM.a _ (getD_mem hi (0, 0, false))).2
      have h3 := h2 i hi hS
      rw [hg, Int.toNat_natCast] at h3
      unfold never
      unfold setAt at h3
      cases hr : (m.sets.getD i (0, 0, false)).2.2
      · have := h3.2 hr; omega
      · have := h3.1 hr; omega
    · have h3 := (h2 i hi hS).1 hr
      rw [hg, Int.toNat_natCast] at h3
      omega
  · refine ⟨0, (placesF_iff m S _ _ _).2 ⟨(toldF_iff m S _ _ _ _).2 ⟨by unfold never; omega, fun i hi hS hg hr => absurd ⟨i, hi, hS, hg⟩ hs⟩, (toldF_iff m S _ _ _ _).2 ⟨by unfold never; omega, fun i hi hS hg hr => absurd ⟨i, hi, hS, hg⟩ hs⟩⟩, fun h => absurd h hs⟩

/-- A sum can be just if it is one of the document's. -/
theorem sums_iff {m : Meas} (hM : MeasOk m) {S : Nat} {s : Int} : ((sumsF m S).1 ≤ s ∧ s ≤ (sumsF m S).2) ↔ (m.sum.1 ≤ s ∧ s ≤ m.sum.2) ∧ ∀ g : Nat, g < m.images.toNat → (placesF m S (g : Nat) s).1 ≤ (placesF m S (g : Nat) s).2 := by
  unfold sumsF
  by_cases hok : toldsOk m S m.images.toNat
  · rw [if_pos hok, sumsTo_iff]
    constructor
    · rintro ⟨h1, h2⟩
      refine ⟨h1, fun g hg => ?_⟩
      have := h2 g hg
      have := hok g hg
      unfold placesF; simp only; omega
    · rintro ⟨h1, h2⟩
      refine ⟨h1, fun g hg => ?_⟩
      have := h2 g hg
      unfold placesF at this; simp only at this; omega
  · rw [if_neg hok]
    constructor
    · intro h; simp only at h; omega
    · rintro ⟨_, h2⟩
      refine absurd (fun g hg => ?_) hok
      have := h2 g hg
      unfold placesF at this; simp only at this; omega
theorem sums_truth {m : Meas} (hM : MeasOk m) {S : Nat} {s : Int} : ((sumsF m S).1 ≤ s ∧ s ≤ (sumsF m S).2) ↔ ∃ p, TruthP m S p ∧ p 1 - p 0 = s := by
  rw [sums_iff hM]
  constructor
  · rintro ⟨h1, h2⟩
    refine ⟨_, truth_of hM h1 (x := fun g => (placesF m S (g : Nat) s).1) fun g hg => ⟨Int.le_refl _, h2 g hg⟩, by simp⟩
  · rintro ⟨p, hp, rfl⟩
    obtain ⟨h1, h2⟩ := of_truth hM hp
    refine ⟨h1, fun g _ => ?_⟩
    obtain ⟨x, hx, _⟩ := h2 g
    omega
theorem can_eq {m : Meas} (hM : MeasOk m) (S : Nat) : diagOk (tightB m S) ↔ (sumsF m S).1 ≤ (sumsF m S).2 := by
  rw [can_iff hM]
  constructor
  · rintro ⟨p, hp⟩
    have := (sums_truth hM (S := S)).2 ⟨p, hp, rfl⟩
    omega
  · intro h
    obtain ⟨p, hp, _⟩ := (sums_truth hM (S := S) (s := (sumsF m S).1)).1 ⟨Int.le_refl _, h⟩
    exact ⟨p, hp⟩
theorem sum_eq {m : Meas} (hM : MeasOk m) {S : Nat} (hd : diagOk (tightB m S)) : spanB (tightB m S) 0 1 = sumsF m S := by
  have hle := (can_eq hM S).1 hd
  have ⟨u1, p, hp, hpe⟩ := cl_max hM hd (i := 0) (k := 1) (by omega) (by omega) (cl_lk0 hM hd) (cl_lk1 hM hd)
  have ⟨l1, q, hq, hqe⟩ := cl_max hM hd (i := 1) (k := 0) (by omega) (by omega) (cl_lk1 hM hd) (cl_lk0 hM hd)
  obtain ⟨p', hp', hpe'⟩ := (sums_truth hM (S := S) (s := (sumsF m S).2)).1 ⟨hle, Int.le_refl _⟩
  obtain ⟨q', hq', hqe'⟩ := (sums_truth hM (S := S) (s := (sumsF m S).1)).1 ⟨Int.le_refl _, hle⟩
  have h1 := (sums_truth hM (S := S)).2 ⟨p, hp, rfl⟩
  have h2 := (sums_truth hM (S := S)).2 ⟨q, hq, rfl⟩
  have h3 := u1 p' hp'
  have h4 := l1 q' hq'
  refine Prod.ext ?_ ?_
  · simp only; omega
  · simp only; omega
/-- A sum and a place, or two, can be together just if the places are those with that sum. -/
theorem place_truth {m : Meas} (hM : MeasOk m) {S : Nat} {s : Int} (hs : (sumsF m S).1 ≤ s ∧ s ≤ (sumsF m S).2) {a b : Nat} (ha : a < m.images.toNat) (hb : b < m.images.toNat) {x y : Int} (hx : (placesF m S (a : Nat) s).1 ≤ x ∧ x ≤ (placesF m S (a : Nat) s).2)
    (hy : (placesF m S (b : Nat) s).1 ≤ y ∧ y ≤ (placesF m S (b : Nat) s).2) (hab : a = b → x = y) : ∃ p, TruthP m S p ∧ p 1 - p 0 = s ∧ p (2 + a) - p 0 = x ∧ p (2 + b) - p 0 = y := by
  obtain ⟨h1, h2⟩ := (sums_iff hM).1 hs
  refine ⟨_, truth_of hM h1 (x := fun g => if g = a then x else if g = b then y else (placesF m S (g : Nat) s).1) fun g hg => ?_, by simp, ?_, ?_⟩
  · by_cases c1 : g = a
    · subst c1; simp only [if_true]; exact hx
    · by_cases c2 : g = b
      · subst c2; simp only [if_neg c1, if_true]; exact hy
      · simp only [if_neg c1, if_neg c2]; exact ⟨Int.le_refl _, h2 g hg⟩
  · have e1 : (2 + a = 0) = False := by simp
    have e2 : (2 + a = 1) = False := by simp; omega
    simp only [e1, e2, if_false, if_true, show 2 + a - 2 = a from by omega]; omega
  · have e1 : (2 + b = 0) = False := by simp
    have e2 : (2 + b = 1) = False := by simp; omega
    simp only [e1, e2, if_false, if_true, show 2 + b - 2 = b from by omega]
    by_cases c : b = a
    · rw [if_pos c, hab c.symm]; omega
    · rw [if_neg c]; omega
end Go.Proofs.Ytoefcofplkbnkaa
