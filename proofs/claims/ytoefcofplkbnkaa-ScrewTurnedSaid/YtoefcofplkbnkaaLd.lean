/-
  The plain law of measures: places and distances.
-/
import Derived.Test.YtoefcofplkbnkaaLc
namespace Go.Proofs.Ytoefcofplkbnkaa
open ZW

/-- An image has a setting of a set. -/
def hasS (m : Meas) (S : Nat) (g : Nat) : Prop := ∃ i, i < m.sets.length ∧ S.testBit i = true ∧ (setAt m i).1 = (g : Nat)
theorem full_bit (m : Meas) {i : Nat} (hi : i < m.sets.length) : (fullS m).testBit i = true := by
  unfold fullS
  rw [Nat.testBit_two_pow_sub_one]; simpa using hi
theorem seen_has {m : Meas} {g : Nat} (h : seenP m (g : Nat)) : hasS m (fullS m) g := by
  obtain ⟨x, hx, he⟩ := (seenP_iff m _).1 h
  obtain ⟨i, hi, rfl⟩ := List.mem_iff_getElem.1 hx
  refine ⟨i, hi, full_bit m hi, ?_⟩
  unfold setAt
  rw [← List.getElem_eq_getD (h := hi)]; exact he
theorem lk_has {m : Meas} (hM : MeasOk m) {S : Nat} (hd : diagOk (tightB m S)) {g : Nat} (h : hasS m S g) : Lk (tightB m S) (2 + g) := by
  obtain ⟨i, hi, hS, hg⟩ := h
  have ht := told_bd hM hi
  have hgt : ((toldP m).getD i told0).1 = g := by
    rw [told_get m hi]
    show (setAt m i).1.toNat = g
    rw [hg]; simp
  have hg6 : g < 6 := by omega
  have e : b0P m S (i + 1) = tellP (b0P m S i) ((toldP m).getD i told0) := by
    have : b0P m S (i + 1) = if S.testBit i then tellP (b0P m S i) ((toldP m).getD i told0) else b0P m S i := tellsP_succ _ _ _ _
    rw [this, if_pos hS]
  have hle : ∀ x y, tightB m S x y ≤ tellP (b0P m S i) ((toldP m).getD i told0) x y := fun x y => by
    rw [← e]
    have h1 := b0_mono m S x y (i + 1) (m.sets.length - (i + 1))
    rw [show i + 1 + (m.sets.length - (i + 1)) = m.sets.length from by omega] at h1
    exact Int.le_trans (close_le _ _ _ _) h1
  have pv : ∀ (b : BMat) (f t : Nat) (x : Int × Int), f ≠ t → putP b f t x f t ≤ x.2 ∧ putP b f t x t f ≤ -x.1 := fun b f t x hne => by
    have hv : ∀ i k, putP b f t x i k = if i = t ∧ k = f then min (b t f) (-x.1) else if i = f ∧ k = t then min (b f t) x.2 else b i k := fun i k => rfl
    rw [hv, hv, if_neg (by omega), if_pos ⟨rfl, rfl⟩, if_pos ⟨rfl, rfl⟩]; omega
  by_cases hr : ((toldP m).getD i told0).2.2 = true
  · have e2 : tellP (b0P m S i) ((toldP m).getD i told0) = putP (b0P m S i) (2 + ((toldP m).getD i told0).1) 1 ((toldP m).getD i told0).2.1 := if_pos hr
    have h1 := pv (b0P m S i) (2 + ((toldP m).getD i told0).1) 1 ((toldP m).getD i told0).2.1 (by omega)
    rw [← e2, hgt] at h1
    have h2 : tightB m S (2 + g) 1 < never := Int.lt_of_le_of_lt (Int.le_trans (hle (2 + g) 1) (Int.le_trans h1.1 ht.2.2.2)) (by decide)
    have h3 : tightB m S 1 (2 + g) < never := Int.lt_of_le_of_lt (Int.le_trans (hle 1 (2 + g)) (Int.le_trans h1.2 (show -((toldP m).getD i told0).2.1.1 ≤ 200 from Int.neg_le_of_neg_le ht.2.1))) (by decide)
    have l1 := cl_lk1 hM hd
    have hg8 : 2 + g < 8 := by omega
    exact ⟨(cl_tr hM hd (by decide) (by decide) hg8 l1.1 h3).2, (cl_tr hM hd hg8 (by decide) (by decide) h2 l1.2).2⟩
  · have e2 : tellP (b0P m S i) ((toldP m).getD i told0) = putP (b0P m S i) 0 (2 + ((toldP m).getD i told0).1) ((toldP m).getD i told0).2.1 := if_neg hr
    have h1 := pv (b0P m S i) 0 (2 + ((toldP m).getD i told0).1) ((toldP m).getD i told0).2.1 (by omega)
    rw [← e2, hgt] at h1
    have h2 : tightB m S 0 (2 + g) < never := Int.lt_of_le_of_lt (Int.le_trans (hle 0 (2 + g)) (Int.le_trans h1.1 ht.2.2.2)) (by decide)
    have h3 : tightB m S (2 + g) 0 < never := Int.lt_of_le_of_lt (Int.le_trans (hle (2 + g) 0) (Int.le_trans h1.2 (show -((toldP m).getD i told0).2.1.1 ≤ 200 from Int.neg_le_of_neg_le ht.2.1))) (by decide)
    exact ⟨h2, h3⟩
theorem cl_eq {m : Meas} (hM : MeasOk m) {S : Nat} (hd : diagOk (tightB m S)) {i k : Nat} {B : Int} (hi : i < 8) (hk : k < 8) (h1 : Lk (tightB m S) i) (h2 : Lk (tightB m S) k)
    (hu : ∀ p, TruthP m S p → p k - p i ≤ B) (he : ∃ p, TruthP m S p ∧ p k - p i = B) : tightB m S i k = B := by
  obtain ⟨u, p, hp, hpe⟩ := cl_max hM hd hi hk h1 h2
  obtain ⟨q, hq, hqe⟩ := he
  have := hu p hp
  have := u q hq
  omega

/-! ### The least and the greatest of some spans -/
def mmTo (f : Nat → Int × Int) (o : Int × Int) (n : Nat) : Int × Int := (List.range n).foldl (fun o j => (min o.1 (f j).1, max o.2 (f j).2)) o
theorem mmTo_succ (f : Nat → Int × Int) (o : Int × Int) (n : Nat) : mmTo f o (n + 1) = (min (mmTo f o n).1 (f n).1, max (mmTo f o n).2 (f n).2) := range_foldl_succ _ _ _
theorem mm_spec (f : Nat → Int × Int) (o : Int × Int) : ∀ n, ((mmTo f o n).1 ≤ o.1 ∧ o.2 ≤ (mmTo f o n).2) ∧ (∀ j, j < n → (mmTo f o n).1 ≤ (f j).1 ∧ (f j).2 ≤ (mmTo f o n).2) ∧
    ((mmTo f o n).1 = o.1 ∨ ∃ j, j < n ∧ (mmTo f o n).1 = (f j).1) ∧ ((mmTo f o n).2 = o.2 ∨ ∃ j, j < n ∧ (mmTo f o n).2 = (f j).2)
  | 0 => ⟨⟨Int.le_refl _, Int.le_refl _⟩, fun j hj => absurd hj (by omega), .inl rfl, .inl rfl⟩
  | n + 1 => by
    obtain ⟨h1, h2, h3, h4⟩ := mm_spec f o n
    rw [mmTo_succ]
    refine ⟨⟨by simp only; omega, by simp only; omega⟩, fun j hj => ?_, ?_, ?_⟩
    · rcases Nat.lt_or_ge j n with hl | hl
      · have := h2 j hl; exact ⟨by simp only; omega, by simp only; omega⟩
      · obtain rfl : j = n := by omega
        exact ⟨by simp only; omega, by simp only; omega⟩
    · simp only
      by_cases hc : (mmTo f o n).1 ≤ (f n).1
      · rw [show min (mmTo f o n).1 (f n).1 = (mmTo f o n).1 from by omega]
        rcases h3 with h | ⟨j, hj, h⟩
        · exact .inl h
        · exact .inr ⟨j, by omega, h⟩
      · exact .inr ⟨n, by omega, by omega⟩
    · simp only
      by_cases hc : (f n).2 ≤ (mmTo f o n).2
      · rw [show max (mmTo f o n).2 (f n).2 = (mmTo f o n).2 from by omega]
        rcases h4 with h | ⟨j, hj, h⟩
        · exact .inl h
        · exact .inr ⟨j, by omega, h⟩
      · exact .inr ⟨n, by omega, by omega⟩

def sumsN (m : Meas) (S : Nat) : Nat := ((sumsF m S).2 - (sumsF m S).1 + 1).toNat
/-- The document's place of an image, and its distance of two: all sums are gone through. -/
def placeF (m : Meas) (S : Nat) (g : Int) : Int × Int := mmTo (fun j => placesF m S g ((sumsF m S).1 + j)) (placesF m S g (sumsF m S).1) (sumsN m S)
def apartF (m : Meas) (S : Nat) (a b : Int) : Int × Int := mmTo (fun j => ((placesF m S b ((sumsF m S).1 + j)).1 - (placesF m S a ((sumsF m S).1 + j)).2, (placesF m S b ((sumsF m S).1 + j)).2 - (placesF m S a ((sumsF m S).1 + j)).1)) (never, -never) (sumsN m S)

theorem places_ok {m : Meas} (hM : MeasOk m) {S : Nat} {s : Int} (hs : (sumsF m S).1 ≤ s ∧ s ≤ (sumsF m S).2) {g : Nat} (hg : g < m.images.toNat) : (placesF m S (g : Nat) s).1 ≤ (placesF m S (g : Nat) s).2 := ((sums_iff hM).1 hs).2 g hg
theorem truth_places {m : Meas} (hM : MeasOk m) {S : Nat} {p : Nat → Int} (hp : TruthP m S p) {g : Nat} (h : hasS m S g) : (placesF m S (g : Nat) (p 1 - p 0)).1 ≤ p (2 + g) - p 0 ∧ p (2 + g) - p 0 ≤ (placesF m S (g : Nat) (p 1 - p 0)).2 := by
  obtain ⟨x, hx, he⟩ := (of_truth hM hp).2 g
  rw [he h] at hx; exact hx
theorem sum_at {m : Meas} (hM : MeasOk m) {S : Nat} {p : Nat → Int} (hp : TruthP m S p) : ∃ j : Nat, j < sumsN m S ∧ p 1 - p 0 = (sumsF m S).1 + j := by
  have h := (sums_truth hM (S := S)).2 ⟨p, hp, rfl⟩
  exact ⟨(p 1 - p 0 - (sumsF m S).1).toNat, by unfold sumsN; omega, by omega⟩

theorem spanB_2 (b : BMat) (f t : Nat) : (spanB b f t).2 = b f t := rfl
theorem placeF_spec (m : Meas) (S : Nat) (g : Int) (hn : 0 < sumsN m S) : (∀ j, j < sumsN m S → (placeF m S g).1 ≤ (placesF m S g ((sumsF m S).1 + j)).1 ∧ (placesF m S g ((sumsF m S).1 + j)).2 ≤ (placeF m S g).2) ∧
    (∃ j, j < sumsN m S ∧ (placeF m S g).1 = (placesF m S g ((sumsF m S).1 + j)).1) ∧ ∃ j, j < sumsN m S ∧ (placeF m S g).2 = (placesF m S g ((sumsF m S).1 + j)).2 := by
  obtain ⟨_, h2, h3, h4⟩ := mm_spec (fun j => placesF m S g ((sumsF m S).1 + j)) (placesF m S g (sumsF m S).1) (sumsN m S)
  have e0 : (sumsF m S).1 + ((0 : Nat) : Int) = (sumsF m S).1 := Int.add_zero _
  refine ⟨h2, ?_, ?_⟩
  · rcases h3 with h3 | h3
    · exact ⟨0, hn, by rw [e0]; exact h3⟩
    · exact h3
  · rcases h4 with h4 | h4
    · exact ⟨0, hn, by rw [e0]; exact h4⟩
    · exact h4
theorem sumsN_pos {m : Meas} (hM : MeasOk m) {S : Nat} (hd : diagOk (tightB m S)) : 0 < sumsN m S := by
  have hle := (can_eq hM S).1 hd
  unfold sumsN; omega
theorem sumsN_lt {m : Meas} {S j : Nat} (hj : j < sumsN m S) : (sumsF m S).1 ≤ (sumsF m S).1 + j ∧ (sumsF m S).1 + j ≤ (sumsF m S).2 := by
  unfold sumsN at hj; omega
theorem at_place {m : Meas} (hM : MeasOk m) {S j : Nat} (hj : j < sumsN m S) {g : Nat} (hg : g < m.images.toNat) {x : Int} (h1 : (placesF m S (g : Nat) ((sumsF m S).1 + j)).1 ≤ x) (h2 : x ≤ (placesF m S (g : Nat) ((sumsF m S).1 + j)).2) : ∃ p, TruthP m S p ∧ p (2 + g) - p 0 = x := by
  obtain ⟨p, hp, _, e, _⟩ := place_truth hM (sumsN_lt hj) hg hg ⟨h1, h2⟩ ⟨h1, h2⟩ (fun _ => rfl)
  exact ⟨p, hp, e⟩
theorem neg_flip {a b c : Int} (h : a - b = c) : b - a = -c := by omega
theorem neg_le_flip {a b c : Int} (h : c ≤ a - b) : b - a ≤ -c := by omega
theorem img8 {m : Meas} (hM : MeasOk m) {g : Nat} (hg : g < m.images.toNat) : 2 + g < 8 := by have := hM.i; omega
theorem place_eq {m : Meas} (hM : MeasOk m) {S : Nat} (hd : diagOk (tightB m S)) {g : Nat} (hg : g < m.images.toNat) (h : hasS m S g) : spanB (tightB m S) 0 (2 + g) = placeF m S (g : Nat) := by
  have hg8 := img8 hM hg
  have hlk := lk_has hM hd h
  obtain ⟨h2, ⟨j1, hj1, e1⟩, j2, hj2, e2⟩ := placeF_spec m S (g : Nat) (sumsN_pos hM hd)
  refine Prod.ext ?_ ?_
  · show -tightB m S (2 + g) 0 = _
    refine (congrArg Neg.neg (cl_eq hM hd (B := -(placeF m S (g : Nat)).1) hg8 (by decide) hlk (cl_lk0 hM hd) (fun p hp => ?_) ?_)).trans (Int.neg_neg _)
    · obtain ⟨j, hj, hje⟩ := sum_at hM hp
      have a := (truth_places hM hp h).1
      rw [hje] at a
      exact neg_le_flip (Int.le_trans (h2 j hj).1 a)
    · rw [e1]
      obtain ⟨p, hp, he⟩ := at_place hM hj1 hg (Int.le_refl _) (places_ok hM (sumsN_lt hj1) hg)
      exact ⟨p, hp, neg_flip he⟩
  · rw [spanB_2]
    refine cl_eq hM hd (by decide) hg8 (cl_lk0 hM hd) hlk (fun p hp => ?_) ?_
    · obtain ⟨j, hj, hje⟩ := sum_at hM hp
      have a := (truth_places hM hp h).2
      rw [hje] at a
      exact Int.le_trans a (h2 j hj).2
    · rw [e2]
      exact at_place hM hj2 hg (places_ok hM (sumsN_lt hj2) hg) (Int.le_refl _)

theorem placesF_bd {m : Meas} (hM : MeasOk m) (S : Nat) (g : Int) {s : Int} (hs : 0 ≤ s ∧ s ≤ 131072) : -never ≤ (placesF m S g s).1 ∧ (placesF m S g s).1 ≤ 200000 ∧ -200 ≤ (placesF m S g s).2 + 200000 ∧ (placesF m S g s).2 ≤ never := by
  have h1 : -never ≤ (toldA m S g false).1 ∧ (toldA m S g false).1 ≤ 41000 ∧ -200 ≤ (toldA m S g false).2 ∧ (toldA m S g false).2 ≤ never := toldF_bd hM S g false _ (Nat.le_refl _)
  have h2 : -never ≤ (toldA m S g true).1 ∧ (toldA m S g true).1 ≤ 41000 ∧ -200 ≤ (toldA m S g true).2 ∧ (toldA m S g true).2 ≤ never := toldF_bd hM S g true _ (Nat.le_refl _)
  unfold placesF
  unfold never at h1 h2 ⊢
  simp only
  omega
theorem apartF_spec {m : Meas} (hM : MeasOk m) (S : Nat) (a b : Int) (hn : 0 < sumsN m S) :
    (∀ j, j < sumsN m S → (apartF m S a b).1 ≤ (placesF m S b ((sumsF m S).1 + j)).1 - (placesF m S a ((sumsF m S).1 + j)).2 ∧ (placesF m S b ((sumsF m S).1 + j)).2 - (placesF m S a ((sumsF m S).1 + j)).1 ≤ (apartF m S a b).2) ∧
    (∃ j, j < sumsN m S ∧ (apartF m S a b).1 = (placesF m S b ((sumsF m S).1 + j)).1 - (placesF m S a ((sumsF m S).1 + j)).2) ∧
    ∃ j, j < sumsN m S ∧ (apartF m S a b).2 = (placesF m S b ((sumsF m S).1 + j)).2 - (placesF m S a ((sumsF m S).1 + j)).1 := by
  obtain ⟨_, h2, h3, h4⟩ := mm_spec (fun j => ((placesF m S b ((sumsF m S).1 + j)).1 - (placesF m S a ((sumsF m S).1 + j)).2, (placesF m S b ((sumsF m S).1 + j)).2 - (placesF m S a ((sumsF m S).1 + j)).1)) (never, -never) (sumsN m S)
  have hu := hM.u
  unfold spanOk at hu
  have hs := ((sums_iff hM).1 (sumsN_lt hn)).1
  have b1 := placesF_bd hM S b (s := (sumsF m S).1 + (0 : Nat)) (by omega)
  have b2 := placesF_bd hM S a (s := (sumsF m S).1 + (0 : Nat)) (by omega)
  have h20 := h2 0 hn
  refine ⟨h2, ?_, ?_⟩
  · rcases h3 with h3 | h3
    · rw [h3] at h20
      exact absurd h20.1 (by clear h2 h3 h4; dsimp only; unfold never at *; omega)
    · exact h3
  · rcases h4 with h4 | h4
    · rw [h4] at h20
      exact absurd h20.2 (by clear h2 h3 h4; dsimp only; unfold never at *; omega)
    · exact h4
theorem apart_eq {m : Meas} (hM : MeasOk m) {S : Nat} (hd : diagOk (tightB m S)) {a b : Nat} (ha : a < m.images.toNat) (hb : b < m.images.toNat) (hab : a ≠ b) (hsa : hasS m S a) (hsb : hasS m S b) :
    spanB (tightB m S) (2 + a) (2 + b) = apartF m S (a : Nat) (b : Nat) := by
  have ha8 := img8 hM ha
  have hb8 := img8 hM hb
  have hlka := lk_has hM hd hsa
  have hlkb := lk_has hM hd hsb
  obtain ⟨h2, ⟨j1, hj1, e1⟩, j2, hj2, e2⟩ := apartF_spec hM S (a : Nat) (b : Nat) (sumsN_pos hM hd)
  have sub1 : ∀ {x y u v s t : Int}, x - s = u → y - s = v → t = v - u → y - x = t := fun h1 h2 h3 => by omega
  have sub2 : ∀ {x y s u v t : Int}, u ≤ x - s → y - s ≤ v → v - u ≤ t → y - x ≤ t := fun h1 h2 h3 => by omega
  have sub3 : ∀ {x y s u v t : Int}, x - s ≤ u → v ≤ y - s → t ≤ v - u → x - y ≤ -t := fun h1 h2 h3 => by omega
  refine Prod.ext ?_ ?_
  · show -tightB m S (2 + b) (2 + a) = _
    refine (congrArg Neg.neg (cl_eq hM hd (B := -(apartF m S (a : Nat) (b : Nat)).1) hb8 ha8 hlkb hlka (fun p hp => ?_) ?_)).trans (Int.neg_neg _)
    · obtain ⟨j, hj, hje⟩ := sum_at hM hp
      have qa := (truth_places hM hp hsa).2
      have qb := (truth_places hM hp hsb).1
      rw [hje] at qa qb
      exact sub3 qa qb (h2 j hj).1
    · obtain ⟨p, hp, _, q1, q2⟩ := place_truth hM (sumsN_lt hj1) ha hb ⟨places_ok hM (sumsN_lt hj1) ha, Int.le_refl _⟩ ⟨Int.le_refl _, places_ok hM (sumsN_lt hj1) hb⟩ (fun e => absurd e hab)
      exact ⟨p, hp, neg_flip (sub1 q1 q2 e1)⟩
  · rw [spanB_2]
    refine cl_eq hM hd ha8 hb8 hlka hlkb (fun p hp => ?_) ?_
    · obtain ⟨j, hj, hje⟩ := sum_at hM hp
      have qa := (truth_places hM hp hsa).1
      have qb := (truth_places hM hp hsb).2
      rw [hje] at qa qb
      exact sub2 qa qb (h2 j hj).2
    · obtain ⟨p, hp, _, q1, q2⟩ := place_truth hM (sumsN_lt hj2) ha hb ⟨Int.le_refl _, places_ok hM (sumsN_lt hj2) ha⟩ ⟨places_ok hM (sumsN_lt hj2) hb, Int.le_refl _⟩ (fun e => absurd e hab)
      exact ⟨p, hp, sub1 q1 q2 e2⟩
end Go.Proofs.Ytoefcofplkbnkaa
