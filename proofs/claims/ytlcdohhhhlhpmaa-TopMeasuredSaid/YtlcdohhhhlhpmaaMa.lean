/-
  Plain law: measures and plates that are truly made, one on the other.
-/
import Derived.Test.YtlcdohhhhlhpmaaIc
import Derived.Test.YtlcdohhhhlhpmaaScrE
namespace Go.Proofs.Ytlcdohhhhlhpmaa
open ZW

/-- The k-th number drawn. -/
def drawQ (l : List Nat) (k : Nat) (n : Int) : Int := ((l.getD (k % l.length) 0 + 43 * k : Nat) : Int) % n
theorem drawQ_bd (l : List Nat) (k : Nat) {n : Int} (h : 0 < n) : 0 ≤ drawQ l k n ∧ drawQ l k n < n := ⟨Int.emod_nonneg _ (by omega), Int.emod_lt_of_pos _ h⟩
/-- What is known of a measure ahead of its settings. -/
structure Base4 (errs : List (Int × Int)) (eye : Int × Int) (images : Int) (ps : List Int) : Prop where
  n : errs.length = 20
  e : ∀ x ∈ errs, -4 ≤ x.1 ∧ x.1 ≤ x.2 ∧ x.2 ≤ 7
  y : -3 ≤ eye.1 ∧ eye.1 ≤ 0 ∧ 0 ≤ eye.2 ∧ eye.2 ≤ 3
  i : 1 ≤ images ∧ images ≤ 6
  len : ps.length = images.toNat
  pb : ∀ v ∈ ps, 200 ≤ v ∧ v ≤ 19699
/-- A setting that is truly made. -/
def good4 (m : Scr.Meas) (ps : List Int) (x : Int × Int × Bool) : Prop := ((0 ≤ x.1 ∧ x.1 ≤ m.images - 1) ∧ Scr.readOk m x.2.1) ∧ Scr.setOk m (Scr.truP 19900 ps) x
theorem made4 {errs : List (Int × Int)} {eye : Int × Int} {images : Int} {ps : List Int} (h : Base4 errs eye images ps) {l : List (Int × Int × Bool)} (hl : l.length ≤ 12)
    (hg : ∀ x ∈ l, good4 ⟨errs, eye, images, (0, 131072), []⟩ ps x) : Scr.Made ⟨errs, eye, images, (0, 131072), l⟩ 19900 ps := by
  have hM : Scr.MeasOk ⟨errs, eye, images, (0, 131072), l⟩ := by
    refine ⟨⟨?_, fun x hx => ?_, ?_⟩, h.i, ?_, hl, fun x hx => (hg x hx).1⟩
    · have := h.n; simp only; omega
    · have := h.e x hx; unfold Scr.spanOk; omega
    · have := h.y; unfold Scr.spanOk; simp only; omega
    · unfold Scr.spanOk; simp only; omega
  refine ⟨hM, h.len, (Scr.truth_all hM).2 ⟨?_, fun x hx => (hg x hx).2⟩, by omega, fun v hv => by have := h.pb v hv; omega⟩
  rw [Scr.truP_0, Scr.truP_1]
  simp only
  omega
theorem good4_of {errs : List (Int × Int)} {eye : Int × Int} {images : Int} {ps : List Int} {g t n d1 d2 : Int} {r : Bool} (hlen : errs.length = 20)
    (hg : 0 ≤ g ∧ g < images) (hx : (if r = true then 19900 - ps.getD g.toNat 0 else ps.getD g.toNat 0) = t) (ht : 0 ≤ t ∧ t < 20000)
    (h1 : 0 ≤ d1 ∧ d1 ≤ (errs.getD (t / 1000).toNat (0, 0)).2 - (errs.getD (t / 1000).toNat (0, 0)).1) (h2 : 0 ≤ d2 ∧ d2 ≤ eye.2 - eye.1)
    (hn : n = t - (errs.getD (t / 1000).toNat (0, 0)).1 - d1 - eye.1 - d2) (h0 : 0 ≤ n) (h3 : n / 1000 = t / 1000) : good4 ⟨errs, eye, images, (0, 131072), []⟩ ps (g, n, r) := by
  refine ⟨⟨by simp only; omega, ?_⟩, ?_⟩
  · unfold Scr.readOk; simp only [hlen]; omega
  · unfold Scr.setOk Scr.travelP
    simp only
    rw [Scr.truP_0, Scr.truP_1, Scr.truP_2, h3]
    constructor
    · intro hr
      rw [if_pos hr] at hx
      omega
    · intro hr
      rw [if_neg (by rw [hr]; decide)] at hx
      omega
/-- A star that is truly made. -/
theorem star4 {s : Int} {c : Int × Int} {x y lo hi d : Int} (hs : 50 ≤ s ∧ s ≤ 949) (hc : ∀ d, -4000 ≤ pd d c ∧ pd d c ≤ 4999) (hx : 0 ≤ x ∧ x ≤ 32768) (hlo : lo ≤ x ∧ x ≤ hi) (hy : 0 ≤ y ∧ y ≤ 19999) (hd : 0 ≤ d ∧ d < 5)
    (v : StarV) (h1 : v.x = (max 0 lo, min 32768 hi)) (h2 : v.y = (y, y + d))
    (hk : v.k = true → ∃ d1 d2 d3 d4 : Int, (0 ≤ d1 ∧ d1 < 5) ∧ (0 ≤ d2 ∧ d2 < 5) ∧ (0 ≤ d3 ∧ d3 < 5) ∧ (0 ≤ d4 ∧ d4 < 5) ∧ v.e = (c.1 + s * x / 1000 - d1, c.1 + s * x / 1000 + d2) ∧ v.n = (c.2 + s * y / 1000 - d3, c.2 + s * y / 1000 + d4)) :
    StarT s c v (x, y) (c.1 + s * x / 1000, c.2 + s * y / 1000) := by
  have hc1 := hc false
  have hc2 := hc true
  have s1 := sky_bd (s := s) (m := x) (by omega) hx
  have s2 := sky_bd (s := s) (m := y) (by omega) (by omega)
  simp only [pd, Bool.false_eq_true, if_false, if_true] at hc1 hc2
  refine ⟨⟨?_, ?_, fun h => ?_⟩, fun d => ?_, fun d => ?_, fun h d => ?_, fun d => ?_⟩
  · rw [h1]; unfold spanOk; dsimp only; omega
  · rw [h2]; unfold spanOk; dsimp only; omega
  · obtain ⟨d1, d2, d3, d4, q1, q2, q3, q4, e1, e2⟩ := hk h
    rw [e1, e2]; unfold spanOk; dsimp only; omega
  · cases d
    · show ((v.x).1 ≤ x ∧ x ≤ (v.x).2) ∧ _
      rw [h1]; dsimp only; simp only [pd, Bool.false_eq_true, if_false]; omega
    · show ((v.y).1 ≤ y ∧ y ≤ (v.y).2) ∧ _
      rw [h2]; dsimp only; simp only [pd, if_true]; omega
  · cases d <;> rfl
  · obtain ⟨d1, d2, d3, d4, q1, q2, q3, q4, e1, e2⟩ := hk h
    cases d
    · show (v.e).1 ≤ _ ∧ _ ≤ (v.e).2
      rw [e1]; simp only [pd, Bool.false_eq_true, if_false]; omega
    · show (v.n).1 ≤ _ ∧ _ ≤ (v.n).2
      rw [e2]; simp only [pd, if_true]; omega
  · cases d
    · simp only [pd, Bool.false_eq_true, if_false]; omega
    · simp only [pd, if_true]; omega
end Go.Proofs.Ytlcdohhhhlhpmaa
