/-
  The plain law of measures: measures that were truly made.
-/
import Derived.Test.YtoefcofplkbnkaaLk
namespace Go.Proofs.Ytoefcofplkbnkaa
open ZW

/-- The k-th number drawn. -/
def drawI (l : List Nat) (k : Nat) (n : Int) : Int := ((l.getD (k % l.length) 0 + 23 * k : Nat) : Int) % n
theorem draw_bd (l : List Nat) (k : Nat) {n : Int} (h : 0 < n) : 0 ≤ drawI l k n ∧ drawI l k n < n := ⟨Int.emod_nonneg _ (by omega), Int.emod_lt_of_pos _ h⟩
def truP (sum : Int) (ps : List Int) (k : Nat) : Int := if k = 0 then 0 else if k = 1 then sum else ps.getD (k - 2) 0
theorem truP_0 (sum : Int) (ps : List Int) : truP sum ps 0 = 0 := rfl
theorem truP_1 (sum : Int) (ps : List Int) : truP sum ps 1 = sum := rfl
theorem truP_2 (sum : Int) (ps : List Int) (g : Nat) : truP sum ps (2 + g) = ps.getD g 0 := by
  unfold truP
  rw [if_neg (by omega), if_neg (by omega), show 2 + g - 2 = g from by omega]
structure Made (m : Meas) (sum : Int) (ps : List Int) : Prop where
  ok : MeasOk m
  len : ps.length = m.images.toNat
  tr : Truth m (truP sum ps)
  sb : 0 ≤ sum ∧ sum ≤ 100000
  pb : ∀ v ∈ ps, -100000 ≤ v ∧ v ≤ 100000
/-- What is known of a measure ahead of its settings. -/
structure Base (errs : List (Int × Int)) (eye : Int × Int) (images : Int) (u : Int × Int) (sum : Int) (ps : List Int) : Prop where
  n : 5 ≤ errs.length ∧ errs.length ≤ 14
  e : ∀ x ∈ errs, -10 ≤ x.1 ∧ x.1 ≤ x.2 ∧ x.2 ≤ 20
  y : -5 ≤ eye.1 ∧ eye.1 ≤ 0 ∧ 0 ≤ eye.2 ∧ eye.2 ≤ 5
  i : 1 ≤ images ∧ images ≤ 6
  u : 0 ≤ u.1 ∧ u.1 ≤ sum ∧ sum ≤ u.2 ∧ u.2 ≤ 131072
  s : 0 ≤ sum ∧ sum ≤ 100000
  len : ps.length = images.toNat
  pb : ∀ v ∈ ps, -100000 ≤ v ∧ v ≤ 100000
/-- A setting that is truly made. -/
def good (m : Meas) (sum : Int) (ps : List Int) (x : Int × Int × Bool) : Prop := ((0 ≤ x.1 ∧ x.1 ≤ m.images - 1) ∧ readOk m x.2.1) ∧ setOk m (truP sum ps) x
theorem made_of {errs : List (Int × Int)} {eye : Int × Int} {images : Int} {u : Int × Int} {sum : Int} {ps : List Int} (h : Base errs eye images u sum ps) {l : List (Int × Int × Bool)} (hl : l.length ≤ 12)
    (hg : ∀ x ∈ l, good ⟨errs, eye, images, u, []⟩ sum ps x) : Made ⟨errs, eye, images, u, l⟩ sum ps := by
  have hM : MeasOk ⟨errs, eye, images, u, l⟩ := by
    refine ⟨⟨?_, fun x hx => ?_, ?_⟩, h.i, ?_, hl, fun x hx => (hg x hx).1⟩
    · have := h.n; simp only; omega
    · have := h.e x hx; unfold spanOk; omega
    · have := h.y; unfold spanOk; simp only; omega
    · have := h.u; unfold spanOk; simp only; omega
  refine ⟨hM, h.len, (truth_all hM).2 ⟨?_, fun x hx => (hg x hx).2⟩, h.s, h.pb⟩
  rw [truP_0, truP_1]
  have := h.u
  simp only
  omega
theorem good_of {errs : List (Int × Int)} {eye : Int × Int} {images : Int} {u : Int × Int} {sum : Int} {ps : List Int} {g v n d : Int} {r : Bool} {x : Int}
    (hg : 0 ≤ g ∧ g < images) (hx : (if r = true then sum - ps.getD g.toNat 0 else ps.getD g.toNat 0) = x) (hv : eye.1 ≤ v ∧ v ≤ eye.2) (hn : n = x - v)
    (hd : 0 ≤ d ∧ d ≤ (errs.getD (n / 1000).toNat (0, 0)).2 - (errs.getD (n / 1000).toNat (0, 0)).1)
    (h0 : 0 ≤ n - (errs.getD (n / 1000).toNat (0, 0)).1 - d) (h1 : n - (errs.getD (n / 1000).toNat (0, 0)).1 - d < errs.length * 1000)
    (h2 : (n - (errs.getD (n / 1000).toNat (0, 0)).1 - d) / 1000 = n / 1000) : good ⟨errs, eye, images, u, []⟩ sum ps (g, n - (errs.getD (n / 1000).toNat (0, 0)).1 - d, r) := by
  refine ⟨⟨by simp only; omega, ?_⟩, ?_⟩
  · unfold readOk; simp only; omega
  · unfold setOk travelP
    simp only
    rw [truP_0, truP_1, truP_2, h2]
    constructor
    · intro hr
      rw [if_pos hr] at hx
      omega
    · intro hr
      rw [if_neg (by rw [hr]; decide)] at hx
      omega

/-! ### What is told of them -/
theorem Made.okF {m : Meas} {sum : Int} {ps : List Int} (h : Made m sum ps) : okF m := (okF_iff h.ok).2 ⟨_, h.tr⟩
theorem Made.sum {m : Meas} {sum : Int} {ps : List Int} (h : Made m sum ps) : (sumE m).2 = 0 ∧ (sumE m).1.1 ≤ sum ∧ sum ≤ (sumE m).1.2 := by
  have := (sum_span h.ok h.okF).all _ h.tr
  rw [truP_0, truP_1] at this
  exact ⟨sum_code.2 ⟨h.ok, h.okF⟩, by omega, by omega⟩
theorem Made.set {m : Meas} {sum : Int} {ps : List Int} (h : Made m sum ps) {x : Int × Int × Bool} (hx : x ∈ m.sets) : (travelE m x.2.1).2 = 0 ∧
    (x.2.2 = true → (travelE m x.2.1).1.1 ≤ sum - ps.getD x.1.toNat 0 ∧ sum - ps.getD x.1.toNat 0 ≤ (travelE m x.2.1).1.2) ∧ (x.2.2 = false → (travelE m x.2.1).1.1 ≤ ps.getD x.1.toNat 0 ∧ ps.getD x.1.toNat 0 ≤ (travelE m x.2.1).1.2) := by
  have hr := (h.ok.a x hx).2
  have ht : travelE m x.2.1 = (travelP m x.2.1, 0) := by
    unfold travelE
    rw [if_neg (not_not_intro h.ok.s), if_neg (not_not_intro hr)]
  have hs := ((truth_all h.ok).1 h.tr).2 x hx
  unfold setOk at hs
  rw [truP_0, truP_1, truP_2] at hs
  rw [ht]
  exact ⟨rfl, fun hr => hs.1 hr, fun hr => by have := hs.2 hr; simp only; omega⟩
theorem Made.place {m : Meas} {sum : Int} {ps : List Int} (h : Made m sum ps) {i : Nat} (hi : i < ps.length) : ((placeE m (i : Nat)).2 = 0 ∨ (placeE m (i : Nat)).2 = 12) ∧
    ((placeE m (i : Nat)).2 = 0 → (placeE m (i : Nat)).1.1 ≤ ps.getD i 0 ∧ ps.getD i 0 ≤ (placeE m (i : Nat)).1.2) := by
  have hI := h.ok.i
  have hl := h.len
  have hr : 0 ≤ ((i : Nat) : Int) ∧ ((i : Nat) : Int) ≤ m.images - 1 := by omega
  constructor
  · rw [place_end h.ok h.okF]
    show endF m (i : Nat) = 0 ∨ endF m (i : Nat) = 12
    unfold endF
    rw [if_neg (not_not_intro hr)]
    split <;> simp
  · intro h0
    have hi := (place_code h.ok h.okF).1 h0
    have := (place_span h.ok h.okF hi).1.all _ h.tr
    rw [truP_0, truP_2, Int.toNat_natCast] at this
    omega
theorem Made.apart {m : Meas} {sum : Int} {ps : List Int} (h : Made m sum ps) {i k : Nat} (hi : i < ps.length) (hk : k < ps.length) : ((apartE m (i : Nat) (k : Nat)).2 = 0 ∨ (apartE m (i : Nat) (k : Nat)).2 = 12) ∧
    ((apartE m (i : Nat) (k : Nat)).2 = 0 → (apartE m (i : Nat) (k : Nat)).1.1 ≤ ps.getD k 0 - ps.getD i 0 ∧ ps.getD k 0 - ps.getD i 0 ≤ (apartE m (i : Nat) (k : Nat)).1.2) := by
  have hI := h.ok.i
  have hl := h.len
  have hr : 0 ≤ ((i : Nat) : Int) ∧ ((i : Nat) : Int) ≤ m.images - 1 := by omega
  have hr2 : 0 ≤ ((k : Nat) : Int) ∧ ((k : Nat) : Int) ≤ m.images - 1 := by omega
  constructor
  · unfold apartE
    rw [if_neg (not_not_intro h.ok), if_neg (not_not_intro ⟨hr, hr2⟩), if_neg (not_not_intro (okF_diag h.ok h.okF))]
    split
    · simp
    · split <;> simp
  · intro h0
    obtain ⟨_, _, _, hc⟩ := apart_code h.ok h0
    by_cases hik : ((i : Nat) : Int) = (k : Nat)
    · rw [← hik, apart_eqv h.ok h.okF hr]
      have : i = k := by omega
      rw [this]; simp
    · obtain ⟨i1, i2⟩ := hc.resolve_left hik
      have := (apart_span h.ok h.okF i1 i2 hik).all _ h.tr
      rw [truP_2, truP_2, Int.toNat_natCast, Int.toNat_natCast] at this
      exact this
end Go.Proofs.Ytoefcofplkbnkaa
