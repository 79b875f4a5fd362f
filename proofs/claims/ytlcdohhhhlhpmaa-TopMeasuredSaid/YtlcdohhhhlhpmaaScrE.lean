/-
  Texts Lf, Lg, Lh, Li, Lj, Lk, Ll in one.
-/
import Derived.Test.YtlcdohhhhlhpmaaScrD
namespace Go.Proofs.Ytlcdohhhhlhpmaa.Scr
open ZW

theorem canF_iff {m : Meas} (hM : MeasOk m) (S : Nat) : canF m S = true ↔ ∃ p, TruthP m S p := by
  unfold canF
  rw [decide_eq_true_iff]
  constructor
  · intro h
    obtain ⟨p, hp, _⟩ := (sums_truth hM (S := S) (s := (sumsF m S).1)).1 ⟨Int.le_refl _, h⟩
    exact ⟨p, hp⟩
  · rintro ⟨p, hp⟩
    have := (sums_truth hM (S := S) (s := p 1 - p 0)).2 ⟨p, hp, rfl⟩
    omega
/-! ### Clash -/
/-! ### Drop -/
def canL (m : Meas) (s : Nat) : Bool := canF m (less (fullS m) s)
/-! ### How many are in a set -/
/-! ### Once -/
end Go.Proofs.Ytlcdohhhhlhpmaa.Scr
namespace Go.Proofs.Ytlcdohhhhlhpmaa.Scr
open ZW

/-! ### Points of which nothing is told -/
def Iso (G : Nat) (b : BMat) : Prop := ∀ k, k ≠ G → b G k = never ∧ b k G = never
theorem Iso.upd {G i k : Nat} {b : BMat} {v : Int} (h : Iso G b) (hi : i ≠ G) (hk : k ≠ G) : Iso G (bUpd b i k v) := fun x hx => by
  unfold bUpd
  rw [if_neg (by omega), if_neg (by omega)]; exact h x hx
theorem Iso.updD {G : Nat} {b : BMat} {v : Int} (h : Iso G b) : Iso G (bUpd b G G v) := fun x hx => by
  unfold bUpd
  rw [if_neg (by omega), if_neg (by omega)]; exact h x hx
theorem Iso.step {G j i k : Nat} {b : BMat} (h : Iso G b) : Iso G (stepP j b i k) := by
  unfold stepP
  by_cases hc : b i j < never ∧ b j k < never
  · rw [if_pos hc]
    by_cases hi : i = G
    · by_cases hk : k = G
      · rw [hi, hk]; exact h.updD
      · by_cases hj : j = G
        · have := (h k hk).1; rw [hj] at hc; omega
        · have := (h j hj).1; rw [hi] at hc; omega
    · by_cases hk : k = G
      · by_cases hj : j = G
        · have := (h i hi).2; rw [hj] at hc; omega
        · have := (h j hj).2; rw [hk] at hc; omega
      · exact h.upd hi hk
  · rw [if_neg hc]; exact h
theorem Iso.row {G j i : Nat} {b : BMat} (h : Iso G b) : ∀ n, Iso G (rowP j b i n)
  | 0 => h
  | n + 1 => by rw [rowP_succ]; exact (Iso.row h n).step
theorem Iso.round {G j : Nat} {b : BMat} (h : Iso G b) : ∀ n, Iso G (roundP b j n)
  | 0 => h
  | n + 1 => by rw [roundP_succ]; exact (Iso.round h n).row 8
theorem Iso.close {G : Nat} {b : BMat} (h : Iso G b) : ∀ n, Iso G (closeP b n)
  | 0 => h
  | n + 1 => by rw [closeP_succ]; exact (Iso.close h n).round 8
theorem Iso.put {G f t : Nat} {b : BMat} {x : Int × Int} (h : Iso G b) (hf : f ≠ G) (ht : t ≠ G) : Iso G (putP b f t x) := (h.upd hf ht).upd ht hf
theorem Iso.free (G : Nat) : Iso G freeP := fun k hk => by unfold freeP; rw [if_neg (by omega), if_neg hk]; exact ⟨rfl, rfl⟩
theorem Iso.b0 {m : Meas} (hM : MeasOk m) {S g : Nat} (hn : ¬ hasS m S g) : ∀ n, n ≤ m.sets.length → Iso (2 + g) (b0P m S n)
  | 0, _ => (Iso.free _).put (by omega) (by omega)
  | n + 1, h => by
    have ih := Iso.b0 hM hn n (by omega)
    have e : b0P m S (n + 1) = if S.testBit n then tellP (b0P m S n) ((toldP m).getD n told0) else b0P m S n := tellsP_succ _ _ _ _
    rw [e]
    by_cases hb : S.testBit n = true
    · rw [if_pos hb]
      have hg : (setAt m n).1.toNat ≠ g := fun he => hn ⟨n, by omega, hb, by have := (img_lt hM (i := n) (by omega)).1; omega⟩
      rw [told_get m (by omega)]
      unfold tellP
      have hg' : 2 + (m.sets.getD n (0, 0, false)).1.toNat ≠ 2 + g := by unfold setAt at hg; omega
      split
      · exact ih.put hg' (by omega)
      · exact ih.put (by omega) hg'
    · rw [if_neg hb]; exact ih
/-! ### The same truths -/
/-- A set of settings has the same sums and places as all. -/
def sameF (m : Meas) (S : Nat) : Prop := sumsF m S = sumsF m (fullS m) ∧ ∀ g, g < m.images.toNat → ∀ j, j < sumsN m (fullS m) → placesF m S (g : Nat) ((sumsF m (fullS m)).1 + (j : Nat)) = placesF m (fullS m) (g : Nat) ((sumsF m (fullS m)).1 + (j : Nat))
instance (m : Meas) (S : Nat) : Decidable (sameF m S) := inferInstanceAs (Decidable (_ ∧ ∀ g, g < m.images.toNat → ∀ j, j < _ → _))

end Go.Proofs.Ytlcdohhhhlhpmaa.Scr
namespace Go.Proofs.Ytlcdohhhhlhpmaa.Scr
open ZW

/-- Of what an image's place cannot be told. -/
def endF (m : Meas) (a : Int) : Int := if ¬ (0 ≤ a ∧ a ≤ m.images - 1) then 2 else if ¬ seenP m a then 12 else 0
theorem place_end {m : Meas} (hM : MeasOk m) (ho : okF m) (a : Int) : placeE m a = (if endF m a = 0 then placeF m (fullS m) a else (0, 0), endF m a) := by
  rw [placeE_eq]
  unfold placeR endF
  rw [if_neg (not_not_intro hM)]
  by_cases hI : 0 ≤ a ∧ a ≤ m.images - 1
  · rw [if_neg (not_not_intro hI), if_neg (not_not_intro ho), if_neg (not_not_intro hI)]
    by_cases hs : seenP m a
    · rw [if_neg (not_not_intro hs), if_neg (not_not_intro hs), if_pos rfl]
    · rw [if_pos hs, if_pos hs]; rfl
  · rw [if_pos hI, if_pos hI]; rfl
theorem sumE_ok {m : Meas} (hM : MeasOk m) (ho : okF m) : sumE m = (sumsF m (fullS m), 0) := by
  rw [sumE_eq]; exact (if_neg (not_not_intro hM)).trans (if_neg (not_not_intro ho))
theorem sumE_clash {m : Meas} (hM : MeasOk m) (ho : ¬ okF m) : sumE m = ((0, 0), 10) := by
  rw [sumE_eq]; exact (if_neg (not_not_intro hM)).trans (if_pos ho)
end Go.Proofs.Ytlcdohhhhlhpmaa.Scr
namespace Go.Proofs.Ytlcdohhhhlhpmaa.Scr
open ZW

/-- A setting is right. -/
def setOk (m : Meas) (p : Nat → Int) (x : Int × Int × Bool) : Prop :=
  (x.2.2 = true → (travelP m x.2.1).1 ≤ p 1 - p (2 + x.1.toNat) ∧ p 1 - p (2 + x.1.toNat) ≤ (travelP m x.2.1).2) ∧
  (x.2.2 = false → (travelP m x.2.1).1 ≤ p (2 + x.1.toNat) - p 0 ∧ p (2 + x.1.toNat) - p 0 ≤ (travelP m x.2.1).2)
theorem truth_set {m : Meas} (hM : MeasOk m) {S : Nat} {p : Nat → Int} : TruthP m S p ↔ (m.sum.1 ≤ p 1 - p 0 ∧ p 1 - p 0 ≤ m.sum.2) ∧ ∀ i, i < m.sets.length → S.testBit i = true → setOk m p (setAt m i) := truth_iff hM
theorem setAt_mem {m : Meas} {i : Nat} (h : i < m.sets.length) : setAt m i ∈ m.sets := getD_mem h _
theorem mem_setAt {m : Meas} {x : Int × Int × Bool} (h : x ∈ m.sets) : ∃ i, i < m.sets.length ∧ setAt m i = x := by
  obtain ⟨i, hi, rfl⟩ := List.mem_iff_getElem.1 h
  exact ⟨i, hi, by unfold setAt; rw [← List.getElem_eq_getD (h := hi)]⟩
theorem truth_all {m : Meas} (hM : MeasOk m) {p : Nat → Int} : TruthP m (fullS m) p ↔ (m.sum.1 ≤ p 1 - p 0 ∧ p 1 - p 0 ≤ m.sum.2) ∧ ∀ x ∈ m.sets, setOk m p x := by
  rw [truth_set hM]
  constructor
  · rintro ⟨h1, h2⟩
    refine ⟨h1, fun x hx => ?_⟩
    obtain ⟨i, hi, rfl⟩ := mem_setAt hx
    exact h2 i hi (full_bit m hi)
  · rintro ⟨h1, h2⟩
    exact ⟨h1, fun i hi _ => h2 _ (setAt_mem hi)⟩
/-! ### A part of a measure -/
/-! ### How many are in a set -/
end Go.Proofs.Ytlcdohhhhlhpmaa.Scr
namespace Go.Proofs.Ytlcdohhhhlhpmaa.Scr
open ZW

def dropS (m : Meas) : Nat := (bestS (canL m) (fullS m + 1)).getD (fullS m)
/-! ### Who is the witness -/
/-! ### The facts -/
theorem okF_can (m : Meas) : okF m ↔ canF m (fullS m) = true := by unfold okF canF; rw [decide_eq_true_iff]
end Go.Proofs.Ytlcdohhhhlhpmaa.Scr
namespace Go.Proofs.Ytlcdohhhhlhpmaa.Scr
open ZW

abbrev Truth (m : Meas) (p : Nat → Int) : Prop := TruthP m (fullS m) p
/-- A span is what truths say of a number, from the least to the greatest. -/
structure SpanT (m : Meas) (f : (Nat → Int) → Int) (r : Int × Int) : Prop where
  all : ∀ p, Truth m p → r.1 ≤ f p ∧ f p ≤ r.2
  lo : ∃ p, Truth m p ∧ f p = r.1
  hi : ∃ p, Truth m p ∧ f p = r.2
theorem SpanT.sub {m z : Meas} {f : (Nat → Int) → Int} {r s : Int × Int} (h : SpanT m f r) (k : SpanT z f s) (ht : ∀ p, Truth z p → Truth m p) : r.1 ≤ s.1 ∧ s.2 ≤ r.2 := by
  obtain ⟨p, hp, he⟩ := k.lo
  obtain ⟨q, hq, hf⟩ := k.hi
  have := h.all p (ht p hp)
  have := h.all q (ht q hq)
  omega
theorem okF_iff {m : Meas} (hM : MeasOk m) : okF m ↔ ∃ p, Truth m p := (okF_can m).trans (canF_iff hM _)
theorem okF_diag {m : Meas} (hM : MeasOk m) (ho : okF m) : diagOk (tightB m (fullS m)) := (can_eq hM _).2 ho
theorem spanB_1 (b : BMat) (f t : Nat) : (spanB b f t).1 = -(b t f) := rfl
theorem span_lk {m : Meas} (hM : MeasOk m) (ho : okF m) {i k : Nat} (hi : i < 8) (hk : k < 8) (h1 : Lk (tightB m (fullS m)) i) (h2 : Lk (tightB m (fullS m)) k) : SpanT m (fun p => p k - p i) (spanB (tightB m (fullS m)) i k) := by
  have hd := okF_diag hM ho
  obtain ⟨u, p, hp, he⟩ := cl_max hM hd hi hk h1 h2
  obtain ⟨v, q, hq, hf⟩ := cl_max hM hd hk hi h2 h1
  have e1 : (spanB (tightB m (fullS m)) i k).1 = -(tightB m (fullS m) k i) := spanB_1 _ _ _
  have e2 : (spanB (tightB m (fullS m)) i k).2 = tightB m (fullS m) i k := spanB_2 _ _ _
  refine ⟨fun p hp => ?_, ⟨q, hq, ?_⟩, ⟨p, hp, ?_⟩⟩
  · rw [e1, e2]
    have := u p hp
    have := v p hp
    show _ ≤ p k - p i ∧ p k - p i ≤ _
    omega
  · rw [e1]; show q k - q i = _; omega
  · rw [e2]; exact he
theorem span_bd {m : Meas} (hM : MeasOk m) (ho : okF m) {i k : Nat} (hi : i < 8) (hk : k < 8) (h1 : Lk (tightB m (fullS m)) i) (h2 : Lk (tightB m (fullS m)) k) : -76800000 ≤ (spanB (tightB m (fullS m)) i k).1 ∧ (spanB (tightB m (fullS m)) i k).2 ≤ 76800000 := by
  have hd := okF_diag hM ho
  have hf := (cl_tri hM hd).2
  have a1 := hf k i hk hi (cl_lk hM hd hk hi h2 h1)
  have a2 := hf i k hi hk (cl_lk hM hd hi hk h1 h2)
  have e1 : (spanB (tightB m (fullS m)) i k).1 = -(tightB m (fullS m) k i) := spanB_1 _ _ _
  have e2 : (spanB (tightB m (fullS m)) i k).2 = tightB m (fullS m) i k := spanB_2 _ _ _
  rw [e1, e2]; omega

/-! ### What the functions return -/
theorem sum_code {m : Meas} : (sumE m).2 = 0 ↔ MeasOk m ∧ okF m := by
  by_cases hM : MeasOk m
  · by_cases ho : okF m
    · rw [sumE_ok hM ho]; simp [hM, ho]
    · rw [sumE_clash hM ho]; simp [ho]
  · rw [show sumE m = ((0, 0), 1) from if_pos hM]; simp [hM]
theorem sum_span {m : Meas} (hM : MeasOk m) (ho : okF m) : SpanT m (fun p => p 1 - p 0) (sumE m).1 := by
  have hd := okF_diag hM ho
  have : (sumE m).1 = spanB (tightB m (fullS m)) 0 1 := by unfold sumE; rw [if_neg (not_not_intro hM), if_neg (not_not_intro hd)]
  rw [this]
  exact span_lk hM ho (by decide) (by decide) (cl_lk0 hM hd) (cl_lk1 hM hd)
/-- An image of a measure that was seen. -/
structure Img (m : Meas) (a : Int) : Prop where
  r : 0 ≤ a ∧ a ≤ m.images - 1
  s : seenP m a
theorem img_lk {m : Meas} (hM : MeasOk m) (ho : okF m) {a : Int} (h : Img m a) : 2 + a.toNat < 8 ∧ Lk (tightB m (fullS m)) (2 + a.toNat) := by
  have hI := hM.i
  have hr := h.r
  have ha : ((a.toNat : Nat) : Int) = a := Int.toNat_of_nonneg h.r.1
  exact ⟨by omega, lk_has hM (okF_diag hM ho) (seen_has (by rw [ha]; exact h.s))⟩
theorem place_ok {m : Meas} (hM : MeasOk m) (ho : okF m) {a : Int} (h : Img m a) : placeE m a = (spanB (tightB m (fullS m)) 0 (2 + a.toNat), 0) := by
  unfold placeE
  rw [if_neg (not_not_intro hM), if_neg (not_not_intro h.r), if_neg (not_not_intro (okF_diag hM ho)), if_neg (not_not_intro h.s)]
theorem place_code {m : Meas} (hM : MeasOk m) (ho : okF m) {a : Int} : (placeE m a).2 = 0 ↔ Img m a := by
  constructor
  · intro h
    rw [place_end hM ho] at h
    have h : endF m a = 0 := h
    unfold endF at h
    by_cases hI : 0 ≤ a ∧ a ≤ m.images - 1
    · by_cases hs : seenP m a
      · exact ⟨hI, hs⟩
      · rw [if_neg (not_not_intro hI), if_pos hs] at h; exact absurd h (by decide)
    · rw [if_pos hI] at h; exact absurd h (by decide)
  · intro h; rw [place_ok hM ho h]
theorem place_span {m : Meas} (hM : MeasOk m) (ho : okF m) {a : Int} (h : Img m a) : SpanT m (fun p => p (2 + a.toNat) - p 0) (placeE m a).1 ∧ -76800000 ≤ (placeE m a).1.1 ∧ (placeE m a).1.2 ≤ 76800000 := by
  have hd := okF_diag hM ho
  have hl := img_lk hM ho h
  rw [place_ok hM ho h]
  exact ⟨span_lk hM ho (by decide) hl.1 (cl_lk0 hM hd) hl.2, span_bd hM ho (by decide) hl.1 (cl_lk0 hM hd) hl.2⟩
/-! ### Narrower measures -/
structure Finer (m z : Meas) : Prop where
  img : z.images = m.images
  errs : z.errs.length = m.errs.length
  seen : ∀ a, seenP m a → seenP z a
  truth : MeasOk z → ∀ p, Truth z p → Truth m p
  drop : MeasOk z → popc (dropS m) ≤ popc (dropS z)
theorem Finer.ok {m z : Meas} (h : Finer m z) (hM : MeasOk m) (hZ : MeasOk z) (ho : okF z) : okF m := by
  obtain ⟨p, hp⟩ := (okF_iff hZ).1 ho
  exact (okF_iff hM).2 ⟨p, h.truth hZ p hp⟩
theorem Finer.Img {m z : Meas} (h : Finer m z) {a : Int} (ha : Img m a) : Img z a := ⟨by rw [h.img]; exact ha.r, h.seen a ha.s⟩
end Go.Proofs.Ytlcdohhhhlhpmaa.Scr
namespace Go.Proofs.Ytlcdohhhhlhpmaa.Scr
open ZW

def truP (sum : Int) (ps : List Int) (k : Nat) : Int := if k = 0 then 0 else if k = 1 then sum else ps.getD (k - 2) 0
theorem truP_0 (sum : Int) (ps : List Int) : truP sum ps 0 = 0 := rfl
theorem truP_1 (sum : Int) (ps : List Int) : truP sum ps 1 = sum := rfl
theorem truP_2 (sum : Int) (ps : List Int) (g : Nat) : truP sum ps (2 + g) = ps.getD g 0 := by
  unfold truP
  rw [if_neg (by omega), if_neg (by omega), show 2 + g - 2 = g from by omega]
structure Made (m : Meas) (sum : Int) (ps : List Int) : Prop where
  ok : MeasOk m
  len : ps.length = m.images.toNat
  tr : Truth m (truP sum ps)
  sb : 0 ≤ sum ∧ sum ≤ 100000
  pb : ∀ v ∈ ps, -100000 ≤ v ∧ v ≤ 100000
/-! ### What is told of them -/
theorem Made.okF {m : Meas} {sum : Int} {ps : List Int} (h : Made m sum ps) : okF m := (okF_iff h.ok).2 ⟨_, h.tr⟩
theorem Made.sum {m : Meas} {sum : Int} {ps : List Int} (h : Made m sum ps) : (sumE m).2 = 0 ∧ (sumE m).1.1 ≤ sum ∧ sum ≤ (sumE m).1.2 := by
  have := (sum_span h.ok h.okF).all _ h.tr
  rw [truP_0, truP_1] at this
  exact ⟨sum_code.2 ⟨h.ok, h.okF⟩, by omega, by omega⟩
theorem Made.set {m : Meas} {sum : Int} {ps : List Int} (h : Made m sum ps) {x : Int × Int × Bool} (hx : x ∈ m.sets) : (travelE m x.2.1).2 = 0 ∧
    (x.2.2 = true → (travelE m x.2.1).1.1 ≤ sum - ps.getD x.1.toNat 0 ∧ sum - ps.getD x.1.toNat 0 ≤ (travelE m x.2.1).1.2) ∧ (x.2.2 = false → (travelE m x.2.1).1.1 ≤ ps.getD x.1.toNat 0 ∧ ps.getD x.1.toNat 0 ≤ (travelE m x.2.1).1.2) := by
  have hr := (h.ok.a x hx).2
  have ht : travelE m x.2.1 = (travelP m x.2.1, 0) := by
    unfold travelE
    rw [if_neg (not_not_intro h.ok.s), if_neg (not_not_intro hr)]
  have hs := ((truth_all h.ok).1 h.tr).2 x hx
  unfold setOk at hs
  rw [truP_0, truP_1, truP_2] at hs
  rw [ht]
  exact ⟨rfl, fun hr => hs.1 hr, fun hr => by have := hs.2 hr; simp only; omega⟩
theorem Made.place {m : Meas} {sum : Int} {ps : List Int} (h : Made m sum ps) {i : Nat} (hi : i < ps.length) : ((placeE m (i : Nat)).2 = 0 ∨ (placeE m (i : Nat)).2 = 12) ∧
    ((placeE m (i : Nat)).2 = 0 → (placeE m (i : Nat)).1.1 ≤ ps.getD i 0 ∧ ps.getD i 0 ≤ (placeE m (i : Nat)).1.2) := by
  have hI := h.ok.i
  have hl := h.len
  have hr : 0 ≤ ((i : Nat) : Int) ∧ ((i : Nat) : Int) ≤ m.images - 1 := by omega
  constructor
  · rw [place_end h.ok h.okF]
    show endF m (i : Nat) = 0 ∨ endF m (i : Nat) = 12
    unfold endF
    rw [if_neg (not_not_intro hr)]
    split <;> simp
  · intro h0
    have hi := (place_code h.ok h.okF).1 h0
    have := (place_span h.ok h.okF hi).1.all _ h.tr
    rw [truP_0, truP_2, Int.toNat_natCast] at this
    omega
end Go.Proofs.Ytlcdohhhhlhpmaa.Scr
