/-
  Plain law: whatever is true is within what is told.
-/
import Derived.Test.YtlcdohhhhlhpmaaHa
namespace Go.Proofs.Ytlcdohhhhlhpmaa
open ZW

abbrev pd (d : Bool) (x : Int × Int) : Int := if d then x.2 else x.1
/-- A plate, its true scale and corner, and where its stars truly are, on the plate and in the sky. -/
structure TruthP (p : Plt) (s : Int) (c : Int × Int) (im sk : List (Int × Int)) : Prop where
  ok : PltOk p
  sc : p.sc.1 ≤ s ∧ s ≤ p.sc.2
  cb : ∀ d, -100000 ≤ pd d c ∧ pd d c ≤ 100000
  im_len : im.length = p.st.length
  sk_len : sk.length = p.st.length
  img : ∀ i, i < p.st.length → ∀ d, ((imgD d (p.st.getD i star0)).1 ≤ pd d (im.getD i (0, 0)) ∧ pd d (im.getD i (0, 0)) ≤ (imgD d (p.st.getD i star0)).2) ∧ 0 ≤ pd d (im.getD i (0, 0)) ∧ pd d (im.getD i (0, 0)) ≤ 32768
  sky : ∀ i, i < p.st.length → ∀ d, pd d (sk.getD i (0, 0)) = pd d c + s * pd d (im.getD i (0, 0)) / 1000
  said : ∀ i, i < p.st.length → (p.st.getD i star0).k = true → ∀ d, (saidD d (p.st.getD i star0)).1 ≤ pd d (sk.getD i (0, 0)) ∧ pd d (sk.getD i (0, 0)) ≤ (saidD d (p.st.getD i star0)).2
section
variable {p : Plt} {s : Int} {c : Int × Int} {im sk : List (Int × Int)}
theorem true_s (h : TruthP p s c im sk) : 1 ≤ s ∧ s ≤ 1000 := by
  have h1 := h.sc
  have h2 := h.ok.c
  unfold spanOk at h2
  omega
theorem true_len (h : TruthP p s c im sk) {i : Nat} (hi : i < p.st.length) (d : Bool) : (longP s (imgD d (p.st.getD i star0))).1 ≤ s * pd d (im.getD i (0, 0)) / 1000 ∧ s * pd d (im.getD i (0, 0)) / 1000 ≤ (longP s (imgD d (p.st.getD i star0))).2 := by
  have h0 := true_s h
  have h1 := (h.img i hi d).1
  exact ⟨long_mono (by omega) h1.1, long_mono (by omega) h1.2⟩
theorem true_at (h : TruthP p s c im sk) (d : Bool) : AtP p d s (knownP p) (pd d c) := by
  refine ⟨by have := h.cb d; omega, fun i hi hb => ?_⟩
  have h1 := true_len h hi d
  have h2 := h.sky i hi d
  have h3 := h.said i hi (known_ok p i hb).2 d
  omega
theorem true_mem (h : TruthP p s c im sk) : s ∈ scalesP p (knownP p) := scalesP_mem.2 ⟨h.sc, okAt_at.2 fun d => ⟨_, true_at h d⟩⟩
theorem true_ne (h : TruthP p s c im sk) : scalesP p (knownP p) ≠ [] := List.ne_nil_of_mem (true_mem h)
theorem true_scale (h : TruthP p s c im sk) : (scaleE p).2 = 0 ∧ (scaleE p).1.1 ≤ s ∧ s ≤ (scaleE p).1.2 := by
  rw [scaleE_scales h.ok (true_ne h)]
  exact ⟨rfl, (hull1 (true_ne h)).2.2 s (true_mem h)⟩
theorem true_clash (h : TruthP p s c im sk) : clashE p = (0, 0) := by
  unfold clashE
  rw [if_neg (not_not_intro h.ok), if_pos (true_ne h)]
theorem true_drop (h : TruthP p s c im sk) : dropE p = (0, 0) := by
  unfold dropE
  rw [if_neg (not_not_intro h.ok), if_pos (true_ne h)]
theorem true_told (h : TruthP p s c im sk) (hk : knownP p ≠ 0) : toldE p true = 0 := by
  unfold toldE truthE
  rw [if_neg (not_not_intro h.ok), if_neg (show ¬ (true = false) by decide), if_neg (true_ne h), if_neg (show ¬ ((0 : Int) ≠ 0) by decide), if_neg hk]
theorem true_doubt (h : TruthP p s c im sk) (hk : knownP p = 0) : zeroE p = ((0, 0), (0, 0), 12) := by
  have e : toldE p true = 12 := by
    unfold toldE truthE
    rw [if_neg (not_not_intro h.ok), if_neg (show ¬ (true = false) by decide), if_neg (true_ne h), if_neg (show ¬ ((0 : Int) ≠ 0) by decide), if_pos hk]
  unfold zeroE
  rw [e, if_pos (by decide)]
theorem true_corn (h : TruthP p s c im sk) (d : Bool) : (cornP p d s (knownP p)).1 ≤ pd d c ∧ pd d c ≤ (cornP p d s (knownP p)).2 := corn_iff.2 (true_at h d)
theorem true_zero (h : TruthP p s c im sk) (hk : knownP p ≠ 0) : (zeroE p).2.2 = 0 ∧ ((zeroE p).1.1 ≤ c.1 ∧ c.1 ≤ (zeroE p).1.2) ∧ (zeroE p).2.1.1 ≤ c.2 ∧ c.2 ≤ (zeroE p).2.1.2 := by
  have ht := true_told h hk
  have key : ∀ d, (hullE ((scalesP p (knownP p)).flatMap (zeroG p d))).lo ≤ pd d c ∧ pd d c ≤ (hullE ((scalesP p (knownP p)).flatMap (zeroG p d))).hi := fun d => by
    obtain ⟨_, _, h3⟩ := hull2 (f := fun s => (cornP p d s (knownP p)).1) (g := fun s => (cornP p d s (knownP p)).2) (true_ne h) fun s hs => (mem_at hs d).1
    have h4 := h3 s (true_mem h)
    have h5 := true_corn h d
    exact ⟨Int.le_trans h4.1 h5.1, Int.le_trans h5.2 h4.2⟩
  unfold zeroE
  rw [if_neg (not_not_intro ht)]
  exact ⟨rfl, key false, key true⟩
theorem true_place (h : TruthP p s c im sk) {i : Nat} (hi : i < p.st.length) (d : Bool) : (placeP d (p.st.getD i star0) s (pd d c)).1 ≤ pd d (sk.getD i (0, 0)) ∧ pd d (sk.getD i (0, 0)) ≤ (placeP d (p.st.getD i star0) s (pd d c)).2 := by
  have h1 := true_len h hi d
  have h2 := h.sky i hi d
  by_cases hk : (p.st.getD i star0).k = true
  · have h3 := h.said i hi hk d
    rw [place_known hk]
    dsimp only
    omega
  · rw [place_not (by simpa using hk)]
    dsimp only
    omega
theorem true_star (h : TruthP p s c im sk) (hk : knownP p ≠ 0) {i : Nat} (hi : i < p.st.length) : (starE p (i : Nat)).2.2 = 0 ∧ ((starE p (i : Nat)).1.1 ≤ (sk.getD i (0, 0)).1 ∧ (sk.getD i (0, 0)).1 ≤ (starE p (i : Nat)).1.2) ∧ (starE p (i : Nat)).2.1.1 ≤ (sk.getD i (0, 0)).2 ∧ (sk.getD i (0, 0)).2 ≤ (starE p (i : Nat)).2.1.2 := by
  have hb : isStarB p (i : Nat) = true := decide_eq_true (by omega)
  have ht := true_told h hk
  rw [star_eq (by rw [hb]; exact ht)]
  have key : ∀ d, (starH p i d).lo ≤ pd d (sk.getD i (0, 0)) ∧ pd d (sk.getD i (0, 0)) ≤ (starH p i d).hi := fun d => by
    have h1 := (starH_ends h.ok hi d (true_ne h)).2.2 s (true_mem h)
    have h2 := true_place h hi d
    have h3 := true_corn h d
    have h4 := (place_mono d (p.st.getD i star0) s h3.1).1
    have h5 := (place_mono d (p.st.getD i star0) s h3.2).2
    omega
  exact ⟨rfl, key false, key true⟩
theorem true_apart (h : TruthP p s c im sk) {i k : Nat} (hi : i < p.st.length) (hk : k < p.st.length) : (apartE p (i : Nat) (k : Nat)).2.2 = 0 ∧ ((apartE p (i : Nat) (k : Nat)).1.1 ≤ (sk.getD k (0, 0)).1 - (sk.getD i (0, 0)).1 ∧ (sk.getD k (0, 0)).1 - (sk.getD i (0, 0)).1 ≤ (apartE p (i : Nat) (k : Nat)).1.2) ∧
    (apartE p (i : Nat) (k : Nat)).2.1.1 ≤ (sk.getD k (0, 0)).2 - (sk.getD i (0, 0)).2 ∧ (sk.getD k (0, 0)).2 - (sk.getD i (0, 0)).2 ≤ (apartE p (i : Nat) (k : Nat)).2.1.2 := by
  have hb : isStarB p (i : Nat) = true := decide_eq_true (by omega)
  have hb2 : isStarB p (k : Nat) = true := decide_eq_true (by omega)
  have ht : truthE p (isStarB p (i : Nat) && isStarB p (k : Nat)) = 0 := by
    unfold truthE
    rw [hb, hb2, if_neg (not_not_intro h.ok), if_neg (show ¬ ((true && true) = false) by decide), if_neg (true_ne h)]
  unfold apartE
  rw [if_neg (not_not_intro ht)]
  by_cases hik : (i : Int) = (k : Int)
  · rw [if_pos hik]
    obtain rfl : i = k := by omega
    dsimp only
    omega
  · rw [if_neg hik]
    have key : ∀ d, (apartH p i k d).lo ≤ pd d (sk.getD k (0, 0)) - pd d (sk.getD i (0, 0)) ∧ pd d (sk.getD k (0, 0)) - pd d (sk.getD i (0, 0)) ≤ (apartH p i k d).hi := fun d => by
      have h1 := apart_all (i := i) (k := k) (true_mem h) (true_corn h d)
      have h2 := true_place h hi d
      have h3 := true_place h hk d
      omega
    simp only [Int.toNat_natCast]
    exact ⟨trivial, key false, key true⟩
theorem ceil_le {a s m : Int} (hs : 0 < s) (h : a ≤ s * m) : (a + s - 1) / s ≤ m := by
  have h1 : (a + s - 1) / s < m + 1 := Int.ediv_lt_of_lt_mul hs (by rw [Int.add_mul, Int.mul_comm m s]; omega)
  omega
theorem le_floor {a s m : Int} (hs : 0 < s) (h : s * m ≤ a) : m ≤ a / s := Int.le_ediv_of_mul_le hs (by rw [Int.mul_comm]; exact h)
theorem true_findC (h : TruthP p s c im sk) {i : Nat} (hi : i < p.st.length) (d : Bool) : ∃ lo hi : Int, findQ p d (pd d (sk.getD i (0, 0))) s = [lo, hi] ∧ lo ≤ pd d (im.getD i (0, 0)) ∧ pd d (im.getD i (0, 0)) ≤ hi := by
  have h0 := true_s h
  have h1 := (h.img i hi d).2
  have h2 := h.sky i hi d
  have h3 := true_corn h d
  obtain ⟨m, hm⟩ : ∃ m, m = pd d (im.getD i (0, 0)) := ⟨_, rfl⟩
  rw [← hm] at h1 h2 ⊢
  have hsm : 0 ≤ s * m := Int.mul_nonneg (by omega) h1.1
  have hdiv := Int.mul_ediv_add_emod (s * m) 1000
  have hmod := Int.emod_lt_of_pos (s * m) (show (0 : Int) < 1000 by decide)
  have hmod0 := Int.emod_nonneg (s * m) (show (1000 : Int) ≠ 0 by decide)
  obtain ⟨q, hq⟩ : ∃ q, q = s * m / 1000 := ⟨_, rfl⟩
  rw [← hq] at h2 hdiv
  have hq0 : 0 ≤ q := by omega
  have hlo : (1000 * max 0 (pd d (sk.getD i (0, 0)) - (cornP p d s (knownP p)).2) + s - 1) / s ≤ m := ceil_le (by omega) (by omega)
  have hhi : m ≤ (1000 * (pd d (sk.getD i (0, 0)) - (cornP p d s (knownP p)).1 + 1) - 1) / s := le_floor (by omega) (by omega)
  have hhi2 : m ≤ min 32768 ((1000 * (pd d (sk.getD i (0, 0)) - (cornP p d s (knownP p)).1 + 1) - 1) / s) := by omega
  refine ⟨_, _, ?_, hlo, hhi2⟩
  unfold findQ findC
  rw [if_neg (by omega), if_pos (by omega)]
theorem true_find (h : TruthP p s c im sk) (hk : knownP p ≠ 0) {i : Nat} (hi : i < p.st.length) (hb : ∀ d, -1048576 ≤ pd d (sk.getD i (0, 0)) ∧ pd d (sk.getD i (0, 0)) ≤ 1048576) :
    (findE p (sk.getD i (0, 0)).1 (sk.getD i (0, 0)).2).2.2 = 0 ∧ ((findE p (sk.getD i (0, 0)).1 (sk.getD i (0, 0)).2).1.1 ≤ (im.getD i (0, 0)).1 ∧ (im.getD i (0, 0)).1 ≤ (findE p (sk.getD i (0, 0)).1 (sk.getD i (0, 0)).2).1.2) ∧
    (findE p (sk.getD i (0, 0)).1 (sk.getD i (0, 0)).2).2.1.1 ≤ (im.getD i (0, 0)).2 ∧ (im.getD i (0, 0)).2 ≤ (findE p (sk.getD i (0, 0)).1 (sk.getD i (0, 0)).2).2.1.2 := by
  have b1 : isSkyB (sk.getD i (0, 0)).1 = true := decide_eq_true (hb false)
  have b2 : isSkyB (sk.getD i (0, 0)).2 = true := decide_eq_true (hb true)
  have ht := true_told h hk
  have key : ∀ d, (findH p d (pd d (sk.getD i (0, 0)))).some = true ∧ (findH p d (pd d (sk.getD i (0, 0)))).lo ≤ pd d (im.getD i (0, 0)) ∧ pd d (im.getD i (0, 0)) ≤ (findH p d (pd d (sk.getD i (0, 0)))).hi := fun d => by
    obtain ⟨lo, hi', e, h1, h2⟩ := true_findC h hi d
    have m1 : lo ∈ (scalesP p (knownP p)).flatMap (findQ p d (pd d (sk.getD i (0, 0)))) := List.mem_flatMap.2 ⟨s, true_mem h, by rw [e]; simp⟩
    have m2 : hi' ∈ (scalesP p (knownP p)).flatMap (findQ p d (pd d (sk.getD i (0, 0)))) := List.mem_flatMap.2 ⟨s, true_mem h, by rw [e]; simp⟩
    unfold findH
    rcases hullE_hull ((scalesP p (knownP p)).flatMap (findQ p d (pd d (sk.getD i (0, 0))))) with ⟨_, h3⟩ | ⟨h3, _, _, h4⟩
    · exact absurd m1 (h3 _)
    · have a := h4 _ m1
      have b := h4 _ m2
      exact ⟨h3, by omega, by omega⟩
  unfold findE
  rw [b1, b2, show (true && true) = true from rfl, if_neg (not_not_intro ht), if_pos ⟨(key false).1, (key true).1⟩]
  exact ⟨rfl, (key false).2, (key true).2⟩
end
end Go.Proofs.Ytlcdohhhhlhpmaa
