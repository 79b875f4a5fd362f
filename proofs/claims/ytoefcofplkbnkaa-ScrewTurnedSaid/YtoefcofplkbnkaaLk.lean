/-
  The plain law of measures: what is told is what truths say; narrower measures.
-/
import Derived.Test.YtoefcofplkbnkaaLj
namespace Go.Proofs.Ytoefcofplkbnkaa
open ZW

abbrev Truth (m : Meas) (p : Nat → Int) : Prop := TruthP m (fullS m) p
/-- A span is what truths say of a number, from the least to the greatest. -/
structure SpanT (m : Meas) (f : (Nat → Int) → Int) (r : Int × Int) : Prop where
  all : ∀ p, Truth m p → r.1 ≤ f p ∧ f p ≤ r.2
  lo : ∃ p, Truth m p ∧ f p = r.1
  hi : ∃ p, Truth m p ∧ f p = r.2
theorem SpanT.sub {m z : Meas} {f : (Nat → Int) → Int} {r s : Int × Int} (h : SpanT m f r) (k : SpanT z f s) (ht : ∀ p, Truth z p → Truth m p) : r.1 ≤ s.1 ∧ s.2 ≤ r.2 := by
  obtain ⟨p, hp, he⟩ := k.lo
  obtain ⟨q, hq, hf⟩ := k.hi
  have := h.all p (ht p hp)
  have := h.all q (ht q hq)
  omega
theorem SpanT.le {m : Meas} {f : (Nat → Int) → Int} {r : Int × Int} (h : SpanT m f r) : r.1 ≤ r.2 := by
  obtain ⟨p, hp, he⟩ := h.lo
  have := h.all p hp
  omega
theorem SpanT.eq {m z : Meas} {f g : (Nat → Int) → Int} {r s : Int × Int} (h : SpanT m f r) (k : SpanT z g s) (h1 : ∀ p, Truth z p → ∃ q, Truth m q ∧ f q = g p) (h2 : ∀ p, Truth m p → ∃ q, Truth z q ∧ g q = f p) : r = s := by
  obtain ⟨p, hp, he⟩ := k.lo
  obtain ⟨q, hq, hf⟩ := k.hi
  obtain ⟨p', hp', he'⟩ := h.lo
  obtain ⟨q', hq', hf'⟩ := h.hi
  obtain ⟨a, ha, ea⟩ := h1 p hp
  obtain ⟨b, hb, eb⟩ := h1 q hq
  obtain ⟨c, hc, ec⟩ := h2 p' hp'
  obtain ⟨d, hd, ed⟩ := h2 q' hq'
  have := h.all a ha
  have := h.all b hb
  have := k.all c hc
  have := k.all d hd
  exact Prod.ext (by omega) (by omega)
theorem okF_iff {m : Meas} (hM : MeasOk m) : okF m ↔ ∃ p, Truth m p := (okF_can m).trans (canF_iff hM _)
theorem okF_diag {m : Meas} (hM : MeasOk m) (ho : okF m) : diagOk (tightB m (fullS m)) := (can_eq hM _).2 ho
theorem spanB_1 (b : BMat) (f t : Nat) : (spanB b f t).1 = -(b t f) := rfl
theorem span_lk {m : Meas} (hM : MeasOk m) (ho : okF m) {i k : Nat} (hi : i < 8) (hk : k < 8) (h1 : Lk (tightB m (fullS m)) i) (h2 : Lk (tightB m (fullS m)) k) : SpanT m (fun p => p k - p i) (spanB (tightB m (fullS m)) i k) := by
  have hd := okF_diag hM ho
  obtain ⟨u, p, hp, he⟩ := cl_max hM hd hi hk h1 h2
  obtain ⟨v, q, hq, hf⟩ := cl_max hM hd hk hi h2 h1
  have e1 : (spanB (tightB m (fullS m)) i k).1 = -(tightB m (fullS m) k i) := spanB_1 _ _ _
  have e2 : (spanB (tightB m (fullS m)) i k).2 = tightB m (fullS m) i k := spanB_2 _ _ _
  refine ⟨fun p hp => ?_, ⟨q, hq, ?_⟩, ⟨p, hp, ?_⟩⟩
  · rw [e1, e2]
    have := u p hp
    have := v p hp
    show _ ≤ p k - p i ∧ p k - p i ≤ _
    omega
  · rw [e1]; show q k - q i = _; omega
  · rw [e2]; exact he
theorem span_bd {m : Meas} (hM : MeasOk m) (ho : okF m) {i k : Nat} (hi : i < 8) (hk : k < 8) (h1 : Lk (tightB m (fullS m)) i) (h2 : Lk (tightB m (fullS m)) k) : -76800000 ≤ (spanB (tightB m (fullS m)) i k).1 ∧ (spanB (tightB m (fullS m)) i k).2 ≤ 76800000 := by
  have hd := okF_diag hM ho
  have hf := (cl_tri hM hd).2
  have a1 := hf k i hk hi (cl_lk hM hd hk hi h2 h1)
  have a2 := hf i k hi hk (cl_lk hM hd hi hk h1 h2)
  have e1 : (spanB (tightB m (fullS m)) i k).1 = -(tightB m (fullS m) k i) := spanB_1 _ _ _
  have e2 : (spanB (tightB m (fullS m)) i k).2 = tightB m (fullS m) i k := spanB_2 _ _ _
  rw [e1, e2]; omega

/-! ### What the functions return -/
theorem sum_code {m : Meas} : (sumE m).2 = 0 ↔ MeasOk m ∧ okF m := by
  by_cases hM : MeasOk m
  · by_cases ho : okF m
    · rw [sumE_ok hM ho]; simp [hM, ho]
    · rw [sumE_clash hM ho]; simp [ho]
  · rw [show sumE m = ((0, 0), 1) from if_pos hM]; simp [hM]
theorem sum_span {m : Meas} (hM : MeasOk m) (ho : okF m) : SpanT m (fun p => p 1 - p 0) (sumE m).1 := by
  have hd := okF_diag hM ho
  have : (sumE m).1 = spanB (tightB m (fullS m)) 0 1 := by unfold sumE; rw [if_neg (not_not_intro hM), if_neg (not_not_intro hd)]
  rw [this]
  exact span_lk hM ho (by decide) (by decide) (cl_lk0 hM hd) (cl_lk1 hM hd)
/-- An image of a measure that was seen. -/
structure Img (m : Meas) (a : Int) : Prop where
  r : 0 ≤ a ∧ a ≤ m.images - 1
  s : seenP m a
theorem img_lk {m : Meas} (hM : MeasOk m) (ho : okF m) {a : Int} (h : Img m a) : 2 + a.toNat < 8 ∧ Lk (tightB m (fullS m)) (2 + a.toNat) := by
  have hI := hM.i
  have hr := h.r
  have ha : ((a.toNat : Nat) : Int) = a := Int.toNat_of_nonneg h.r.1
  exact ⟨by omega, lk_has hM (okF_diag hM ho) (seen_has (by rw [ha]; exact h.s))⟩
theorem place_ok {m : Meas} (hM : MeasOk m) (ho : okF m) {a : Int} (h : Img m a) : placeE m a = (spanB (tightB m (fullS m)) 0 (2 + a.toNat), 0) := by
  unfold placeE
  rw [if_neg (not_not_intro hM), if_neg (not_not_intro h.r), if_neg (not_not_intro (okF_diag hM ho)), if_neg (not_not_intro h.s)]
theorem place_code {m : Meas} (hM : MeasOk m) (ho : okF m) {a : Int} : (placeE m a).2 = 0 ↔ Img m a := by
  constructor
  · intro h
    rw [place_end hM ho] at h
    have h : endF m a = 0 := h
    unfold endF at h
    by_cases hI : 0 ≤ a ∧ a ≤ m.images - 1
    · by_cases hs : seenP m a
      · exact ⟨hI, hs⟩
      · rw [if_neg (not_not_intro hI), if_pos hs] at h; exact absurd h (by decide)
    · rw [if_pos hI] at h; exact absurd h (by decide)
  · intro h; rw [place_ok hM ho h]
theorem place_span {m : Meas} (hM : MeasOk m) (ho : okF m) {a : Int} (h : Img m a) : SpanT m (fun p => p (2 + a.toNat) - p 0) (placeE m a).1 ∧ -76800000 ≤ (placeE m a).1.1 ∧ (placeE m a).1.2 ≤ 76800000 := by
  have hd := okF_diag hM ho
  have hl := img_lk hM ho h
  rw [place_ok hM ho h]
  exact ⟨span_lk hM ho (by decide) hl.1 (cl_lk0 hM hd) hl.2, span_bd hM ho (by decide) hl.1 (cl_lk0 hM hd) hl.2⟩
theorem apart_ok {m : Meas} (hM : MeasOk m) (ho : okF m) {a b : Int} (ha : Img m a) (hb : Img m b) (hab : a ≠ b) : apartE m a b = (spanB (tightB m (fullS m)) (2 + a.toNat) (2 + b.toNat), 0) := by
  unfold apartE
  rw [if_neg (not_not_intro hM), if_neg (not_not_intro ⟨ha.r, hb.r⟩), if_neg (not_not_intro (okF_diag hM ho)), if_neg hab, if_neg (not_not_intro ⟨ha.s, hb.s⟩)]
theorem apart_eqv {m : Meas} (hM : MeasOk m) (ho : okF m) {a : Int} (ha : 0 ≤ a ∧ a ≤ m.images - 1) : apartE m a a = ((0, 0), 0) := by
  unfold apartE
  rw [if_neg (not_not_intro hM), if_neg (not_not_intro ⟨ha, ha⟩), if_neg (not_not_intro (okF_diag hM ho)), if_pos rfl]
theorem apart_code {m : Meas} (hM : MeasOk m) {a b : Int} (h : (apartE m a b).2 = 0) : okF m ∧ (0 ≤ a ∧ a ≤ m.images - 1) ∧ (0 ≤ b ∧ b ≤ m.images - 1) ∧ (a = b ∨ (Img m a ∧ Img m b)) := by
  unfold apartE at h
  rw [if_neg (not_not_intro hM)] at h
  by_cases hI : (0 ≤ a ∧ a ≤ m.images - 1) ∧ (0 ≤ b ∧ b ≤ m.images - 1)
  · rw [if_neg (not_not_intro hI)] at h
    by_cases hd : diagOk (tightB m (fullS m))
    · rw [if_neg (not_not_intro hd)] at h
      refine ⟨(can_eq hM _).1 hd, hI.1, hI.2, ?_⟩
      by_cases hab : a = b
      · exact .inl hab
      · rw [if_neg hab] at h
        by_cases hs : seenP m a ∧ seenP m b
        · exact .inr ⟨⟨hI.1, hs.1⟩, ⟨hI.2, hs.2⟩⟩
        · rw [if_pos hs] at h; exact absurd h (by decide)
    · rw [if_pos hd] at h; exact absurd h (by decide)
  · rw [if_pos hI] at h; exact absurd h (by decide)
theorem apart_span {m : Meas} (hM : MeasOk m) (ho : okF m) {a b : Int} (ha : Img m a) (hb : Img m b) (hab : a ≠ b) : SpanT m (fun p => p (2 + b.toNat) - p (2 + a.toNat)) (apartE m a b).1 := by
  have hl := img_lk hM ho ha
  have hk := img_lk hM ho hb
  rw [apart_ok hM ho ha hb hab]
  exact span_lk hM ho hl.1 hk.1 hl.2 hk.2

/-! ### Narrower measures -/
structure Finer (m z : Meas) : Prop where
  img : z.images = m.images
  errs : z.errs.length = m.errs.length
  seen : ∀ a, seenP m a → seenP z a
  truth : MeasOk z → ∀ p, Truth z p → Truth m p
  drop : MeasOk z → popc (dropS m) ≤ popc (dropS z)
theorem Finer.ok {m z : Meas} (h : Finer m z) (hM : MeasOk m) (hZ : MeasOk z) (ho : okF z) : okF m := by
  obtain ⟨p, hp⟩ := (okF_iff hZ).1 ho
  exact (okF_iff hM).2 ⟨p, h.truth hZ p hp⟩
theorem Finer.Img {m z : Meas} (h : Finer m z) {a : Int} (ha : Img m a) : Img z a := ⟨by rw [h.img]; exact ha.r, h.seen a ha.s⟩
/-- With a setting more. -/
def moreM (m : Meas) (s : Int × Int × Bool) : Meas := { m with sets := m.sets ++ [s] }
theorem more_at (m : Meas) (s : Int × Int × Bool) {i : Nat} (hi : i < m.sets.length) : setAt (moreM m s) i = setAt m i := by
  unfold setAt moreM
  simp [List.getD, List.getElem?_append_left hi]
theorem more_finer {m : Meas} (hM : MeasOk m) (s : Int × Int × Bool) : Finer m (moreM m s) := by
  refine ⟨rfl, rfl, fun a ha => ?_, fun hZ p hp => ?_, fun hZ => ?_⟩
  · rw [seenP_iff] at ha ⊢
    obtain ⟨x, hx, he⟩ := ha
    exact ⟨x, List.mem_append_left _ hx, he⟩
  · have h := (truth_all hZ).1 hp
    exact (truth_all hM).2 ⟨h.1, fun x hx => h.2 x (List.mem_append_left _ hx)⟩
  · have cz := clash_facts hZ
    have cm := clash_facts hM
    have hFz := fullS_lt hZ
    have hlen : (moreM m s).sets.length = m.sets.length + 1 := by unfold moreM; simp
    have hd : dropS (moreM m s) &&& fullS m ≤ fullS m := Nat.and_le_right
    have hc : canF m (less (fullS m) (dropS (moreM m s) &&& fullS m)) = true := by
      obtain ⟨p, hp⟩ := (canF_iff hZ _).1 cz.dcan
      have h := (truth_set hZ).1 hp
      refine (canF_iff hM _).2 ⟨p, (truth_set hM).2 ⟨h.1, fun i hi hb => ?_⟩⟩
      have := h.2 i (by omega) (by
        rw [less_bit] at hb ⊢
        rw [Nat.testBit_and, full_testBit, decide_eq_true hi] at hb
        rw [full_testBit, decide_eq_true (show i < (moreM m s).sets.length by omega)]
        simpa using hb)
      rw [more_at m s hi] at this
      exact this
    have h1 := cm.dmin _ hd hc
    have h2 : popc (dropS (moreM m s) &&& fullS m) ≤ popc (dropS (moreM m s)) := popF_sub 13 _ _ fun i hi => by
      rw [Nat.testBit_and] at hi; simp at hi; exact hi.1
    omega
/-- With a narrower eye and sum. -/
def lessM (m : Meas) (e u : Int × Int) : Meas := { m with eye := e, sum := u }
theorem less_finer {m : Meas} (hM : MeasOk m) {e u : Int × Int} (he : m.eye.1 ≤ e.1 ∧ e.2 ≤ m.eye.2) (hu : m.sum.1 ≤ u.1 ∧ u.2 ≤ m.sum.2) : Finer m (lessM m e u) := by
  have ht : ∀ S, MeasOk (lessM m e u) → ∀ p, TruthP (lessM m e u) S p → TruthP m S p := fun S hZ p hp => by
    have h := (truth_set hZ).1 hp
    have h1 : u.1 ≤ p 1 - p 0 ∧ p 1 - p 0 ≤ u.2 := h.1
    refine (truth_set hM).2 ⟨by omega, fun i hi hb => ?_⟩
    have h2 : setOk (lessM m e u) p (setAt m i) := h.2 i hi hb
    have e1 : (travelP (lessM m e u) (setAt m i).2.1).1 = (travelP m (setAt m i).2.1).1 - m.eye.1 + e.1 := by unfold travelP lessM; simp only; omega
    have e2 : (travelP (lessM m e u) (setAt m i).2.1).2 = (travelP m (setAt m i).2.1).2 - m.eye.2 + e.2 := by unfold travelP lessM; simp only; omega
    unfold setOk at h2 ⊢
    rw [e1, e2] at h2
    exact ⟨fun hr => by have := h2.1 hr; omega, fun hr => by have := h2.2 hr; omega⟩
  refine ⟨rfl, rfl, fun a ha => ha, fun hZ p hp => ht _ hZ p hp, fun hZ => ?_⟩
  have cz := clash_facts hZ
  have cm := clash_facts hM
  obtain ⟨p, hp⟩ := (canF_iff hZ _).1 cz.dcan
  have := cm.dmin (dropS (lessM m e u)) cz.dle ((canF_iff hM _).2 ⟨p, ht _ hZ p hp⟩)
  omega
/-- What narrower measures tell. -/
theorem finer_sum {m z : Meas} (h : Finer m z) (hM : MeasOk m) (hZ : MeasOk z) (ho : okF z) : (sumE m).1.1 ≤ (sumE z).1.1 ∧ (sumE z).1.2 ≤ (sumE m).1.2 :=
  (sum_span hM (h.ok hM hZ ho)).sub (sum_span hZ ho) (h.truth hZ)
theorem finer_place {m z : Meas} (h : Finer m z) (hM : MeasOk m) (hZ : MeasOk z) (ho : okF z) {a : Int} (ha : (placeE m a).2 = 0) : (placeE z a).2 = 0 ∧ (placeE m a).1.1 ≤ (placeE z a).1.1 ∧ (placeE z a).1.2 ≤ (placeE m a).1.2 := by
  have hi := (place_code hM (h.ok hM hZ ho)).1 ha
  exact ⟨(place_code hZ ho).2 (h.Img hi), (place_span hM (h.ok hM hZ ho) hi).1.sub (place_span hZ ho (h.Img hi)).1 (h.truth hZ)⟩
theorem finer_apart {m z : Meas} (h : Finer m z) (hM : MeasOk m) (hZ : MeasOk z) (ho : okF z) {a b : Int} (ha : (apartE m a b).2 = 0) : (apartE z a b).2 = 0 ∧ (apartE m a b).1.1 ≤ (apartE z a b).1.1 ∧ (apartE z a b).1.2 ≤ (apartE m a b).1.2 := by
  obtain ⟨hom, hra, hrb, hc⟩ := apart_code hM ha
  by_cases hab : a = b
  · subst hab
    rw [apart_eqv hM hom hra, apart_eqv hZ ho (by rw [h.img]; exact hra)]
    simp
  · obtain ⟨i1, i2⟩ := hc.resolve_left hab
    have := (apart_span hM hom i1 i2 hab).sub (apart_span hZ ho (h.Img i1) (h.Img i2) hab) (h.truth hZ)
    exact ⟨by rw [apart_ok hZ ho (h.Img i1) (h.Img i2) hab], this⟩
/-- Distances are told at least as exactly as by places. -/
theorem apart_places {m : Meas} (hM : MeasOk m) {a b : Int} (ha : (apartE m a b).2 = 0) (hab : a ≠ b) : okF m ∧ (placeE m a).2 = 0 ∧ (placeE m b).2 = 0 ∧
    (-76800000 ≤ (placeE m a).1.1 ∧ (placeE m a).1.1 ≤ (placeE m a).1.2 ∧ (placeE m a).1.2 ≤ 76800000) ∧ (-76800000 ≤ (placeE m b).1.1 ∧ (placeE m b).1.1 ≤ (placeE m b).1.2 ∧ (placeE m b).1.2 ≤ 76800000) ∧
    (placeE m b).1.1 - (placeE m a).1.2 ≤ (apartE m a b).1.1 ∧ (apartE m a b).1.2 ≤ (placeE m b).1.2 - (placeE m a).1.1 := by
  obtain ⟨ho, hra, hrb, hc⟩ := apart_code hM ha
  obtain ⟨i1, i2⟩ := hc.resolve_left hab
  have p1 := place_span hM ho i1
  have p2 := place_span hM ho i2
  have d := apart_span hM ho i1 i2 hab
  refine ⟨ho, (place_code hM ho).2 i1, (place_code hM ho).2 i2, ⟨p1.2.1, p1.1.le, p1.2.2⟩, ⟨p2.2.1, p2.1.le, p2.2.2⟩, ?_, ?_⟩
  · obtain ⟨p, hp, he⟩ := d.lo
    have := p1.1.all p hp
    have := p2.1.all p hp
    have he : p (2 + b.toNat) - p (2 + a.toNat) = _ := he
    omega
  · obtain ⟨p, hp, he⟩ := d.hi
    have := p1.1.all p hp
    have := p2.1.all p hp
    have he : p (2 + b.toNat) - p (2 + a.toNat) = _ := he
    omega
end Go.Proofs.Ytoefcofplkbnkaa
