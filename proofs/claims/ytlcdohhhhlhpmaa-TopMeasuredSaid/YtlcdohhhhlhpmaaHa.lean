/-
  Plain law: with one star more, or a narrower span, nothing is wider.
-/
import Derived.Test.YtlcdohhhhlhpmaaGa
import Derived.Test.YtlcdohhhhlhpmaaEb
namespace Go.Proofs.Ytlcdohhhhlhpmaa
open ZW

/-- A plate of which more is known. -/
structure Finer (z p : Plt) : Prop where
  sc : p.sc.1 ≤ z.sc.1 ∧ z.sc.2 ≤ p.sc.2
  len : z.st.length = p.st.length
  img : ∀ i, i < p.st.length → ∀ d, (imgD d (p.st.getD i star0)).1 ≤ (imgD d (z.st.getD i star0)).1 ∧ (imgD d (z.st.getD i star0)).2 ≤ (imgD d (p.st.getD i star0)).2
  kn : ∀ i, i < p.st.length → (p.st.getD i star0).k = true → (z.st.getD i star0).k = true ∧ ∀ d, (saidD d (p.st.getD i star0)).1 ≤ (saidD d (z.st.getD i star0)).1 ∧ (saidD d (z.st.getD i star0)).2 ≤ (saidD d (p.st.getD i star0)).2
theorem Finer.refl (p : Plt) : Finer p p := ⟨⟨Int.le_refl _, Int.le_refl _⟩, rfl, fun _ _ _ => ⟨Int.le_refl _, Int.le_refl _⟩, fun _ _ h => ⟨h, fun _ => ⟨Int.le_refl _, Int.le_refl _⟩⟩⟩
theorem long_mono {s a b : Int} (hs : 0 ≤ s) (h : a ≤ b) : s * a / 1000 ≤ s * b / 1000 := Int.ediv_le_ediv (by decide) (Int.mul_le_mul_of_nonneg_left h hs)
theorem fine_long {z p : Plt} (h : Finer z p) {i : Nat} (hi : i < p.st.length) (d : Bool) {s : Int} (hs : 0 ≤ s) :
    (longP s (imgD d (p.st.getD i star0))).1 ≤ (longP s (imgD d (z.st.getD i star0))).1 ∧ (longP s (imgD d (z.st.getD i star0))).2 ≤ (longP s (imgD d (p.st.getD i star0))).2 :=
  ⟨long_mono hs (h.img i hi d).1, long_mono hs (h.img i hi d).2⟩
theorem fine_known {z p : Plt} (h : Finer z p) : subS (knownP p) (knownP z) := fun i hi => by
  have h1 := known_ok p i hi
  rw [kbit (by rw [h.len]; exact h1.1)]
  exact (h.kn i h1.1 h1.2).1
theorem fine_at {z p : Plt} (h : Finer z p) {d : Bool} {s c : Int} (hs : 0 ≤ s) {t : Nat} (ht : subS t (knownP p)) (ha : AtP z d s t c) : AtP p d s t c := by
  refine ⟨ha.1, fun i hi hb => ?_⟩
  have h1 := ha.2 i (by rw [h.len]; exact hi) hb
  have h2 := fine_long h hi d hs
  have h3 := (h.kn i hi (known_ok p i (ht i hb)).2).2 d
  omega
theorem fine_mem {z p : Plt} (hz : PltOk z) (h : Finer z p) {s : Int} {t : Nat} (ht : subS t (knownP p)) (hs : s ∈ scalesP z t) : s ∈ scalesP p t := by
  have h1 := mem_sc hz hs
  have h2 := scalesP_mem.1 hs
  have h3 := h.sc
  refine scalesP_mem.2 ⟨by omega, okAt_at.2 fun d => ?_⟩
  obtain ⟨c, hc⟩ := okAt_at.1 h2.2 d
  exact ⟨c, fine_at h (by omega) ht hc⟩
theorem mem_less {p : Plt} {s : Int} {t t' : Nat} (ht : subS t t') (hs : s ∈ scalesP p t') : s ∈ scalesP p t := scalesP_mem.2 ⟨(scalesP_mem.1 hs).1, okAt_less (scalesP_mem.1 hs).2 ht⟩
theorem fine_ks {z p : Plt} (hz : PltOk z) (h : Finer z p) {s : Int} (hs : s ∈ scalesP z (knownP z)) : s ∈ scalesP p (knownP p) := fine_mem hz h (fun _ h => h) (mem_less (fine_known h) hs)
theorem fine_corn {z p : Plt} (hz : PltOk z) (h : Finer z p) (d : Bool) {s : Int} (hs : s ∈ scalesP z (knownP z)) :
    (cornP p d s (knownP p)).1 ≤ (cornP z d s (knownP z)).1 ∧ (cornP z d s (knownP z)).2 ≤ (cornP p d s (knownP p)).2 := by
  have h0 : 0 ≤ s := by have := mem_sc hz hs; omega
  have h1 := mem_at hs d
  have h2 := corn_iff.2 (fine_at h h0 (fun _ h => h) (h1.2.1.less (fine_known h)))
  have h3 := corn_iff.2 (fine_at h h0 (fun _ h => h) (h1.2.2.less (fine_known h)))
  exact ⟨h2.1, h3.2⟩
abbrev inV (a b : Int × Int) : Prop := b.1 ≤ a.1 ∧ a.2 ≤ b.2
theorem fine_scale {z p : Plt} (hz : PltOk z) (hp : PltOk p) (h : Finer z p) : ((scaleE z).2 ≠ 0 → (scaleE z).2 = 10) ∧ ((scaleE z).2 = 0 → scalesP z (knownP z) ≠ [] ∧ scalesP p (knownP p) ≠ [] ∧ (scaleE p).2 = 0 ∧ inV (scaleE z).1 (scaleE p).1) := by
  refine ⟨fun h0 => ?_, fun h0 => ?_⟩
  · by_cases h2 : scalesP z (knownP z) = []
    · rw [scaleE_none hz h2]
    · exact absurd ((scaleE_e hz).2 h2) h0
  · have h1 := (scaleE_e hz).1 h0
    obtain ⟨s, hs⟩ := List.exists_mem_of_ne_nil _ h1
    have h2 : scalesP p (knownP p) ≠ [] := List.ne_nil_of_mem (fine_ks hz h hs)
    refine ⟨h1, h2, (scaleE_e hp).2 h2, ?_⟩
    rw [scaleE_scales hz h1, scaleE_scales hp h2]
    have h3 := hull1 h1
    have h4 := hull1 h2
    have h5 := h4.2.2 _ (fine_ks hz h h3.1)
    have h6 := h4.2.2 _ (fine_ks hz h h3.2.1)
    exact ⟨h5.1, h6.2⟩
theorem told_fine {z p : Plt} (hz : PltOk z) (h : Finer z p) (hs : scalesP z (knownP z) ≠ []) {is : Bool} (ht : toldE p is = 0) : toldE z is = 0 := by
  obtain ⟨h1, h2⟩ := toldE_ok ht
  obtain ⟨_, h4, _⟩ := truthE_ok h1
  have h5 : knownP z ≠ 0 := fun h0 => h2 (by
    refine Nat.eq_of_testBit_eq fun i => ?_
    rw [Nat.zero_testBit]
    cases hb : (knownP p).testBit i with
    | false => rfl
    | true => have := fine_known h i hb; rw [h0] at this; simp at this)
  unfold toldE truthE
  rw [if_neg (not_not_intro hz), h4, if_neg (show ¬ (true = false) by decide), if_neg hs, if_neg (show ¬ ((0 : Int) ≠ 0) by decide), if_neg h5]
theorem fine_zero {z p : Plt} (hz : PltOk z) (h : Finer z p) (hs : scalesP z (knownP z) ≠ []) (h0 : (zeroE p).2.2 = 0) : (zeroE z).2.2 = 0 ∧ inV (zeroE z).1 (zeroE p).1 ∧ inV (zeroE z).2.1 (zeroE p).2.1 := by
  have ht : toldE p true = 0 := by
    by_cases ht : toldE p true = 0
    · exact ht
    · unfold zeroE at h0; rw [if_pos ht] at h0; exact absurd h0 ht
  have ht' := told_fine hz h hs ht
  have hsp := (truthE_ok (toldE_ok ht).1).2.2
  unfold zeroE
  rw [if_neg (not_not_intro ht), if_neg (not_not_intro ht')]
  have key : ∀ d, inV (spanE (hullE ((scalesP z (knownP z)).flatMap (zeroG z d)))) (spanE (hullE ((scalesP p (knownP p)).flatMap (zeroG p d)))) := fun d => by
    obtain ⟨⟨s1, hs1, e1⟩, ⟨s2, hs2, e2⟩, _⟩ := hull2 (f := fun s => (cornP z d s (knownP z)).1) (g := fun s => (cornP z d s (knownP z)).2) hs fun s hs => (mem_at hs d).1
    obtain ⟨_, _, h3⟩ := hull2 (f := fun s => (cornP p d s (knownP p)).1) (g := fun s => (cornP p d s (knownP p)).2) hsp fun s hs => (mem_at hs d).1
    have a1 := h3 s1 (fine_ks hz h hs1)
    have a2 := h3 s2 (fine_ks hz h hs2)
    have c1 := fine_corn hz h d hs1
    have c2 := fine_corn hz h d hs2
    refine ⟨?_, ?_⟩
    · show (hullE ((scalesP p (knownP p)).flatMap fun s => [(cornP p d s (knownP p)).1, (cornP p d s (knownP p)).2])).lo ≤ (hullE ((scalesP z (knownP z)).flatMap fun s => [(cornP z d s (knownP z)).1, (cornP z d s (knownP z)).2])).lo
      rw [e1]; exact Int.le_trans a1.1 c1.1
    · show (hullE ((scalesP z (knownP z)).flatMap fun s => [(cornP z d s (knownP z)).1, (cornP z d s (knownP z)).2])).hi ≤ (hullE ((scalesP p (knownP p)).flatMap fun s => [(cornP p d s (knownP p)).1, (cornP p d s (knownP p)).2])).hi
      rw [e2]; exact Int.le_trans c2.2 a2.2
  exact ⟨rfl, key false, key true⟩
theorem fine_place {z p : Plt} (h : Finer z p) {n : Nat} (hn : n < p.st.length) (d : Bool) {s c : Int} (hs : 0 ≤ s) :
    (placeP d (p.st.getD n star0) s c).1 ≤ (placeP d (z.st.getD n star0) s c).1 ∧ (placeP d (z.st.getD n star0) s c).2 ≤ (placeP d (p.st.getD n star0) s c).2 := by
  have h1 := fine_long h hn d hs
  by_cases hk : (p.st.getD n star0).k = true
  · have h2 := h.kn n hn hk
    have h3 := h2.2 d
    rw [place_known hk, place_known h2.1]
    dsimp only
    omega
  · have hk' : (p.st.getD n star0).k = false := by simpa using hk
    rw [place_not hk']
    by_cases hk2 : (z.st.getD n star0).k = true
    · rw [place_known hk2]; dsimp only; omega
    · rw [place_not (by simpa using hk2)]; dsimp only; omega
theorem place_mono (d : Bool) (x : StarV) (s : Int) {a b : Int} (h : a ≤ b) : (placeP d x s a).1 ≤ (placeP d x s b).1 ∧ (placeP d x s a).2 ≤ (placeP d x s b).2 := by
  by_cases hk : x.k = true
  · rw [place_known hk, place_known hk]; dsimp only; omega
  · rw [place_not (by simpa using hk), place_not (by simpa using hk)]; dsimp only; omega
theorem star_told {p : Plt} {n : Int} (h : (starE p n).2.2 = 0) : toldE p (isStarB p n) = 0 := by
  by_cases ht : toldE p (isStarB p n) = 0
  · exact ht
  · unfold starE at h; rw [if_pos ht] at h; exact absurd h ht
theorem fine_star {z p : Plt} (hz : PltOk z) (hp : PltOk p) (h : Finer z p) (hs : scalesP z (knownP z) ≠ []) {n : Int} (h0 : (starE p n).2.2 = 0) : (starE z n).2.2 = 0 ∧ inV (starE z n).1 (starE p n).1 ∧ inV (starE z n).2.1 (starE p n).2.1 := by
  have ht := star_told h0
  obtain ⟨_, hsp, _, k, rfl, hk⟩ := star_fine ht
  have e : isStarB z (k : Nat) = isStarB p (k : Nat) := by unfold isStarB; rw [h.len]
  have ht' : toldE z (isStarB z (k : Nat)) = 0 := by rw [e]; exact told_fine hz h hs ht
  rw [star_eq ht, star_eq ht']
  have key : ∀ d, (starH p k d).lo ≤ (starH z k d).lo ∧ (starH z k d).hi ≤ (starH p k d).hi := fun d => by
    obtain ⟨⟨s1, hs1, e1⟩, ⟨s2, hs2, e2⟩, _⟩ := starH_ends hz (by rw [h.len]; exact hk) d hs
    obtain ⟨_, _, h3⟩ := starH_ends hp hk d hsp
    have a1 := (h3 s1 (fine_ks hz h hs1)).1
    have a2 := (h3 s2 (fine_ks hz h hs2)).2
    have c1 := (place_mono d (p.st.getD k star0) s1 (fine_corn hz h d hs1).1).1
    have c2 := (place_mono d (p.st.getD k star0) s2 (fine_corn hz h d hs2).2).2
    have b1 := (fine_place h hk d (s := s1) (c := (cornP z d s1 (knownP z)).1) (by have := mem_sc hz hs1; omega)).1
    have b2 := (fine_place h hk d (s := s2) (c := (cornP z d s2 (knownP z)).2) (by have := mem_sc hz hs2; omega)).2
    omega
  exact ⟨rfl, key false, key true⟩

/-! ### How far stars are apart -/
theorem place_ok {p : Plt} (hp : PltOk p) {n : Nat} (hn : n < p.st.length) (d : Bool) {s c : Int} (hs : s ∈ scalesP p (knownP p)) (hc : (cornP p d s (knownP p)).1 ≤ c ∧ c ≤ (cornP p d s (knownP p)).2) :
    (placeP d (p.st.getD n star0) s c).1 ≤ (placeP d (p.st.getD n star0) s c).2 := by
  have h1 := corn_iff.1 hc
  have h2 := lenD_le hp hn d (s := s) (by have := mem_sc hp hs; omega)
  by_cases hk : (p.st.getD n star0).k = true
  · have h3 := h1.con hn ((kbit hn).trans hk)
    have h5 := said_ok (d := d) (hp.s _ (getD_mem hn star0)) hk
    unfold Con at h3
    unfold spanOk at h5
    rw [place_known hk]
    dsimp only at h2 ⊢
    omega
  · rw [place_not (by simpa using hk)]
    exact Int.add_le_add_left h2 _
/-- The least and the greatest distance are at corners that are tried. -/
theorem apart_try (d : Bool) (a b : StarV) (sc : Int) {c : Int × Int} {x : Int} (hx : c.1 ≤ x ∧ x ≤ c.2) :
    (∃ n ∈ triedP d a b sc c, (placeP d b sc (clampC c n)).1 - (placeP d a sc (clampC c n)).2 ≤ (placeP d b sc x).1 - (placeP d a sc x).2) ∧
    ∃ n ∈ triedP d a b sc c, (placeP d b sc x).2 - (placeP d a sc x).1 ≤ (placeP d b sc (clampC c n)).2 - (placeP d a sc (clampC c n)).1 := by
  by_cases ha : a.k = true <;> by_cases hb : b.k = true
  · refine ⟨⟨_, tried_mem.2 (.inr (.inr ⟨hb, .inl rfl⟩)), ?_⟩, ⟨_, tried_mem.2 (.inr (.inr ⟨hb, .inr rfl⟩)), ?_⟩⟩
    · rw [place_known ha, place_known hb, place_known ha, place_known hb]; unfold clampC; dsimp only; omega
    · rw [place_known ha, place_known hb, place_known ha, place_known hb]; unfold clampC; dsimp only; omega
  · have hb : b.k = false := by simpa using hb
    refine ⟨⟨c.1, tried_mem.2 (.inl (.inl rfl)), ?_⟩, ⟨c.2, tried_mem.2 (.inl (.inr rfl)), ?_⟩⟩
    · rw [place_known ha, place_not hb, place_known ha, place_not hb]; unfold clampC; dsimp only; omega
    · rw [place_known ha, place_not hb, place_known ha, place_not hb]; unfold clampC; dsimp only; omega
  · have ha : a.k = false := by simpa using ha
    refine ⟨⟨c.2, tried_mem.2 (.inl (.inr rfl)), ?_⟩, ⟨c.1, tried_mem.2 (.inl (.inl rfl)), ?_⟩⟩
    · rw [place_not ha, place_known hb, place_not ha, place_known hb]; unfold clampC; dsimp only; omega
    · rw [place_not ha, place_known hb, place_not ha, place_known hb]; unfold clampC; dsimp only; omega
  · have hb : b.k = false := by simpa using hb
    have ha : a.k = false := by simpa using ha
    refine ⟨⟨c.1, tried_mem.2 (.inl (.inl rfl)), ?_⟩, ⟨c.1, tried_mem.2 (.inl (.inl rfl)), ?_⟩⟩
    · rw [place_not ha, place_not hb, place_not ha, place_not hb]; unfold clampC; dsimp only; omega
    · rw [place_not ha, place_not hb, place_not ha, place_not hb]; unfold clampC; dsimp only; omega
theorem apart_mem {p : Plt} {i k : Nat} {d : Bool} {x : Int} : x ∈ (scalesP p (knownP p)).flatMap (apartQ p i k d) ↔ ∃ s ∈ scalesP p (knownP p), x ∈ apartG d (p.st.getD i star0) (p.st.getD k star0) s (cornP p d s (knownP p)) := by
  simp only [List.mem_flatMap]; rfl
/-- Whatever the corner, the distance is within what is told. -/
theorem apart_all {p : Plt} {i k : Nat} {d : Bool} {s x : Int} (hs : s ∈ scalesP p (knownP p)) (hx : (cornP p d s (knownP p)).1 ≤ x ∧ x ≤ (cornP p d s (knownP p)).2) :
    (apartH p i k d).lo ≤ (placeP d (p.st.getD k star0) s x).1 - (placeP d (p.st.getD i star0) s x).2 ∧ (placeP d (p.st.getD k star0) s x).2 - (placeP d (p.st.getD i star0) s x).1 ≤ (apartH p i k d).hi := by
  obtain ⟨⟨n, hn, h1⟩, ⟨m, hm, h2⟩⟩ := apart_try d (p.st.getD i star0) (p.st.getD k star0) s hx
  have m1 := apart_mem.2 ⟨s, hs, apartG_mem.2 ⟨n, hn, .inl rfl⟩⟩
  have m2 := apart_mem.2 ⟨s, hs, apartG_mem.2 ⟨m, hm, .inr rfl⟩⟩
  unfold apartH
  rcases hullE_hull ((scalesP p (knownP p)).flatMap (apartQ p i k d)) with ⟨_, h⟩ | ⟨_, _, _, h⟩
  · exact absurd m1 (h _)
  · have a1 := (h _ m1).1
    have a2 := (h _ m2).2
    omega
theorem clamp_in {c : Int × Int} (h : c.1 ≤ c.2) (n : Int) : c.1 ≤ clampC c n ∧ clampC c n ≤ c.2 := by unfold clampC; omega
theorem fine_apartH {z p : Plt} (hz : PltOk z) (h : Finer z p) (hs : scalesP z (knownP z) ≠ []) {i k : Nat} (hi : i < p.st.length) (hk : k < p.st.length) (d : Bool) : (apartH p i k d).lo ≤ (apartH z i k d).lo ∧ (apartH z i k d).hi ≤ (apartH p i k d).hi := by
  have key : ∀ x ∈ (scalesP z (knownP z)).flatMap (apartQ z i k d), (apartH p i k d).lo ≤ x ∧ x ≤ (apartH p i k d).hi := fun x hx => by
    obtain ⟨s, hms, hx⟩ := apart_mem.1 hx
    obtain ⟨n, _, hx⟩ := apartG_mem.1 hx
    have h0 : 0 ≤ s := by have := mem_sc hz hms; omega
    have hc := clamp_in (mem_at hms d).1 n
    have hc2 := fine_corn hz h d hms
    have a := apart_all (i := i) (k := k) (fine_ks hz h hms) (d := d) (x := clampC (cornP z d s (knownP z)) n) (by omega)
    have b1 := fine_place h hi d (s := s) (c := clampC (cornP z d s (knownP z)) n) h0
    have b2 := fine_place h hk d (s := s) (c := clampC (cornP z d s (knownP z)) n) h0
    have o1 := place_ok hz (by rw [h.len]; exact hi) d hms hc
    have o2 := place_ok hz (by rw [h.len]; exact hk) d hms hc
    omega
  have hne : (scalesP z (knownP z)).flatMap (apartQ z i k d) ≠ [] := by
    obtain ⟨s, hms⟩ := List.exists_mem_of_ne_nil _ hs
    obtain ⟨y, hy⟩ := List.exists_mem_of_ne_nil _ (apartG_ne d (z.st.getD i star0) (z.st.getD k star0) s (cornP z d s (knownP z)))
    exact List.ne_nil_of_mem (apart_mem.2 ⟨s, hms, hy⟩)
  obtain ⟨y, hy⟩ := List.exists_mem_of_ne_nil _ hne
  rcases hullE_hull ((scalesP z (knownP z)).flatMap (apartQ z i k d)) with ⟨_, h⟩ | ⟨_, h2, h3, _⟩
  · exact absurd hy (h _)
  · exact ⟨(key _ h2).1, (key _ h3).2⟩
theorem fine_apart {z p : Plt} (hz : PltOk z) (h : Finer z p) (hs : scalesP z (knownP z) ≠ []) {i k : Int} (h0 : (apartE p i k).2.2 = 0) : (apartE z i k).2.2 = 0 ∧ inV (apartE z i k).1 (apartE p i k).1 ∧ inV (apartE z i k).2.1 (apartE p i k).2.1 := by
  have ht : truthE p (isStarB p i && isStarB p k) = 0 := by
    by_cases ht : truthE p (isStarB p i && isStarB p k) = 0
    · exact ht
    · unfold apartE at h0; rw [if_pos ht] at h0; exact absurd h0 ht
  have e : ∀ n, isStarB z n = isStarB p n := fun n => by unfold isStarB; rw [h.len]
  obtain ⟨_, hb, _⟩ := truthE_ok ht
  have ht' : truthE z (isStarB z i && isStarB z k) = 0 := by
    unfold truthE
    rw [if_neg (not_not_intro hz), e, e, hb, if_neg (by decide), if_neg hs]
  rw [Bool.and_eq_true] at hb
  have hi := of_decide_eq_true hb.1
  have hk := of_decide_eq_true hb.2
  unfold apartE
  rw [if_neg (not_not_intro ht), if_neg (not_not_intro ht')]
  by_cases hik : i = k
  · rw [if_pos hik, if_pos hik]
    exact ⟨rfl, ⟨Int.le_refl _, Int.le_refl _⟩, Int.le_refl _, Int.le_refl _⟩
  · rw [if_neg hik, if_neg hik]
    exact ⟨rfl, fine_apartH hz h hs (by omega) (by omega) false, fine_apartH hz h hs (by omega) (by omega) true⟩

/-! ### How many must be wrong -/
theorem pop_count : ∀ s, s < 1024 → popc s = (List.range 10).countP fun i => s.testBit i := by
  have h : ((List.range 1024).all fun s => Nat.beq (popc s) ((List.range 10).countP fun i => s.testBit i)) = true := by kernel_rfl
  exact fun s hs => Nat.eq_of_beq_eq_true (List.all_eq_true.1 h s (List.mem_range.2 hs))
theorem pop_mono {s t : Nat} (ht : t < 1024) (h : subS s t) : popc s ≤ popc t := by
  rw [pop_count s (subS_lt h ht), pop_count t ht]
  exact List.countP_mono_left fun i _ => h i
theorem fine_drop {z p : Plt} (hz : PltOk z) (hp : PltOk p) (h : Finer z p) : ∃ d e : Nat, dropE p = ((d : Int), 0) ∧ dropE z = ((e : Int), 0) ∧ popc d ≤ popc e ∧ d < 1024 ∧ e < 1024 := by
  have hlt := setOk_lt (known_ok p) hp.n
  have hlz := setOk_lt (known_ok z) hz.n
  obtain ⟨d, e1, h1, h2⟩ := drop_spec hp
  obtain ⟨e, e2, h1', h2'⟩ := drop_spec hz
  refine ⟨d, e, e1, e2, ?_, subS_lt h1 hlt, subS_lt h1' hlz⟩
  have hk : scalesP z (less (knownP z) e) ≠ [] := by
    rcases h2' with ⟨h3, h4⟩ | ⟨_, h4, _⟩
    · rw [h3, show less (knownP z) 0 = knownP z from Nat.eq_of_testBit_eq fun i => by rw [less_bit]; simp]; exact h4
    · exact h4
  rcases h2 with ⟨h3, _⟩ | ⟨_, _, h5, h6⟩
  · rw [h3]; exact Nat.zero_le _
  · have hx : subS (e &&& knownP p) (knownP p) := fun i hi => by rw [Nat.testBit_and, Bool.and_eq_true] at hi; exact hi.2
    have hxe : subS (e &&& knownP p) e := fun i hi => by rw [Nat.testBit_and, Bool.and_eq_true] at hi; exact hi.1
    have hsub : subS (less (knownP p) (e &&& knownP p)) (less (knownP z) e) := fun i hi => by
      rw [less_bit, Nat.testBit_and] at hi
      rw [less_bit]
      cases ha : (knownP p).testBit i with
      | false => rw [ha] at hi; cases hi
      | true =>
        rw [ha] at hi
        rw [fine_known h i ha]
        simpa using hi
    have hs : scalesP p (less (knownP p) (e &&& knownP p)) ≠ [] := by
      obtain ⟨s, hms⟩ := List.exists_mem_of_ne_nil _ hk
      exact List.ne_nil_of_mem (fine_mem hz h (fun i hi => by rw [less_bit, Bool.and_eq_true] at hi; exact hi.1) (mem_less hsub hms))
    have hxl := subS_lt hxe (subS_lt h1' hlz)
    by_cases h0 : e &&& knownP p = 0
    · rw [h0, show less (knownP p) 0 = knownP p from Nat.eq_of_testBit_eq fun i => by rw [less_bit]; simp] at hs
      exact absurd h5 hs
    · have h7 := h6 _ hx (pop_pos hxl h0) hs
      have h8 := pop_mono (subS_lt h1' hlz) hxe
      omega
end Go.Proofs.Ytlcdohhhhlhpmaa
