/-
  The plain law of measures: plates turned round, settings from behind, images numbered otherwise.
-/
import Derived.Test.YtoefcofplkbnkaaLm
namespace Go.Proofs.Ytoefcofplkbnkaa
open ZW

/-! ### Two measures with the same truths, but for names -/
/-- Truths of one are those of the other one, by maps there and back; b: what bits of a set of the one stand for those of a set of the other one. -/
structure Iso2 (m z : Meas) (there back : (Nat → Int) → Nat → Int) (b : Nat → Nat → Prop) : Prop where
  mOk : MeasOk m
  zOk : MeasOk z
  len : z.sets.length = m.sets.length
  to : ∀ S T p, b S T → TruthP m S p → TruthP z T (there p)
  fro : ∀ S T q, b S T → TruthP z T q → TruthP m S (back q)
  full : b (fullS m) (fullS z)
theorem Iso2.can {m z : Meas} {f g : (Nat → Int) → Nat → Int} {b : Nat → Nat → Prop} (h : Iso2 m z f g b) {S T : Nat} (hb : b S T) : canF z T = canF m S := by
  have e : canF z T = true ↔ canF m S = true := by
    rw [canF_iff h.zOk, canF_iff h.mOk]
    exact ⟨fun ⟨q, hq⟩ => ⟨g q, h.fro S T q hb hq⟩, fun ⟨p, hp⟩ => ⟨f p, h.to S T p hb hp⟩⟩
  exact Bool.eq_iff_iff.2 e
theorem Iso2.okiff {m z : Meas} {f g : (Nat → Int) → Nat → Int} {b : Nat → Nat → Prop} (h : Iso2 m z f g b) : okF z ↔ okF m := by
  rw [okF_can, okF_can, h.can h.full]
theorem Iso2.span {m z : Meas} {f g : (Nat → Int) → Nat → Int} {b : Nat → Nat → Prop} (h : Iso2 m z f g b) {u v : (Nat → Int) → Int} {r s : Int × Int} (k : SpanT m u r) (l : SpanT z v s) (h1 : ∀ p, v (f p) = u p) (h2 : ∀ q, u (g q) = v q) : s = r :=
  l.eq k (fun p hp => ⟨f p, h.to _ _ p h.full hp, h1 p⟩) (fun q hq => ⟨g q, h.fro _ _ q h.full hq, h2 q⟩)
theorem Iso2.spanNeg {m z : Meas} {f g : (Nat → Int) → Nat → Int} {b : Nat → Nat → Prop} (h : Iso2 m z f g b) {u v : (Nat → Int) → Int} {r s : Int × Int} (k : SpanT m u r) (l : SpanT z v s) (h1 : ∀ p, v (f p) = -u p) (h2 : ∀ q, u (g q) = -v q) : r.1 = -s.2 ∧ r.2 = -s.1 := by
  obtain ⟨p, hp, he⟩ := k.lo
  obtain ⟨q, hq, hf⟩ := k.hi
  obtain ⟨p', hp', he'⟩ := l.lo
  obtain ⟨q', hq', hf'⟩ := l.hi
  have a1 := l.all _ (h.to _ _ p h.full hp)
  have a2 := l.all _ (h.to _ _ q h.full hq)
  have a3 := k.all _ (h.fro _ _ p' h.full hp')
  have a4 := k.all _ (h.fro _ _ q' h.full hq')
  rw [h1] at a1 a2
  rw [h2] at a3 a4
  omega
theorem Iso2.sum {m z : Meas} {f g : (Nat → Int) → Nat → Int} {b : Nat → Nat → Prop} (h : Iso2 m z f g b) (h1 : ∀ p, f p 1 - f p 0 = p 1 - p 0) (h2 : ∀ q, g q 1 - g q 0 = q 1 - q 0) : sumE z = sumE m := by
  by_cases ho : okF m
  · have hz := h.okiff.2 ho
    have e := h.span (sum_span h.mOk ho) (sum_span h.zOk hz) h1 h2
    exact Prod.ext e ((sum_code.2 ⟨h.zOk, hz⟩).trans (sum_code.2 ⟨h.mOk, ho⟩).symm)
  · rw [sumE_clash h.mOk ho, sumE_clash h.zOk fun k => ho (h.okiff.1 k)]
/-- Which settings tell nothing. -/
theorem idle_ts {m : Meas} (hM : MeasOk m) (hF : canF m (fullS m) = true) (S : Nat) : bEqB (tightB m S) (tightB m (fullS m)) = true ↔ ∀ p, TruthP m S p → Truth m p := by
  rw [idle_same hM hF]
  exact ⟨fun h p hp => truths_of_same hM hF h hp, fun h => same_of_truths hM hF h⟩
theorem Iso2.idle {m z : Meas} {f g : (Nat → Int) → Nat → Int} {b : Nat → Nat → Prop} (h : Iso2 m z f g b) (hfg : ∀ q T, TruthP z T (f (g q)) → TruthP z T q) (hgf : ∀ p S, TruthP m S (g (f p)) → TruthP m S p) (ho : canF m (fullS m) = true) {S T : Nat} (hb : b S T) :
    bEqB (tightB z T) (tightB z (fullS z)) = bEqB (tightB m S) (tightB m (fullS m)) := by
  have hz : canF z (fullS z) = true := (h.can h.full).trans ho
  refine Bool.eq_iff_iff.2 ?_
  rw [idle_ts h.zOk hz, idle_ts h.mOk ho]
  constructor
  · intro k p hp
    have h1 := k (f p) (h.to S T p hb hp)
    exact hgf p _ (h.fro _ _ _ h.full h1)
  · intro k q hq
    have h1 := h.to _ _ _ h.full (k (g q) (h.fro S T q hb hq))
    exact hfg q _ h1

/-! ### The plate lies the other way round -/
abbrev flipS (x : Int × Int × Bool) : Int × Int × Bool := (x.1, x.2.1, !x.2.2)
def flipM (m : Meas) : Meas := { m with sets := m.sets.map flipS }
def flipP (p : Nat → Int) (k : Nat) : Int := if k = 0 then -p 1 else if k = 1 then -p 0 else -p k
theorem flipP_0 (p : Nat → Int) : flipP p 0 = -p 1 := rfl
theorem flipP_1 (p : Nat → Int) : flipP p 1 = -p 0 := rfl
theorem flipP_2 (p : Nat → Int) (g : Nat) : flipP p (2 + g) = -p (2 + g) := by unfold flipP; rw [if_neg (by omega), if_neg (by omega)]
theorem flipP_flipP (p : Nat → Int) : flipP (flipP p) = p := by
  funext k
  unfold flipP
  by_cases h0 : k = 0
  · subst h0; simp
  · by_cases h1 : k = 1
    · subst h1; simp
    · simp [h0, h1]
theorem flip_at (m : Meas) {i : Nat} (hi : i < m.sets.length) : setAt (flipM m) i = flipS (setAt m i) := by
  unfold setAt flipM
  simp only
  rw [← List.getElem_eq_getD (h := by simpa using hi), ← List.getElem_eq_getD (h := hi)]
  simp
theorem flip_ok {m : Meas} (hM : MeasOk m) : MeasOk (flipM m) := by
  refine ⟨⟨hM.s.n, hM.s.e, hM.s.y⟩, hM.i, hM.u, by unfold flipM; simpa using hM.n, fun x hx => ?_⟩
  obtain ⟨y, hy, rfl⟩ := List.mem_map.1 hx
  exact hM.a y hy
theorem flip_set {m : Meas} {p : Nat → Int} {x : Int × Int × Bool} (h : setOk m p x) : setOk (flipM m) (flipP p) (flipS x) := by
  have e : travelP (flipM m) x.2.1 = travelP m x.2.1 := rfl
  unfold setOk at h ⊢
  simp only [e]
  rw [flipP_0, flipP_1, flipP_2]
  constructor
  · intro hr
    have := h.2 (by simpa using hr)
    omega
  · intro hr
    have := h.1 (by simpa using hr)
    omega
theorem flip_truth {m : Meas} (hM : MeasOk m) {S : Nat} {p : Nat → Int} (h : TruthP m S p) : TruthP (flipM m) S (flipP p) := by
  have h := (truth_set hM).1 h
  refine (truth_set (flip_ok hM)).2 ⟨?_, fun i hi hb => ?_⟩
  · rw [flipP_0, flipP_1]
    have := h.1
    show m.sum.1 ≤ _ ∧ _ ≤ m.sum.2
    omega
  · have hi' : i < m.sets.length := by unfold flipM at hi; simpa using hi
    rw [flip_at m hi']
    exact flip_set (h.2 i hi' hb)
theorem flip_flip (m : Meas) : flipM (flipM m) = m := by
  have h : flipS ∘ flipS = id := by funext x; simp [flipS]
  unfold flipM
  simp only [List.map_map, h, List.map_id]
theorem flip_iso {m : Meas} (hM : MeasOk m) : Iso2 m (flipM m) flipP flipP fun S T => S = T := by
  refine ⟨hM, flip_ok hM, by simp [flipM], fun S T p h hp => h ▸ flip_truth hM hp, fun S T q h hq => ?_, by simp [fullS, flipM]⟩
  have := flip_truth (flip_ok hM) hq
  rw [flip_flip] at this
  exact h ▸ this
theorem flip_full (m : Meas) : fullS (flipM m) = fullS m := by simp [fullS, flipM]
theorem flip_clash {m : Meas} (hM : MeasOk m) : clashS (flipM m) = clashS m := by
  have e : badF (flipM m) = badF m := by funext s; unfold badF; rw [(flip_iso hM).can rfl]
  unfold clashS
  rw [e, flip_full]
theorem idleW_ext {m z : Meas} : ∀ k, (∀ j, j < k → bEqB (tightB z (less (fullS z) (1 * 2 ^ j))) (tightB z (fullS z)) = bEqB (tightB m (less (fullS m) (1 * 2 ^ j))) (tightB m (fullS m))) → idleW z k = idleW m k
  | 0, _ => by simp [idleW]
  | k + 1, h => by
    have ih := idleW_ext k fun j hj => h j (by omega)
    have h1 := h k (by omega)
    rw [idleW_succ z, idleW_succ m, h1, ih]
theorem flip_idle {m : Meas} (hM : MeasOk m) : idleE (flipM m) = idleE m := by
  by_cases ho : okF m
  · have hz := (flip_iso hM).okiff.2 ho
    have e : ∀ z, MeasOk z → okF z → idleE z = (((idleW z z.sets.length : Nat) : Int), 0) := fun z h1 h2 => (if_neg (not_not_intro h1)).trans (if_neg (not_not_intro ((can_eq h1 _).2 h2)))
    rw [e _ (flip_ok hM) hz, e _ hM ho, show (flipM m).sets.length = m.sets.length from by simp [flipM],
      idleW_ext (m := m) (z := flipM m) m.sets.length fun j _ => (flip_iso hM).idle (fun q T h => by rw [flipP_flipP] at h; exact h) (fun p S h => by rw [flipP_flipP] at h; exact h) ((okF_can m).1 ho) (by rw [flip_full])]
  · have e : ∀ z, MeasOk z → ¬ okF z → idleE z = (0, 10) := fun z h1 h2 => (if_neg (not_not_intro h1)).trans (if_pos fun h => h2 ((can_eq h1 _).1 h))
    rw [e _ hM ho, e _ (flip_ok hM) fun k => ho ((flip_iso hM).okiff.1 k)]
theorem flip_seenW (m : Meas) (r : Bool) : ∀ k, k ≤ m.sets.length → seenW (flipM m) r k = seenW m (!r) k
  | 0, _ => rfl
  | k + 1, hk => by
    rw [seenW_succ, seenW_succ, flip_seenW m r k (by omega), flip_at m (by omega)]
    have e : ((flipS (setAt m k)).2.2 = r) = ((setAt m k).2.2 = !r) := by
      show ((!(setAt m k).2.2) = r) = _
      cases (setAt m k).2.2 <;> cases r <;> simp
    simp only [e]
theorem flip_once (m : Meas) : onceX (flipM m) = onceX m := by
  unfold onceX
  rw [show (flipM m).sets.length = m.sets.length from by simp [flipM], flip_seenW m _ _ (Nat.le_refl _), flip_seenW m _ _ (Nat.le_refl _), Nat.xor_comm]
  rfl
theorem flip_seen (m : Meas) (a : Int) : seenP (flipM m) a ↔ seenP m a := by
  rw [seenP_iff, seenP_iff]
  constructor
  · rintro ⟨x, hx, he⟩
    obtain ⟨y, hy, rfl⟩ := List.mem_map.1 hx
    exact ⟨y, hy, he⟩
  · rintro ⟨x, hx, he⟩
    exact ⟨flipS x, List.mem_map.2 ⟨x, hx, rfl⟩, he⟩
theorem apart_bd {m : Meas} (hM : MeasOk m) (a b : Int) : -76800000 ≤ (apartE m a b).1.1 ∧ (apartE m a b).1.1 ≤ 76800000 ∧ -76800000 ≤ (apartE m a b).1.2 ∧ (apartE m a b).1.2 ≤ 76800000 := by
  unfold apartE
  rw [if_neg (not_not_intro hM)]
  by_cases hI : (0 ≤ a ∧ a ≤ m.images - 1) ∧ (0 ≤ b ∧ b ≤ m.images - 1)
  · rw [if_neg (not_not_intro hI)]
    by_cases hd : diagOk (tightB m (fullS m))
    · rw [if_neg (not_not_intro hd)]
      have ho : okF m := (can_eq hM _).1 hd
      by_cases hab : a = b
      · rw [if_pos hab]; simp
      · rw [if_neg hab]
        by_cases hs : seenP m a ∧ seenP m b
        · rw [if_neg (not_not_intro hs)]
          have l1 := img_lk hM ho ⟨hI.1, hs.1⟩
          have l2 := img_lk hM ho ⟨hI.2, hs.2⟩
          have h1 := span_bd hM ho l1.1 l2.1 l1.2 l2.2
          have h2 := (span_lk hM ho l1.1 l2.1 l1.2 l2.2).le
          exact ⟨h1.1, Int.le_trans h2 h1.2, Int.le_trans h1.1 h2, h1.2⟩
        · rw [if_pos hs]; simp
    · rw [if_pos hd]; simp
  · rw [if_pos hI]; simp
theorem flip_apart {m : Meas} (hM : MeasOk m) {a b : Int} (ha : 0 ≤ a ∧ a ≤ m.images - 1) (hb : 0 ≤ b ∧ b ≤ m.images - 1) : (apartE (flipM m) a b).2 = (apartE m a b).2 ∧ (apartE m a b).1.1 = -(apartE (flipM m) a b).1.2 ∧ (apartE m a b).1.2 = -(apartE (flipM m) a b).1.1 := by
  have hP := flip_ok hM
  have iso := flip_iso hM
  have hI : (0 ≤ a ∧ a ≤ m.images - 1) ∧ (0 ≤ b ∧ b ≤ m.images - 1) := ⟨ha, hb⟩
  have hI' : (0 ≤ a ∧ a ≤ (flipM m).images - 1) ∧ (0 ≤ b ∧ b ≤ (flipM m).images - 1) := ⟨ha, hb⟩
  by_cases ho : okF m
  · have hz := iso.okiff.2 ho
    by_cases hab : a = b
    · subst hab
      rw [apart_eqv hP hz hI'.1, apart_eqv hM ho ha]; simp
    · by_cases hs : seenP m a ∧ seenP m b
      · have i1 : Img m a := ⟨ha, hs.1⟩
        have i2 : Img m b := ⟨hb, hs.2⟩
        have j1 : Img (flipM m) a := ⟨ha, (flip_seen m a).2 hs.1⟩
        have j2 : Img (flipM m) b := ⟨hb, (flip_seen m b).2 hs.2⟩
        have e := iso.spanNeg (apart_span hM ho i1 i2 hab) (apart_span hP hz j1 j2 hab) (fun p => by rw [flipP_2, flipP_2]; omega) (fun q => by rw [flipP_2, flipP_2]; omega)
        refine ⟨?_, e⟩
        rw [apart_ok hP hz j1 j2 hab, apart_ok hM ho i1 i2 hab]
      · have hs' : ¬ (seenP (flipM m) a ∧ seenP (flipM m) b) := fun h => hs ⟨(flip_seen m a).1 h.1, (flip_seen m b).1 h.2⟩
        have e1 : apartE m a b = ((0, 0), 12) := by
          unfold apartE
          rw [if_neg (not_not_intro hM), if_neg (not_not_intro hI), if_neg (not_not_intro (okF_diag hM ho)), if_neg hab, if_pos hs]
        have e2 : apartE (flipM m) a b = ((0, 0), 12) := by
          unfold apartE
          rw [if_neg (not_not_intro hP), if_neg (not_not_intro hI'), if_neg (not_not_intro (okF_diag hP hz)), if_neg hab, if_pos hs']
        rw [e1, e2]; simp
  · have e1 : apartE m a b = ((0, 0), 10) := by
      unfold apartE
      rw [if_neg (not_not_intro hM), if_neg (not_not_intro hI), if_pos fun h => ho ((can_eq hM _).1 h)]
    have e2 : apartE (flipM m) a b = ((0, 0), 10) := by
      unfold apartE
      rw [if_neg (not_not_intro hP), if_neg (not_not_intro hI'), if_pos fun h => ho (iso.okiff.1 ((can_eq hP _).1 h))]
    rw [e1, e2]; simp
end Go.Proofs.Ytoefcofplkbnkaa
