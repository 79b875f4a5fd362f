/-
  Texts Ca, Cb, Cc, Da, Db, Dc, Ea in one.
-/
import Derived.Test.YtlcdohhhhlhpmaaP5
namespace Go.Proofs.Ytlcdohhhhlhpmaa
open ZW

/-- A corner can be, by the stars of a set. -/
def At (p : Plt) (d : Bool) (sc : Int) (set : Nat) (n : Nat) (c : Int) : Prop :=
  (-1099511627776 ≤ c ∧ c ≤ 1099511627776) ∧ ∀ i, i < n → set.testBit i = true → (saidD d (p.st.getD i star0)).1 ≤ c + (longP sc (imgD d (p.st.getD i star0))).2 ∧ c + (longP sc (imgD d (p.st.getD i star0))).1 ≤ (saidD d (p.st.getD i star0)).2
theorem cornT_iff (p : Plt) (d : Bool) (sc : Int) (set : Nat) (c : Int) : ∀ n, ((cornT p d sc set n).1 ≤ c ∧ c ≤ (cornT p d sc set n).2) ↔ At p d sc set n c
  | 0 => ⟨fun h => ⟨h, fun i hi => absurd hi (by omega)⟩, fun h => h.1⟩
  | n + 1 => by
    have ih := cornT_iff p d sc set c n
    rw [cornT_succ]
    split
    · rename_i hb
      unfold cornS
      dsimp only
      constructor
      · intro h
        have h1 := ih.1 ⟨by omega, by omega⟩
        refine ⟨h1.1, fun i hi hbi => ?_⟩
        rcases Nat.lt_or_ge i n with h2 | h2
        · exact h1.2 i h2 hbi
        · obtain rfl : i = n := by omega
          omega
      · intro h
        have h1 := ih.2 ⟨h.1, fun i hi hbi => h.2 i (by omega) hbi⟩
        have h2 := h.2 n (by omega) hb
        omega
    · rename_i hb
      rw [ih]
      constructor
      · intro h
        refine ⟨h.1, fun i hi hbi => ?_⟩
        rcases Nat.lt_or_ge i n with h2 | h2
        · exact h.2 i h2 hbi
        · obtain rfl : i = n := by omega
          exact absurd hbi hb
      · exact fun h => ⟨h.1, fun i hi hbi => h.2 i (by omega) hbi⟩
abbrev AtP (p : Plt) (d : Bool) (sc : Int) (set : Nat) (c : Int) : Prop := At p d sc set p.st.length c
theorem corn_iff {p : Plt} {d : Bool} {sc : Int} {set : Nat} {c : Int} : ((cornP p d sc set).1 ≤ c ∧ c ≤ (cornP p d sc set).2) ↔ AtP p d sc set c := cornT_iff p d sc set c _
theorem okAt_at {p : Plt} {set : Nat} {sc : Int} : okAt p set sc = true ↔ ∀ d, ∃ c, AtP p d sc set c := by
  rw [okAt_iff]
  constructor
  · exact fun h d => ⟨_, corn_iff.1 ⟨Int.le_refl _, h d⟩⟩
  · intro h d
    obtain ⟨c, hc⟩ := h d
    have := corn_iff.2 hc
    omega
theorem At.less {p : Plt} {d : Bool} {sc : Int} {set set' : Nat} {n : Nat} {c : Int} (h : At p d sc set' n c) (hs : subS set set') : At p d sc set n c := ⟨h.1, fun i hi hb => h.2 i hi (hs i hb)⟩
theorem okAt_less {p : Plt} {set set' : Nat} {sc : Int} (h : okAt p set' sc = true) (hs : subS set set') : okAt p set sc = true := okAt_at.2 fun d => by
  obtain ⟨c, hc⟩ := okAt_at.1 h d
  exact ⟨c, hc.less hs⟩
theorem scales_less {p : Plt} {set set' : Nat} (h : scalesP p set' ≠ []) (hs : subS set set') : scalesP p set ≠ [] := by
  obtain ⟨s, hx⟩ := List.exists_mem_of_ne_nil _ h
  have h1 := scalesP_mem.1 hx
  exact List.ne_nil_of_mem (scalesP_mem.2 ⟨h1.1, okAt_less h1.2 hs⟩)
theorem scales_ne {p : Plt} {set : Nat} : scalesP p set ≠ [] ↔ ∃ s, (p.sc.1 ≤ s ∧ s ≤ p.sc.2) ∧ okAt p set s = true := by
  constructor
  · intro h
    obtain ⟨s, hx⟩ := List.exists_mem_of_ne_nil _ h
    exact ⟨s, scalesP_mem.1 hx⟩
  · rintro ⟨s, hs⟩
    exact List.ne_nil_of_mem (scalesP_mem.2 hs)

/-! ### The least of the smallest sets -/
/-- A set with so many stars more, from one on, of which something is so. -/
def CandI (isB : Nat → Bool) (stars : Nat) : Nat → Nat → Nat → Nat → Prop
  | 0, _, s, x => x = s ∧ isB s = true
  | m + 1, fr, s, x => ∃ i, fr ≤ i ∧ stars.testBit i = true ∧ CandI isB stars m (i + 1) (s ||| 1 * 2 ^ i) x
/-- The least one of b and of some others. -/
structure GoodB (b r : Nat) (C : Nat → Prop) : Prop where
  of : r = b ∨ C r
  le : b ≠ 0 → r ≠ 0 ∧ r ≤ b
  ge : ∀ x, C x → r ≠ 0 ∧ r ≤ x
theorem GoodB.refl (b : Nat) : GoodB b b (fun _ => False) := ⟨.inl rfl, fun h => ⟨h, Nat.le_refl _⟩, fun _ h => h.elim⟩
theorem GoodB.trans {b r q : Nat} {C C' : Nat → Prop} (h : GoodB b r C) (h' : GoodB r q C') : GoodB b q (fun x => C x ∨ C' x) := by
  refine ⟨?_, fun hb => ?_, fun x hx => ?_⟩
  · rcases h'.of with e | e
    · subst e
      rcases h.of with e | e
      · exact .inl e
      · exact .inr (.inl e)
    · exact .inr (.inr e)
  · have h1 := h.le hb
    have h2 := h'.le h1.1
    omega
  · rcases hx with hx | hx
    · have h1 := h.ge x hx
      have h2 := h'.le h1.1
      omega
    · exact h'.ge x hx
theorem GoodB.congr {b r : Nat} {C C' : Nat → Prop} (h : GoodB b r C) (e : ∀ x, C x ↔ C' x) : GoodB b r C' := by
  have : C = C' := funext fun x => propext (e x)
  rw [← this]; exact h
theorem bit_ne {s i : Nat} : s ||| 1 * 2 ^ i ≠ 0 := fun h => by
  have : (s ||| 1 * 2 ^ i).testBit i = true := by rw [Nat.testBit_or, Nat.one_mul, Nat.testBit_two_pow_self, Bool.or_true]
  rw [h] at this; simp at this
theorem onP_good (isB : Nat → Bool) (stars : Nat) (ht : stars < 1024) : ∀ m fr s b, (s ≠ 0 ∨ 0 < m) → GoodB b (onP isB stars m fr s b) (CandI isB stars m fr s)
  | 0, fr, s, b, hs => by
    have hs : s ≠ 0 := by omega
    unfold onP bestP
    split
    · rename_i h
      exact ⟨.inr ⟨rfl, h.2⟩, fun hb => ⟨hs, by omega⟩, fun x hx => ⟨hs, by rw [hx.1]; exact Nat.le_refl _⟩⟩
    · rename_i h
      refine ⟨.inl rfl, fun hb => ⟨hb, Nat.le_refl _⟩, fun x hx => ?_⟩
      obtain ⟨rfl, hx2⟩ := hx
      have : ¬ (b = 0 ∨ x < b) := fun h1 => h ⟨h1, hx2⟩
      omega
  | m + 1, fr, s, b, _ => by
    have key : ∀ n, GoodB b (onT isB stars m fr s b n) (fun x => ∃ i, i < n ∧ fr ≤ i ∧ stars.testBit i = true ∧ CandI isB stars m (i + 1) (s ||| 1 * 2 ^ i) x) := by
      intro n
      induction n with
      | zero => exact (GoodB.refl b).congr fun x => ⟨fun h => h.elim, fun ⟨i, hi, _⟩ => absurd hi (by omega)⟩
      | succ n ih =>
        rw [onT_succ]
        split
        · rename_i h
          refine (ih.trans (onP_good isB stars ht m (n + 1) (s ||| 1 * 2 ^ n) _ (.inl bit_ne))).congr fun x => ?_
          constructor
          · rintro (⟨i, h1, h2⟩ | h1)
            · exact ⟨i, by omega, h2⟩
            · exact ⟨n, by omega, h.1, h.2, h1⟩
          · rintro ⟨i, h1, h2⟩
            rcases Nat.lt_or_ge i n with h3 | h3
            · exact .inl ⟨i, h3, h2⟩
            · obtain rfl : i = n := by omega
              exact .inr h2.2.2
        · rename_i h
          refine ih.congr fun x => ?_
          constructor
          · rintro ⟨i, h1, h2⟩; exact ⟨i, by omega, h2⟩
          · rintro ⟨i, h1, h2⟩
            refine ⟨i, ?_, h2⟩
            rcases Nat.lt_or_ge i n with h3 | h3
            · exact h3
            · obtain rfl : i = n := by omega
              exact absurd ⟨h2.1, h2.2.1⟩ h
    refine (key (lenT stars)).congr fun x => ?_
    constructor
    · rintro ⟨i, _, h⟩; exact ⟨i, h⟩
    · rintro ⟨i, h⟩; exact ⟨i, lenT_bit stars ht i h.2.1, h⟩
end Go.Proofs.Ytlcdohhhhlhpmaa
namespace Go.Proofs.Ytlcdohhhhlhpmaa
open ZW

theorem mod_iff (t k : Nat) : t % 2 ^ k = 0 ↔ ∀ j, t.testBit j = true → k ≤ j := by
  constructor
  · intro h j hj
    rcases Nat.lt_or_ge j k with h1 | h1
    · have : (t % 2 ^ k).testBit j = true := by rw [Nat.testBit_mod_two_pow, hj]; simp [h1]
      rw [h] at this; simp at this
    · exact h1
  · intro h
    refine Nat.eq_of_testBit_eq fun j => ?_
    rw [Nat.testBit_mod_two_pow, Nat.zero_testBit]
    cases hj : t.testBit j with
    | false => simp
    | true => have := h j hj; simp; omega
def lowB (t : Nat) : Nat := ((List.range 10).find? fun i => t.testBit i).getD 0
theorem pop_add {t i : Nat} (ht : t < 1024) (hi : i < 10) (h : ∀ j, t.testBit j = true → i + 1 ≤ j) : popc (t ||| 1 * 2 ^ i) = popc t + 1 := by
  have hb : ((List.range 10).all fun i => (List.range 1024).all fun t => t % 2 ^ (i + 1) != 0 || popc (t ||| 1 * 2 ^ i) == popc t + 1) = true := by kernel_rfl
  have h1 := List.all_eq_true.1 (List.all_eq_true.1 hb i (List.mem_range.2 hi)) t (List.mem_range.2 ht)
  have h2 := (mod_iff t (i + 1)).2 h
  simpa [h2] using h1
theorem pop_low {t : Nat} (ht : t < 1024) (h0 : popc t ≠ 0) : ∃ i t', i < 10 ∧ t' < 1024 ∧ t = t' ||| 1 * 2 ^ i ∧ (∀ j, t'.testBit j = true → i + 1 ≤ j) ∧ t.testBit i = true := by
  have hb : ((List.range 1024).all fun t => popc t == 0 || (Nat.blt (lowB t) 10 && (t == (t - 2 ^ lowB t) ||| 1 * 2 ^ lowB t) && ((t - 2 ^ lowB t) % 2 ^ (lowB t + 1) == 0) && t.testBit (lowB t))) = true := by kernel_rfl
  have h1 := List.all_eq_true.1 hb t (List.mem_range.2 ht)
  have h2 : (popc t == 0) = false := by simpa using h0
  rw [h2, Bool.false_or, Bool.and_eq_true, Bool.and_eq_true, Bool.and_eq_true] at h1
  obtain ⟨⟨⟨a, b⟩, c⟩, d⟩ := h1
  exact ⟨lowB t, t - 2 ^ lowB t, Nat.le_of_ble_eq_true a, Nat.lt_of_le_of_lt (Nat.sub_le _ _) ht, by simpa using b, (mod_iff _ _).1 (by simpa using c), d⟩
theorem pop_zero {t : Nat} (ht : t < 1024) (h : popc t = 0) : t = 0 := by
  have hb : ((List.range 1024).all fun t => popc t != 0 || t == 0) = true := by kernel_rfl
  have h1 := List.all_eq_true.1 hb t (List.mem_range.2 ht)
  simpa [h] using h1
theorem candI_iff (isB : Nat → Bool) (stars : Nat) (hs : stars < 1024) : ∀ m fr s x, CandI isB stars m fr s x ↔ ∃ t, x = s ||| t ∧ subS t stars ∧ (∀ i, t.testBit i = true → fr ≤ i) ∧ popc t = m ∧ isB x = true
  | 0, fr, s, x => by
    constructor
    · rintro ⟨rfl, h⟩
      exact ⟨0, by simp, subS_zero _, fun i hi => by simp at hi, rfl, h⟩
    · rintro ⟨t, rfl, h1, h2, h3, h4⟩
      have := pop_zero (subS_lt h1 hs) h3
      subst this
      rw [Nat.or_zero] at h4 ⊢
      exact ⟨rfl, h4⟩
  | m + 1, fr, s, x => by
    constructor
    · rintro ⟨i, hf, hi, hc⟩
      obtain ⟨t, rfl, h1, h2, h3, h4⟩ := (candI_iff isB stars hs m (i + 1) _ x).1 hc
      have hi10 : i < 10 := by
        rcases Nat.lt_or_ge i 10 with h | h
        · exact h
        · rw [Nat.testBit_lt_two_pow (Nat.lt_of_lt_of_le (show stars < 2 ^ 10 from hs) (Nat.pow_le_pow_right (by omega) h))] at hi; cases hi
      refine ⟨t ||| 1 * 2 ^ i, ?_, subS_or h1 hi, fun j hj => ?_, by rw [pop_add (subS_lt h1 hs) hi10 h2, h3], h4⟩
      · rw [Nat.or_assoc, Nat.or_comm (1 * 2 ^ i) t]
      · rw [Nat.testBit_or, Bool.or_eq_true, Nat.one_mul, Nat.testBit_two_pow] at hj
        rcases hj with hj | hj
        · have := h2 j hj; omega
        · have : i = j := by simpa using hj
          omega
    · rintro ⟨t, rfl, h1, h2, h3, h4⟩
      obtain ⟨i, t', hi, ht', rfl, hb, hti⟩ := pop_low (subS_lt h1 hs) (by omega)
      have hsub : subS t' stars := fun j hj => h1 j (by rw [Nat.testBit_or, hj, Bool.true_or])
      refine ⟨i, h2 i hti, h1 i hti, (candI_iff isB stars hs m (i + 1) _ _).2 ⟨t', ?_, hsub, hb, ?_, h4⟩⟩
      · rw [Nat.or_assoc, Nat.or_comm (1 * 2 ^ i) t']
      · have := pop_add ht' hi hb; omega
/-- What comes of trying sets of so many stars. -/
theorem leastT_spec (isB : Nat → Bool) (stars : Nat) (hs : stars < 1024) : ∀ n,
    (leastT isB stars n = 0 ∧ ∀ x, subS x stars → 0 < popc x → popc x ≤ n → isB x = false) ∨
    (subS (leastT isB stars n) stars ∧ leastT isB stars n ≠ 0 ∧ isB (leastT isB stars n) = true ∧ popc (leastT isB stars n) ≤ n ∧ ∀ x, subS x stars → 0 < popc x → isB x = true → popc (leastT isB stars n) < popc x ∨ popc (leastT isB stars n) = popc x ∧ leastT isB stars n ≤ x)
  | 0 => .inl ⟨rfl, fun x _ h h' => absurd h (by omega)⟩
  | n + 1 => by
    rw [leastT_succ]
    rcases leastT_spec isB stars hs n with ⟨h0, h1⟩ | ⟨h1, h2, h3, h4, h5⟩
    · rw [if_pos h0, h0]
      have hg := onP_good isB stars hs (n + 1) 0 0 0 (.inr (by omega))
      have hc : ∀ x, CandI isB stars (n + 1) 0 0 x ↔ subS x stars ∧ popc x = n + 1 ∧ isB x = true := fun x => by
        rw [candI_iff isB stars hs]
        constructor
        · rintro ⟨t, rfl, a, _, b, c⟩
          rw [Nat.zero_or] at c ⊢
          exact ⟨a, b, c⟩
        · rintro ⟨a, b, c⟩
          exact ⟨x, by rw [Nat.zero_or], a, fun _ _ => Nat.zero_le _, b, c⟩
      by_cases hr : onP isB stars (n + 1) 0 0 0 = 0
      · refine .inl ⟨hr, fun x hx hp hp' => ?_⟩
        rcases Nat.lt_or_ge (popc x) (n + 1) with h | h
        · exact h1 x hx hp (by omega)
        · cases hb : isB x with
          | false => rfl
          | true => exact absurd hr (hg.ge x ((hc x).2 ⟨hx, by omega, hb⟩)).1
      · have hx := (hc _).1 (hg.of.resolve_left hr)
        refine .inr ⟨hx.1, hr, hx.2.2, by omega, fun x hsx hp hb => ?_⟩
        rcases Nat.lt_or_ge (popc x) (n + 1) with h | h
        · rw [h1 x hsx hp (by omega)] at hb; cases hb
        · rcases Nat.lt_or_ge (n + 1) (popc x) with h' | h'
          · exact .inl (by omega)
          · exact .inr ⟨by omega, (hg.ge x ((hc x).2 ⟨hsx, by omega, hb⟩)).2⟩
    · rw [if_neg h2]
      exact .inr ⟨h1, h2, h3, by omega, h5⟩
end Go.Proofs.Ytlcdohhhhlhpmaa
namespace Go.Proofs.Ytlcdohhhhlhpmaa
open ZW

theorem partT_get (st : List StarV) (set : Nat) {i : Nat} (hi : i < st.length) : ∀ n, (partT st set n).getD i star0 = if i < n then setK (st.getD i star0) (set.testBit i) else st.getD i star0
  | 0 => by rw [if_neg (by omega)]; rfl
  | n + 1 => by
    have ih := partT_get st set hi n
    rw [partT_succ]
    by_cases h : i = n
    · subst h
      rw [List.getD_eq_getElem?_getD, List.getElem?_set_self (by rw [partT_len]; exact hi), Option.getD_some, if_pos (by omega), ih, if_neg (by omega)]
    · rw [List.getD_eq_getElem?_getD, List.getElem?_set_ne (Ne.symm h), ← List.getD_eq_getElem?_getD, ih]
      by_cases h2 : i < n
      · rw [if_pos h2, if_pos (by omega)]
      · rw [if_neg h2, if_neg (by omega)]
theorem part_get {p : Plt} {set i : Nat} (hi : i < p.st.length) : (partP p set).st.getD i star0 = setK (p.st.getD i star0) (set.testBit i) := by
  show (partT p.st set p.st.length).getD i star0 = _
  rw [partT_get _ _ hi, if_pos hi]
theorem part_len (p : Plt) (set : Nat) : (partP p set).st.length = p.st.length := partT_len _ _ _
theorem part_ok {p : Plt} {set : Nat} (hp : PltOk p) (hs : setOk p set) : PltOk (partP p set) := by
  refine ⟨hp.c, by rw [part_len]; exact hp.n, fun x hx => ?_⟩
  obtain ⟨i, hi, rfl⟩ := List.mem_iff_getElem.1 hx
  have hi' : i < p.st.length := by rw [part_len] at hi; exact hi
  have h1 := hp.s _ (getD_mem hi' star0)
  rw [List.getElem_eq_getD (h := hi) star0, part_get hi']
  exact ⟨h1.1, h1.2.1, fun hk => h1.2.2 (hs i hk).2⟩
theorem part_known {p : Plt} {set : Nat} (hs : setOk p set) : knownP (partP p set) = set := by
  refine Nat.eq_of_testBit_eq fun i => ?_
  rw [knownP_test, part_len]
  by_cases hi : i < p.st.length
  · rw [part_get hi, decide_eq_true hi, Bool.true_and]; rfl
  · rw [decide_eq_false hi, Bool.false_and]
    cases hb : set.testBit i with
    | false => rfl
    | true => exact absurd (hs i hb).1 hi
theorem part_at {p : Plt} {d : Bool} {sc : Int} {set s : Nat} {c : Int} : AtP (partP p set) d sc s c ↔ AtP p d sc s c := by
  unfold AtP At
  rw [part_len]
  refine and_congr_right fun _ => forall_congr' fun i => ?_
  constructor
  · intro h hi hb
    have := h hi hb
    rw [part_get hi] at this
    cases d <;> exact this
  · intro h hi hb
    have := h hi hb
    rw [part_get hi]
    cases d <;> exact this
theorem part_scales {p : Plt} {set s : Nat} : scalesP (partP p set) s ≠ [] ↔ scalesP p s ≠ [] := by
  rw [scales_ne, scales_ne]
  refine exists_congr fun sc => and_congr Iff.rfl ?_
  rw [okAt_at, okAt_at]
  exact forall_congr' fun d => exists_congr fun c => part_at
/-- Can the stars of a set be right? -/
theorem part_scale {p : Plt} {set : Nat} (hp : PltOk p) (hs : setOk p set) : (scaleE (partP p set)).2 = 0 ↔ scalesP p set ≠ [] := by
  have h1 := part_ok hp hs
  have e : truthE (partP p set) true = if scalesP (partP p set) set = [] then 10 else 0 := by
    unfold truthE
    rw [if_neg (not_not_intro h1), if_neg (by simp), part_known hs]
  unfold scaleE
  rw [e]
  by_cases h : scalesP (partP p set) set = []
  · rw [if_pos h, if_pos (by decide)]
    exact ⟨fun h => absurd h (by decide), fun h2 => absurd h (part_scales.2 h2)⟩
  · rw [if_neg h, if_neg (by decide)]
    exact ⟨fun _ => part_scales.1 h, fun _ => rfl⟩
theorem less_self_sub (a b : Nat) : subS (less a b) a := fun i hi => by rw [less_bit, Bool.and_eq_true] at hi; exact hi.1
theorem clash_spec {p : Plt} (hp : PltOk p) : ∃ c : Nat, clashE p = ((c : Int), 0) ∧ subS c (knownP p) ∧ ((c = 0 ∧ scalesP p (knownP p) ≠ []) ∨ (c ≠ 0 ∧ scalesP p c = [] ∧ scalesP p (knownP p) = [] ∧ ∀ x, subS x (knownP p) → 0 < popc x → scalesP p x = [] → popc c < popc x ∨ popc c = popc x ∧ c ≤ x)) := by
  have hlt := setOk_lt (known_ok p) hp.n
  unfold clashE
  rw [if_neg (not_not_intro hp)]
  by_cases h : scalesP p (knownP p) ≠ []
  · rw [if_pos h]; exact ⟨0, rfl, subS_zero _, .inl ⟨rfl, h⟩⟩
  · rw [if_neg h]
    have h' : scalesP p (knownP p) = [] := Decidable.not_not.1 h
    have hb : ∀ x, clashB p x = true ↔ scalesP p x = [] := fun x => by unfold clashB; simp
    rcases leastT_spec (clashB p) (knownP p) hlt (popc (knownP p)) with ⟨h0, h1⟩ | ⟨h1, h2, h3, _, h5⟩
    · exfalso
      have h2 : popc (knownP p) ≠ 0 := fun h0 => by
        have hz := pop_zero hlt h0
        rw [hz] at h'
        have hc := hp.c
        unfold spanOk at hc
        refine scales_ne.2 ⟨p.sc.1, ⟨Int.le_refl _, hc.2.1⟩, okAt_at.2 fun d => ⟨0, by omega, fun i _ hb => by simp at hb⟩⟩ h'
      have := h1 (knownP p) (fun _ h => h) (by omega) (Nat.le_refl _)
      rw [(hb _).2 h'] at this; cases this
    · exact ⟨leastP (clashB p) (knownP p), rfl, h1, .inr ⟨h2, (hb _).1 h3, h', fun x hx hp hs => h5 x hx hp ((hb x).2 hs)⟩⟩
theorem drop_spec {p : Plt} (hp : PltOk p) : ∃ c : Nat, dropE p = ((c : Int), 0) ∧ subS c (knownP p) ∧ ((c = 0 ∧ scalesP p (knownP p) ≠ []) ∨ (c ≠ 0 ∧ scalesP p (less (knownP p) c) ≠ [] ∧ scalesP p (knownP p) = [] ∧ ∀ x, subS x (knownP p) → 0 < popc x → scalesP p (less (knownP p) x) ≠ [] → popc c < popc x ∨ popc c = popc x ∧ c ≤ x)) := by
  have hlt := setOk_lt (known_ok p) hp.n
  unfold dropE
  rw [if_neg (not_not_intro hp)]
  by_cases h : scalesP p (knownP p) ≠ []
  · rw [if_pos h]; exact ⟨0, rfl, subS_zero _, .inl ⟨rfl, h⟩⟩
  · rw [if_neg h]
    have h' : scalesP p (knownP p) = [] := Decidable.not_not.1 h
    have hb : ∀ x, dropB p x = true ↔ scalesP p (less (knownP p) x) ≠ [] := fun x => by unfold dropB; rw [decide_eq_true_eq]
    have h00 : ∀ x, x = 0 → scalesP p x ≠ [] := fun x hx => by
      subst hx
      have hc := hp.c
      unfold spanOk at hc
      exact scales_ne.2 ⟨p.sc.1, ⟨Int.le_refl _, hc.2.1⟩, okAt_at.2 fun d => ⟨0, by omega, fun i _ hb => by simp at hb⟩⟩
    rcases leastT_spec (dropB p) (knownP p) hlt (popc (knownP p)) with ⟨h0, h1⟩ | ⟨h1, h2, h3, _, h5⟩
    · exfalso
      have h2 : popc (knownP p) ≠ 0 := fun h0 => h00 _ (pop_zero hlt h0) h'
      have := h1 (knownP p) (fun _ h => h) (by omega) (Nat.le_refl _)
      rw [(hb _).2 (h00 _ (Nat.eq_of_testBit_eq fun i => by rw [less_bit]; simp))] at this; cases this
    · exact ⟨leastP (dropB p) (knownP p), rfl, h1, .inr ⟨h2, (hb _).1 h3, h', fun x hx hp hs => h5 x hx hp ((hb x).2 hs)⟩⟩
end Go.Proofs.Ytlcdohhhhlhpmaa
namespace Go.Proofs.Ytlcdohhhhlhpmaa
open ZW

set_option maxRecDepth 100000 in
theorem pcan_any (y : Option Addr × Nat) (p : Plt) (bn set : Nat) (w : World) (hbn : w.heap[bn]? = some (blk (pltC y p) 26)) (hm : InP w y p) (hp : PltOk p) (hs : setOk p set) (b : Bool) (hb : b = true ↔ scalesP p set ≠ []) :
    Calls Try.prog 41 [i64 (set : Nat), .pointer (some ⟨bn, 0, none⟩)].toArray w (Ret w (.bool b)) := by
  have hn := hp.n
  have hlt := setOk_lt hs hn
  refine fEnter Try.func41 rfl Try.ntmps41 rfl ?_
  refine kSeq ?_
  refine kRegion rfl ?_
  refine lV (yAssign rfl) rfl rfl ?_
  refine lNil ?_
  refine kThen ?_
  refine kSeq ?_
  refine kRegion rfl ?_
  refine lV (yLoadA (vs := [_, _, _]) rfl A26 (cOldB (hbn) rfl)) rfl rfl ?_
  refine lV (yMove rfl) rfl rfl ?_
  refine lE rfl ?_
  refine eCallO rfl (.c rfl (.c rfl .n)) C42 (fun w hw => part_any y p set w (hm.eff0 hw) (by omega) (by omega)) fun g hg => ?_
  refine lV (yCall rfl (.c rfl .n) C15 (fun w hw => scale_any (osA g, osC g) (partP p set) w (OS.rowsE (f := rowS) star0 hg hw .r))) rfl rfl ?_
  refine lV (yMove rfl) rfl rfl ?_
  refine lV (yExtract rfl rfl) rfl rfl ?_
  refine lV (yExtract rfl rfl) rfl rfl ?_
  refine lE rfl ?_
  refine eAlloc Z23 fun n4 => ?_
  refine lE rfl ?_
  refine eStoreL 0 rfl rfl rfl rfl K23 rfl (rfl) ?_
  refine lV (yAssign rfl) rfl rfl ?_
  refine lNil ?_
  refine kThen ?_
  refine kSeq ?_
  refine kRegion rfl ?_
  refine lV (yMove rfl) rfl rfl ?_
  refine lV (yEql rfl rfl) rfl rfl ?_
  refine knownB (t := 14) (c := b) rfl (by rw [Bool.eq_iff_iff, decide_eq_true_eq, hb]; exact part_scale hp hs) ?_
  refine lV (yAssign rfl) rfl rfl ?_
  refine lNil ?_
  refine kThen ?_
  refine kRet ?_
  refine fRet rfl (.t rfl .n) (endRet ?_)
  rfl
end Go.Proofs.Ytlcdohhhhlhpmaa
namespace Go.Proofs.Ytlcdohhhhlhpmaa
open ZW

theorem scaleE_bad {p : Plt} (h : ¬ PltOk p) : scaleE p = ((0, 0), 1) := by
  have : truthE p true = 1 := by unfold truthE; rw [if_pos h]
  unfold scaleE; rw [this]; rfl
theorem scaleE_e {p : Plt} (hp : PltOk p) : (scaleE p).2 = 0 ↔ scalesP p (knownP p) ≠ [] := by
  have e : truthE p true = if scalesP p (knownP p) = [] then 10 else 0 := by
    unfold truthE
    rw [if_neg (not_not_intro hp), if_neg (by simp)]
  unfold scaleE
  rw [e]
  by_cases h : scalesP p (knownP p) = []
  · rw [if_pos h, if_pos (by decide)]
    exact ⟨fun h => absurd h (by decide), fun h2 => absurd h h2⟩
  · rw [if_neg h, if_neg (by decide)]
    exact ⟨fun _ => h, fun _ => rfl⟩
set_option maxRecDepth 100000 in
set_option maxHeartbeats 2000000 in
theorem pclash_bad (y : Option Addr × Nat) (p : Plt) (bits : Nat) (w : World) (hm : InP w y p) (hbits : bits < 65536) (hp : ¬ PltOk p) :
    Calls Try.prog 8 [.agg (pltC y p).toArray, .int .u16 (bits : Nat)].toArray w (Ret w (.bool true)) := by
  have e1 : clashE p = (0, 1) := by unfold clashE; rw [if_pos hp]
  have e2 : dropE p = (0, 1) := by unfold dropE; rw [if_pos hp]
  have e3 := scaleE_bad hp
  refine fEnter Try.func8 rfl Try.ntmps8 rfl ?_
  refine kSeq ?_
  refine kRegion rfl ?_
  refine lE rfl ?_
  refine eBoxA rfl fun n2 => ?_
  refine lV (yAssign rfl) rfl rfl ?_
  refine lNil ?_
  refine kThen ?_
  refine kSeq ?_
  refine kSeq ?_
  refine kRegion rfl ?_
  refine lV (yFieldAddr rfl F26_1) rfl rfl ?_
  refine lV (yLoad1 rfl O24 (cOwn 0 rfl rfl)) rfl rfl ?_
  refine lV (yLen rfl S24) rfl rfl ?_
  refine lV (yGtr rfl rfl) rfl rfl ?_
  refine lNil ?_
  refine kThen ?_
  refine split (t := 21) rfl (fun h21 => ?_) (fun h21 => ?_)
  · refine kIfT rfl ?_
    refine kSeq ?_
    refine kRegion rfl ?_
    refine lV (yCall rfl .n C14 (fun w hw => alive_any w)) rfl rfl ?_
    refine lV (yAssign rfl) rfl rfl ?_
    refine lNil ?_
    refine kThen ?_
    refine kRet ?_
    refine kThenR ?_
    refine fRet rfl (.t rfl .n) (endRet ?_)
    rfl
  · refine kIfF rfl ?_
    refine kSkip ?_
    refine kThen ?_
    refine kSeq ?_
    refine kRegion rfl ?_
    refine lV (yLoadA (vs := [_, _, _]) rfl A26 (cOwn 0 rfl rfl)) rfl rfl ?_
    refine lV (yCall rfl (.c rfl .n) C26 (fun w hw => clash_any y p w (hm.eff0 hw))) rfl rfl ?_
    refine same (t := 25) (u := outI (0, 1)) rfl (by rw [e1]) ?_
    refine lV (yMove rfl) rfl rfl ?_
    refine lV (yExtract rfl rfl) rfl rfl ?_
    refine lV (yExtract rfl rfl) rfl rfl ?_
    refine lV (yAssign rfl) rfl rfl ?_
    refine lV (yAssign rfl) rfl rfl ?_
    refine lNil ?_
    refine kThen ?_
    refine kSeq ?_
    refine kRegion rfl ?_
    refine lV (yLoadA (vs := [_, _, _]) rfl A26 (cOwn 0 rfl rfl)) rfl rfl ?_
    refine lV (yCall rfl (.c rfl .n) C28 (fun w hw => drop_any y p w (hm.eff0 hw))) rfl rfl ?_
    refine same (t := 30) (u := outI (0, 1)) rfl (by rw [e2]) ?_
    refine lV (yMove rfl) rfl rfl ?_
    refine lV (yExtract rfl rfl) rfl rfl ?_
    refine lV (yExtract rfl rfl) rfl rfl ?_
    refine lV (yAssign rfl) rfl rfl ?_
    refine lV (yAssign rfl) rfl rfl ?_
    refine lNil ?_
    refine kThen ?_
    refine kSeq ?_
    refine kRegion rfl ?_
    refine lV (yLoadA (vs := [_, _, _]) rfl A26 (cOwn 0 rfl rfl)) rfl rfl ?_
    refine lV (yCall rfl (.c rfl .n) C15 (fun w hw => scale_any y p w (hm.eff0 hw))) rfl rfl ?_
    refine same (t := 35) (u := outC ((0, 0), 1)) rfl (by rw [e3]) ?_
    refine lV (yMove rfl) rfl rfl ?_
    refine lV (yExtract rfl rfl) rfl rfl ?_
    refine lV (yExtract rfl rfl) rfl rfl ?_
    refine lE rfl ?_
    refine eAlloc Z23 fun n9 => ?_
    refine lE rfl ?_
    refine eStoreL 0 rfl rfl rfl rfl K23 rfl (rfl) ?_
    refine lV (yAssign rfl) rfl rfl ?_
    refine lNil ?_
    refine kThen ?_
    refine kSeq ?_
    refine kSeq ?_
    refine kRegion rfl ?_
    refine lV (yMove rfl) rfl rfl ?_
    refine lV (yNeq rfl rfl) rfl rfl ?_
    refine known (t := 39) rfl (by decide) ?_
    refine lV (yMove rfl) rfl rfl ?_
    refine lGN rfl rfl rfl rfl rfl ?_
    refine lGN rfl rfl rfl rfl rfl ?_
    refine lGN rfl rfl rfl rfl rfl ?_
    refine lV (yPickT rfl rfl) rfl rfl ?_
    refine lNil ?_
    refine kThen ?_
    refine kIfT rfl ?_
    refine kSeq ?_
    refine kRegion rfl ?_
    refine lV (yMove rfl) rfl rfl ?_
    refine lV (yEql rfl rfl) rfl rfl ?_
    refine known (t := 46) rfl (by decide) ?_
    refine lV (yMove rfl) rfl rfl ?_
    refine lGY rfl rfl rfl (oV (yMove rfl) rfl ?_)
    refine lGY rfl rfl rfl (oV (yMove rfl) rfl ?_)
    refine lGY rfl rfl rfl (oV (yEql rfl rfl) rfl ?_)
    refine known (t := 50) rfl (by decide) ?_
    refine lV (yPickT rfl rfl) rfl rfl ?_
    refine lV (yMove rfl) rfl rfl ?_
    refine lGY rfl rfl rfl (oV (yMove rfl) rfl ?_)
    refine lGY rfl rfl rfl (oV (yMove rfl) rfl ?_)
    refine lGY rfl rfl rfl (oV (yEql rfl rfl) rfl ?_)
    refine known (t := 55) rfl (by decide) ?_
    refine lV (yPickT rfl rfl) rfl rfl ?_
    refine lV (yMove rfl) rfl rfl ?_
    refine lGY rfl rfl rfl (oV (yMove rfl) rfl ?_)
    refine lGY rfl rfl rfl (oV (yEql rfl rfl) rfl ?_)
    refine known (t := 59) rfl (by decide) ?_
    refine lV (yPickT rfl rfl) rfl rfl ?_
    refine lV (yMove rfl) rfl rfl ?_
    refine lGY rfl rfl rfl (oV (yMove rfl) rfl ?_)
    refine lGY rfl rfl rfl (oV (yEql rfl rfl) rfl ?_)
    refine known (t := 63) rfl (by decide) ?_
    refine lV (yPickT rfl rfl) rfl rfl ?_
    refine lV (yMove rfl) rfl rfl ?_
    refine lGY rfl rfl rfl (oV (yLoadA (vs := [_, _, _]) rfl A26 (cOwn 1 rfl rfl)) rfl ?_)
    refine lGY rfl rfl rfl (oV (yCall rfl (.c rfl .n) C23 (fun w hw => rplate_any y p w (hm.eff0 hw) (by omega))) rfl ?_)
    refine knownB (t := 67) (c := false) rfl (decide_eq_false hp) ?_
    refine lGY rfl rfl rfl (oV (yNot rfl) rfl ?_)
    refine lV (yPickT rfl rfl) rfl rfl ?_
    refine lV (yMove rfl) rfl rfl ?_
    refine lGY rfl rfl rfl (oV (yCall rfl .n C14 (fun w hw => alive_any w)) rfl ?_)
    refine lV (yPickT rfl rfl) rfl rfl ?_
    refine lV (yAssign rfl) rfl rfl ?_
    refine lNil ?_
    refine kThen ?_
    refine kRet ?_
    refine kThenR ?_
    refine fRet rfl (.t rfl .n) (endRet ?_)
    rfl
end Go.Proofs.Ytlcdohhhhlhpmaa
namespace Go.Proofs.Ytlcdohhhhlhpmaa
open ZW

theorem less_none {a b : Nat} (h : subS a b) : less a b = 0 := Nat.eq_of_testBit_eq fun i => by
  rw [less_bit, Nat.zero_testBit]
  cases hb : a.testBit i with
  | false => rfl
  | true => rw [h i hb]; rfl
theorem pop_less {c i : Nat} (hc : c < 1024) (hi : c.testBit i = true) : popc (less c (1 * 2 ^ i)) < popc c := by
  have hb : ((List.range 10).all fun i => (List.range 1024).all fun c => !c.testBit i || Nat.blt (popc (less c (1 * 2 ^ i))) (popc c)) = true := by kernel_rfl
  have hi10 : i < 10 := by
    rcases Nat.lt_or_ge i 10 with h | h
    · exact h
    · rw [Nat.testBit_lt_two_pow (Nat.lt_of_lt_of_le (show c < 2 ^ 10 from hc) (Nat.pow_le_pow_right (by omega) h))] at hi; cases hi
  have h1 := List.all_eq_true.1 (List.all_eq_true.1 hb i (List.mem_range.2 hi10)) c (List.mem_range.2 hc)
  rw [hi] at h1
  exact Nat.le_of_ble_eq_true h1
theorem scales_zero {p : Plt} (hp : PltOk p) : scalesP p 0 ≠ [] := by
  have hc := hp.c
  unfold spanOk at hc
  exact scales_ne.2 ⟨p.sc.1, ⟨Int.le_refl _, hc.2.1⟩, okAt_at.2 fun d => ⟨0, by omega, fun i _ hb => by simp at hb⟩⟩
theorem pop_pos {t : Nat} (ht : t < 1024) (h : t ≠ 0) : 0 < popc t := by
  rcases Nat.eq_zero_or_pos (popc t) with h1 | h1
  · exact absurd (pop_zero ht h1) h
  · exact h1
/-- What PlateClash asks of a plate that is valid. -/
structure ClashL (p : Plt) (c d own : Nat) : Prop where
  c0 : (scaleE p).2 = 0 ↔ c = 0
  d0 : (scaleE p).2 = 0 ↔ d = 0
  cd : c ≠ 0 → c &&& d ≠ 0
  one : ∀ i, c.testBit i = true → scalesP p (less c (1 * 2 ^ i)) ≠ []
  bad : c ≠ 0 → scalesP p c = []
  rest : scalesP p (less (knownP p) d) ≠ []
  min : scalesP p (less (knownP p) own) ≠ [] → ¬ (popc own < popc d ∨ popc own = popc d ∧ own < d)
  own : scalesP p own ≠ [] ∨ c ≠ 0 ∧ (popc own > popc c ∨ popc own = popc c ∧ own ≥ c)
theorem clashL {p : Plt} (hp : PltOk p) : ∃ c d : Nat, clashE p = ((c : Int), 0) ∧ dropE p = ((d : Int), 0) ∧ subS c (knownP p) ∧ subS d (knownP p) ∧ ∀ own, subS own (knownP p) → ClashL p c d own := by
  obtain ⟨c, hc, hcs, hcc⟩ := clash_spec hp
  obtain ⟨d, hd, hds, hdd⟩ := drop_spec hp
  have hlt := setOk_lt (known_ok p) hp.n
  refine ⟨c, d, hc, hd, hcs, hds, fun own ho => ?_⟩
  have hl0 : less (knownP p) 0 = knownP p := Nat.eq_of_testBit_eq fun i => by rw [less_bit]; simp
  have he := scaleE_e hp
  refine ⟨?_, ?_, ?_, ?_, ?_, ?_, ?_, ?_⟩
  · rw [he]
    rcases hcc with ⟨h1, h2⟩ | ⟨h1, _, h2, _⟩
    · exact ⟨fun _ => h1, fun _ => h2⟩
    · exact ⟨fun h => absurd h2 h, fun h => absurd h h1⟩
  · rw [he]
    rcases hdd with ⟨h1, h2⟩ | ⟨h1, _, h2, _⟩
    · exact ⟨fun _ => h1, fun _ => h2⟩
    · exact ⟨fun h => absurd h2 h, fun h => absurd h h1⟩
  · intro h h0
    rcases hcc with ⟨h1, _⟩ | ⟨_, h2, h3, _⟩
    · exact h h1
    · rcases hdd with ⟨_, h4⟩ | ⟨_, h4, _⟩
      · exact h4 h3
      · refine scales_less h4 (set := c) (fun i hi => ?_) h2
        rw [less_bit, hcs i hi]
        have : (c &&& d).testBit i = false := by rw [h0]; simp
        rw [Nat.testBit_and, hi] at this
        simpa using this
  · intro i hi h
    rcases hcc with ⟨h1, _⟩ | ⟨_, _, _, h4⟩
    · rw [h1] at hi; simp at hi
    · have hclt := subS_lt hcs hlt
      have h5 := pop_less hclt hi
      have hsub : subS (less c (1 * 2 ^ i)) (knownP p) := fun j hj => hcs j (less_self_sub _ _ j hj)
      by_cases h6 : less c (1 * 2 ^ i) = 0
      · rw [h6] at h; exact scales_zero hp h
      · have := h4 _ hsub (pop_pos (subS_lt hsub hlt) h6) h
        omega
  · intro h
    rcases hcc with ⟨h1, _⟩ | ⟨_, h2, _⟩
    · exact absurd h1 h
    · exact h2
  · rcases hdd with ⟨h1, h2⟩ | ⟨_, h2, _⟩
    · rw [h1, hl0]; exact h2
    · exact h2
  · intro h hx
    rcases hdd with ⟨h1, _⟩ | ⟨h1, _, h3, h4⟩
    · subst h1
      have : popc 0 = 0 := rfl
      rw [this] at hx
      rcases hx with hx | hx
      · omega
      · omega
    · by_cases h0 : own = 0
      · rw [h0, hl0] at h; exact h h3
      · have := h4 own ho (pop_pos (subS_lt ho hlt) h0) h
        omega
  · by_cases h : scalesP p own = []
    · refine .inr ?_
      rcases hcc with ⟨_, h2⟩ | ⟨h1, _, _, h4⟩
      · exact absurd h (scales_less h2 ho)
      · refine ⟨h1, ?_⟩
        have h0 : own ≠ 0 := fun h0 => by rw [h0] at h; exact scales_zero hp h
        have := h4 own ho (pop_pos (subS_lt ho hlt) h0) h
        omega
    · exact .inl h
end Go.Proofs.Ytlcdohhhhlhpmaa
namespace Go.Proofs.Ytlcdohhhhlhpmaa
open ZW

theorem hull2 {S : List Int} {f g : Int → Int} (hne : S ≠ []) (hle : ∀ s ∈ S, f s ≤ g s) :
    (∃ s ∈ S, (hullE (S.flatMap fun s => [f s, g s])).lo = f s) ∧ (∃ s ∈ S, (hullE (S.flatMap fun s => [f s, g s])).hi = g s) ∧
    ∀ s ∈ S, (hullE (S.flatMap fun s => [f s, g s])).lo ≤ f s ∧ g s ≤ (hullE (S.flatMap fun s => [f s, g s])).hi := by
  have hm : ∀ x, x ∈ (S.flatMap fun s => [f s, g s]) ↔ ∃ s ∈ S, x = f s ∨ x = g s := fun x => by simp [List.mem_flatMap]
  obtain ⟨s0, h0⟩ := List.exists_mem_of_ne_nil _ hne
  rcases hullE_hull (S.flatMap fun s => [f s, g s]) with ⟨_, h⟩ | ⟨_, hlo, hhi, hall⟩
  · exact absurd ((hm _).2 ⟨s0, h0, .inl rfl⟩) (h _)
  · have hall' : ∀ s ∈ S, (hullE (S.flatMap fun s => [f s, g s])).lo ≤ f s ∧ g s ≤ (hullE (S.flatMap fun s => [f s, g s])).hi := fun s hs =>
      ⟨(hall _ ((hm _).2 ⟨s, hs, .inl rfl⟩)).1, (hall _ ((hm _).2 ⟨s, hs, .inr rfl⟩)).2⟩
    refine ⟨?_, ?_, hall'⟩
    · obtain ⟨s, hs, e⟩ := (hm _).1 hlo
      rcases e with e | e
      · exact ⟨s, hs, e⟩
      · have := hle s hs; have := (hall' s hs).1
        exact ⟨s, hs, by omega⟩
    · obtain ⟨s, hs, e⟩ := (hm _).1 hhi
      rcases e with e | e
      · have := hle s hs; have := (hall' s hs).2
        exact ⟨s, hs, by omega⟩
      · exact ⟨s, hs, e⟩
theorem scaleE_scales {p : Plt} (hp : PltOk p) (h : scalesP p (knownP p) ≠ []) : scaleE p = (spanE (hullE ((scalesP p (knownP p)).flatMap fun s => [s])), 0) := by
  have e : truthE p true = 0 := by
    unfold truthE
    rw [if_neg (not_not_intro hp), if_neg (by simp), if_neg h]
  unfold scaleE
  rw [e, if_neg (by decide)]
theorem scaleE_none {p : Plt} (hp : PltOk p) (h : scalesP p (knownP p) = []) : scaleE p = ((0, 0), 10) := by
  have e : truthE p true = 10 := by
    unfold truthE
    rw [if_neg (not_not_intro hp), if_neg (by simp), if_pos h]
  unfold scaleE
  rw [e, if_pos (by decide)]
theorem scaleE_zero {p : Plt} : (scaleE p).2 = 0 ↔ PltOk p ∧ scalesP p (knownP p) ≠ [] := by
  by_cases hp : PltOk p
  · rw [scaleE_e hp]; exact ⟨fun h => ⟨hp, h⟩, fun h => h.2⟩
  · rw [scaleE_bad hp]; exact ⟨fun h => absurd h (by decide), fun h => absurd h.1 hp⟩
theorem hull1 {S : List Int} (hne : S ≠ []) : (hullE (S.flatMap fun s => [s])).lo ∈ S ∧ (hullE (S.flatMap fun s => [s])).hi ∈ S ∧ ∀ s ∈ S, (hullE (S.flatMap fun s => [s])).lo ≤ s ∧ s ≤ (hullE (S.flatMap fun s => [s])).hi := by
  have hm : ∀ x, x ∈ (S.flatMap fun s => [s]) ↔ x ∈ S := fun x => by simp
  obtain ⟨s0, h0⟩ := List.exists_mem_of_ne_nil _ hne
  rcases hullE_hull (S.flatMap fun s => [s]) with ⟨_, h⟩ | ⟨_, hlo, hhi, hall⟩
  · exact absurd ((hm _).2 h0) (h _)
  · exact ⟨(hm _).1 hlo, (hm _).1 hhi, fun s hs => hall s ((hm _).2 hs)⟩

/-! ### Where a star is -/
/-- A star can be at a place that is told so, with a corner. -/
def Con (l : Int × Int) (v : Int × Int) (c : Int) : Prop := v.1 ≤ c + l.2 ∧ c + l.1 ≤ v.2
theorem At.con {p : Plt} {d : Bool} {s c : Int} {set n : Nat} (h : AtP p d s set c) (hn : n < p.st.length) (hb : set.testBit n = true) : Con (longP s (imgD d (p.st.getD n star0))) (saidD d (p.st.getD n star0)) c := h.2 n hn hb
theorem long_le {x : Int × Int} {s lo hi : Int} (hs : 0 ≤ s) (hx : spanOk lo hi x) : (longP s x).1 ≤ (longP s x).2 := by
  unfold longP
  exact Int.ediv_le_ediv (by decide) (Int.mul_le_mul_of_nonneg_left hx.2.1 hs)
theorem lenD_le {p : Plt} (hp : PltOk p) {n : Nat} (hn : n < p.st.length) (d : Bool) {s : Int} (hs : 0 ≤ s) : (longP s (imgD d (p.st.getD n star0))).1 ≤ (longP s (imgD d (p.st.getD n star0))).2 := long_le hs (img_ok (hp.s _ (getD_mem hn star0)))
theorem mem_sc {p : Plt} (hp : PltOk p) {set : Nat} {s : Int} (h : s ∈ scalesP p set) : 1 ≤ s ∧ s ≤ 1000 := by
  have h1 := (scalesP_mem.1 h).1
  have h2 := hp.c
  unfold spanOk at h2
  omega
theorem mem_at {p : Plt} {set : Nat} {s : Int} (h : s ∈ scalesP p set) (d : Bool) : (cornP p d s set).1 ≤ (cornP p d s set).2 ∧ AtP p d s set (cornP p d s set).1 ∧ AtP p d s set (cornP p d s set).2 := by
  have h1 := okAt_iff.1 (scalesP_mem.1 h).2 d
  exact ⟨h1, corn_iff.1 ⟨Int.le_refl _, h1⟩, corn_iff.1 ⟨h1, Int.le_refl _⟩⟩
theorem kbit {p : Plt} {n : Nat} (hn : n < p.st.length) : (knownP p).testBit n = (p.st.getD n star0).k := by rw [knownP_test, decide_eq_true hn, Bool.true_and]
theorem place_le {p : Plt} (hp : PltOk p) {n : Nat} (hn : n < p.st.length) (d : Bool) {s : Int} (hs : s ∈ scalesP p (knownP p)) :
    (placeP d (p.st.getD n star0) s (cornP p d s (knownP p)).1).1 ≤ (placeP d (p.st.getD n star0) s (cornP p d s (knownP p)).2).2 := by
  have h1 := mem_at hs d
  have h2 := lenD_le hp hn d (s := s) (by have := mem_sc hp hs; omega)
  unfold placeP
  by_cases hk : (p.st.getD n star0).k = true
  · have h3 := h1.2.1.con hn ((kbit hn).trans hk)
    have h4 := h1.2.2.con hn ((kbit hn).trans hk)
    have h5 := said_ok (d := d) (hp.s _ (getD_mem hn star0)) hk
    unfold Con at h3 h4
    unfold spanOk at h5
    rw [if_pos hk, if_pos hk]
    dsimp only at h2 ⊢
    omega
  · rw [if_neg hk, if_neg hk]
    dsimp only at h2 ⊢
    omega
theorem starH_ends {p : Plt} (hp : PltOk p) {n : Nat} (hn : n < p.st.length) (d : Bool) (hne : scalesP p (knownP p) ≠ []) :
    (∃ s ∈ scalesP p (knownP p), (starH p n d).lo = (placeP d (p.st.getD n star0) s (cornP p d s (knownP p)).1).1) ∧
    (∃ s ∈ scalesP p (knownP p), (starH p n d).hi = (placeP d (p.st.getD n star0) s (cornP p d s (knownP p)).2).2) ∧
    ∀ s ∈ scalesP p (knownP p), (starH p n d).lo ≤ (placeP d (p.st.getD n star0) s (cornP p d s (knownP p)).1).1 ∧ (placeP d (p.st.getD n star0) s (cornP p d s (knownP p)).2).2 ≤ (starH p n d).hi :=
  hull2 hne fun _ hs => place_le hp hn d hs
theorem place_known {d : Bool} {s : StarV} {sc c : Int} (hk : s.k = true) : placeP d s sc c = (max (c + (longP sc (imgD d s)).1) (saidD d s).1, min (c + (longP sc (imgD d s)).2) (saidD d s).2) := if_pos hk
theorem place_not {d : Bool} {s : StarV} {sc c : Int} (hk : s.k = false) : placeP d s sc c = (c + (longP sc (imgD d s)).1, c + (longP sc (imgD d s)).2) := if_neg (by rw [hk]; decide)

/-! ### A star that is known to be at one place -/
theorem as_get {p : Plt} {n i : Nat} {e m : Int × Int} (hn : n < p.st.length) : (asP p n e m).st.getD i star0 = if i = n then asS (p.st.getD n star0) e m else p.st.getD i star0 := by
  unfold asP
  by_cases h : i = n
  · subst h
    rw [if_pos rfl, List.getD_eq_getElem?_getD, List.getElem?_set_self hn, Option.getD_some]
  · rw [if_neg h, List.getD_eq_getElem?_getD, List.getElem?_set_ne (Ne.symm h), ← List.getD_eq_getElem?_getD]
theorem as_len (p : Plt) (n : Nat) (e m : Int × Int) : (asP p n e m).st.length = p.st.length := List.length_set
theorem as_ok {p : Plt} {n : Nat} {e m : Int × Int} (hp : PltOk p) (hn : n < p.st.length) : PltOk (asP p n e m) ↔ spanOk (-1048576) 1048576 e ∧ spanOk (-1048576) 1048576 m := by
  constructor
  · intro h
    have h1 := h.s _ (getD_mem (show n < (asP p n e m).st.length from (as_len p n e m).symm ▸ hn) star0)
    rw [as_get hn, if_pos rfl] at h1
    exact h1.2.2 rfl
  · intro h
    refine ⟨hp.c, by rw [as_len]; exact hp.n, fun x hx => ?_⟩
    obtain ⟨i, hi, rfl⟩ := List.mem_iff_getElem.1 hx
    have hi' : i < p.st.length := by rw [as_len] at hi; exact hi
    rw [List.getElem_eq_getD (h := hi) star0, as_get hn]
    split
    · have h1 := hp.s _ (getD_mem hn star0)
      exact ⟨h1.1, h1.2.1, fun _ => h⟩
    · exact hp.s _ (getD_mem hi' star0)
theorem as_known {p : Plt} {n i : Nat} {e m : Int × Int} (hn : n < p.st.length) : (knownP (asP p n e m)).testBit i = (decide (i = n) || (knownP p).testBit i) := by
  rw [knownP_test, knownP_test, as_len, as_get hn]
  by_cases h : i = n
  · subst h
    rw [if_pos rfl, decide_eq_true hn, decide_eq_true (rfl : i = i)]; rfl
  · rw [if_neg h, decide_eq_false h, Bool.false_or]
/-- What is said of a star along a direction. -/
abbrev vD (e m : Int × Int) (d : Bool) : Int × Int := if d then m else e
theorem as_said (s : StarV) (e m : Int × Int) (d : Bool) : saidD d (asS s e m) = vD e m d := by cases d <;> rfl
theorem as_img (s : StarV) (e m : Int × Int) (d : Bool) : imgD d (asS s e m) = imgD d s := by cases d <;> rfl
/-- All other stars that are known are right. -/
def Rest (p : Plt) (n : Nat) (d : Bool) (s c : Int) : Prop := (-1099511627776 ≤ c ∧ c ≤ 1099511627776) ∧ ∀ i, i < p.st.length → i ≠ n → (knownP p).testBit i = true → Con (longP s (imgD d (p.st.getD i star0))) (saidD d (p.st.getD i star0)) c
theorem as_at {p : Plt} {n : Nat} {e m : Int × Int} (hn : n < p.st.length) {d : Bool} {s c : Int} : AtP (asP p n e m) d s (knownP (asP p n e m)) c ↔ Rest p n d s c ∧ Con (longP s (imgD d (p.st.getD n star0))) (vD e m d) c := by
  constructor
  · intro h
    refine ⟨⟨h.1, fun i hi hin hb => ?_⟩, ?_⟩
    · have h1 := h.2 i (by rw [as_len]; exact hi) (by rw [as_known hn, hb, Bool.or_true])
      rw [as_get hn, if_neg hin] at h1
      exact h1
    · have h1 := h.2 n (by rw [as_len]; exact hn) (by rw [as_known hn, decide_eq_true rfl, Bool.true_or])
      rw [as_get hn, if_pos rfl, as_said, as_img] at h1
      exact h1
  · rintro ⟨h, h2⟩
    refine ⟨h.1, fun i hi hb => ?_⟩
    rw [as_len] at hi
    rw [as_get hn]
    by_cases hin : i = n
    · subst hin
      rw [if_pos rfl, as_said, as_img]
      exact h2
    · rw [if_neg hin]
      rw [as_known hn, decide_eq_false hin, Bool.false_or] at hb
      exact h.2 i hi hin hb
theorem rest_at {p : Plt} {n : Nat} (hn : n < p.st.length) {d : Bool} {s c : Int} : AtP p d s (knownP p) c ↔ Rest p n d s c ∧ ((p.st.getD n star0).k = true → Con (longP s (imgD d (p.st.getD n star0))) (saidD d (p.st.getD n star0)) c) := by
  constructor
  · exact fun h => ⟨⟨h.1, fun i hi _ hb => h.2 i hi hb⟩, fun hk => h.con hn ((kbit hn).trans hk)⟩
  · rintro ⟨h, h2⟩
    refine ⟨h.1, fun i hi hb => ?_⟩
    by_cases hin : i = n
    · subst hin
      exact h2 ((kbit hn).symm.trans hb)
    · exact h.2 i hi hin hb
theorem as_can {p : Plt} {n : Nat} {e m : Int × Int} (hp : PltOk p) (hn : n < p.st.length) : (scaleE (asP p n e m)).2 = 0 ↔ (spanOk (-1048576) 1048576 e ∧ spanOk (-1048576) 1048576 m) ∧ ∃ s, (p.sc.1 ≤ s ∧ s ≤ p.sc.2) ∧ ∀ d, ∃ c, Rest p n d s c ∧ Con (longP s (imgD d (p.st.getD n star0))) (vD e m d) c := by
  rw [scaleE_zero, as_ok hp hn, scales_ne]
  refine and_congr_right fun _ => exists_congr fun s => and_congr_right fun _ => ?_
  rw [okAt_at]
  exact forall_congr' fun d => exists_congr fun c => as_at hn
/-- Along one direction so, along the other one otherwise. -/
abbrev pairD (d : Bool) (v o : Int × Int) : (Int × Int) × (Int × Int) := if d then (o, v) else (v, o)
theorem pair_vD (d d' : Bool) (v o : Int × Int) : vD (pairD d v o).1 (pairD d v o).2 d' = if d' = d then v else o := by cases d <;> cases d' <;> rfl
/-- Where a star is said to be, or else where it is. -/
def ownD (p : Plt) (n : Nat) (d : Bool) : Int × Int := if (p.st.getD n star0).k = true then saidD d (p.st.getD n star0) else spanE (starH p n d)
theorem own_con {p : Plt} (hp : PltOk p) {n : Nat} (hn : n < p.st.length) (d : Bool) {s : Int} (hs : s ∈ scalesP p (knownP p)) : ∃ c, Rest p n d s c ∧ Con (longP s (imgD d (p.st.getD n star0))) (ownD p n d) c := by
  have h1 := mem_at hs d
  have h2 := rest_at hn |>.1 h1.2.1
  refine ⟨_, h2.1, ?_⟩
  unfold ownD
  by_cases hk : (p.st.getD n star0).k = true
  · rw [if_pos hk]; exact h2.2 hk
  · have h3 := (starH_ends hp hn d (List.ne_nil_of_mem hs)).2.2 s hs
    have h4 := lenD_le hp hn d (s := s) (by have := mem_sc hp hs; omega)
    rw [if_neg hk]
    rw [place_not (by simpa using hk), place_not (by simpa using hk)] at h3
    unfold Con spanE
    dsimp only at h3 h4 ⊢
    omega
theorem can_reach {p : Plt} (hp : PltOk p) {n : Nat} (hn : n < p.st.length) (d : Bool) {v o : Int × Int} (hv : spanOk (-1048576) 1048576 v) (ho : spanOk (-1048576) 1048576 o) {s c : Int} (hs : s ∈ scalesP p (knownP p)) (hc : Rest p n d s c) (hcv : Con (longP s (imgD d (p.st.getD n star0))) v c)
    (hoc : ∃ c, Rest p n (!d) s c ∧ Con (longP s (imgD (!d) (p.st.getD n star0))) o c) : (scaleE (asP p n (pairD d v o).1 (pairD d v o).2)).2 = 0 := by
  rw [as_can hp hn]
  refine ⟨by cases d; (· exact ⟨hv, ho⟩); exact ⟨ho, hv⟩, s, (scalesP_mem.1 hs).1, fun d' => ?_⟩
  rw [pair_vD]
  by_cases h : d' = d
  · subst h
    rw [if_pos rfl]
    exact ⟨c, hc, hcv⟩
  · rw [if_neg h]
    have : d' = !d := by cases d <;> cases d' <;> simp_all
    rw [this]; exact hoc
theorem reach_lo {p : Plt} (hp : PltOk p) {n : Nat} (hn : n < p.st.length) (hne : scalesP p (knownP p) ≠ []) (d : Bool) (hb : -1048576 ≤ (starH p n d).lo ∧ (starH p n d).lo ≤ 1048576) (ho : spanOk (-1048576) 1048576 (ownD p n (!d))) :
    (scaleE (asP p n (pairD d ((starH p n d).lo, (starH p n d).lo) (ownD p n (!d))).1 (pairD d ((starH p n d).lo, (starH p n d).lo) (ownD p n (!d))).2)).2 = 0 := by
  obtain ⟨s, hs, e⟩ := (starH_ends hp hn d hne).1
  have h1 := mem_at hs d
  have h2 := rest_at hn |>.1 h1.2.1
  have h4 := lenD_le hp hn d (s := s) (by have := mem_sc hp hs; omega)
  refine can_reach hp hn d (by unfold spanOk; dsimp only; omega) ho hs h2.1 ?_ (own_con hp hn _ hs)
  unfold Con
  by_cases hk : (p.st.getD n star0).k = true
  · have h3 := h2.2 hk
    unfold Con at h3
    rw [place_known hk] at e
    dsimp only at e h3 h4 ⊢
    omega
  · rw [place_not (by simpa using hk)] at e
    dsimp only at e h4 ⊢
    omega
theorem reach_hi {p : Plt} (hp : PltOk p) {n : Nat} (hn : n < p.st.length) (hne : scalesP p (knownP p) ≠ []) (d : Bool) (hb : -1048576 ≤ (starH p n d).hi ∧ (starH p n d).hi ≤ 1048576) (ho : spanOk (-1048576) 1048576 (ownD p n (!d))) :
    (scaleE (asP p n (pairD d ((starH p n d).hi, (starH p n d).hi) (ownD p n (!d))).1 (pairD d ((starH p n d).hi, (starH p n d).hi) (ownD p n (!d))).2)).2 = 0 := by
  obtain ⟨s, hs, e⟩ := (starH_ends hp hn d hne).2.1
  have h1 := mem_at hs d
  have h2 := rest_at hn |>.1 h1.2.2
  have h4 := lenD_le hp hn d (s := s) (by have := mem_sc hp hs; omega)
  refine can_reach hp hn d (by unfold spanOk; dsimp only; omega) ho hs h2.1 ?_ (own_con hp hn _ hs)
  unfold Con
  by_cases hk : (p.st.getD n star0).k = true
  · have h3 := h2.2 hk
    unfold Con at h3
    rw [place_known hk] at e
    dsimp only at e h3 h4 ⊢
    omega
  · rw [place_not (by simpa using hk)] at e
    dsimp only at e h4 ⊢
    omega
/-- If a star can be right so, and what is said along the other direction is what was said, then with a scale and corners of the plate. -/
theorem can_back {p : Plt} (hp : PltOk p) {n : Nat} (hn : n < p.st.length) (d : Bool) {v o : Int × Int} (h : (scaleE (asP p n (pairD d v o).1 (pairD d v o).2)).2 = 0)
    (hv : (p.st.getD n star0).k = true → (saidD d (p.st.getD n star0)).1 ≤ v.1 ∧ v.2 ≤ (saidD d (p.st.getD n star0)).2) (ho : (p.st.getD n star0).k = true → o = saidD (!d) (p.st.getD n star0)) :
    ∃ s ∈ scalesP p (knownP p), ∃ c, ((cornP p d s (knownP p)).1 ≤ c ∧ c ≤ (cornP p d s (knownP p)).2) ∧ Con (longP s (imgD d (p.st.getD n star0))) v c := by
  obtain ⟨_, s, hs, hc⟩ := (as_can hp hn).1 h
  have hat : ∀ d', ∃ c, AtP p d' s (knownP p) c := fun d' => by
    obtain ⟨c, h1, h2⟩ := hc d'
    refine ⟨c, rest_at hn |>.2 ⟨h1, fun hk => ?_⟩⟩
    rw [pair_vD] at h2
    by_cases hd : d' = d
    · subst hd
      rw [if_pos rfl] at h2
      have := hv hk
      unfold Con at h2 ⊢
      omega
    · rw [if_neg hd, ho hk] at h2
      have : d' = !d := by cases d <;> cases d' <;> simp_all
      rw [this] at h2 ⊢; exact h2
  have hms : s ∈ scalesP p (knownP p) := scalesP_mem.2 ⟨hs, okAt_at.2 hat⟩
  obtain ⟨c, h1, h2⟩ := hc d
  rw [pair_vD, if_pos rfl] at h2
  refine ⟨s, hms, c, corn_iff.2 (rest_at hn |>.2 ⟨h1, fun hk => ?_⟩), h2⟩
  have := hv hk
  unfold Con at h2 ⊢
  omega
/-- What PlateEnds asks, along one direction. -/
structure EndsD (p : Plt) (n : Nat) (d : Bool) (o all : Int × Int) : Prop where
  lo : (scaleE (asP p n (pairD d ((starH p n d).lo, (starH p n d).lo) o).1 (pairD d ((starH p n d).lo, (starH p n d).lo) o).2)).2 = 0
  hi : (scaleE (asP p n (pairD d ((starH p n d).hi, (starH p n d).hi) o).1 (pairD d ((starH p n d).hi, (starH p n d).hi) o).2)).2 = 0
  klo : (p.st.getD n star0).k = true → (starH p n d).lo = (saidD d (p.st.getD n star0)).1 ∨ ¬ (scaleE (asP p n (pairD d ((saidD d (p.st.getD n star0)).1, (starH p n d).lo - 1) o).1 (pairD d ((saidD d (p.st.getD n star0)).1, (starH p n d).lo - 1) o).2)).2 = 0
  khi : (p.st.getD n star0).k = true → (starH p n d).hi = (saidD d (p.st.getD n star0)).2 ∨ ¬ (scaleE (asP p n (pairD d ((starH p n d).hi + 1, (saidD d (p.st.getD n star0)).2) o).1 (pairD d ((starH p n d).hi + 1, (saidD d (p.st.getD n star0)).2) o).2)).2 = 0
  ulo : (p.st.getD n star0).k = false → ¬ (scaleE (asP p n (pairD d ((starH p n d).lo - 1, (starH p n d).lo - 1) all).1 (pairD d ((starH p n d).lo - 1, (starH p n d).lo - 1) all).2)).2 = 0
  uhi : (p.st.getD n star0).k = false → ¬ (scaleE (asP p n (pairD d ((starH p n d).hi + 1, (starH p n d).hi + 1) all).1 (pairD d ((starH p n d).hi + 1, (starH p n d).hi + 1) all).2)).2 = 0
theorem endsD {p : Plt} (hp : PltOk p) {n : Nat} (hn : n < p.st.length) (hne : scalesP p (knownP p) ≠ []) (hb : ∀ d, -1048576 < (starH p n d).lo ∧ (starH p n d).hi < 1048576) (d : Bool) (all : Int × Int) : EndsD p n d (ownD p n (!d)) all := by
  have hle : ∀ d, (starH p n d).lo ≤ (starH p n d).hi := fun d => by
    obtain ⟨s, hs⟩ := List.exists_mem_of_ne_nil _ hne
    have h1 := (starH_ends hp hn d hne).2.2 s hs
    have h2 := place_le hp hn d hs
    omega
  have hown : ∀ d, spanOk (-1048576) 1048576 (ownD p n d) := fun d => by
    unfold ownD
    by_cases hk : (p.st.getD n star0).k = true
    · rw [if_pos hk]; exact said_ok (hp.s _ (getD_mem hn star0)) hk
    · rw [if_neg hk]
      have := hb d; have := hle d
      unfold spanOk spanE; dsimp only; omega
  have hbd := hb d
  have hled := hle d
  have hk0 : (p.st.getD n star0).k = true → ∀ s ∈ scalesP p (knownP p), (saidD d (p.st.getD n star0)).1 ≤ (starH p n d).lo ∧ (starH p n d).hi ≤ (saidD d (p.st.getD n star0)).2 := fun hk s hs => by
    obtain ⟨⟨s1, hs1, e1⟩, ⟨s2, hs2, e2⟩, _⟩ := starH_ends hp hn d hne
    rw [place_known hk] at e1 e2
    dsimp only at e1 e2
    omega
  refine ⟨reach_lo hp hn hne d (by omega) (hown _), reach_hi hp hn hne d (by omega) (hown _), fun hk => ?_, fun hk => ?_, fun hk h => ?_, fun hk h => ?_⟩
  · by_cases he : (starH p n d).lo = (saidD d (p.st.getD n star0)).1
    · exact .inl he
    · refine .inr fun h => he ?_
      obtain ⟨s0, hs0⟩ := List.exists_mem_of_ne_nil _ hne
      have h0 := hk0 hk s0 hs0
      obtain ⟨s, hs, c, hc, h2⟩ := can_back hp hn d h (fun _ => by dsimp only; omega) (fun _ => by unfold ownD; rw [if_pos hk])
      have h3 := (starH_ends hp hn d hne).2.2 s hs
      rw [place_known hk, place_known hk] at h3
      unfold Con at h2
      dsimp only at h2 h3
      omega
  · by_cases he : (starH p n d).hi = (saidD d (p.st.getD n star0)).2
    · exact .inl he
    · refine .inr fun h => he ?_
      obtain ⟨s0, hs0⟩ := List.exists_mem_of_ne_nil _ hne
      have h0 := hk0 hk s0 hs0
      obtain ⟨s, hs, c, hc, h2⟩ := can_back hp hn d h (fun _ => by dsimp only; omega) (fun _ => by unfold ownD; rw [if_pos hk])
      have h3 := (starH_ends hp hn d hne).2.2 s hs
      rw [place_known hk, place_known hk] at h3
      unfold Con at h2
      dsimp only at h2 h3
      omega
  · obtain ⟨s, hs, c, hc, h2⟩ := can_back hp hn d h (fun h => by rw [hk] at h; cases h) (fun h => by rw [hk] at h; cases h)
    have h3 := (starH_ends hp hn d hne).2.2 s hs
    rw [place_not hk, place_not hk] at h3
    unfold Con at h2
    dsimp only at h2 h3
    omega
  · obtain ⟨s, hs, c, hc, h2⟩ := can_back hp hn d h (fun h => by rw [hk] at h; cases h) (fun h => by rw [hk] at h; cases h)
    have h3 := (starH_ends hp hn d hne).2.2 s hs
    rw [place_not hk, place_not hk] at h3
    unfold Con at h2
    dsimp only at h2 h3
    omega
/-- With one scale alone. -/
theorem one_scale {p : Plt} (hp : PltOk p) (k : Int) (hk : p.sc.1 ≤ k ∧ k ≤ p.sc.2) : ((scaleE ⟨(k, k), p.st⟩).2 = 0 ↔ k ∈ scalesP p (knownP p)) ∧ ((scaleE ⟨(k, k), p.st⟩).2 ≠ 0 → (scaleE ⟨(k, k), p.st⟩).2 = 10) := by
  have h1 := hp.c
  unfold spanOk at h1
  have hq : PltOk ⟨(k, k), p.st⟩ := ⟨by unfold spanOk; dsimp only; omega, hp.n, hp.s⟩
  refine ⟨?_, fun h => ?_⟩
  · rw [scaleE_e hq, scales_ne, scalesP_mem]
    constructor
    · rintro ⟨s, h2, h3⟩
      dsimp only at h2
      obtain rfl : s = k := by omega
      exact ⟨hk, h3⟩
    · rintro ⟨_, h3⟩
      exact ⟨k, ⟨Int.le_refl _, Int.le_refl _⟩, h3⟩
  · by_cases h2 : scalesP ⟨(k, k), p.st⟩ (knownP ⟨(k, k), p.st⟩) = []
    · rw [scaleE_none hq h2]
    · exact absurd ((scaleE_e hq).2 h2) h
end Go.Proofs.Ytlcdohhhhlhpmaa
