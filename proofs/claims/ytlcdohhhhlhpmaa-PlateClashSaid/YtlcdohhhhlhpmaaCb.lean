/-
  Plain law: the least of the smallest sets.
-/
import Derived.Test.YtlcdohhhhlhpmaaCa
namespace Go.Proofs.Ytlcdohhhhlhpmaa
open ZW

theorem mod_iff (t k : Nat) : t % 2 ^ k = 0 ↔ ∀ j, t.testBit j = true → k ≤ j := by
  constructor
  · intro h j hj
    rcases Nat.lt_or_ge j k with h1 | h1
    · have : (t % 2 ^ k).testBit j = true := by rw [Nat.testBit_mod_two_pow, hj]; simp [h1]
      rw [h] at this; simp at this
    · exact h1
  · intro h
    refine Nat.eq_of_testBit_eq fun j => ?_
    rw [Nat.testBit_mod_two_pow, Nat.zero_testBit]
    cases hj : t.testBit j with
    | false => simp
    | true => have := h j hj; simp; omega
def lowB (t : Nat) : Nat := ((List.range 10).find? fun i => t.testBit i).getD 0
theorem pop_add {t i : Nat} (ht : t < 1024) (hi : i < 10) (h : ∀ j, t.testBit j = true → i + 1 ≤ j) : popc (t ||| 1 * 2 ^ i) = popc t + 1 := by
  have hb : ((List.range 10).all fun i => (List.range 1024).all fun t => t % 2 ^ (i + 1) != 0 || popc (t ||| 1 * 2 ^ i) == popc t + 1) = true := by kernel_rfl
  have h1 := List.all_eq_true.1 (List.all_eq_true.1 hb i (List.mem_range.2 hi)) t (List.mem_range.2 ht)
  have h2 := (mod_iff t (i + 1)).2 h
  simpa [h2] using h1
theorem pop_low {t : Nat} (ht : t < 1024) (h0 : popc t ≠ 0) : ∃ i t', i < 10 ∧ t' < 1024 ∧ t = t' ||| 1 * 2 ^ i ∧ (∀ j, t'.testBit j = true → i + 1 ≤ j) ∧ t.testBit i = true := by
  have hb : ((List.range 1024).all fun t => popc t == 0 || (Nat.blt (lowB t) 10 && (t == (t - 2 ^ lowB t) ||| 1 * 2 ^ lowB t) && ((t - 2 ^ lowB t) % 2 ^ (lowB t + 1) == 0) && t.testBit (lowB t))) = true := by kernel_rfl
  have h1 := List.all_eq_true.1 hb t (List.mem_range.2 ht)
  have h2 : (popc t == 0) = false := by simpa using h0
  rw [h2, Bool.false_or, Bool.and_eq_true, Bool.and_eq_true, Bool.and_eq_true] at h1
  obtain ⟨⟨⟨a, b⟩, c⟩, d⟩ := h1
  exact ⟨lowB t, t - 2 ^ lowB t, Nat.le_of_ble_eq_true a, Nat.lt_of_le_of_lt (Nat.sub_le _ _) ht, by simpa using b, (mod_iff _ _).1 (by simpa using c), d⟩
theorem pop_zero {t : Nat} (ht : t < 1024) (h : popc t = 0) : t = 0 := by
  have hb : ((List.range 1024).all fun t => popc t != 0 || t == 0) = true := by kernel_rfl
  have h1 := List.all_eq_true.1 hb t (List.mem_range.2 ht)
  simpa [h] using h1
theorem candI_iff (isB : Nat → Bool) (stars : Nat) (hs : stars < 1024) : ∀ m fr s x, CandI isB stars m fr s x ↔ ∃ t, x = s ||| t ∧ subS t stars ∧ (∀ i, t.testBit i = true → fr ≤ i) ∧ popc t = m ∧ isB x = true
  | 0, fr, s, x => by
    constructor
    · rintro ⟨rfl, h⟩
      exact ⟨0, by simp, subS_zero _, fun i hi => by simp at hi, rfl, h⟩
    · rintro ⟨t, rfl, h1, h2, h3, h4⟩
      have := pop_zero (subS_lt h1 hs) h3
      subst this
      rw [Nat.or_zero] at h4 ⊢
      exact ⟨rfl, h4⟩
  | m + 1, fr, s, x => by
    constructor
    · rintro ⟨i, hf, hi, hc⟩
      obtain ⟨t, rfl, h1, h2, h3, h4⟩ := (candI_iff isB stars hs m (i + 1) _ x).1 hc
      have hi10 : i < 10 := by
        rcases Nat.lt_or_ge i 10 with h | h
        · exact h
        · rw [Nat.testBit_lt_two_pow (Nat.lt_of_lt_of_le (show stars < 2 ^ 10 from hs) (Nat.pow_le_pow_right (by omega) h))] at hi; cases hi
      refine ⟨t ||| 1 * 2 ^ i, ?_, subS_or h1 hi, fun j hj => ?_, by rw [pop_add (subS_lt h1 hs) hi10 h2, h3], h4⟩
      · rw [Nat.or_assoc, Nat.or_comm (1 * 2 ^ i) t]
      · rw [Nat.testBit_or, Bool.or_eq_true, Nat.one_mul, Nat.testBit_two_pow] at hj
        rcases hj with hj | hj
        · have := h2 j hj; omega
        · have : i = j := by simpa using hj
          omega
    · rintro ⟨t, rfl, h1, h2, h3, h4⟩
      obtain ⟨i, t', hi, ht', rfl, hb, hti⟩ := pop_low (subS_lt h1 hs) (by omega)
      have hsub : subS t' stars := fun j hj => h1 j (by rw [Nat.testBit_or, hj, Bool.true_or])
      refine ⟨i, h2 i hti, h1 i hti, (candI_iff isB stars hs m (i + 1) _ _).2 ⟨t', ?_, hsub, hb, ?_, h4⟩⟩
      · rw [Nat.or_assoc, Nat.or_comm (1 * 2 ^ i) t']
      · have := pop_add ht' hi hb; omega
/-- What comes of trying sets of so many stars. -/
theorem leastT_spec (isB : Nat → Bool) (stars : Nat) (hs : stars < 1024) : ∀ n,
    (leastT isB stars n = 0 ∧ ∀ x, subS x stars → 0 < popc x → popc x ≤ n → isB x = false) ∨
    (subS (leastT isB stars n) stars ∧ leastT isB stars n ≠ 0 ∧ isB (leastT isB stars n) = true ∧ popc (leastT isB stars n) ≤ n ∧ ∀ x, subS x stars → 0 < popc x → isB x = true → popc (leastT isB stars n) < popc x ∨ popc (leastT isB stars n) = popc x ∧ leastT isB stars n ≤ x)
  | 0 => .inl ⟨rfl, fun x _ h h' => absurd h (by omega)⟩
  | n + 1 => by
    rw [leastT_succ]
    rcases leastT_spec isB stars hs n with ⟨h0, h1⟩ | ⟨h1, h2, h3, h4, h5⟩
    · rw [if_pos h0, h0]
      have hg := onP_good isB stars hs (n + 1) 0 0 0 (.inr (by omega))
      have hc : ∀ x, CandI isB stars (n + 1) 0 0 x ↔ subS x stars ∧ popc x = n + 1 ∧ isB x = true := fun x => by
        rw [candI_iff isB stars hs]
        constructor
        · rintro ⟨t, rfl, a, _, b, c⟩
          rw [Nat.zero_or] at c ⊢
          exact ⟨a, b, c⟩
        · rintro ⟨a, b, c⟩
          exact ⟨x, by rw [Nat.zero_or], a, fun _ _ => Nat.zero_le _, b, c⟩
      by_cases hr : onP isB stars (n + 1) 0 0 0 = 0
      · refine .inl ⟨hr, fun x hx hp hp' => ?_⟩
        rcases Nat.lt_or_ge (popc x) (n + 1) with h | h
        · exact h1 x hx hp (by omega)
        · cases hb : isB x with
          | false => rfl
          | true => exact absurd hr (hg.ge x ((hc x).2 ⟨hx, by omega, hb⟩)).1
      · have hx := (hc _).1 (hg.of.resolve_left hr)
        refine .inr ⟨hx.1, hr, hx.2.2, by omega, fun x hsx hp hb => ?_⟩
        rcases Nat.lt_or_ge (popc x) (n + 1) with h | h
        · rw [h1 x hsx hp (by omega)] at hb; cases hb
        · rcases Nat.lt_or_ge (n + 1) (popc x) with h' | h'
          · exact .inl (by omega)
          · exact .inr ⟨by omega, (hg.ge x ((hc x).2 ⟨hsx, by omega, hb⟩)).2⟩
    · rw [if_neg h2]
      exact .inr ⟨h1, h2, h3, by omega, h5⟩
end Go.Proofs.Ytlcdohhhhlhpmaa
