/-
  Plain law: the fewest stars that must be wrong, as the document tries all sets.
-/
import Derived.Test.YtlcdohhhhlhpmaaKa
namespace Go.Proofs.Ytlcdohhhhlhpmaa
open ZW

theorem less_half (k t : Nat) : less k t / 2 = less (k / 2) (t / 2) := Nat.eq_of_testBit_eq fun i => by
  rw [← Nat.testBit_succ, less_bit, less_bit, Nat.testBit_succ, Nat.testBit_succ]
theorem less_add : ∀ (n k t : Nat), k < 2 ^ n → subS t k → less k t + t = k
  | 0, k, t, hk, h => by
    have hk0 : k = 0 := by simpa using hk
    subst hk0
    have ht : t = 0 := Nat.eq_of_testBit_eq fun i => by
      rw [Nat.zero_testBit]
      cases hb : t.testBit i with
      | false => rfl
      | true => have := h i hb; simp at this
    subst ht
    rfl
  | n + 1, k, t, hk, h => by
    have hk2 : k / 2 < 2 ^ n := by rw [Nat.pow_succ] at hk; omega
    have ih := less_add n (k / 2) (t / 2) hk2 fun i hi => by
      rw [← Nat.testBit_succ] at hi ⊢
      exact h _ hi
    have h1 := less_half k t
    have h2 := less_bit k t 0
    have h3 := h 0
    rw [Nat.testBit_zero, Nat.testBit_zero, Nat.testBit_zero] at h2
    rw [Nat.testBit_zero, Nat.testBit_zero] at h3
    rw [← h1] at ih
    by_cases ha : k % 2 = 1 <;> by_cases hb : t % 2 = 1
    · simp [ha, hb] at h2; omega
    · simp [ha, hb] at h2; omega
    · simp [ha, hb] at h3
    · simp [ha, hb] at h2; omega
theorem pop_same {t k : Nat} (hk : k < 1024) (h : subS t k) (hp : popc k ≤ popc t) : t = k := by
  refine Nat.eq_of_testBit_eq fun i => ?_
  cases ht : t.testBit i with
  | true => exact (h i ht).symm
  | false =>
    cases hi : k.testBit i with
    | false => rfl
    | true =>
      have h1 : subS t (less k (1 * 2 ^ i)) := fun j hj => by
        rw [less_bit, h j hj, Bool.true_and]
        by_cases hij : i = j
        · subst hij; rw [ht] at hj; cases hj
        · rw [Nat.one_mul, Nat.testBit_two_pow_of_ne hij]; rfl
      have h2 := pop_less hk hi
      have h3 := pop_mono (t := less k (1 * 2 ^ i)) (subS_lt (fun j hj => less_self_sub _ _ j hj) hk) h1
      omega
/-- The least of the smallest sets so far, if not all stars. -/
structure BestD (isB : Nat → Prop) (stars b t : Nat) : Prop where
  of : b = stars ∨ (b < t ∧ subS b stars ∧ isB b)
  all : ∀ x, x < t → subS x stars → isB x → popc b < popc x ∨ popc b = popc x ∧ b ≤ x
theorem BestD.step {isB : Nat → Prop} {stars b t : Nat} (hs : stars < 1024) (h : BestD isB stars b t) : (subS t stars ∧ popc t < popc b ∧ isB t → BestD isB stars t (t + 1)) ∧ (¬ (subS t stars ∧ popc t < popc b ∧ isB t) → BestD isB stars b (t + 1)) := by
  constructor
  · rintro ⟨h1, h2, h3⟩
    refine ⟨.inr ⟨by omega, h1, h3⟩, fun x hxt hx hb => ?_⟩
    rcases Nat.lt_or_ge x t with h4 | h4
    · have h5 := h.all x h4 hx hb; omega
    · obtain rfl : x = t := by omega
      omega
  · intro hn
    refine ⟨?_, fun x hxt hx hb => ?_⟩
    · rcases h.of with h1 | h1
      · exact .inl h1
      · exact .inr ⟨by omega, h1.2⟩
    · rcases Nat.lt_or_ge x t with h4 | h4
      · exact h.all x h4 hx hb
      · obtain rfl : x = t := by omega
        have hp : ¬ popc x < popc b := fun h1 => hn ⟨hx, h1, hb⟩
        rcases h.of with h1 | h1
        · subst h1
          have := pop_same hs hx (by omega)
          subst this
          omega
        · omega
theorem drop_best {p : Plt} (hp : PltOk p) {b : Nat} (h : BestD (fun x => scalesP p (less (knownP p) x) ≠ []) (knownP p) b (2 ^ p.st.length)) : dropE p = ((b : Int), 0) := by
  have hlt := setOk_lt (known_ok p) hp.n
  obtain ⟨c, e, h1, h2⟩ := drop_spec hp
  rw [e]
  have hb : ∀ x, subS x (knownP p) → x < 2 ^ p.st.length := fun x hx => Nat.lt_pow_two_of_testBit _ fun i hi => by
    cases hb : x.testBit i with
    | false => rfl
    | true => have := (known_ok p i (hx i hb)).1; omega
  have hl0 : less (knownP p) 0 = knownP p := Nat.eq_of_testBit_eq fun i => by rw [less_bit]; simp
  have hof : subS b (knownP p) ∧ scalesP p (less (knownP p) b) ≠ [] := by
    rcases h.of with h3 | h3
    · subst h3
      refine ⟨fun _ h => h, ?_⟩
      rw [less_none (fun _ h => h)]
      exact scales_zero hp
    · exact h3.2
  have : c = b := by
    rcases h2 with ⟨h3, h4⟩ | ⟨h3, h4, h5, h6⟩
    · have h7 := h.all 0 (Nat.two_pow_pos _) (subS_zero _) (by rw [hl0]; exact h4)
      have hz : popc 0 = 0 := rfl
      have := pop_zero (subS_lt hof.1 hlt) (by omega)
      omega
    · have h7 := h.all c (hb c h1) h1 h4
      have hb0 : b ≠ 0 := fun h0 => by rw [h0, hl0] at hof; exact hof.2 h5
      have h9 := h6 b hof.1 (pop_pos (subS_lt hof.1 hlt) hb0) hof.2
      omega
  rw [this]
end Go.Proofs.Ytlcdohhhhlhpmaa
