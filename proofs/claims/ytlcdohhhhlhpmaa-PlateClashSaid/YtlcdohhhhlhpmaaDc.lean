/-
  Walks: PlateClash of a plate that is valid.
-/
import Derived.Test.YtlcdohhhhlhpmaaDb
namespace Go.Proofs.Ytlcdohhhhlhpmaa
open ZW

theorem less_none {a b : Nat} (h : subS a b) : less a b = 0 := Nat.eq_of_testBit_eq fun i => by
  rw [less_bit, Nat.zero_testBit]
  cases hb : a.testBit i with
  | false => rfl
  | true => rw [h i hb]; rfl
theorem pop_less {c i : Nat} (hc : c < 1024) (hi : c.testBit i = true) : popc (less c (1 * 2 ^ i)) < popc c := by
  have hb : ((List.range 10).all fun i => (List.range 1024).all fun c => !c.testBit i || Nat.blt (popc (less c (1 * 2 ^ i))) (popc c)) = true := by kernel_rfl
  have hi10 : i < 10 := by
    rcases Nat.lt_or_ge i 10 with h | h
    · exact h
    · rw [Nat.testBit_lt_two_pow (Nat.lt_of_lt_of_le (show c < 2 ^ 10 from hc) (Nat.pow_le_pow_right (by omega) h))] at hi; cases hi
  have h1 := List.all_eq_true.1 (List.all_eq_true.1 hb i (List.mem_range.2 hi10)) c (List.mem_range.2 hc)
  rw [hi] at h1
  exact Nat.le_of_ble_eq_true h1
theorem scales_zero {p : Plt} (hp : PltOk p) : scalesP p 0 ≠ [] := by
  have hc := hp.c
  unfold spanOk at hc
  exact scales_ne.2 ⟨p.sc.1, ⟨Int.le_refl _, hc.2.1⟩, okAt_at.2 fun d => ⟨0, by omega, fun i _ hb => by simp at hb⟩⟩
theorem pop_pos {t : Nat} (ht : t < 1024) (h : t ≠ 0) : 0 < popc t := by
  rcases Nat.eq_zero_or_pos (popc t) with h1 | h1
  · exact absurd (pop_zero ht h1) h
  · exact h1
/-- What PlateClash asks of a plate that is valid. -/
structure ClashL (p : Plt) (c d own : Nat) : Prop where
  c0 : (scaleE p).2 = 0 ↔ c = 0
  d0 : (scaleE p).2 = 0 ↔ d = 0
  cd : c ≠ 0 → c &&& d ≠ 0
  one : ∀ i, c.testBit i = true → scalesP p (less c (1 * 2 ^ i)) ≠ []
  bad : c ≠ 0 → scalesP p c = []
  rest : scalesP p (less (knownP p) d) ≠ []
  min : scalesP p (less (knownP p) own) ≠ [] → ¬ (popc own < popc d ∨ popc own = popc d ∧ own < d)
  own : scalesP p own ≠ [] ∨ c ≠ 0 ∧ (popc own > popc c ∨ popc own = popc c ∧ own ≥ c)
theorem clashL {p : Plt} (hp : PltOk p) : ∃ c d : Nat, clashE p = ((c : Int), 0) ∧ dropE p = ((d : Int), 0) ∧ subS c (knownP p) ∧ subS d (knownP p) ∧ ∀ own, subS own (knownP p) → ClashL p c d own := by
  obtain ⟨c, hc, hcs, hcc⟩ := clash_spec hp
  obtain ⟨d, hd, hds, hdd⟩ := drop_spec hp
  have hlt := setOk_lt (known_ok p) hp.n
  refine ⟨c, d, hc, hd, hcs, hds, fun own ho => ?_⟩
  have hl0 : less (knownP p) 0 = knownP p := Nat.eq_of_testBit_eq fun i => by rw [less_bit]; simp
  have he := scaleE_e hp
  refine ⟨?_, ?_, ?_, ?_, ?_, ?_, ?_, ?_⟩
  · rw [he]
    rcases hcc with ⟨h1, h2⟩ | ⟨h1, _, h2, _⟩
    · exact ⟨fun _ => h1, fun _ => h2⟩
    · exact ⟨fun h => absurd h2 h, fun h => absurd h h1⟩
  · rw [he]
    rcases hdd with ⟨h1, h2⟩ | ⟨h1, _, h2, _⟩
    · exact ⟨fun _ => h1, fun _ => h2⟩
    · exact ⟨fun h => absurd h2 h, fun h => absurd h h1⟩
  · intro h h0
    rcases hcc with ⟨h1, _⟩ | ⟨_, h2, h3, _⟩
    · exact h h1
    · rcases hdd with ⟨_, h4⟩ | ⟨_, h4, _⟩
      · exact h4 h3
      · refine scales_less h4 (set := c) (fun i hi => ?_) h2
        rw [less_bit, hcs i hi]
        have : (c &&& d).testBit i = false := by rw [h0]; simp
        rw [Nat.testBit_and, hi] at this
        simpa using this
  · intro i hi h
    rcases hcc with ⟨h1, _⟩ | ⟨_, _, _, h4⟩
    · rw [h1] at hi; simp at hi
    · have hclt := subS_lt hcs hlt
      have h5 := pop_less hclt hi
      have hsub : subS (less c (1 * 2 ^ i)) (knownP p) := fun j hj => hcs j (less_self_sub _ _ j hj)
      by_cases h6 : less c (1 * 2 ^ i) = 0
      · rw [h6] at h; exact scales_zero hp h
      · have := h4 _ hsub (pop_pos (subS_lt hsub hlt) h6) h
        omega
  · intro h
    rcases hcc with ⟨h1, _⟩ | ⟨_, h2, _⟩
    · exact absurd h1 h
    · exact h2
  · rcases hdd with ⟨h1, h2⟩ | ⟨_, h2, _⟩
    · rw [h1, hl0]; exact h2
    · exact h2
  · intro h hx
    rcases hdd with ⟨h1, _⟩ | ⟨h1, _, h3, h4⟩
    · subst h1
      have : popc 0 = 0 := rfl
      rw [this] at hx
      rcases hx with hx | hx
      · omega
      · omega
    · by_cases h0 : own = 0
      · rw [h0, hl0] at h; exact h h3
      · have := h4 own ho (pop_pos (subS_lt ho hlt) h0) h
        omega
  · by_cases h : scalesP p own = []
    · refine .inr ?_
      rcases hcc with ⟨_, h2⟩ | ⟨h1, _, _, h4⟩
      · exact absurd h (scales_less h2 ho)
      · refine ⟨h1, ?_⟩
        have h0 : own ≠ 0 := fun h0 => by rw [h0] at h; exact scales_zero hp h
        have := h4 own ho (pop_pos (subS_lt ho hlt) h0) h
        omega
    · exact .inl h
end Go.Proofs.Ytlcdohhhhlhpmaa
