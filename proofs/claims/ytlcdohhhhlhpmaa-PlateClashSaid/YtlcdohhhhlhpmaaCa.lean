/-
  Plain law: which corners can be.
-/
import Derived.Test.YtlcdohhhhlhpmaaBa
namespace Go.Proofs.Ytlcdohhhhlhpmaa
open ZW

/-- A corner can be, by the stars of a set. -/
def At (p : Plt) (d : Bool) (sc : Int) (set : Nat) (n : Nat) (c : Int) : Prop :=
  (-1099511627776 ≤ c ∧ c ≤ 1099511627776) ∧ ∀ i, i < n → set.testBit i = true → (saidD d (p.st.getD i star0)).1 ≤ c + (longP sc (imgD d (p.st.getD i star0))).2 ∧ c + (longP sc (imgD d (p.st.getD i star0))).1 ≤ (saidD d (p.st.getD i star0)).2
theorem cornT_iff (p : Plt) (d : Bool) (sc : Int) (set : Nat) (c : Int) : ∀ n, ((cornT p d sc set n).1 ≤ c ∧ c ≤ (cornT p d sc set n).2) ↔ At p d sc set n c
  | 0 => ⟨fun h => ⟨h, fun i hi => absurd hi (by omega)⟩, fun h => h.1⟩
  | n + 1 => by
    have ih := cornT_iff p d sc set c n
    rw [cornT_succ]
    split
    · rename_i hb
      unfold cornS
      dsimp only
      constructor
      · intro h
        have h1 := ih.1 ⟨by omega, by omega⟩
        refine ⟨h1.1, fun i hi hbi => ?_⟩
        rcases Nat.lt_or_ge i n with h2 | h2
        · exact h1.2 i h2 hbi
        · obtain rfl : i = n := by omega
          omega
      · intro h
        have h1 := ih.2 ⟨h.1, fun i hi hbi => h.2 i (by omega) hbi⟩
        have h2 := h.2 n (by omega) hb
        omega
    · rename_i hb
      rw [ih]
      constructor
      · intro h
        refine ⟨h.1, fun i hi hbi => ?_⟩
        rcases Nat.lt_or_ge i n with h2 | h2
        · exact h.2 i h2 hbi
        · obtain rfl : i = n := by omega
          exact absurd hbi hb
      · exact fun h => ⟨h.1, fun i hi hbi => h.2 i (by omega) hbi⟩
abbrev AtP (p : Plt) (d : Bool) (sc : Int) (set : Nat) (c : Int) : Prop := At p d sc set p.st.length c
theorem corn_iff {p : Plt} {d : Bool} {sc : Int} {set : Nat} {c : Int} : ((cornP p d sc set).1 ≤ c ∧ c ≤ (cornP p d sc set).2) ↔ AtP p d sc set c := cornT_iff p d sc set c _
theorem okAt_at {p : Plt} {set : Nat} {sc : Int} : okAt p set sc = true ↔ ∀ d, ∃ c, AtP p d sc set c := by
  rw [okAt_iff]
  constructor
  · exact fun h d => ⟨_, corn_iff.1 ⟨Int.le_refl _, h d⟩⟩
  · intro h d
    obtain ⟨c, hc⟩ := h d
    have := corn_iff.2 hc
    omega
theorem At.less {p : Plt} {d : Bool} {sc : Int} {set set' : Nat} {n : Nat} {c : Int} (h : At p d sc set' n c) (hs : subS set set') : At p d sc set n c := ⟨h.1, fun i hi hb => h.2 i hi (hs i hb)⟩
theorem okAt_less {p : Plt} {set set' : Nat} {sc : Int} (h : okAt p set' sc = true) (hs : subS set set') : okAt p set sc = true := okAt_at.2 fun d => by
  obtain ⟨c, hc⟩ := okAt_at.1 h d
  exact ⟨c, hc.less hs⟩
theorem scales_less {p : Plt} {set set' : Nat} (h : scalesP p set' ≠ []) (hs : subS set set') : scalesP p set ≠ [] := by
  obtain ⟨s, hx⟩ := List.exists_mem_of_ne_nil _ h
  have h1 := scalesP_mem.1 hx
  exact List.ne_nil_of_mem (scalesP_mem.2 ⟨h1.1, okAt_less h1.2 hs⟩)
theorem scales_ne {p : Plt} {set : Nat} : scalesP p set ≠ [] ↔ ∃ s, (p.sc.1 ≤ s ∧ s ≤ p.sc.2) ∧ okAt p set s = true := by
  constructor
  · intro h
    obtain ⟨s, hx⟩ := List.exists_mem_of_ne_nil _ h
    exact ⟨s, scalesP_mem.1 hx⟩
  · rintro ⟨s, hs⟩
    exact List.ne_nil_of_mem (scalesP_mem.2 hs)

/-! ### The least of the smallest sets -/
/-- A set with so many stars more, from one on, of which something is so. -/
def CandI (isB : Nat → Bool) (stars : Nat) : Nat → Nat → Nat → Nat → Prop
  | 0, _, s, x => x = s ∧ isB s = true
  | m + 1, fr, s, x => ∃ i, fr ≤ i ∧ stars.testBit i = true ∧ CandI isB stars m (i + 1) (s ||| 1 * 2 ^ i) x
/-- The least one of b and of some others. -/
structure GoodB (b r : Nat) (C : Nat → Prop) : Prop where
  of : r = b ∨ C r
  le : b ≠ 0 → r ≠ 0 ∧ r ≤ b
  ge : ∀ x, C x → r ≠ 0 ∧ r ≤ x
theorem GoodB.refl (b : Nat) : GoodB b b (fun _ => False) := ⟨.inl rfl, fun h => ⟨h, Nat.le_refl _⟩, fun _ h => h.elim⟩
theorem GoodB.trans {b r q : Nat} {C C' : Nat → Prop} (h : GoodB b r C) (h' : GoodB r q C') : GoodB b q (fun x => C x ∨ C' x) := by
  refine ⟨?_, fun hb => ?_, fun x hx => ?_⟩
  · rcases h'.of with e | e
    · subst e
      rcases h.of with e | e
      · exact .inl e
      · exact .inr (.inl e)
    · exact .inr (.inr e)
  · have h1 := h.le hb
    have h2 := h'.le h1.1
    omega
  · rcases hx with hx | hx
    · have h1 := h.ge x hx
      have h2 := h'.le h1.1
      omega
    · exact h'.ge x hx
theorem GoodB.congr {b r : Nat} {C C' : Nat → Prop} (h : GoodB b r C) (e : ∀ x, C x ↔ C' x) : GoodB b r C' := by
  have : C = C' := funext fun x => propext (e x)
  rw [← this]; exact h
theorem bit_ne {s i : Nat} : s ||| 1 * 2 ^ i ≠ 0 := fun h => by
  have : (s ||| 1 * 2 ^ i).testBit i = true := by rw [Nat.testBit_or, Nat.one_mul, Nat.testBit_two_pow_self, Bool.or_true]
  rw [h] at this; simp at this
theorem onP_good (isB : Nat → Bool) (stars : Nat) (ht : stars < 1024) : ∀ m fr s b, (s ≠ 0 ∨ 0 < m) → GoodB b (onP isB stars m fr s b) (CandI isB stars m fr s)
  | 0, fr, s, b, hs => by
    have hs : s ≠ 0 := by omega
    unfold onP bestP
    split
    · rename_i h
      exact ⟨.inr ⟨rfl, h.2⟩, fun hb => ⟨hs, by omega⟩, fun x hx => ⟨hs, by rw [hx.1]; exact Nat.le_refl _⟩⟩
    · rename_i h
      refine ⟨.inl rfl, fun hb => ⟨hb, Nat.le_refl _⟩, fun x hx => ?_⟩
      obtain ⟨rfl, hx2⟩ := hx
      have : ¬ (b = 0 ∨ x < b) := fun h1 => h ⟨h1, hx2⟩
      omega
  | m + 1, fr, s, b, _ => by
    have key : ∀ n, GoodB b (onT isB stars m fr s b n) (fun x => ∃ i, i < n ∧ fr ≤ i ∧ stars.testBit i = true ∧ CandI isB stars m (i + 1) (s ||| 1 * 2 ^ i) x) := by
      intro n
      induction n with
      | zero => exact (GoodB.refl b).congr fun x => ⟨fun h => h.elim, fun ⟨i, hi, _⟩ => absurd hi (by omega)⟩
      | succ n ih =>
        rw [onT_succ]
        split
        · rename_i h
          refine (ih.trans (onP_good isB stars ht m (n + 1) (s ||| 1 * 2 ^ n) _ (.inl bit_ne))).congr fun x => ?_
          constructor
          · rintro (⟨i, h1, h2⟩ | h1)
            · exact ⟨i, by omega, h2⟩
            · exact ⟨n, by omega, h.1, h.2, h1⟩
          · rintro ⟨i, h1, h2⟩
            rcases Nat.lt_or_ge i n with h3 | h3
            · exact .inl ⟨i, h3, h2⟩
            · obtain rfl : i = n := by omega
              exact .inr h2.2.2
        · rename_i h
          refine ih.congr fun x => ?_
          constructor
          · rintro ⟨i, h1, h2⟩; exact ⟨i, by omega, h2⟩
          · rintro ⟨i, h1, h2⟩
            refine ⟨i, ?_, h2⟩
            rcases Nat.lt_or_ge i n with h3 | h3
            · exact h3
            · obtain rfl : i = n := by omega
              exact absurd ⟨h2.1, h2.2.1⟩ h
    refine (key (lenT stars)).congr fun x => ?_
    constructor
    · rintro ⟨i, _, h⟩; exact ⟨i, h⟩
    · rintro ⟨i, h⟩; exact ⟨i, lenT_bit stars ht i h.2.1, h⟩
end Go.Proofs.Ytlcdohhhhlhpmaa
