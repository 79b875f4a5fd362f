/-
  Plain law of watches: a part of the looks; without habits; without a measurer's looks.
-/
import Derived.Test.YtiaaidcdoenloaaTc
namespace Go.Proofs.Ytiaaidcdoenloaa
open ZW

/-- A look is right. -/
def LookQ (X : Wat) (q : Nat → Int) (l : Int × Int × Int) : Prop :=
  (travelP X.m l.2.2).1 ≤ q (1 + X.eyes.toNat + l.2.1.toNat) - q (1 + l.1.toNat) ∧ q (1 + X.eyes.toNat + l.2.1.toNat) - q (1 + l.1.toNat) ≤ (travelP X.m l.2.2).2
def HabQ (X : Wat) (E : Nat) (q : Nat → Int) : Prop := ∀ m, m < X.eyes.toNat → (habOf X E m).1 ≤ q (1 + m) - q 0 ∧ q (1 + m) - q 0 ≤ (habOf X E m).2
theorem tru_set {X : Wat} {S E : Nat} {q : Nat → Int} : Tru X S E q ↔ HabQ X E q ∧ ∀ i, i < X.looks.length → S.testBit i = true → LookQ X q (lkAt X i) :=
  ⟨fun h => ⟨h.h, h.l⟩, fun h => ⟨h.1, h.2⟩⟩
theorem lkAt_mem {X : Wat} {i : Nat} (hi : i < X.looks.length) : lkAt X i ∈ X.looks := getD_mem hi look0
theorem mem_lkAt {X : Wat} {l : Int × Int × Int} (h : l ∈ X.looks) : ∃ i, i < X.looks.length ∧ lkAt X i = l := by
  obtain ⟨i, hi, rfl⟩ := List.mem_iff_getElem.1 h
  exact ⟨i, hi, by unfold lkAt; rw [← List.getElem_eq_getD (h := hi)]⟩
theorem tru_all {X : Wat} {E : Nat} {q : Nat → Int} : Tru X (allS X) E q ↔ HabQ X E q ∧ ∀ l ∈ X.looks, LookQ X q l := by
  rw [tru_set]
  refine and_congr_right fun _ => ⟨fun h l hl => ?_, fun h i hi _ => h _ (lkAt_mem hi)⟩
  obtain ⟨i, hi, rfl⟩ := mem_lkAt hl
  exact h i hi (allS_bit hi)

/-! ### A part of a watch -/
def partL (X : Wat) (S n : Nat) : List (Int × Int × Int) := (List.range n).foldl (fun l i => if S.testBit i = true then l ++ [lkAt X i] else l) []
theorem partL_succ (X : Wat) (S n : Nat) : partL X S (n + 1) = if S.testBit n = true then partL X S n ++ [lkAt X n] else partL X S n := range_foldl_succ _ _ _
theorem partL_len (X : Wat) (S : Nat) : ∀ n, (partL X S n).length ≤ n
  | 0 => Nat.le_refl _
  | n + 1 => by
    have ih := partL_len X S n
    rw [partL_succ]
    split
    · rw [List.length_append]; simp; omega
    · omega
theorem partL_mem (X : Wat) (S : Nat) (x : Int × Int × Int) : ∀ n, x ∈ partL X S n ↔ ∃ i, i < n ∧ S.testBit i = true ∧ lkAt X i = x
  | 0 => by simp [partL]
  | n + 1 => by
    have ih := partL_mem X S x n
    rw [partL_succ]
    constructor
    · intro h
      split at h
      · rename_i hb
        rcases List.mem_append.1 h with h | h
        · obtain ⟨i, hi, h⟩ := ih.1 h; exact ⟨i, by omega, h⟩
        · simp only [List.mem_singleton] at h; exact ⟨n, by omega, hb, h.symm⟩
      · obtain ⟨i, hi, h⟩ := ih.1 h; exact ⟨i, by omega, h⟩
    · rintro ⟨i, hi, hb, he⟩
      rcases Nat.lt_or_ge i n with h | h
      · have := ih.2 ⟨i, h, hb, he⟩
        split
        · exact List.mem_append_left _ this
        · exact this
      · obtain rfl : i = n := by omega
        rw [if_pos hb, he]; simp
def partW (X : Wat) (S : Nat) : Wat := { X with looks := partL X S X.looks.length }
theorem partW_ok {X : Wat} (hM : WatOk X) (S : Nat) : WatOk (partW X S) := by
  refine ⟨⟨hM.s.n, hM.s.e, hM.s.y⟩, hM.i, hM.e, hM.h, hM.k, Nat.le_trans (partL_len X S _) hM.n, fun x hx => ?_⟩
  obtain ⟨i, hi, _, rfl⟩ := (partL_mem X S x _).1 hx
  exact hM.l _ (lkAt_mem hi)
theorem partW_tru (X : Wat) (S E : Nat) (q : Nat → Int) : Tru (partW X S) (allS (partW X S)) E q ↔ Tru X S E q := by
  rw [tru_all, tru_set]
  refine and_congr Iff.rfl ⟨fun h i hi hb => h _ ((partL_mem X S _ _).2 ⟨i, hi, hb, rfl⟩), fun h l hl => ?_⟩
  obtain ⟨i, hi, hb, rfl⟩ := (partL_mem X S l _).1 hl
  exact h i hi hb
theorem partW_okW (X : Wat) (S : Nat) : okW (partW X S) ↔ canQ X S :=
  ⟨fun ⟨q, h⟩ => ⟨q, (partW_tru X S _ q).1 h⟩, fun ⟨q, h⟩ => ⟨q, (partW_tru X S _ q).2 h⟩⟩
theorem part_hab {X : Wat} (hM : WatOk X) (S : Nat) : decide ((habitE (partW X S) 0).2 = 0) = canB X S (allE X) := by
  have hP := partW_ok hM S
  have hE := hM.e
  have h : (habitE (partW X S) 0).2 = 0 ↔ canB X S (allE X) = true := by
    rw [habitE_code hP (a := 0) ⟨by omega, by show 0 ≤ X.eyes - 1; omega⟩, codeW_iff hP, partW_okW, can_tru hM]
  cases hc : canB X S (allE X) with
  | true => exact decide_eq_true (h.2 hc)
  | false => exact decide_eq_false fun hx => by rw [h.1 hx] at hc; cases hc

/-! ### Without habits -/
def noneW (X : Wat) : Wat := { X with habit := (0, 0) }
theorem noneW_ok {X : Wat} (hM : WatOk X) : WatOk (noneW X) := ⟨⟨hM.s.n, hM.s.e, hM.s.y⟩, hM.i, hM.e, by show (-200 : Int) ≤ 0 ∧ (0 : Int) ≤ 0; omega, by show (0 : Int) ≤ 0 ∧ (0 : Int) ≤ 200; omega, hM.n, hM.l⟩
theorem noneW_tru (X : Wat) (S E : Nat) (q : Nat → Int) : Tru (noneW X) S E q ↔ Tru X S 0 q := by
  rw [tru_set, tru_set]
  refine and_congr ⟨fun h m hm => ?_, fun h m hm => ?_⟩ Iff.rfl
  · have := h m hm
    have e : habOf (noneW X) E m = habOf X 0 m := by unfold habOf noneW; simp
    rwa [e] at this
  · have := h m hm
    have e : habOf (noneW X) E m = habOf X 0 m := by unfold habOf noneW; simp
    rwa [← e] at this
theorem noneW_expl {X : Wat} (hM : WatOk X) (ho : okW X) : okW (noneW X) ↔ explN X = 0 := by
  have f := expl_facts hM ho
  constructor
  · rintro ⟨q, h⟩
    have h1 := f.min 0 (Nat.zero_le _) ⟨q, (noneW_tru X _ _ q).1 h⟩
    rw [popc_zero] at h1
    exact popc_0 (by have := f.le; have := allE_lt hM; omega) (by omega)
  · intro h
    obtain ⟨q, hq⟩ := f.can
    rw [h] at hq
    exact ⟨q, (noneW_tru X _ _ q).2 hq⟩

/-! ### Without a measurer's looks -/
def restN (X : Wat) (m k : Nat) : Nat := (List.range k).foldl (fun s i => if ¬ (lkAt X i).1 = (m : Nat) then s ||| 1 * 2 ^ i else s) 0
theorem restN_succ (X : Wat) (m k : Nat) : restN X m (k + 1) = if ¬ (lkAt X k).1 = (m : Nat) then restN X m k ||| 1 * 2 ^ k else restN X m k := range_foldl_succ _ _ _
theorem restN_lt (X : Wat) (m : Nat) : ∀ k, restN X m k < 2 ^ k
  | 0 => by simp [restN]
  | k + 1 => by
    have ih := restN_lt X m k
    have hp := Nat.two_pow_pos k
    rw [restN_succ]
    split
    · exact Nat.or_lt_two_pow (by rw [Nat.pow_succ]; omega) (by rw [Nat.pow_succ]; omega)
    · rw [Nat.pow_succ]; omega
theorem restN_bit (X : Wat) (m j : Nat) : ∀ k, (restN X m k).testBit j = true ↔ j < k ∧ ¬ (lkAt X j).1 = (m : Nat)
  | 0 => by simp [restN]
  | k + 1 => by
    have ih := restN_bit X m j k
    rw [restN_succ]
    split
    · rename_i h
      rw [Nat.testBit_or, Bool.or_eq_true, ih, Nat.one_mul, Nat.testBit_two_pow, decide_eq_true_eq]
      constructor
      · rintro (⟨h1, h2⟩ | rfl)
        · exact ⟨by omega, h2⟩
        · exact ⟨by omega, h⟩
      · rintro ⟨h1, h2⟩
        by_cases hm : k = j
        · exact .inr hm
        · exact .inl ⟨by omega, h2⟩
    · rename_i h
      rw [ih]
      refine ⟨fun ⟨h1, h2⟩ => ⟨by omega, h2⟩, fun ⟨h1, h2⟩ => ⟨?_, h2⟩⟩
      rcases Nat.lt_or_ge j k with h3 | h3
      · exact h3
      · obtain rfl : j = k := by omega
        exact absurd h2 h
def restW (X : Wat) (m : Nat) : Wat := partW X (restN X m X.looks.length)
theorem restW_eye {X : Wat} {m : Nat} {l : Int × Int × Int} (h : l ∈ (restW X m).looks) : l ∈ X.looks ∧ ¬ l.1 = (m : Nat) := by
  obtain ⟨i, hi, hb, rfl⟩ := (partL_mem X _ l _).1 h
  exact ⟨lkAt_mem hi, ((restN_bit X m i _).1 hb).2⟩
theorem rest_facts {X : Wat} (hM : WatOk X) (ho : okW X) {m : Nat} (hm : m < X.eyes.toNat) : okW (restW X m) ∧ (explN (restW X m)).testBit m = false ∧ popc (explN (restW X m)) ≤ popc (explN X) := by
  have hP : WatOk (restW X m) := partW_ok hM _
  have ok : okW (restW X m) := (partW_okW X _).2 (okW_any hM ho _)
  have f := expl_facts hM ho
  have g := expl_facts hP ok
  have ae : allE (restW X m) = allE X := rfl
  have hlt := allE_lt hM
  refine ⟨ok, ?_, ?_⟩
  · cases hb : (explN (restW X m)).testBit m with
    | false => rfl
    | true =>
      obtain ⟨q, hq⟩ := g.can
      have hl := less_pow hb
      have hp := popc_lt (by have := g.le; omega) hb
      have key : Tru (restW X m) (allS (restW X m)) (less (explN (restW X m)) (2 ^ m)) fun v => if v = 1 + m then q 0 else q v := by
        have h := tru_all.1 hq
        refine tru_all.2 ⟨fun j hj => ?_, fun l hl => ?_⟩
        · by_cases hjm : j = m
          · subst hjm
            rw [habOf_no (by rw [less_bit, Nat.testBit_two_pow]; simp)]
            simp
          · have := h.1 j hj
            have e : habOf (restW X m) (less (explN (restW X m)) (2 ^ m)) j = habOf (restW X m) (explN (restW X m)) j := by
              unfold habOf
              rw [less_bit, Nat.testBit_two_pow, decide_eq_false (Ne.symm hjm)]
              simp
            rw [e]
            dsimp only
            rw [if_neg (by omega), if_neg (by omega)]
            exact this
        · have h1 := h.2 l hl
          have h2 := restW_eye hl
          have h3 := (hM.l _ h2.1).2
          have h4 := hM.e
          unfold LookQ at h1 ⊢
          have e : (restW X m).eyes = X.eyes := rfl
          rw [e] at h1 ⊢
          dsimp only
          rw [if_neg (by omega), if_neg (by omega)]
          exact h1
      have := g.min (less (explN (restW X m)) (2 ^ m)) (by have := g.le; omega) ⟨_, key⟩
      omega
  · obtain ⟨q, hq⟩ := f.can
    have := g.min (explN X) f.le ⟨q, (partW_tru X _ _ q).2 (hq.mono hM (fun _ hi _ => allS_bit hi) fun _ _ h => h)⟩
    omega
end Go.Proofs.Ytiaaidcdoenloaa
