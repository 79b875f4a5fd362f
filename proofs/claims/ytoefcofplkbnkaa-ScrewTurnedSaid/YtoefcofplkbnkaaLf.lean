/-
  The plain law of measures: the sets that clash, that must be wrong, that tell nothing; images measured once.
-/
import Derived.Test.YtoefcofplkbnkaaLe
namespace Go.Proofs.Ytoefcofplkbnkaa
open ZW

theorem truth_full {m : Meas} {S : Nat} {p : Nat → Int} (h : TruthP m (fullS m) p) : TruthP m S p := ⟨h.1, fun i hi _ => h.2 i hi (full_bit m hi)⟩
theorem canF_iff {m : Meas} (hM : MeasOk m) (S : Nat) : canF m S = true ↔ ∃ p, TruthP m S p := by
  unfold canF
  rw [decide_eq_true_iff]
  constructor
  · intro h
    obtain ⟨p, hp, _⟩ := (sums_truth hM (S := S) (s := (sumsF m S).1)).1 ⟨Int.le_refl _, h⟩
    exact ⟨p, hp⟩
  · rintro ⟨p, hp⟩
    have := (sums_truth hM (S := S) (s := p 1 - p 0)).2 ⟨p, hp, rfl⟩
    omega
theorem can_mono {m : Meas} (hM : MeasOk m) (h : canF m (fullS m) = true) (S : Nat) : canF m S = true := by
  obtain ⟨p, hp⟩ := (canF_iff hM _).1 h
  exact (canF_iff hM S).2 ⟨p, truth_full hp⟩
theorem can_0 {m : Meas} (hM : MeasOk m) : canF m 0 = true := by
  refine (canF_iff hM 0).2 ⟨fun k => if k = 1 then m.sum.1 else 0, ?_, fun i _ h => by simp at h⟩
  have := hM.u
  unfold spanOk at this
  simp only [if_true]
  simp; omega

/-! ### Clash -/
def badF (m : Meas) (s : Nat) : Bool := !canF m s
def clashR (m : Meas) : Int × Int := if ¬ MeasOk m then (0, 1) else ((((bestS (badF m) (fullS m + 1)).getD 0 : Nat) : Int), 0)
theorem best_none {stop : Nat → Bool} {n : Nat} (h : ∀ s, s < n → stop s = false) : bestS stop n = none := by
  have := bestS_spec stop n
  cases hb : bestS stop n with
  | none => rfl
  | some b => rw [hb] at this; simp only at this; rw [h b this.1] at this; exact absurd this.2.1 (by decide)
theorem clashE_eq (m : Meas) : clashE m = clashR m := by
  unfold clashE clashR
  by_cases hM : MeasOk m
  · rw [if_neg (not_not_intro hM), if_neg (not_not_intro hM)]
    have e : badS m = badF m := badS_eq hM
    by_cases hd : diagOk (tightB m (fullS m))
    · rw [if_pos hd]
      have hc : canF m (fullS m) = true := decide_eq_true ((can_eq hM _).1 hd)
      rw [best_none fun s _ => by unfold badF; rw [can_mono hM hc s]; rfl]
      rfl
    · rw [if_neg hd, e]
  · rw [if_pos hM, if_pos hM]
theorem bad_step {stop : Nat → Bool} (h0 : stop 0 = false) (n : Nat) : (bestS stop (n + 1)).getD 0 = if ((bestS stop n).getD 0 = 0 ∨ popc n < popc ((bestS stop n).getD 0)) ∧ stop n = true then n else (bestS stop n).getD 0 := by
  have hs := bestS_spec stop n
  simp only [bestS]
  cases hb : bestS stop n with
  | none =>
    simp only [Option.getD_none, true_or, true_and]
    split <;> rfl
  | some b =>
    rw [hb] at hs
    simp only at hs
    have hb0 : b ≠ 0 := fun h => by rw [h, h0] at hs; exact absurd hs.2.1 (by decide)
    simp only [Option.getD_some, hb0, false_or]
    by_cases hc : stop n = true ∧ popc n < popc b
    · rw [if_pos hc, if_pos ⟨hc.2, hc.1⟩]; rfl
    · rw [if_neg hc, if_neg fun h => hc ⟨h.2, h.1⟩]; rfl

/-! ### Drop -/
def canL (m : Meas) (s : Nat) : Bool := canF m (less (fullS m) s)
theorem dropE_eq (m : Meas) : dropE m = if ¬ MeasOk m then (0, 1) else ((((bestS (canL m) (fullS m + 1)).getD (fullS m) : Nat) : Int), 0) := by
  unfold dropE
  by_cases hM : MeasOk m
  · rw [if_neg (not_not_intro hM), if_neg (not_not_intro hM), show canS m = canL m from canS_eq hM]
  · rw [if_pos hM, if_pos hM]
theorem popc_full : ∀ k, k < 13 → ∀ n, n < 2 ^ k - 1 → popc n < popc (2 ^ k - 1) := by
  have h : ((List.range 13).all fun k => (List.range (2 ^ k - 1)).all fun n => decide (popc n < popc (2 ^ k - 1))) = true := by kernel_rfl
  intro k hk n hn
  have := List.all_eq_true.1 (List.all_eq_true.1 h k (List.mem_range.2 hk)) n (List.mem_range.2 hn)
  exact of_decide_eq_true this
theorem less_full : ∀ k, k < 13 → ∀ n, n < 2 ^ k → less (2 ^ k - 1) n = 2 ^ k - 1 - n := by
  have h : ((List.range 13).all fun k => (List.range (2 ^ k)).all fun n => decide (less (2 ^ k - 1) n = 2 ^ k - 1 - n)) = true := by kernel_rfl
  intro k hk n hn
  have := List.all_eq_true.1 (List.all_eq_true.1 h k (List.mem_range.2 hk)) n (List.mem_range.2 hn)
  exact of_decide_eq_true this
theorem less_sub {m : Meas} (hM : MeasOk m) {s : Nat} (hs : s ≤ fullS m) : less (fullS m) s = fullS m - s := by
  have hN := hM.n
  have hp := Nat.two_pow_pos m.sets.length
  unfold fullS at hs ⊢
  exact less_full _ (by omega) s (by omega)
theorem can_step {m : Meas} (hM : MeasOk m) {stop : Nat → Bool} {n : Nat} (hn : n ≤ fullS m) : (bestS stop (n + 1)).getD (fullS m) = if popc n < popc ((bestS stop n).getD (fullS m)) ∧ stop n = true then n else (bestS stop n).getD (fullS m) := by
  have hN := hM.n
  simp only [bestS]
  cases hb : bestS stop n with
  | none =>
    simp only [Option.getD_none]
    rcases Nat.lt_or_ge n (fullS m) with h | h
    · have hp : popc n < popc (fullS m) := popc_full m.sets.length (by omega) n h
      by_cases hc : stop n = true
      · rw [if_pos hc, if_pos ⟨hp, hc⟩]; rfl
      · rw [if_neg hc, if_neg fun h => hc h.2]; rfl
    · obtain rfl : n = fullS m := by omega
      refine Eq.trans ?_ (if_neg (fun h => Nat.lt_irrefl _ h.1)).symm
      split <;> rfl
  | some b =>
    simp only [Option.getD_some]
    by_cases hc : stop n = true ∧ popc n < popc b
    · rw [if_pos hc, if_pos ⟨hc.2, hc.1⟩]; rfl
    · rw [if_neg hc, if_neg fun h => hc ⟨h.2, h.1⟩]; rfl

/-! ### How many are in a set -/
theorem popF_zero : ∀ f, popF f 0 = 0
  | 0 => rfl
  | f + 1 => by simp [popF, popF_zero f]

/-! ### Once -/
def anyW (m : Meas) (r : Bool) (g : Nat) (k : Nat) : Bool := (List.range k).any fun j => decide ((setAt m j).1 = (g : Nat)) && ((setAt m j).2.2 == r)
theorem anyW_succ (m : Meas) (r : Bool) (g k : Nat) : anyW m r g (k + 1) = (anyW m r g k || (decide ((setAt m k).1 = (g : Nat)) && ((setAt m k).2.2 == r))) := by
  unfold anyW
  rw [List.range_succ, List.any_append]; simp
theorem seen_any_bit {m : Meas} (hM : MeasOk m) (r : Bool) (g : Nat) : ∀ k, k ≤ m.sets.length → (seenW m r k).testBit g = anyW m r g k
  | 0, _ => by simp [seenW, anyW]
  | k + 1, hk => by
    have ih := seen_any_bit hM r g k (by omega)
    have hI := img_lt hM (i := k) (by omega)
    rw [seenW_succ, anyW_succ, ← ih]
    by_cases hr : (setAt m k).2.2 = r
    · rw [if_pos hr, Nat.testBit_or, Nat.one_mul, Nat.testBit_two_pow, hr]
      congr 1
      simp only [BEq.rfl, Bool.and_true]
      exact decide_eq_decide.2 (by omega)
    · rw [if_neg hr]
      have : ((setAt m k).2.2 == r) = false := by simpa using hr
      rw [this]; simp
def onceX (m : Meas) : Nat := seenW m false m.sets.length ^^^ seenW m true m.sets.length
theorem onceE_eq (m : Meas) : onceE m = if ¬ MeasOk m then (0, 1) else (((onceX m : Nat) : Int), 0) := rfl
theorem onceX_bit {m : Meas} (hM : MeasOk m) (g : Nat) : (onceX m).testBit g = (anyW m false g m.sets.length ^^ anyW m true g m.sets.length) := by
  unfold onceX
  rw [Nat.testBit_xor, seen_any_bit hM _ _ _ (Nat.le_refl _), seen_any_bit hM _ _ _ (Nat.le_refl _)]
theorem onceX_step (X i : Nat) : X % 2 ^ (i + 1) = if X.testBit i = true then X % 2 ^ i + 2 ^ i else X % 2 ^ i := by
  rw [Nat.mod_pow_succ, Nat.testBit_eq_decide_div_mod_eq]
  have : X / 2 ^ i % 2 < 2 := Nat.mod_lt _ (by decide)
  by_cases h : X / 2 ^ i % 2 = 1
  · rw [h]; simp
  · have h0 : X / 2 ^ i % 2 = 0 := by omega
    rw [h0]; simp
theorem onceX_lt {m : Meas} (hM : MeasOk m) : onceX m < 2 ^ m.images.toNat := by
  refine Nat.lt_pow_two_of_testBit _ fun g hg => ?_
  have h : ∀ r, anyW m r g m.sets.length = false := fun r => by
    unfold anyW
    rw [List.any_eq_false]
    intro j hj
    have h1 := hM.a _ (getD_mem (List.mem_range.1 hj) (0, 0, false))
    have h2 := hM.i
    have : ¬ (setAt m j).1 = (g : Nat) := by unfold setAt; omega
    simp [this]
  rw [onceX_bit hM, h, h]; rfl
theorem onceX_mod {m : Meas} (hM : MeasOk m) : onceX m % 2 ^ m.images.toNat = onceX m := Nat.mod_eq_of_lt (onceX_lt hM)
end Go.Proofs.Ytoefcofplkbnkaa
