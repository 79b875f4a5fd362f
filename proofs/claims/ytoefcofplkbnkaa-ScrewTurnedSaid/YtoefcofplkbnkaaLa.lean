/-
  The plain law of bounds: closing them makes them as tight as can be.
-/
import Derived.Test.YtoefcofplkbnkaaWj
namespace Go.Proofs.Ytoefcofplkbnkaa
open ZW

/-- Numbers of points that bounds allow. -/
def Sat (p : Nat → Int) (b : BMat) : Prop := ∀ i k, i < 8 → k < 8 → b i k < never → p k - p i ≤ b i k

theorem Sat.step {p : Nat → Int} {b : BMat} {j i k : Nat} (h : Sat p b) (hj : j < 8) (hi : i < 8) (hk : k < 8) : Sat p (stepP j b i k) := by
  intro x y hx hy hf
  unfold stepP at hf ⊢
  split at hf
  · rename_i hc
    rw [if_pos hc]
    unfold bUpd at hf ⊢
    split at hf
    · rename_i he
      obtain ⟨rfl, rfl⟩ := he
      rw [if_pos ⟨rfl, rfl⟩]
      have h1 := h x j hx hj hc.1
      have h2 := h j y hj hy hc.2
      by_cases hb : b x y < never
      · have := h x y hx hy hb; omega
      · omega
    · rename_i he
      rw [if_neg he]; exact h x y hx hy hf
  · rename_i hc
    rw [if_neg hc]; exact h x y hx hy hf
theorem Sat.row {p : Nat → Int} {b : BMat} {j i : Nat} (h : Sat p b) (hj : j < 8) (hi : i < 8) : ∀ n, n ≤ 8 → Sat p (rowP j b i n)
  | 0, _ => h
  | n + 1, hn => by rw [rowP_succ]; exact (Sat.row h hj hi n (by omega)).step hj hi (by omega)
theorem Sat.round {p : Nat → Int} {b : BMat} {j : Nat} (h : Sat p b) (hj : j < 8) : ∀ n, n ≤ 8 → Sat p (roundP b j n)
  | 0, _ => h
  | n + 1, hn => by rw [roundP_succ]; exact (Sat.round h hj n (by omega)).row hj (by omega) 8 (Nat.le_refl _)
theorem Sat.close {p : Nat → Int} {b : BMat} (h : Sat p b) : ∀ n, n ≤ 8 → Sat p (closeP b n)
  | 0, _ => h
  | n + 1, hn => by rw [closeP_succ]; exact (Sat.close h n (by omega)).round (by omega) 8 (Nat.le_refl _)

/-! ### Bounds only become tighter -/
theorem step_le (j : Nat) (b : BMat) (i k x y : Nat) : stepP j b i k x y ≤ b x y := by
  unfold stepP
  split
  · unfold bUpd
    split
    · rename_i he; obtain ⟨rfl, rfl⟩ := he; omega
    · omega
  · omega
theorem row_le (j : Nat) (b : BMat) (i x y : Nat) : ∀ n, rowP j b i n x y ≤ b x y
  | 0 => Int.le_refl _
  | n + 1 => by rw [rowP_succ]; exact Int.le_trans (step_le _ _ _ _ _ _) (row_le j b i x y n)
theorem round_le (b : BMat) (j x y : Nat) : ∀ n, roundP b j n x y ≤ b x y
  | 0 => Int.le_refl _
  | n + 1 => by rw [roundP_succ]; exact Int.le_trans (row_le _ _ _ _ _ _) (round_le b j x y n)
theorem close_le (b : BMat) (x y : Nat) : ∀ n, closeP b n x y ≤ b x y
  | 0 => Int.le_refl _
  | n + 1 => by rw [closeP_succ]; exact Int.le_trans (round_le _ _ _ _ _) (close_le b x y n)
theorem close_mono (b : BMat) (x y : Nat) : ∀ k n, closeP b (n + k) x y ≤ closeP b n x y
  | 0, _ => Int.le_refl _
  | k + 1, n => by rw [← Nat.add_assoc, closeP_succ]; exact Int.le_trans (round_le _ _ _ _ _) (close_mono b x y k n)

/-! ### A round, if a point is not before itself -/
def rf (b : BMat) (j i k : Nat) : Int := if b i j < never ∧ b j k < never then min (b i k) (b i j + b j k) else b i k
/-- In a round: rows less than r are done, and of row r the first s. -/
structure RI (b : BMat) (j r s : Nat) (c : BMat) : Prop where
  old : ∀ i k, i < 8 → k < 8 → (r < i ∨ r = i ∧ s ≤ k) → c i k = b i k
  new : ∀ i k, i < 8 → k < 8 → (i < r ∨ i = r ∧ k < s) → c i k = rf b j i k
theorem rf_row {b : BMat} {j k : Nat} (hd : 0 ≤ b j j) : rf b j j k = b j k := by
  unfold rf; split <;> omega
theorem rf_col {b : BMat} {j i : Nat} (hd : 0 ≤ b j j) : rf b j i j = b i j := by
  unfold rf; split <;> omega
theorem RI.row {b c : BMat} {j r s : Nat} (h : RI b j r s c) (hd : 0 ≤ b j j) (hj : j < 8) {k : Nat} (hk : k < 8) : c j k = b j k := by
  by_cases hc : r < j ∨ r = j ∧ s ≤ k
  · exact h.old j k hj hk hc
  · rw [h.new j k hj hk (by omega), rf_row hd]
theorem RI.col {b c : BMat} {j r s : Nat} (h : RI b j r s c) (hd : 0 ≤ b j j) (hj : j < 8) {i : Nat} (hi : i < 8) : c i j = b i j := by
  by_cases hc : r < i ∨ r = i ∧ s ≤ j
  · exact h.old i j hi hj hc
  · rw [h.new i j hi hj (by omega), rf_col hd]
theorem RI.step {b c : BMat} {j r s : Nat} (h : RI b j r s c) (hd : 0 ≤ b j j) (hj : j < 8) (hr : r < 8) (hs : s < 8) : RI b j r (s + 1) (stepP j c r s) := by
  have h1 := h.col hd hj hr
  have h2 := h.row hd hj hs
  have h3 := h.old r s hr hs (by omega)
  have hv : ∀ i k, stepP j c r s i k = if i = r ∧ k = s then rf b j r s else c i k := by
    intro i k
    unfold stepP rf
    rw [h1, h2]
    by_cases hc : b r j < never ∧ b j s < never
    · rw [if_pos hc, if_pos hc]
      unfold bUpd
      rw [h3]
    · rw [if_neg hc, if_neg hc]
      by_cases he : i = r ∧ k = s
      · obtain ⟨rfl, rfl⟩ := he; rw [if_pos ⟨rfl, rfl⟩, h3]
      · rw [if_neg he]
  refine ⟨fun i k hi hk hc => ?_, fun i k hi hk hc => ?_⟩
  · rw [hv, if_neg (by omega)]; exact h.old i k hi hk (by omega)
  · rw [hv]
    by_cases he : i = r ∧ k = s
    · obtain ⟨rfl, rfl⟩ := he; rw [if_pos ⟨rfl, rfl⟩]
    · rw [if_neg he]; exact h.new i k hi hk (by omega)
theorem RI.rowP {b c : BMat} {j r : Nat} (h : RI b j r 0 c) (hd : 0 ≤ b j j) (hj : j < 8) (hr : r < 8) : ∀ n, n ≤ 8 → RI b j r n (rowP j c r n)
  | 0, _ => h
  | n + 1, hn => by rw [rowP_succ]; exact (RI.rowP h hd hj hr n (by omega)).step hd hj hr (by omega)
theorem RI.round {b : BMat} {j : Nat} (hd : 0 ≤ b j j) (hj : j < 8) : ∀ n, n ≤ 8 → RI b j n 0 (roundP b j n)
  | 0, _ => ⟨fun _ _ _ _ _ => rfl, fun i k _ _ hc => by omega⟩
  | n + 1, hn => by
    rw [roundP_succ]
    have h := (RI.round hd hj n (by omega)).rowP hd hj (by omega) 8 (Nat.le_refl _)
    exact ⟨fun i k hi hk hc => h.old i k hi hk (by omega), fun i k hi hk hc => h.new i k hi hk (by omega)⟩
theorem round_eq {b : BMat} {j : Nat} (hd : 0 ≤ b j j) (hj : j < 8) {i k : Nat} (hi : i < 8) (hk : k < 8) : roundP b j 8 i k = rf b j i k :=
  (RI.round hd hj 8 (Nat.le_refl _)).new i k hi hk (by omega)

/-! ### Ways by points that were gone through are no shorter -/
def Tri (n : Nat) (b : BMat) : Prop := ∀ j i k, j < n → j < 8 → i < 8 → k < 8 → b i j < never → b j k < never → b i k ≤ b i j + b j k
def Fin' (U : Int) (b : BMat) : Prop := ∀ i k, i < 8 → k < 8 → b i k < never → b i k ≤ U
theorem rf_fin {b : BMat} {n i j : Nat} (h : rf b n i j < never) : (b i j < never ∧ rf b n i j = b i j) ∨ (b i n < never ∧ b n j < never ∧ rf b n i j = b i n + b n j) := by
  unfold rf at h ⊢
  split at h
  · rename_i hc
    rw [if_pos hc]
    by_cases hm : b i j ≤ b i n + b n j
    · left; omega
    · right; omega
  · rename_i hc
    rw [if_neg hc]; exact .inl ⟨h, rfl⟩
theorem rf_le (b : BMat) (n i k : Nat) : rf b n i k ≤ b i k := by unfold rf; split <;> omega
theorem rf_le2 {b : BMat} {n i k : Nat} (h1 : b i n < never) (h2 : b n k < never) : rf b n i k ≤ b i n + b n k := by unfold rf; rw [if_pos ⟨h1, h2⟩]; omega
theorem Tri.rf {n : Nat} {b : BMat} {U : Int} (h : Tri n b) (hn : n < 8) (hd : 0 ≤ b n n) (hU : Fin' U b) (h2 : 2 * U < never) : Tri (n + 1) (rf b n) := by
  intro j i k hj hj8 hi hk h1 h3
  rcases Nat.lt_or_ge j n with hlt | hge
  · rcases rf_fin h1 with ⟨f1, e1⟩ | ⟨f1, f1', e1⟩ <;> rcases rf_fin h3 with ⟨f3, e3⟩ | ⟨f3, f3', e3⟩
    · have := h j i k hlt hj8 hi hk f1 f3
      have := rf_le b n i k
      omega
    · have t := h j i n hlt hj8 hi hn f1 f3
      have u1 := hU i j hi hj8 f1
      have u2 := hU j n hj8 hn f3
      have := rf_le2 (b := b) (n := n) (i := i) (k := k) (by omega) f3'
      omega
    · have t := h j n k hlt hj8 hn hk f1' f3
      have u1 := hU n j hn hj8 f1'
      have u2 := hU j k hj8 hk f3
      have := rf_le2 (b := b) (n := n) (i := i) (k := k) f1 (by omega)
      omega
    · have t := h j n n hlt hj8 hn hn f1' f3
      have := rf_le2 (b := b) (n := n) (i := i) (k := k) f1 f3'
      omega
  · obtain rfl : j = n := by omega
    rw [rf_col hd] at h1 ⊢
    rw [rf_row hd] at h3 ⊢
    exact rf_le2 h1 h3
theorem Fin'.rf {n : Nat} {b : BMat} {U : Int} (hn : n < 8) (hU : Fin' U b) (h0 : 0 ≤ U) : Fin' (2 * U) (rf b n) := by
  intro i k hi hk h
  rcases rf_fin h with ⟨f, e⟩ | ⟨f, f', e⟩
  · have := hU i k hi hk f; omega
  · have := hU i n hi hn f
    have := hU n k hn hk f'
    omega
theorem Tri.congr {n : Nat} {b c : BMat} (h : Tri n b) (hc : ∀ i k, i < 8 → k < 8 → c i k = b i k) : Tri n c := by
  intro j i k hj hj8 hi hk
  rw [hc i j hi hj8, hc j k hj8 hk, hc i k hi hk]
  exact h j i k hj hj8 hi hk
theorem Fin'.congr {U : Int} {b c : BMat} (h : Fin' U b) (hc : ∀ i k, i < 8 → k < 8 → c i k = b i k) : Fin' U c := by
  intro i k hi hk
  rw [hc i k hi hk]; exact h i k hi hk
theorem close_tri {b : BMat} (hU : Fin' 300000 b) (hd : diagOk (closeP b 8)) : ∀ n, n ≤ 8 → Tri n (closeP b n) ∧ Fin' (2 ^ n * 300000) (closeP b n)
  | 0, _ => ⟨fun j i k hj => absurd hj (by omega), by simpa [closeP] using hU⟩
  | n + 1, hn => by
    obtain ⟨h1, h2⟩ := close_tri hU hd n (by omega)
    have hnn : 0 ≤ closeP b n n n := by
      have h3 := close_mono b n n (8 - n) n
      rw [show n + (8 - n) = 8 from by omega] at h3
      have := hd n (by omega)
      omega
    have he : ∀ i k, i < 8 → k < 8 → closeP b (n + 1) i k = rf (closeP b n) n i k := fun i k hi hk => by
      rw [closeP_succ]; exact round_eq hnn (by omega) hi hk
    have hp : (2 : Int) ^ n ≤ 128 ∧ 0 ≤ (2 : Int) ^ n := by
      have h4 : 2 ^ n ≤ 2 ^ 7 := Nat.pow_le_pow_right (by omega) (by omega)
      have h5 : ((2 ^ n : Nat) : Int) ≤ ((2 ^ 7 : Nat) : Int) := Int.ofNat_le.2 h4
      simp only [Int.natCast_pow] at h5
      exact ⟨h5, Int.pow_nonneg (by omega)⟩
    refine ⟨(h1.rf (by omega) hnn h2 (by unfold never; omega)).congr he, ?_⟩
    have h6 := (h2.rf (n := n) (by omega) (by omega)).congr he
    rw [Int.pow_succ]
    rw [show 2 * ((2 : Int) ^ n * 300000) = 2 ^ n * 2 * 300000 from by omega] at h6
    exact h6
end Go.Proofs.Ytoefcofplkbnkaa
