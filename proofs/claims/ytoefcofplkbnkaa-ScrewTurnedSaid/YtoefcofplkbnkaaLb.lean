/-
  The plain law of measures: what bounds say, and what truths there are.
-/
import Derived.Test.YtoefcofplkbnkaaLa
namespace Go.Proofs.Ytoefcofplkbnkaa
open ZW

theorem Sat.put_iff {p : Nat → Int} {b : BMat} {f t : Nat} {x : Int × Int} (hf : f < 8) (ht : t < 8) (hne : f ≠ t) (h1 : x.2 < never) (h2 : -x.1 < never) :
    Sat p (putP b f t x) ↔ Sat p b ∧ x.1 ≤ p t - p f ∧ p t - p f ≤ x.2 := by
  have hv : ∀ i k, putP b f t x i k = if i = t ∧ k = f then min (b t f) (-x.1) else if i = f ∧ k = t then min (b f t) x.2 else b i k := fun i k => rfl
  constructor
  · intro h
    have e1 : putP b f t x f t = min (b f t) x.2 := by rw [hv, if_neg (by omega), if_pos ⟨rfl, rfl⟩]
    have e2 : putP b f t x t f = min (b t f) (-x.1) := by rw [hv, if_pos ⟨rfl, rfl⟩]
    have h3 := h f t hf ht (by rw [e1]; omega)
    have h4 := h t f ht hf (by rw [e2]; omega)
    rw [e1] at h3
    rw [e2] at h4
    refine ⟨fun i k hi hk hb => ?_, by omega, by omega⟩
    have hle : putP b f t x i k ≤ b i k := by
      rw [hv]
      split
      · rename_i he; obtain ⟨rfl, rfl⟩ := he; omega
      · split
        · rename_i he; obtain ⟨rfl, rfl⟩ := he; omega
        · omega
    have := h i k hi hk (by omega)
    omega
  · rintro ⟨h, h3, h4⟩ i k hi hk hb
    rw [hv] at hb ⊢
    split
    · rename_i he
      obtain ⟨rfl, rfl⟩ := he
      by_cases hc : b i k < never
      · have := h i k hi hk hc; omega
      · omega
    · rename_i he0
      rw [if_neg he0] at hb
      split
      · rename_i he
        obtain ⟨rfl, rfl⟩ := he
        by_cases hc : b i k < never
        · have := h i k hi hk hc; omega
        · omega
      · rename_i he1
        rw [if_neg he1] at hb
        exact h i k hi hk hb
theorem Sat.free (p : Nat → Int) : Sat p freeP := by
  intro i k _ _ h
  unfold freeP at h ⊢
  split at h
  · rename_i he; subst he; rw [if_pos rfl]; omega
  · omega

/-- A setting is right. -/
def toldOk (p : Nat → Int) (t : Told) : Prop := if t.2.2 = true then t.2.1.1 ≤ p 1 - p (2 + t.1) ∧ p 1 - p (2 + t.1) ≤ t.2.1.2 else t.2.1.1 ≤ p (2 + t.1) - p 0 ∧ p (2 + t.1) - p 0 ≤ t.2.1.2
theorem Sat.tell_iff {p : Nat → Int} {b : BMat} {t : Told} (h : t.1 < 6 ∧ -200 ≤ t.2.1.1 ∧ t.2.1.1 ≤ t.2.1.2 ∧ t.2.1.2 ≤ 41000) : Sat p (tellP b t) ↔ Sat p b ∧ toldOk p t := by
  unfold tellP toldOk
  split
  · rw [Sat.put_iff (by omega) (by omega) (by omega) (by unfold never; omega) (by unfold never; omega)]
  · rw [Sat.put_iff (by omega) (by omega) (by omega) (by unfold never; omega) (by unfold never; omega)]
/-- What can be: p 0 is the zero of the screw, p 1 the sum, p (2 + g) where an image stands. -/
def TruthP (m : Meas) (S : Nat) (p : Nat → Int) : Prop := (m.sum.1 ≤ p 1 - p 0 ∧ p 1 - p 0 ≤ m.sum.2) ∧ ∀ i, i < m.sets.length → S.testBit i = true → toldOk p ((toldP m).getD i told0)
/-- The bounds as they are put. -/
def b0P (m : Meas) (S n : Nat) : BMat := tellsP (putP freeP 0 1 m.sum) (toldP m) S n
theorem tightB_eq (m : Meas) (S : Nat) : tightB m S = closeP (b0P m S m.sets.length) 8 := rfl
theorem Sat.b0 {m : Meas} (hM : MeasOk m) {S : Nat} {p : Nat → Int} : ∀ n, n ≤ m.sets.length → (Sat p (b0P m S n) ↔ (m.sum.1 ≤ p 1 - p 0 ∧ p 1 - p 0 ≤ m.sum.2) ∧ ∀ i, i < n → S.testBit i = true → toldOk p ((toldP m).getD i told0))
  | 0, _ => by
    have hu := hM.u
    unfold spanOk at hu
    have : Sat p (b0P m S 0) ↔ _ := Sat.put_iff (p := p) (b := freeP) (f := 0) (t := 1) (x := m.sum) (by omega) (by omega) (by omega) (by unfold never; omega) (by unfold never; omega)
    rw [this]
    constructor
    · rintro ⟨_, h⟩; exact ⟨h, fun i hi => absurd hi (by omega)⟩
    · rintro ⟨h, _⟩; exact ⟨Sat.free p, h⟩
  | n + 1, hn => by
    have ih := Sat.b0 hM (S := S) (p := p) n (by omega)
    have e : b0P m S (n + 1) = if S.testBit n then tellP (b0P m S n) ((toldP m).getD n told0) else b0P m S n := tellsP_succ _ _ _ _
    rw [e]
    by_cases hS : S.testBit n = true
    · rw [if_pos hS, Sat.tell_iff (told_bd hM (by omega)), ih]
      constructor
      · rintro ⟨⟨h1, h2⟩, h3⟩
        refine ⟨h1, fun i hi hSi => ?_⟩
        rcases Nat.lt_or_ge i n with h | h
        · exact h2 i h hSi
        · obtain rfl : i = n := by omega
          exact h3
      · rintro ⟨h1, h2⟩
        exact ⟨⟨h1, fun i hi => h2 i (by omega)⟩, h2 n (by omega) hS⟩
    · rw [if_neg hS, ih]
      constructor
      · rintro ⟨h1, h2⟩
        refine ⟨h1, fun i hi hSi => ?_⟩
        rcases Nat.lt_or_ge i n with h | h
        · exact h2 i h hSi
        · obtain rfl : i = n := by omega
          exact absurd hSi hS
      · rintro ⟨h1, h2⟩
        exact ⟨h1, fun i hi => h2 i (by omega)⟩
theorem Sat.truth {m : Meas} (hM : MeasOk m) {S : Nat} {p : Nat → Int} : Sat p (b0P m S m.sets.length) ↔ TruthP m S p := Sat.b0 hM _ (Nat.le_refl _)

/-! ### How bounds are made -/
structure Str (b : BMat) : Prop where
  diag : ∀ i, i < 8 → b i i = 0
  sym : ∀ i k, i < 8 → k < 8 → b i k < never → b k i < never
  img : ∀ i k, i < 8 → k < 8 → i ≠ k → b i k < never → i < 2 ∨ k < 2
theorem Str.put {b : BMat} (h : Str b) {f t : Nat} {x : Int × Int} (hne : f ≠ t) (h2 : f < 2 ∨ t < 2) (h3 : x.2 < never) (h4 : -x.1 < never) : Str (putP b f t x) := by
  have hv : ∀ i k, putP b f t x i k = if i = t ∧ k = f then min (b t f) (-x.1) else if i = f ∧ k = t then min (b f t) x.2 else b i k := fun i k => rfl
  refine ⟨fun i hi => ?_, fun i k hi hk hb => ?_, fun i k hi hk hik hb => ?_⟩
  · rw [hv, if_neg (by omega), if_neg (by omega)]; exact h.diag i hi
  · rw [hv] at hb ⊢
    by_cases c1 : k = t ∧ i = f
    · rw [if_pos c1]; omega
    · rw [if_neg c1]
      by_cases c2 : k = f ∧ i = t
      · rw [if_pos c2]; omega
      · rw [if_neg c2]
        rw [if_neg (by omega), if_neg (by omega)] at hb
        exact h.sym i k hi hk hb
  · rw [hv] at hb
    by_cases c1 : i = t ∧ k = f
    · omega
    · rw [if_neg c1] at hb
      by_cases c2 : i = f ∧ k = t
      · omega
      · rw [if_neg c2] at hb
        exact h.img i k hi hk hik hb
theorem Str.free : Str freeP := by
  refine ⟨fun i _ => by simp [freeP], fun i k _ _ h => ?_, fun i k _ _ hik h => ?_⟩
  · unfold freeP at h ⊢
    by_cases he : k = i
    · rw [if_pos he]; unfold never; omega
    · rw [if_neg (Ne.symm he)] at h; omega
  · unfold freeP at h
    rw [if_neg hik] at h; omega
theorem Str.tell {b : BMat} (h : Str b) {t : Told} (ht : t.1 < 6 ∧ -200 ≤ t.2.1.1 ∧ t.2.1.1 ≤ t.2.1.2 ∧ t.2.1.2 ≤ 41000) : Str (tellP b t) := by
  unfold tellP
  split
  · exact h.put (by omega) (by omega) (by unfold never; omega) (by unfold never; omega)
  · exact h.put (by omega) (by omega) (by unfold never; omega) (by unfold never; omega)
theorem Str.b0 {m : Meas} (hM : MeasOk m) (S : Nat) : ∀ n, n ≤ m.sets.length → Str (b0P m S n)
  | 0, _ => by
    have hu := hM.u
    unfold spanOk at hu
    exact Str.free.put (by omega) (by omega) (by unfold never; omega) (by unfold never; omega)
  | n + 1, hn => by
    have ih := Str.b0 hM S n (by omega)
    have e : b0P m S (n + 1) = if S.testBit n then tellP (b0P m S n) ((toldP m).getD n told0) else b0P m S n := tellsP_succ _ _ _ _
    rw [e]
    split
    · exact ih.tell (told_bd hM (by omega))
    · exact ih
theorem put_le (b : BMat) {f t : Nat} (x : Int × Int) (i k : Nat) : putP b f t x i k ≤ b i k := by
  have hv : putP b f t x i k = if i = t ∧ k = f then min (b t f) (-x.1) else if i = f ∧ k = t then min (b f t) x.2 else b i k := rfl
  rw [hv]
  split
  · rename_i he; obtain ⟨rfl, rfl⟩ := he; omega
  · split
    · rename_i he; obtain ⟨rfl, rfl⟩ := he; omega
    · omega
theorem tell_le (b : BMat) (t : Told) (i k : Nat) : tellP b t i k ≤ b i k := by
  unfold tellP; split <;> exact put_le _ _ _ _
theorem b0_le (m : Meas) (S i k : Nat) : ∀ n, b0P m S n i k ≤ b0P m S 0 i k
  | 0 => Int.le_refl _
  | n + 1 => by
    have e : b0P m S (n + 1) = if S.testBit n then tellP (b0P m S n) ((toldP m).getD n told0) else b0P m S n := tellsP_succ _ _ _ _
    have ih := b0_le m S i k n
    rw [e]
    split
    · exact Int.le_trans (tell_le _ _ _ _) ih
    · exact ih
theorem b0_mono (m : Meas) (S i k n : Nat) : ∀ d, b0P m S (n + d) i k ≤ b0P m S n i k
  | 0 => Int.le_refl _
  | d + 1 => by
    have e : b0P m S (n + d + 1) = if S.testBit (n + d) then tellP (b0P m S (n + d)) ((toldP m).getD (n + d) told0) else b0P m S (n + d) := tellsP_succ _ _ _ _
    have ih := b0_mono m S i k n d
    rw [← Nat.add_assoc, e]
    split
    · exact Int.le_trans (tell_le _ _ _ _) ih
    · exact ih

/-! ### What closed bounds say -/
theorem b0_fin {m : Meas} (hM : MeasOk m) (S : Nat) : Fin' 300000 (b0P m S m.sets.length) ∧ b0P m S m.sets.length 0 1 ≤ 131072 ∧ b0P m S m.sets.length 1 0 ≤ 0 := by
  have hu := hM.u
  unfold spanOk at hu
  have key : ∀ n, n ≤ m.sets.length → Fin' 300000 (b0P m S n) := by
    intro n
    induction n with
    | zero =>
      intro _ i k _ _ h
      have hv : b0P m S 0 i k = if i = 1 ∧ k = 0 then min (freeP 1 0) (-m.sum.1) else if i = 0 ∧ k = 1 then min (freeP 0 1) m.sum.2 else freeP i k := rfl
      rw [hv] at h ⊢
      split
      · omega
      · rename_i c1
        rw [if_neg c1] at h
        split
        · omega
        · rename_i c2
          rw [if_neg c2] at h
          unfold freeP at h ⊢
          split at h
          · rename_i c3; rw [if_pos c3]; omega
          · omega
    | succ n ih =>
      intro hn
      have ih := ih (by omega)
      have ht := told_bd hM (i := n) (by omega)
      have e : b0P m S (n + 1) = if S.testBit n then tellP (b0P m S n) ((toldP m).getD n told0) else b0P m S n := tellsP_succ _ _ _ _
      rw [e]
      split
      · unfold tellP
        have pf : ∀ (f t : Nat) (x : Int × Int), f < 8 → t < 8 → x.2 ≤ 300000 → -x.1 ≤ 300000 → Fin' 300000 (putP (b0P m S n) f t x) := by
          intro f t x hf ht h1 h2 i k hi hk h
          have hv : putP (b0P m S n) f t x i k = if i = t ∧ k = f then min (b0P m S n t f) (-x.1) else if i = f ∧ k = t then min (b0P m S n f t) x.2 else b0P m S n i k := rfl
          rw [hv] at h ⊢
          split
          · omega
          · rename_i c1
            rw [if_neg c1] at h
            split
            · omega
            · rename_i c2
              rw [if_neg c2] at h
              exact ih i k hi hk h
        split
        · exact pf _ _ _ (by omega) (by omega) (by omega) (by omega)
        · exact pf _ _ _ (by omega) (by omega) (by omega) (by omega)
      · exact ih
  have h01 : b0P m S 0 0 1 = min (freeP 0 1) m.sum.2 := rfl
  have h10 : b0P m S 0 1 0 = min (freeP 1 0) (-m.sum.1) := rfl
  have l01 := b0_le m S 0 1 m.sets.length
  have l10 := b0_le m S 1 0 m.sets.length
  exact ⟨key _ (Nat.le_refl _), by omega, by omega⟩

/-- A point is linked with the zero. -/
def Lk (b : BMat) (i : Nat) : Prop := b 0 i < never ∧ b i 0 < never

theorem cl_lk1 {m : Meas} (hM : MeasOk m) {S : Nat} (_ : diagOk (tightB m S)) : Lk (tightB m S) 1 := by
  have ⟨_, h1, h2⟩ := b0_fin hM S
  have h3 := close_le (b0P m S m.sets.length) 0 1 8
  have h4 := close_le (b0P m S m.sets.length) 1 0 8
  rw [← tightB_eq] at h3 h4
  unfold Lk never
  omega
theorem cl_tri {m : Meas} (hM : MeasOk m) {S : Nat} (hd : diagOk (tightB m S)) : Tri 8 (tightB m S) ∧ Fin' 76800000 (tightB m S) := by
  have h := close_tri (b0_fin hM S).1 hd 8 (Nat.le_refl _)
  exact ⟨h.1, by rw [tightB_eq]; simpa using h.2⟩
theorem cl_diag {m : Meas} (hM : MeasOk m) {S : Nat} (hd : diagOk (tightB m S)) {i : Nat} (hi : i < 8) : tightB m S i i = 0 := by
  have h1 := hd i hi
  have h2 := close_le (b0P m S m.sets.length) i i 8
  rw [(Str.b0 hM S _ (Nat.le_refl _)).diag i hi, ← tightB_eq] at h2
  omega
theorem cl_tr {m : Meas} (hM : MeasOk m) {S : Nat} (hd : diagOk (tightB m S)) {i j k : Nat} (hi : i < 8) (hj : j < 8) (hk : k < 8) (h1 : tightB m S i j < never) (h2 : tightB m S j k < never) : tightB m S i k ≤ tightB m S i j + tightB m S j k ∧ tightB m S i k < never := by
  have ⟨t, f⟩ := cl_tri hM hd
  have h3 := t j i k hj hj hi hk h1 h2
  have h4 := f i j hi hj h1
  have h5 := f j k hj hk h2
  exact ⟨h3, by unfold never; omega⟩
theorem cl_lk0 {m : Meas} (hM : MeasOk m) {S : Nat} (hd : diagOk (tightB m S)) : Lk (tightB m S) 0 := by
  have := cl_diag hM hd (i := 0) (by omega)
  unfold Lk never; omega
theorem cl_lk {m : Meas} (hM : MeasOk m) {S : Nat} (hd : diagOk (tightB m S)) {i k : Nat} (hi : i < 8) (hk : k < 8) (h1 : Lk (tightB m S) i) (h2 : Lk (tightB m S) k) : tightB m S i k < never := (cl_tr hM hd hi (by omega) hk h1.2 h2.1).2
/-- The truth of which a point is the root. -/
theorem cl_root {m : Meas} (hM : MeasOk m) {S : Nat} (hd : diagOk (tightB m S)) {r : Nat} (hr : r < 8) (hl : Lk (tightB m S) r) : Sat (fun k => if tightB m S r k < never then tightB m S r k else 0) (b0P m S m.sets.length) := by
  have str := Str.b0 hM S m.sets.length (Nat.le_refl _)
  intro i k hi hk hf
  have hle := close_le (b0P m S m.sets.length) i k 8
  have hle' := close_le (b0P m S m.sets.length) k i 8
  rw [← tightB_eq] at hle hle'
  have hki := str.sym i k hi hk hf
  show (if tightB m S r k < never then tightB m S r k else 0) - (if tightB m S r i < never then tightB m S r i else 0) ≤ _
  by_cases c1 : tightB m S r i < never
  · have := cl_tr hM hd hr hi hk c1 (by omega)
    rw [if_pos c1, if_pos this.2]; omega
  · by_cases c2 : tightB m S r k < never
    · have := cl_tr hM hd hr hk hi c2 (by omega)
      exact absurd this.2 c1
    · rw [if_neg c1, if_neg c2]
      by_cases hik : i = k
      · subst hik; rw [str.diag i hi]; omega
      · have h0 : tightB m S r 0 < never := hl.2
        have h1 : tightB m S r 1 < never := cl_lk hM hd hr (by omega) hl (cl_lk1 hM hd)
        rcases str.img i k hi hk hik hf with h | h
        · have : i = 0 ∨ i = 1 := by omega
          rcases this with rfl | rfl
          · exact absurd h0 c1
          · exact absurd h1 c1
        · have : k = 0 ∨ k = 1 := by omega
          rcases this with rfl | rfl
          · exact absurd h0 c2
          · exact absurd h1 c2
/-- By how much a point can be greater than another one: at most by what is told, and by that. -/
theorem cl_max {m : Meas} (hM : MeasOk m) {S : Nat} (hd : diagOk (tightB m S)) {i k : Nat} (hi : i < 8) (hk : k < 8) (h1 : Lk (tightB m S) i) (h2 : Lk (tightB m S) k) :
    (∀ p, TruthP m S p → p k - p i ≤ tightB m S i k) ∧ ∃ p, TruthP m S p ∧ p k - p i = tightB m S i k := by
  refine ⟨fun p hp => ?_, _, (Sat.truth hM).1 (cl_root hM hd hi h1), ?_⟩
  · exact (((Sat.truth hM).2 hp).close 8 (Nat.le_refl _)) i k hi hk (cl_lk hM hd hi hk h1 h2)
  · have := cl_diag hM hd hi
    show (if tightB m S i k < never then tightB m S i k else 0) - (if tightB m S i i < never then tightB m S i i else 0) = _
    rw [if_pos (cl_lk hM hd hi hk h1 h2), if_pos (by rw [this]; unfold never; omega), this]; omega
/-- Settings can all be right just if there is a truth. -/
theorem can_iff {m : Meas} (hM : MeasOk m) {S : Nat} : diagOk (tightB m S) ↔ ∃ p, TruthP m S p := by
  constructor
  · intro hd
    exact ⟨_, (Sat.truth hM).1 (cl_root hM hd (r := 0) (by omega) (cl_lk0 hM hd))⟩
  · rintro ⟨p, hp⟩ i hi
    have h1 := ((Sat.truth hM).2 hp).close 8 (Nat.le_refl _)
    have h2 := close_le (b0P m S m.sets.length) i i 8
    rw [(Str.b0 hM S _ (Nat.le_refl _)).diag i hi] at h2
    have := h1 i i hi hi (by unfold never; omega)
    rw [tightB_eq]; omega
end Go.Proofs.Ytoefcofplkbnkaa
