/-
  Plain law of watches: watches that were truly made.
-/
import Derived.Test.YtiaaidcdoenloaaTf
namespace Go.Proofs.Ytiaaidcdoenloaa
open ZW

/-- The k-th number drawn. -/
def drawI (l : List Nat) (k : Nat) (n : Int) : Int := ((l.getD (k % l.length) 0 + 31 * k : Nat) : Int) % n
theorem draw_bd (l : List Nat) (k : Nat) {n : Int} (h : 0 < n) : 0 ≤ drawI l k n ∧ drawI l k n < n := ⟨Int.emod_nonneg _ (by omega), Int.emod_lt_of_pos _ h⟩
def truV (e : Nat) (hs ps : List Int) (v : Nat) : Int := if v = 0 then 0 else if v ≤ e then hs.getD (v - 1) 0 else ps.getD (v - 1 - e) 0
theorem truV_0 (e : Nat) (hs ps : List Int) : truV e hs ps 0 = 0 := rfl
theorem truV_e {e : Nat} (hs ps : List Int) {m : Nat} (hm : m < e) : truV e hs ps (1 + m) = hs.getD m 0 := by
  unfold truV; rw [if_neg (by omega), if_pos (by omega), show 1 + m - 1 = m from by omega]
theorem truV_i (e : Nat) (hs ps : List Int) (i : Nat) : truV e hs ps (1 + e + i) = ps.getD i 0 := by
  unfold truV; rw [if_neg (by omega), if_neg (by omega), show 1 + e + i - 1 - e = i from by omega]
structure MadeW (X : Wat) (hs ps : List Int) : Prop where
  ok : WatOk X
  lh : hs.length = X.eyes.toNat
  lp : ps.length = X.images.toNat
  hb : ∀ v ∈ hs, X.habit.1 ≤ v ∧ v ≤ X.habit.2
  pb : ∀ v ∈ ps, -100000 ≤ v ∧ v ≤ 100000
  l : ∀ x ∈ X.looks, (travelP X.m x.2.2).1 ≤ ps.getD x.2.1.toNat 0 - hs.getD x.1.toNat 0 ∧ ps.getD x.2.1.toNat 0 - hs.getD x.1.toNat 0 ≤ (travelP X.m x.2.2).2
/-- What is known of a watch ahead of its looks. -/
structure BaseW (errs : List (Int × Int)) (eyeS : Int × Int) (images eyes : Int) (habit : Int × Int) (hs ps : List Int) : Prop where
  n : errs.length = 4
  e : ∀ x ∈ errs, -10 ≤ x.1 ∧ x.1 ≤ x.2 ∧ x.2 ≤ 10
  y : -6 ≤ eyeS.1 ∧ eyeS.1 ≤ 0 ∧ 0 ≤ eyeS.2 ∧ eyeS.2 ≤ 6
  i : 1 ≤ images ∧ images ≤ 4
  m : 1 ≤ eyes ∧ eyes ≤ 4
  h : -40 ≤ habit.1 ∧ habit.1 ≤ 0 ∧ 0 ≤ habit.2 ∧ habit.2 ≤ 40
  lh : hs.length = eyes.toNat
  lp : ps.length = images.toNat
  hb : ∀ v ∈ hs, habit.1 ≤ v ∧ v ≤ habit.2
  pb : ∀ v ∈ ps, 300 ≤ v ∧ v ≤ 3300
/-- A look that is truly made. -/
def goodW (X : Wat) (hs ps : List Int) (x : Int × Int × Int) : Prop := lookOk X x ∧ (travelP X.m x.2.2).1 ≤ ps.getD x.2.1.toNat 0 - hs.getD x.1.toNat 0 ∧ ps.getD x.2.1.toNat 0 - hs.getD x.1.toNat 0 ≤ (travelP X.m x.2.2).2
theorem made_of {errs : List (Int × Int)} {eyeS : Int × Int} {images eyes : Int} {habit : Int × Int} {hs ps : List Int} (h : BaseW errs eyeS images eyes habit hs ps) {l : List (Int × Int × Int)} (hl : l.length ≤ 12)
    (hg : ∀ x ∈ l, goodW ⟨errs, eyeS, images, eyes, habit, []⟩ hs ps x) : MadeW ⟨errs, eyeS, images, eyes, habit, l⟩ hs ps := by
  have hM : WatOk ⟨errs, eyeS, images, eyes, habit, l⟩ := by
    refine ⟨⟨?_, fun x hx => ?_, ?_⟩, ?_, h.m, ?_, ?_, hl, fun x hx => (hg x hx).1⟩
    · have := h.n; simp only; omega
    · have := h.e x hx; unfold spanOk; omega
    · have := h.y; unfold spanOk; simp only; omega
    · have := h.i; simp only; omega
    · have := h.h; simp only; omega
    · have := h.h; simp only; omega
  exact ⟨hM, h.lh, h.lp, h.hb, fun v hv => by have := h.pb v hv; omega, fun x hx => (hg x hx).2⟩
theorem good_of {errs : List (Int × Int)} {eyeS : Int × Int} {images eyes : Int} {habit : Int × Int} {hs ps : List Int} {ey im n t d r : Int} (hn : errs.length = 4)
    (h1 : 0 ≤ ey ∧ ey < eyes) (h2 : 0 ≤ im ∧ im < images) (ht : ps.getD im.toNat 0 - hs.getD ey.toNat 0 = t)
    (hd : 0 ≤ d ∧ d ≤ (errs.getD n.toNat (0, 0)).2 - (errs.getD n.toNat (0, 0)).1 + eyeS.2 - eyeS.1)
    (hr : r = t - ((errs.getD n.toNat (0, 0)).1 + eyeS.1 + d)) (h0 : 0 ≤ r ∧ r < 4000) (h3 : r / 1000 = n) : goodW ⟨errs, eyeS, images, eyes, habit, []⟩ hs ps (ey, im, r) := by
  refine ⟨⟨?_, ?_, ?_⟩, ?_⟩
  · unfold readOk; simp only [hn]; omega
  · simp only; omega
  · simp only; omega
  · simp only [travelP, ht, h3]
    omega
theorem MadeW.tru {X : Wat} {hs ps : List Int} (h : MadeW X hs ps) {E : Nat} (hE : ∀ m, m < X.eyes.toNat → E.testBit m = false → hs.getD m 0 = 0) : Tru X (allS X) E (truV X.eyes.toNat hs ps) := by
  refine tru_all.2 ⟨fun m hm => ?_, fun l hl => ?_⟩
  · rw [truV_0, truV_e _ _ hm]
    by_cases hb : E.testBit m = true
    · rw [habOf_bit hb]
      have := h.hb _ (getD_mem (l := hs) (i := m) (by rw [h.lh]; exact hm) 0)
      omega
    · rw [habOf_no hb, hE m hm (by simpa using hb)]
      simp
  · have h1 := h.l l hl
    have h2 := (h.ok.l l hl).2
    unfold LookQ
    rw [truV_i, truV_e _ _ (by omega)]
    exact h1
theorem MadeW.truA {X : Wat} {hs ps : List Int} (h : MadeW X hs ps) : TruA X (truV X.eyes.toNat hs ps) := h.tru fun m hm hb => by rw [allE_bit hm] at hb; cases hb
theorem MadeW.okW {X : Wat} {hs ps : List Int} (h : MadeW X hs ps) : okW X := ⟨_, h.truA⟩
theorem MadeW.hab {X : Wat} {hs ps : List Int} (h : MadeW X hs ps) {m : Nat} (hm : m < X.eyes.toNat) : (habP X m).1 ≤ hs.getD m 0 ∧ hs.getD m 0 ≤ (habP X m).2 := by
  have := (habP_span h.ok h.okW hm).all _ h.truA
  rw [truV_0, truV_e _ _ hm] at this
  omega
theorem MadeW.bet {X : Wat} {hs ps : List Int} (h : MadeW X hs ps) {m k : Nat} (hm : m < X.eyes.toNat) (hk : k < X.eyes.toNat) : (betP X m k).1 ≤ hs.getD k 0 - hs.getD m 0 ∧ hs.getD k 0 - hs.getD m 0 ≤ (betP X m k).2 := by
  have := (betP_span h.ok h.okW hm hk).all _ h.truA
  rw [truV_e _ _ hm, truV_e _ _ hk] at this
  exact this
theorem MadeW.pla {X : Wat} {hs ps : List Int} (h : MadeW X hs ps) {i : Nat} (hi : seenI X i) : (plaP X i).1 ≤ ps.getD i 0 ∧ ps.getD i 0 ≤ (plaP X i).2 := by
  have := (plaP_span h.ok h.okW hi).all _ h.truA
  rw [truV_0, truV_i] at this
  omega
theorem MadeW.sure {X : Wat} {hs ps : List Int} (h : MadeW X hs ps) {m : Nat} (hm : m < X.eyes.toNat) (h0 : hs.getD m 0 = 0) : (sureN X).testBit m = false := by
  cases hb : (sureN X).testBit m with
  | false => rfl
  | true =>
    have := h.hab hm
    exact absurd (by omega) ((sureN_bit hm).1 hb)
/-- Who truly has a habit, and how many. -/
def nzN (hs : List Int) (k : Nat) : Nat := (List.range k).foldl (fun s i => if ¬ hs.getD i 0 = 0 then s ||| 2 ^ i else s) 0
def nzC (hs : List Int) (k : Nat) : Nat := (List.range k).foldl (fun s i => if ¬ hs.getD i 0 = 0 then s + 1 else s) 0
theorem nzN_succ (hs : List Int) (k : Nat) : nzN hs (k + 1) = if ¬ hs.getD k 0 = 0 then nzN hs k ||| 2 ^ k else nzN hs k := range_foldl_succ _ _ _
theorem nzC_succ (hs : List Int) (k : Nat) : nzC hs (k + 1) = if ¬ hs.getD k 0 = 0 then nzC hs k + 1 else nzC hs k := range_foldl_succ _ _ _
theorem nzC_le (hs : List Int) : ∀ k, nzC hs k ≤ k
  | 0 => Nat.le_refl _
  | k + 1 => by have := nzC_le hs k; rw [nzC_succ]; split <;> omega
theorem nz_pop (hs : List Int) : ∀ k, k ≤ 13 → popc (nzN hs k) ≤ nzC hs k
  | 0, _ => by show popc 0 ≤ 0; decide
  | k + 1, hk => by
    have ih := nz_pop hs k (by omega)
    have h2 := popc_pow k (by omega)
    rw [nzN_succ, nzC_succ]
    split
    · have h1 := popF_or 13 (nzN hs k) (2 ^ k)
      unfold popc at ih h2 ⊢
      omega
    · exact ih
theorem nzN_lt (hs : List Int) : ∀ k, nzN hs k < 2 ^ k
  | 0 => by simp [nzN]
  | k + 1 => by
    have ih := nzN_lt hs k
    have hp := Nat.two_pow_pos k
    rw [nzN_succ]
    split
    · exact Nat.or_lt_two_pow (by rw [Nat.pow_succ]; omega) (by rw [Nat.pow_succ]; omega)
    · rw [Nat.pow_succ]; omega
theorem nzN_bit (hs : List Int) (j : Nat) : ∀ k, j < k → (nzN hs k).testBit j = false → hs.getD j 0 = 0
  | 0, h, _ => by omega
  | k + 1, h, hb => by
    rw [nzN_succ] at hb
    split at hb
    · rw [Nat.testBit_or, Bool.or_eq_false_iff, Nat.testBit_two_pow, decide_eq_false_iff_not] at hb
      exact nzN_bit hs j k (by omega) hb.1
    · rename_i hc
      rcases Nat.lt_or_ge j k with h1 | h1
      · exact nzN_bit hs j k h1 hb
      · obtain rfl : j = k := by omega
        simpa using hc
theorem MadeW.expl {X : Wat} {hs ps : List Int} (h : MadeW X hs ps) : popc (explN X) ≤ nzC hs X.eyes.toNat := by
  have f := expl_facts h.ok h.okW
  have hE := h.ok.e
  have hlt := nzN_lt hs X.eyes.toNat
  have hle : nzN hs X.eyes.toNat ≤ allE X := by unfold allE; omega
  have h1 := f.min _ hle ⟨_, h.tru fun m hm hb => nzN_bit hs m _ hm hb⟩
  have h2 := nz_pop hs X.eyes.toNat (by omega)
  omega
theorem MadeW.lookT {X : Wat} {hs ps : List Int} (h : MadeW X hs ps) {i : Nat} (hi : i < X.looks.length) : (trv X i).1 ≤ ps.getD (lkAt X i).2.1.toNat 0 - hs.getD (lkAt X i).1.toNat 0 ∧ ps.getD (lkAt X i).2.1.toNat 0 - hs.getD (lkAt X i).1.toNat 0 ≤ (trv X i).2 := h.l _ (lkAt_mem hi)
end Go.Proofs.Ytiaaidcdoenloaa
