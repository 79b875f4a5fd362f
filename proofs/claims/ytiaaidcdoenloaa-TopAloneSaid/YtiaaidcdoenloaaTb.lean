/-
  Plain law of watches: sets of looks and of measurers.
-/
import Derived.Test.YtiaaidcdoenloaaTa
namespace Go.Proofs.Ytiaaidcdoenloaa
open ZW

/-! ### Sets -/
theorem bits_le {a b : Nat} (h : ∀ i, a.testBit i = true → b.testBit i = true) : a ≤ b := by
  have : a = a &&& b := by
    refine Nat.eq_of_testBit_eq fun i => ?_
    rw [Nat.testBit_and]
    cases ha : a.testBit i
    · rfl
    · rw [h i ha]; rfl
  rw [this]; exact Nat.and_le_right
theorem popF_sub : ∀ (f a b : Nat), (∀ i, a.testBit i = true → b.testBit i = true) → popF f a ≤ popF f b
  | 0, _, _, _ => Nat.le_refl _
  | f + 1, a, b, h => by
    have ih := popF_sub f (a / 2) (b / 2) fun i hi => by
      have := h (i + 1)
      rw [Nat.testBit_succ, Nat.testBit_succ] at this
      exact this hi
    have h0 := h 0
    rw [Nat.testBit_zero, Nat.testBit_zero] at h0
    simp only [decide_eq_true_eq] at h0
    simp only [popF]
    have := Nat.mod_two_eq_zero_or_one a
    have := Nat.mod_two_eq_zero_or_one b
    omega
theorem popF_or : ∀ (f a b : Nat), popF f (a ||| b) ≤ popF f a + popF f b
  | 0, _, _ => Nat.le_refl _
  | f + 1, a, b => by
    have ih := popF_or f (a / 2) (b / 2)
    have h0 : ((a ||| b) % 2 = 1) ↔ (a % 2 = 1 ∨ b % 2 = 1) := by
      have := Nat.testBit_or a b 0
      rw [Nat.testBit_zero, Nat.testBit_zero, Nat.testBit_zero] at this
      constructor
      · intro h; rw [decide_eq_true h] at this
        have := this.symm
        simpa using this
      · intro h
        have h2 : (decide (a % 2 = 1) || decide (b % 2 = 1)) = true := by simpa using h
        rw [h2] at this; exact of_decide_eq_true this
    simp only [popF, Nat.or_div_two]
    have := Nat.mod_two_eq_zero_or_one a
    have := Nat.mod_two_eq_zero_or_one b
    have := Nat.mod_two_eq_zero_or_one (a ||| b)
    omega
theorem popc_pow : ∀ i, i < 13 → popc (2 ^ i) = 1 := of_decide_eq_true (by kernel_rfl)
theorem less_bit (a b i : Nat) : (less a b).testBit i = (a.testBit i && !b.testBit i) := by
  unfold less
  rw [Nat.testBit_xor, Nat.testBit_and]
  cases a.testBit i <;> cases b.testBit i <;> rfl
theorem less_full_self (a : Nat) : less a a = 0 := Nat.eq_of_testBit_eq fun i => by rw [less_bit]; simp
theorem less_pow {a i : Nat} (h : a.testBit i = true) : less a (2 ^ i) < a ∧ popc (less a (2 ^ i)) ≤ popc a := by
  have hs : ∀ j, (less a (2 ^ i)).testBit j = true → a.testBit j = true := fun j hj => by
    rw [less_bit] at hj; simp at hj; exact hj.1
  have h1 := bits_le hs
  have h2 : less a (2 ^ i) ≠ a := fun he => by
    have := less_bit a (2 ^ i) i
    rw [he, h, Nat.testBit_two_pow] at this
    simp at this
  exact ⟨by omega, popF_sub 13 _ _ hs⟩
theorem popF_zero : ∀ f, popF f 0 = 0
  | 0 => rfl
  | f + 1 => by simp [popF, popF_zero f]
theorem popc_zero : popc 0 = 0 := popF_zero 13
theorem popc_lt {a : Nat} (ha : a < 8192) {i : Nat} (h : a.testBit i = true) : popc (less a (2 ^ i)) < popc a := by
  have h0 : ∀ (f a i : Nat), i < f → a.testBit i = true → popF f (less a (2 ^ i)) < popF f a := fun f => by
    induction f with
    | zero => intro a i h; omega
    | succ f ih =>
      intro a i hi hb
      have hd : less a (2 ^ i) / 2 = less (a / 2) (2 ^ i / 2) := Nat.eq_of_testBit_eq fun j => by
        rw [← Nat.testBit_succ, less_bit, less_bit, Nat.testBit_succ, Nat.testBit_succ]
      have hm : less a (2 ^ i) % 2 = if i = 0 then 0 else a % 2 := by
        have h1 := less_bit a (2 ^ i) 0
        rw [Nat.testBit_zero, Nat.testBit_zero, Nat.testBit_two_pow] at h1
        by_cases hz : i = 0
        · subst hz
          rw [if_pos rfl]
          simp at h1; omega
        · rw [if_neg hz]
          rw [decide_eq_false hz] at h1
          simp at h1; omega
      simp only [popF, hd, hm]
      cases i with
      | zero =>
        rw [if_pos rfl]
        have h2 : a % 2 = 1 := by rw [Nat.testBit_zero] at hb; simpa using hb
        have h3 : less (a / 2) (2 ^ 0 / 2) = a / 2 := Nat.eq_of_testBit_eq fun j => by rw [less_bit]; simp
        rw [h3]; omega
      | succ i =>
        rw [if_neg (by omega)]
        have h3 : 2 ^ (i + 1) / 2 = 2 ^ i := by rw [Nat.pow_succ]; omega
        rw [h3]
        have := ih (a / 2) i (by omega) (by rw [← Nat.testBit_succ]; exact hb)
        omega
  refine h0 13 a i ?_ h
  rcases Nat.lt_or_ge i 13 with h1 | h1
  · exact h1
  · have : 2 ^ 13 ≤ 2 ^ i := Nat.pow_le_pow_right (by omega) h1
    have := Nat.ge_two_pow_of_testBit h
    omega
theorem popc_0 {a : Nat} (ha : a < 8192) (h : popc a = 0) : a = 0 := by
  rcases Nat.eq_zero_or_pos a with h0 | h0
  · exact h0
  · obtain ⟨i, hi⟩ := Nat.exists_testBit_of_ne_zero (x := a) (by omega)
    have := popc_lt ha hi
    omega
theorem allS_le {X : Wat} {s : Nat} (h : ∀ i, s.testBit i = true → i < X.looks.length) : s ≤ allS X := bits_le fun i hi => allS_bit (h i hi)
theorem allE_le {X : Wat} {s : Nat} (h : ∀ i, s.testBit i = true → i < X.eyes.toNat) : s ≤ allE X := bits_le fun i hi => allE_bit (h i hi)
theorem bit_of_lt {s n i : Nat} (h : s < 2 ^ n) (hb : s.testBit i = true) : i < n := by
  rcases Nat.lt_or_ge i n with h1 | h1
  · exact h1
  · have := Nat.pow_le_pow_right (n := 2) (by omega) h1
    have := Nat.ge_two_pow_of_testBit hb
    omega
theorem allS_in {X : Wat} {s i : Nat} (h : s ≤ allS X) (hb : s.testBit i = true) : i < X.looks.length := bit_of_lt (by unfold allS at h; have := Nat.two_pow_pos X.looks.length; omega) hb
theorem allE_in {X : Wat} {s i : Nat} (h : s ≤ allE X) (hb : s.testBit i = true) : i < X.eyes.toNat := bit_of_lt (by unfold allE at h; have := Nat.two_pow_pos X.eyes.toNat; omega) hb

/-! ### Truths of fewer looks, of more measurers with habits -/
theorem habOf_bit {X : Wat} {E m : Nat} (h : E.testBit m = true) : habOf X E m = X.habit := if_pos h
theorem habOf_no {X : Wat} {E m : Nat} (h : ¬ E.testBit m = true) : habOf X E m = (0, 0) := if_neg h
theorem habOf_in {X : Wat} (hM : WatOk X) (E F m : Nat) (h : E.testBit m = true → F.testBit m = true) : (habOf X F m).1 ≤ (habOf X E m).1 ∧ (habOf X E m).2 ≤ (habOf X F m).2 := by
  by_cases hE : E.testBit m = true
  · rw [habOf_bit hE, habOf_bit (h hE)]; omega
  · rw [habOf_no hE]
    have := habOf_bd hM F m
    simp only; omega
theorem Tru.mono {X : Wat} (hM : WatOk X) {S S' E E' : Nat} {q : Nat → Int} (h : Tru X S E q) (hS : ∀ i, i < X.looks.length → S'.testBit i = true → S.testBit i = true) (hE : ∀ m, m < X.eyes.toNat → E.testBit m = true → E'.testBit m = true) : Tru X S' E' q :=
  ⟨fun m hm => by have := h.h m hm; have := habOf_in hM E E' m (hE m hm); omega, fun i hi hb => h.l i hi (hS i hi hb)⟩
theorem Tru.all {X : Wat} (hM : WatOk X) {S E : Nat} {q : Nat → Int} (h : Tru X S E q) : Tru X S (allE X) q := h.mono hM (fun _ _ h => h) fun _ hm _ => allE_bit hm
theorem Tru.none {X : Wat} (hM : WatOk X) (E : Nat) : Tru X 0 E fun _ => 0 := ⟨fun m _ => by have := habOf_bd hM E m; omega, fun i _ hb => by simp at hb⟩

/-! ### Clash, Drop, Explain -/
def clashN (X : Wat) : Nat := if canB X (allS X) (allE X) = true then 0 else (bestS (clashS X) (allS X + 1)).getD 0
def dropN (X : Wat) : Nat := (bestS (dropS X) (allS X + 1)).getD 0
def explN (X : Wat) : Nat := (bestS (explS X) (allE X + 1)).getD 0
theorem clashE_N {X : Wat} (hM : WatOk X) : clashE X = (((clashN X : Nat) : Int), 0) := by
  unfold clashE clashN
  rw [if_neg (not_not_intro hM)]
  split <;> rfl
theorem dropE_N {X : Wat} (hM : WatOk X) : dropE X = (((dropN X : Nat) : Int), 0) := by
  unfold dropE dropN
  rw [if_neg (not_not_intro hM)]
theorem explE_N {X : Wat} (hM : WatOk X) (ho : okW X) : explE X = (((explN X : Nat) : Int), 0) := by
  unfold explE explN
  rw [if_neg (not_not_intro hM), if_neg (not_not_intro ((okW_can hM).2 ho))]
theorem explE_clash {X : Wat} (hM : WatOk X) (ho : ¬ okW X) : explE X = (0, 10) := by
  unfold explE
  rw [if_neg (not_not_intro hM), if_pos fun h => ho ((okW_can hM).1 h)]
theorem explE_code {X : Wat} (hM : WatOk X) : (explE X).2 = codeW X := by
  by_cases ho : okW X
  · rw [codeW_ok hM ho, explE_N hM ho]
  · rw [codeW_clash hM ho, explE_clash hM ho]
/-- The first set of which something is so, where there is one. -/
theorem best_is {stop : Nat → Bool} {F s : Nat} (hs : s ≤ F) (h : stop s = true) : (bestS stop (F + 1)).getD 0 ≤ F ∧ stop ((bestS stop (F + 1)).getD 0) = true ∧ ∀ t, t ≤ F → stop t = true → popc ((bestS stop (F + 1)).getD 0) < popc t ∨ popc ((bestS stop (F + 1)).getD 0) = popc t ∧ (bestS stop (F + 1)).getD 0 ≤ t := by
  have hb := bestS_spec stop (F + 1)
  cases hc : bestS stop (F + 1) with
  | none => rw [hc] at hb; have := hb s (by omega); rw [h] at this; cases this
  | some b =>
    rw [hc] at hb
    obtain ⟨h1, h2, h3⟩ := hb
    exact ⟨by simp only [Option.getD_some]; omega, h2, fun t ht hst => h3 t (by omega) hst⟩
/-- Can the looks of a set be right? -/
abbrev canQ (X : Wat) (S : Nat) : Prop := ∃ q, Tru X S (allE X) q
structure SetF (X : Wat) : Prop where
  cle : clashN X ≤ allS X
  c0 : okW X ↔ clashN X = 0
  cbad : ¬ okW X → ¬ canQ X (clashN X)
  cmin : ∀ s, s ≤ allS X → ¬ canQ X s → popc (clashN X) < popc s ∨ popc (clashN X) = popc s ∧ clashN X ≤ s
  dle : dropN X ≤ allS X
  d0 : okW X ↔ dropN X = 0
  dcan : canQ X (less (allS X) (dropN X))
  dmin : ∀ s, s ≤ allS X → canQ X (less (allS X) s) → popc (dropN X) < popc s ∨ popc (dropN X) = popc s ∧ dropN X ≤ s
theorem clashS_iff {X : Wat} (hM : WatOk X) (s : Nat) : clashS X s = true ↔ ¬ canQ X s := by
  unfold clashS canQ
  rw [← can_tru hM]; simp
theorem dropS_iff {X : Wat} (hM : WatOk X) (s : Nat) : dropS X s = true ↔ canQ X (less (allS X) s) := can_tru hM _ _
theorem explS_iff {X : Wat} (hM : WatOk X) (s : Nat) : explS X s = true ↔ ∃ q, Tru X (allS X) s q := can_tru hM _ _
theorem canQ_mono {X : Wat} (hM : WatOk X) {S S' : Nat} (h : canQ X S) (hS : ∀ i, i < X.looks.length → S'.testBit i = true → S.testBit i = true) : canQ X S' := by
  obtain ⟨q, hq⟩ := h
  exact ⟨q, hq.mono hM hS fun _ _ h => h⟩
theorem okW_any {X : Wat} (hM : WatOk X) (h : okW X) (S : Nat) : canQ X S := canQ_mono hM h fun _ hi _ => allS_bit hi
theorem less_0 (a : Nat) : less a 0 = a := Nat.eq_of_testBit_eq fun i => by rw [less_bit]; simp
theorem set_facts {X : Wat} (hM : WatOk X) : SetF X := by
  have hd := best_is (stop := dropS X) (F := allS X) (Nat.le_refl _) ((dropS_iff hM _).2 (by rw [less_full_self]; exact ⟨_, Tru.none hM _⟩))
  have hlt := allS_lt hM
  have d0 : okW X ↔ dropN X = 0 := by
    constructor
    · intro h
      have h1 := hd.2.2 0 (Nat.zero_le _) ((dropS_iff hM _).2 (by rw [less_0]; exact h))
      rw [popc_zero] at h1
      have : popc (dropN X) = 0 := by unfold dropN; omega
      exact popc_0 (by have := hd.1; unfold dropN; omega) this
    · intro h
      have h1 := (dropS_iff hM _).1 hd.2.1
      have h : (bestS (dropS X) (allS X + 1)).getD 0 = 0 := h
      rw [h, less_0] at h1; exact h1
  have hdr : dropN X ≤ allS X ∧ canQ X (less (allS X) (dropN X)) ∧ ∀ s, s ≤ allS X → canQ X (less (allS X) s) → popc (dropN X) < popc s ∨ popc (dropN X) = popc s ∧ dropN X ≤ s :=
    ⟨hd.1, (dropS_iff hM _).1 hd.2.1, fun s hs hc => hd.2.2 s hs ((dropS_iff hM _).2 hc)⟩
  by_cases ho : okW X
  · have e : clashN X = 0 := if_pos ((okW_can hM).2 ho)
    exact ⟨by omega, by simp [e, ho], fun h => absurd ho h, fun s _ hc => absurd (okW_any hM ho s) hc, hdr.1, d0, hdr.2.1, hdr.2.2⟩
  · have e : clashN X = (bestS (clashS X) (allS X + 1)).getD 0 := if_neg fun h => ho ((okW_can hM).1 h)
    have hc := best_is (stop := clashS X) (F := allS X) (Nat.le_refl _) ((clashS_iff hM _).2 ho)
    rw [← e] at hc
    have hb := (clashS_iff hM _).1 hc.2.1
    refine ⟨hc.1, ⟨fun h => absurd h ho, fun h => ?_⟩, fun _ => hb, fun s hs hn => hc.2.2 s hs ((clashS_iff hM _).2 hn), hdr.1, d0, hdr.2.1, hdr.2.2⟩
    rw [h] at hb
    exact absurd ⟨_, Tru.none hM _⟩ hb
structure ExplF (X : Wat) : Prop where
  le : explN X ≤ allE X
  can : ∃ q, Tru X (allS X) (explN X) q
  min : ∀ s, s ≤ allE X → (∃ q, Tru X (allS X) s q) → popc (explN X) < popc s ∨ popc (explN X) = popc s ∧ explN X ≤ s
theorem expl_facts {X : Wat} (hM : WatOk X) (ho : okW X) : ExplF X := by
  have h := best_is (stop := explS X) (F := allE X) (Nat.le_refl _) ((explS_iff hM _).2 ho)
  exact ⟨h.1, (explS_iff hM _).1 h.2.1, fun s hs hc => h.2.2 s hs ((explS_iff hM _).2 hc)⟩
/-- Whoever surely has a habit is needed. -/
theorem sure_expl {X : Wat} (hM : WatOk X) (ho : okW X) {m : Nat} (h : (sureN X).testBit m = true) {s : Nat} (hs : ∃ q, Tru X (allS X) s q) : s.testBit m = true := by
  have hm : m < X.eyes.toNat := bit_of_lt (sureN_lt X) h
  rw [sureN_bit hm] at h
  obtain ⟨q, hq⟩ := hs
  by_cases hb : s.testBit m = true
  · exact hb
  · have h1 := hq.h m hm
    rw [habOf_no hb] at h1
    have h2 := (habP_span hM ho hm).all q (hq.all hM)
    simp only at h1 h2
    exact absurd (by omega) h
end Go.Proofs.Ytiaaidcdoenloaa
