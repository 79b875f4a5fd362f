/-
  Plain law of watches: truths; what spans tell of them.
-/
import Derived.Test.YtiaaidcdoenloaaQh
namespace Go.Proofs.Ytiaaidcdoenloaa
open ZW

abbrev lkAt (X : Wat) (i : Nat) : Int × Int × Int := X.looks.getD i look0
theorem lk_eye {X : Wat} (hM : WatOk X) {i : Nat} (hi : i < X.looks.length) : (lkAt X i).1.toNat < X.eyes.toNat := look_eye hM hi
/-- The numbers of a look's measurer, and of its image. -/
def eyN (X : Wat) (i : Nat) : Nat := 1 + (lkAt X i).1.toNat
def plN (X : Wat) (i : Nat) : Nat := 1 + X.eyes.toNat + (lkAt X i).2.1.toNat
def trv (X : Wat) (i : Nat) : Int × Int := travelP X.m (lkAt X i).2.2
/-- A truth: the looks of a set are right, and the measurers of another one have habits. -/
structure Tru (X : Wat) (S E : Nat) (q : Nat → Int) : Prop where
  h : ∀ m, m < X.eyes.toNat → (habOf X E m).1 ≤ q (1 + m) - q 0 ∧ q (1 + m) - q 0 ≤ (habOf X E m).2
  l : ∀ i, i < X.looks.length → S.testBit i = true → (trv X i).1 ≤ q (plN X i) - q (eyN X i) ∧ q (plN X i) - q (eyN X i) ≤ (trv X i).2
theorem tie_pot {i k : Nat} {s : Int × Int} {q : Nat → Int} : (∀ x ∈ tieP i k s, q x.2.1 - q x.1 ≤ x.2.2) ↔ s.1 ≤ q k - q i ∧ q k - q i ≤ s.2 := by
  constructor
  · intro h
    have h1 := h (i, k, s.2) (by simp [tieP])
    have h2 := h (k, i, -s.1) (by simp [tieP])
    simp only at h1 h2
    omega
  · rintro ⟨h1, h2⟩ x hx
    rcases tieP_mem hx with rfl | rfl <;> simp only <;> omega
theorem pot_tru {X : Wat} {S E : Nat} {q : Nat → Int} : Pot (linksP X S E) q ↔ Tru X S E q := by
  constructor
  · intro h
    refine ⟨fun m hm => tie_pot.1 fun x hx => h x (List.mem_append_left _ (habs_mem.2 ⟨m, hm, hx⟩)), fun i hi hS => ?_⟩
    have h1 := (tie_pot (i := 1 + (X.looks.getD i look0).1.toNat) (k := 1 + X.eyes.toNat + (X.looks.getD i look0).2.1.toNat) (s := (travs X).getD i (0, 0)) (q := q)).1 fun x hx => h x (List.mem_append_right _ (loks_mem.2 ⟨i, hi, hS, hx⟩))
    rw [travs_get X hi] at h1
    exact h1
  · intro h x hx
    rcases List.mem_append.1 hx with hx | hx
    · obtain ⟨m, hm, hx⟩ := habs_mem.1 hx
      exact tie_pot.2 (h.h m hm) x hx
    · obtain ⟨i, hi, hS, hx⟩ := loks_mem.1 hx
      have h1 := h.l i hi hS
      unfold lookLnk at hx
      rw [travs_get X hi] at hx
      exact tie_pot.2 h1 x hx
theorem can_tru {X : Wat} (hM : WatOk X) (S E : Nat) : canB X S E = true ↔ ∃ q, Tru X S E q := by
  rw [can_pot hM]
  exact ⟨fun ⟨q, h⟩ => ⟨q, pot_tru.1 h⟩, fun ⟨q, h⟩ => ⟨q, pot_tru.2 h⟩⟩
/-- What looks tie together. -/
def Con (X : Wat) (S : Nat) (v : Nat) : Prop := v ≤ X.eyes.toNat ∨ ∃ i, i < X.looks.length ∧ S.testBit i = true ∧ v = plN X i
theorem con_zero (X : Wat) (S : Nat) : Con X S 0 := .inl (Nat.zero_le _)
theorem con_hab {X : Wat} {S m : Nat} (h : m < X.eyes.toNat) : Con X S (1 + m) := .inl (by omega)
theorem con_ends {X : Wat} (hM : WatOk X) {S E : Nat} {x : Lnk} (hx : x ∈ linksP X S E) : Con X S x.1 ∧ Con X S x.2.1 := by
  rcases List.mem_append.1 hx with hx | hx
  · obtain ⟨m, hm, hx⟩ := habs_mem.1 hx
    rcases tieP_mem hx with rfl | rfl
    · exact ⟨con_zero X S, con_hab hm⟩
    · exact ⟨con_hab hm, con_zero X S⟩
  · obtain ⟨i, hi, hS, hx⟩ := loks_mem.1 hx
    have he := look_eye hM hi
    have hp : Con X S (plN X i) := .inr ⟨i, hi, hS, rfl⟩
    rcases tieP_mem hx with rfl | rfl
    · exact ⟨con_hab he, hp⟩
    · exact ⟨hp, con_hab he⟩
theorem best_hop {s : Nat} {l : List Lnk} {m : DMap} (h : Best s l m) {i k : Nat} {d : Int} (hx : (i, k, d) ∈ l) (hi : (m i).isSome = true) : (m k).isSome = true := by
  obtain ⟨a, ha⟩ := Option.isSome_iff_exists.1 hi
  obtain ⟨b, hb, _⟩ := h.still _ hx a ha
  simp only at hb
  rw [hb]; rfl
theorem best_all {X : Wat} (hM : WatOk X) {S E s : Nat} {m : DMap} (h : Best s (linksP X S E) m) (hs : Con X S s) {v : Nat} (hv : Con X S v) : (m v).isSome = true := by
  have hS : (m s).isSome = true := by obtain ⟨d, hd, _⟩ := h.own; rw [hd]; rfl
  have hab : ∀ j, j < X.eyes.toNat → (0, 1 + j, (habOf X E j).2) ∈ linksP X S E ∧ (1 + j, 0, -(habOf X E j).1) ∈ linksP X S E := fun j hj =>
    ⟨List.mem_append_left _ (habs_mem.2 ⟨j, hj, by simp [tieP]⟩), List.mem_append_left _ (habs_mem.2 ⟨j, hj, by simp [tieP]⟩)⟩
  have lok : ∀ i, i < X.looks.length → S.testBit i = true → (eyN X i, plN X i, ((travs X).getD i (0, 0)).2) ∈ linksP X S E ∧ (plN X i, eyN X i, -((travs X).getD i (0, 0)).1) ∈ linksP X S E := fun i hi hb =>
    ⟨List.mem_append_right _ (loks_mem.2 ⟨i, hi, hb, by unfold lookLnk; simp [tieP, eyN, plN]⟩), List.mem_append_right _ (loks_mem.2 ⟨i, hi, hb, by unfold lookLnk; simp [tieP, eyN, plN]⟩)⟩
  have h1 : ∀ j, j < X.eyes.toNat → (m (1 + j)).isSome = true → (m 0).isSome = true := fun j hj hc => best_hop h (hab j hj).2 hc
  have h0 : (m 0).isSome = true := by
    rcases hs with hs | ⟨i, hi, hb, rfl⟩
    · rcases Nat.eq_zero_or_pos s with rfl | hp
      · exact hS
      · exact h1 (s - 1) (by omega) (by rw [show 1 + (s - 1) = s from by omega]; exact hS)
    · exact h1 _ (look_eye hM hi) (best_hop h (lok i hi hb).2 hS)
  have h2 : ∀ j, j < X.eyes.toNat → (m (1 + j)).isSome = true := fun j hj => best_hop h (hab j hj).1 h0
  rcases hv with hv | ⟨i, hi, hb, rfl⟩
  · rcases Nat.eq_zero_or_pos v with rfl | hp
    · exact h0
    · have := h2 (v - 1) (by omega)
      rwa [show 1 + (v - 1) = v from by omega] at this
  · exact best_hop h (lok i hi hb).1 (h2 _ (look_eye hM hi))
theorem ch_con {X : Wat} (hM : WatOk X) {S E : Nat} : ∀ {r : List Lnk} {u v : Nat}, Ch (linksP X S E) u r v → Con X S u → Con X S v
  | [], u, v, h, hu => by cases h; exact hu
  | x :: r, u, v, ⟨h1, h2, h3⟩, hu => ch_con hM h3 (con_ends hM h1).2
theorem best_none {X : Wat} (hM : WatOk X) {S E s : Nat} {m : DMap} (h : Best s (linksP X S E) m) (hs : Con X S s) {v : Nat} (hv : ¬ Con X S v) : m v = none := by
  cases hm : m v with
  | none => rfl
  | some d =>
    obtain ⟨r, hr, _⟩ := h.real v d hm
    exact absurd (ch_con hM hr hs) hv

/-! ### Spans -/
/-- A span is what truths say of something, and no more. -/
structure SpanQ (X : Wat) (S E : Nat) (f : (Nat → Int) → Int) (s : Int × Int) : Prop where
  all : ∀ q, Tru X S E q → s.1 ≤ f q ∧ f q ≤ s.2
  lo : ∃ q, Tru X S E q ∧ f q = s.1
  hi : ∃ q, Tru X S E q ∧ f q = s.2
theorem SpanQ.unique {X : Wat} {S E : Nat} {f : (Nat → Int) → Int} {s t : Int × Int} (h : SpanQ X S E f s) (k : SpanQ X S E f t) : s = t := by
  obtain ⟨q1, t1, e1⟩ := h.lo
  obtain ⟨q2, t2, e2⟩ := h.hi
  obtain ⟨q3, t3, e3⟩ := k.lo
  obtain ⟨q4, t4, e4⟩ := k.hi
  have a1 := k.all q1 t1
  have a2 := k.all q2 t2
  have a3 := h.all q3 t3
  have a4 := h.all q4 t4
  exact Prod.ext (by omega) (by omega)
theorem SpanQ.le {X : Wat} {S E : Nat} {f : (Nat → Int) → Int} {s : Int × Int} (h : SpanQ X S E f s) : s.1 ≤ s.2 := by
  obtain ⟨q, t, e⟩ := h.lo
  have := h.all q t
  omega
theorem SpanQ.neg {X : Wat} {S E : Nat} {f : (Nat → Int) → Int} {s : Int × Int} (h : SpanQ X S E f s) : SpanQ X S E (fun q => -(f q)) (-s.2, -s.1) := by
  obtain ⟨q1, t1, e1⟩ := h.lo
  obtain ⟨q2, t2, e2⟩ := h.hi
  exact ⟨fun q t => by have := h.all q t; simp only; omega, ⟨q2, t2, by simp only; omega⟩, ⟨q1, t1, by simp only; omega⟩⟩
theorem SpanQ.congr {X : Wat} {S E : Nat} {f g : (Nat → Int) → Int} {s : Int × Int} (h : SpanQ X S E f s) (hg : ∀ q, g q = f q) : SpanQ X S E g s := by
  rw [show g = f from funext hg]; exact h
/-- Fewer truths tell no less exactly. -/
theorem SpanQ.inside {X X' : Wat} {S E S' E' : Nat} {f g : (Nat → Int) → Int} {s t : Int × Int} (h : SpanQ X S E f s) (k : SpanQ X' S' E' g t) (hq : ∀ q, Tru X' S' E' q → ∃ r, Tru X S E r ∧ f r = g q) : s.1 ≤ t.1 ∧ t.2 ≤ s.2 := by
  obtain ⟨q1, t1, e1⟩ := k.lo
  obtain ⟨q2, t2, e2⟩ := k.hi
  obtain ⟨r1, u1, w1⟩ := hq q1 t1
  obtain ⟨r2, u2, w2⟩ := hq q2 t2
  have := h.all r1 u1
  have := h.all r2 u2
  omega
theorem far_span {X : Wat} (hM : WatOk X) {S E i : Nat} {m : DMap} (h : farP i (linksP X S E) = some m) (hi : Con X S i) {k : Nat} (hk : Con X S k) {q0 : Nat → Int} (h0 : Tru X S E q0) :
    ∃ d, m k = some d ∧ (∀ q, Tru X S E q → q k - q i ≤ d) ∧ ∃ q, Tru X S E q ∧ q k - q i = d := by
  have hb := far_known h
  obtain ⟨d, hd⟩ := Option.isSome_iff_exists.1 (best_all hM hb hi hk)
  refine ⟨d, hd, fun q hq => hb.le (pot_tru.2 hq) hd, _, pot_tru.1 (hb.pot fun x hx => Option.isSome_iff_exists.1 (best_all hM hb hi (con_ends hM hx).1)), ?_⟩
  simp only [hd, hb.zero (pot_tru.2 h0), Option.getD_some]
  omega
/-- All looks are right, all measurers have habits. -/
abbrev TruA (X : Wat) (q : Nat → Int) : Prop := Tru X (allS X) (allE X) q
abbrev SpanA (X : Wat) (i k : Nat) (s : Int × Int) : Prop := SpanQ X (allS X) (allE X) (fun q => q k - q i) s
abbrev ConA (X : Wat) (v : Nat) : Prop := Con X (allS X) v
/-- There is a truth. -/
def okW (X : Wat) : Prop := ∃ q, TruA X q
theorem okW_can {X : Wat} (hM : WatOk X) : canB X (allS X) (allE X) = true ↔ okW X := can_tru hM _ _
theorem betw_span {X : Wat} (hM : WatOk X) (ho : okW X) {i k : Nat} (hi : ConA X i) (hk : ConA X k) : ∃ s, betwP X i k = some (s, true) ∧ SpanA X i k s := by
  obtain ⟨q0, h0⟩ := ho
  obtain ⟨m, hm⟩ := far_some (s := i) (pot_tru.2 h0)
  obtain ⟨n, hn⟩ := far_some (s := k) (pot_tru.2 h0)
  obtain ⟨d, hd, h1, q1, t1, e1⟩ := far_span hM hm hi hk h0
  obtain ⟨c, hc, h2, q2, t2, e2⟩ := far_span hM hn hk hi h0
  refine ⟨(-c, d), ?_, ⟨fun q hq => ⟨?_, h1 q hq⟩, ⟨q2, t2, ?_⟩, ⟨q1, t1, e1⟩⟩⟩
  · unfold betwP
    simp only [hm, hn, hc, hd, Option.getD_some, Option.isSome_some]
  · have := h2 q hq; simp only; omega
  · simp only; omega
theorem betw_doubt {X : Wat} (hM : WatOk X) (ho : okW X) {k : Nat} (hk : ¬ ConA X k) : ∃ s, betwP X 0 k = some (s, false) := by
  obtain ⟨q0, h0⟩ := ho
  obtain ⟨m, hm⟩ := far_some (s := 0) (pot_tru.2 h0)
  obtain ⟨n, hn⟩ := far_some (s := k) (pot_tru.2 h0)
  have h1 := best_none hM (far_known hm) (con_zero X _) hk
  refine ⟨(-((n 0).getD 0), 0), ?_⟩
  unfold betwP
  simp only [hm, hn, h1, Option.getD_none, Option.isSome_none]
theorem far_clash {X : Wat} (hM : WatOk X) {S E i : Nat} (hi : Con X S i) (h : ¬ ∃ q, Tru X S E q) : farP i (linksP X S E) = none := by
  cases hf : farP i (linksP X S E) with
  | none => rfl
  | some m =>
    have hb := far_known hf
    exact absurd ⟨_, pot_tru.1 (hb.pot fun x hx => Option.isSome_iff_exists.1 (best_all hM hb hi (con_ends hM hx).1))⟩ h
theorem betw_clash {X : Wat} (hM : WatOk X) (ho : ¬ okW X) {i : Nat} (hi : ConA X i) (k : Nat) : betwP X i k = none := by
  rw [betw_not']
  exact .inl (far_clash hM hi ho)

/-! ### What the functions answer -/
theorem allS_bit {X : Wat} {i : Nat} (h : i < X.looks.length) : (allS X).testBit i = true := by
  unfold allS; rw [Nat.testBit_two_pow_sub_one]; simpa using h
theorem allE_bit {X : Wat} {i : Nat} (h : i < X.eyes.toNat) : (allE X).testBit i = true := by
  unfold allE; rw [Nat.testBit_two_pow_sub_one]; simpa using h
/-- An image that somebody looked at. -/
def seenI (X : Wat) (a : Nat) : Prop := ∃ i, i < X.looks.length ∧ (lkAt X i).2.1.toNat = a
theorem con_seen {X : Wat} {a : Nat} : ConA X (1 + X.eyes.toNat + a) ↔ seenI X a := by
  constructor
  · rintro (h | ⟨i, hi, _, he⟩)
    · omega
    · exact ⟨i, hi, by unfold plN at he; omega⟩
  · rintro ⟨i, hi, he⟩
    exact .inr ⟨i, hi, allS_bit hi, by unfold plN; omega⟩
def betP (X : Wat) (a b : Nat) : Int × Int := ((betwP X (1 + a) (1 + b)).getD ((0, 0), false)).1
def plaP (X : Wat) (a : Nat) : Int × Int := ((betwP X 0 (1 + X.eyes.toNat + a)).getD ((0, 0), false)).1
theorem habP_span {X : Wat} (hM : WatOk X) (ho : okW X) {a : Nat} (ha : a < X.eyes.toNat) : SpanA X 0 (1 + a) (habP X a) := by
  obtain ⟨s, hs, h⟩ := betw_span hM ho (con_zero X _) (con_hab ha)
  unfold habP; rw [hs]; exact h
theorem betP_span {X : Wat} (hM : WatOk X) (ho : okW X) {a b : Nat} (ha : a < X.eyes.toNat) (hb : b < X.eyes.toNat) : SpanA X (1 + a) (1 + b) (betP X a b) := by
  obtain ⟨s, hs, h⟩ := betw_span hM ho (con_hab ha) (con_hab hb)
  unfold betP; rw [hs]; exact h
theorem plaP_span {X : Wat} (hM : WatOk X) (ho : okW X) {a : Nat} (ha : seenI X a) : SpanA X 0 (1 + X.eyes.toNat + a) (plaP X a) := by
  obtain ⟨s, hs, h⟩ := betw_span hM ho (con_zero X _) (con_seen.2 ha)
  unfold plaP; rw [hs]; exact h
theorem habitE_ok {X : Wat} (hM : WatOk X) (ho : okW X) {a : Int} (ha : 0 ≤ a ∧ a ≤ X.eyes - 1) : habitE X a = (habP X a.toNat, 0) := by
  obtain ⟨s, hs, _⟩ := betw_span hM ho (con_zero X _) (con_hab (m := a.toNat) (by omega))
  unfold habitE habP
  rw [if_neg (not_not_intro hM), if_neg (not_not_intro ha), hs]; rfl
theorem betwE_ok {X : Wat} (hM : WatOk X) (ho : okW X) {a b : Int} (ha : 0 ≤ a ∧ a ≤ X.eyes - 1) (hb : 0 ≤ b ∧ b ≤ X.eyes - 1) : betwE X a b = (betP X a.toNat b.toNat, 0) := by
  obtain ⟨s, hs, _⟩ := betw_span hM ho (con_hab (m := a.toNat) (by omega)) (con_hab (m := b.toNat) (by omega))
  unfold betwE betP
  rw [if_neg (not_not_intro hM), if_neg (not_not_intro ⟨ha, hb⟩), hs]; rfl
theorem placeE_ok {X : Wat} (hM : WatOk X) (ho : okW X) {a : Int} (ha : 0 ≤ a ∧ a ≤ X.images - 1) (hs : seenI X a.toNat) : placeE X a = (plaP X a.toNat, 0) := by
  obtain ⟨s, hs, _⟩ := betw_span hM ho (con_zero X _) (con_seen.2 hs)
  unfold placeE plaP
  rw [if_neg (not_not_intro hM), if_neg (not_not_intro ha), hs]; rfl
theorem placeE_doubt {X : Wat} (hM : WatOk X) (ho : okW X) {a : Int} (ha : 0 ≤ a ∧ a ≤ X.images - 1) (hs : ¬ seenI X a.toNat) : placeE X a = ((0, 0), 12) := by
  obtain ⟨s, hs⟩ := betw_doubt hM ho fun h => hs (con_seen.1 h)
  unfold placeE
  rw [if_neg (not_not_intro hM), if_neg (not_not_intro ha), hs]; rfl
theorem habitE_clash {X : Wat} (hM : WatOk X) (ho : ¬ okW X) {a : Int} (ha : 0 ≤ a ∧ a ≤ X.eyes - 1) : habitE X a = ((0, 0), 10) := by
  unfold habitE
  rw [if_neg (not_not_intro hM), if_neg (not_not_intro ha), betw_clash hM ho (con_zero X _)]
theorem betwE_clash {X : Wat} (hM : WatOk X) (ho : ¬ okW X) {a b : Int} (ha : 0 ≤ a ∧ a ≤ X.eyes - 1) (hb : 0 ≤ b ∧ b ≤ X.eyes - 1) : betwE X a b = ((0, 0), 10) := by
  unfold betwE
  rw [if_neg (not_not_intro hM), if_neg (not_not_intro ⟨ha, hb⟩), betw_clash hM ho (con_hab (m := a.toNat) (by omega))]
theorem placeE_clash {X : Wat} (hM : WatOk X) (ho : ¬ okW X) {a : Int} (ha : 0 ≤ a ∧ a ≤ X.images - 1) : placeE X a = ((0, 0), 10) := by
  unfold placeE
  rw [if_neg (not_not_intro hM), if_neg (not_not_intro ha), betw_clash hM ho (con_zero X _)]
/-- Who surely has a habit. -/
def sureN (X : Wat) : Nat := sureW X X.eyes.toNat
theorem sureW_bit (X : Wat) (m : Nat) : ∀ n, (sureW X n).testBit m = true ↔ m < n ∧ ¬ ((habP X m).1 ≤ 0 ∧ 0 ≤ (habP X m).2)
  | 0 => by simp [sureW]
  | n + 1 => by
    have ih := sureW_bit X m n
    rw [sureW_succ]
    split
    · rename_i h
      rw [Nat.testBit_or, Bool.or_eq_true, ih, Nat.one_mul, Nat.testBit_two_pow, decide_eq_true_eq]
      constructor
      · rintro (⟨h1, h2⟩ | rfl)
        · exact ⟨by omega, h2⟩
        · exact ⟨by omega, by omega⟩
      · rintro ⟨h1, h2⟩
        by_cases hm : n = m
        · exact .inr hm
        · exact .inl ⟨by omega, h2⟩
    · rename_i h
      rw [ih]
      constructor
      · rintro ⟨h1, h2⟩; exact ⟨by omega, h2⟩
      · rintro ⟨h1, h2⟩
        refine ⟨?_, h2⟩
        rcases Nat.lt_or_ge m n with h3 | h3
        · exact h3
        · obtain rfl : m = n := by omega
          exact absurd (by omega) h
theorem sureN_bit {X : Wat} {m : Nat} (hm : m < X.eyes.toNat) : (sureN X).testBit m = true ↔ ¬ ((habP X m).1 ≤ 0 ∧ 0 ≤ (habP X m).2) := by
  unfold sureN
  rw [sureW_bit]
  exact ⟨fun h => h.2, fun h => ⟨hm, h⟩⟩
theorem sureN_lt (X : Wat) : sureN X < 2 ^ X.eyes.toNat := sureW_lt X _
theorem sureE_ok {X : Wat} (hM : WatOk X) (ho : okW X) : sureE X = (((sureN X : Nat) : Int), 0) := by
  unfold sureE
  rw [if_neg (not_not_intro hM), if_neg (not_not_intro ((okW_can hM).2 ho))]; rfl
theorem sureE_clash {X : Wat} (hM : WatOk X) (ho : ¬ okW X) : sureE X = (0, 10) := by
  unfold sureE
  rw [if_neg (not_not_intro hM), if_pos fun h => ho ((okW_can hM).1 h)]
/-- The code of a watch that is valid. -/
def codeW (X : Wat) : Int := if canB X (allS X) (allE X) = true then 0 else 10
theorem codeW_ok {X : Wat} (hM : WatOk X) (ho : okW X) : codeW X = 0 := if_pos ((okW_can hM).2 ho)
theorem codeW_clash {X : Wat} (hM : WatOk X) (ho : ¬ okW X) : codeW X = 10 := if_neg fun h => ho ((okW_can hM).1 h)
theorem codeW_iff {X : Wat} (hM : WatOk X) : codeW X = 0 ↔ okW X := by
  by_cases ho : okW X
  · rw [codeW_ok hM ho]; simp [ho]
  · rw [codeW_clash hM ho]; simp [ho]
theorem habitE_code {X : Wat} (hM : WatOk X) {a : Int} (ha : 0 ≤ a ∧ a ≤ X.eyes - 1) : (habitE X a).2 = codeW X := by
  by_cases ho : okW X
  · rw [codeW_ok hM ho, habitE_ok hM ho ha]
  · rw [codeW_clash hM ho, habitE_clash hM ho ha]
theorem betwE_code {X : Wat} (hM : WatOk X) {a b : Int} (ha : 0 ≤ a ∧ a ≤ X.eyes - 1) (hb : 0 ≤ b ∧ b ≤ X.eyes - 1) : (betwE X a b).2 = codeW X := by
  by_cases ho : okW X
  · rw [codeW_ok hM ho, betwE_ok hM ho ha hb]
  · rw [codeW_clash hM ho, betwE_clash hM ho ha hb]
theorem sureE_code {X : Wat} (hM : WatOk X) : (sureE X).2 = codeW X := by
  by_cases ho : okW X
  · rw [codeW_ok hM ho, sureE_ok hM ho]
  · rw [codeW_clash hM ho, sureE_clash hM ho]
end Go.Proofs.Ytiaaidcdoenloaa
