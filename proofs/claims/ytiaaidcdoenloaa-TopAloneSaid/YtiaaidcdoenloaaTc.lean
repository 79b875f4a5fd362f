/-
  Plain law of watches: what is between habits; places by looks.
-/
import Derived.Test.YtiaaidcdoenloaaTb
namespace Go.Proofs.Ytiaaidcdoenloaa
open ZW

theorem Tru.habA {X : Wat} {q : Nat → Int} (h : TruA X q) {m : Nat} (hm : m < X.eyes.toNat) : X.habit.1 ≤ q (1 + m) - q 0 ∧ q (1 + m) - q 0 ≤ X.habit.2 := by
  have := h.h m hm
  rwa [habOf_bit (allE_bit hm)] at this
theorem Tru.lookA {X : Wat} {q : Nat → Int} {S : Nat} (h : Tru X S (allE X) q) {i : Nat} (hi : i < X.looks.length) (hS : S.testBit i = true) : (trv X i).1 ≤ q (plN X i) - q (eyN X i) ∧ q (plN X i) - q (eyN X i) ≤ (trv X i).2 := h.l i hi hS
structure DifferF (X : Wat) (i k m : Nat) : Prop where
  x : (habP X i).1 ≤ (habP X i).2 ∧ X.habit.1 ≤ (habP X i).1 ∧ (habP X i).2 ≤ X.habit.2
  y : X.habit.1 ≤ (habP X k).1 ∧ (habP X k).2 ≤ X.habit.2
  s : (betP X i k).1 ≤ (betP X i k).2
  t : betP X k i = (-(betP X i k).2, -(betP X i k).1)
  o : i = k → betP X i k = (0, 0)
  h : (habP X k).1 - (habP X i).2 ≤ (betP X i k).1 ∧ (betP X i k).2 ≤ (habP X k).2 - (habP X i).1
  v : (betP X i m).1 + (betP X m k).1 ≤ (betP X i k).1 ∧ (betP X i k).2 ≤ (betP X i m).2 + (betP X m k).2
  b : (-400 ≤ (betP X i m).1 ∧ (betP X i m).2 ≤ 400 ∧ (betP X i m).1 ≤ (betP X i m).2) ∧ (-400 ≤ (betP X m k).1 ∧ (betP X m k).2 ≤ 400 ∧ (betP X m k).1 ≤ (betP X m k).2) ∧ -400 ≤ (betP X i k).1 ∧ (betP X i k).2 ≤ 400
theorem betP_bd {X : Wat} (hM : WatOk X) (ho : okW X) {i k : Nat} (hi : i < X.eyes.toNat) (hk : k < X.eyes.toNat) : -400 ≤ (betP X i k).1 ∧ (betP X i k).2 ≤ 400 ∧ (betP X i k).1 ≤ (betP X i k).2 := by
  have hs := betP_span hM ho hi hk
  have h1 := hM.h
  have h2 := hM.k
  obtain ⟨q1, t1, e1⟩ := hs.lo
  obtain ⟨q2, t2, e2⟩ := hs.hi
  have a1 := t1.habA hi
  have a2 := t1.habA hk
  have a3 := t2.habA hi
  have a4 := t2.habA hk
  have := hs.le
  try simp only at e1 e2
  omega
theorem differ_facts {X : Wat} (hM : WatOk X) (ho : okW X) {i k m : Nat} (hi : i < X.eyes.toNat) (hk : k < X.eyes.toNat) (hm : m < X.eyes.toNat) : DifferF X i k m := by
  have hx := habP_span hM ho hi
  have hy := habP_span hM ho hk
  have hs := betP_span hM ho hi hk
  have ht := betP_span hM ho hk hi
  have hu := betP_span hM ho hi hm
  have hv := betP_span hM ho hm hk
  have hab : ∀ j, j < X.eyes.toNat → X.habit.1 ≤ (habP X j).1 ∧ (habP X j).2 ≤ X.habit.2 := fun j hj => by
    have h := habP_span hM ho hj
    obtain ⟨q1, t1, e1⟩ := h.lo
    obtain ⟨q2, t2, e2⟩ := h.hi
    have := t1.habA hj
    have := t2.habA hj
    try simp only at e1 e2
    omega
  obtain ⟨q1, t1, e1⟩ := hs.lo
  obtain ⟨q2, t2, e2⟩ := hs.hi
  refine ⟨⟨hx.le, hab i hi⟩, hab k hk, hs.le, ?_, ?_, ?_, ?_, betP_bd hM ho hi hm, betP_bd hM ho hm hk, ?_⟩
  · exact ht.unique (hs.neg.congr fun q => by omega)
  · rintro rfl
    try simp only at e1 e2
    exact Prod.ext (by simp only; omega) (by simp only; omega)
  · have a1 := hx.all q1 t1
    have a2 := hy.all q1 t1
    have a3 := hx.all q2 t2
    have a4 := hy.all q2 t2
    try simp only at a1 a2 a3 a4 e1 e2
    omega
  · have a1 := hu.all q1 t1
    have a2 := hv.all q1 t1
    have a3 := hu.all q2 t2
    have a4 := hv.all q2 t2
    try simp only at a1 a2 a3 a4 e1 e2
    omega
  · have := betP_bd hM ho hi hk; omega

/-- A look at an image tells where it stands. -/
theorem place_look {X : Wat} (hM : WatOk X) (ho : okW X) {i : Nat} (hi : i < X.looks.length) :
    (trv X i).1 + (habP X (lkAt X i).1.toNat).1 ≤ (plaP X (lkAt X i).2.1.toNat).1 ∧ (plaP X (lkAt X i).2.1.toNat).2 ≤ (trv X i).2 + (habP X (lkAt X i).1.toNat).2 ∧ (plaP X (lkAt X i).2.1.toNat).1 ≤ (plaP X (lkAt X i).2.1.toNat).2 := by
  have hp := plaP_span hM ho ⟨i, hi, rfl⟩
  have hh := habP_span hM ho (lk_eye hM hi)
  obtain ⟨q1, t1, e1⟩ := hp.lo
  obtain ⟨q2, t2, e2⟩ := hp.hi
  have a1 := t1.lookA hi (allS_bit hi)
  have a2 := t2.lookA hi (allS_bit hi)
  have b1 := hh.all q1 t1
  have b2 := hh.all q2 t2
  have := hp.le
  unfold plN eyN at a1 a2
  try simp only at e1 e2 b1 b2
  omega
theorem habP_bd {X : Wat} (hM : WatOk X) (ho : okW X) {j : Nat} (hj : j < X.eyes.toNat) : -200 ≤ (habP X j).1 ∧ (habP X j).2 ≤ 200 ∧ (habP X j).1 ≤ (habP X j).2 := by
  have h := habP_span hM ho hj
  have h1 := hM.h
  have h2 := hM.k
  obtain ⟨q1, t1, e1⟩ := h.lo
  obtain ⟨q2, t2, e2⟩ := h.hi
  have := t1.habA hj
  have := t2.habA hj
  have := h.le
  try simp only at e1 e2
  omega
theorem trv_bd {X : Wat} (hM : WatOk X) {i : Nat} (hi : i < X.looks.length) : -200 ≤ (trv X i).1 ∧ (trv X i).1 ≤ (trv X i).2 ∧ (trv X i).2 ≤ 41000 := travel_bd hM.s (hM.l _ (getD_mem hi look0)).1
/-- Has somebody looked at an image, by the first looks? -/
def seenB (X : Wat) (a k : Nat) : Bool := (List.range k).any fun j => decide ((lkAt X j).2.1 = (a : Nat))
theorem seenB_succ (X : Wat) (a k : Nat) : seenB X a (k + 1) = (seenB X a k || decide ((lkAt X k).2.1 = (a : Nat))) := by
  unfold seenB; rw [List.range_succ, List.any_append]; simp
theorem seenB_iff {X : Wat} (hM : WatOk X) (a : Nat) : seenB X a X.looks.length = true ↔ seenI X a := by
  unfold seenB seenI
  simp only [List.any_eq_true, List.mem_range, decide_eq_true_eq]
  constructor
  · rintro ⟨j, hj, he⟩; exact ⟨j, hj, by rw [he]; rfl⟩
  · rintro ⟨j, hj, he⟩
    have h : 0 ≤ (lkAt X j).2.1 ∧ (lkAt X j).2.1 ≤ X.images - 1 := (hM.l _ (getD_mem hj look0)).2.2
    exact ⟨j, hj, by omega⟩
theorem placeE_cases {X : Wat} (hM : WatOk X) {a : Int} (ha : 0 ≤ a ∧ a ≤ X.images - 1) : (okW X ∧ seenI X a.toNat ∧ placeE X a = (plaP X a.toNat, 0)) ∨ (okW X ∧ ¬ seenI X a.toNat ∧ placeE X a = ((0, 0), 12)) ∨ (¬ okW X ∧ placeE X a = ((0, 0), 10)) := by
  by_cases ho : okW X
  · by_cases hs : seenI X a.toNat
    · exact .inl ⟨ho, hs, placeE_ok hM ho ha hs⟩
    · exact .inr (.inl ⟨ho, hs, placeE_doubt hM ho ha hs⟩)
  · exact .inr (.inr ⟨ho, placeE_clash hM ho ha⟩)
theorem travelE_look {X : Wat} (hM : WatOk X) {i : Nat} (hi : i < X.looks.length) : travelE X.m (lkAt X i).2.2 = (trv X i, 0) := by
  have h : (travelE X.m (lkAt X i).2.2).2 = 0 := (travelE_iff _ _).2 ⟨hM.s, (hM.l _ (getD_mem hi look0)).1⟩
  exact Prod.ext (travelE_eq h) h
end Go.Proofs.Ytiaaidcdoenloaa
