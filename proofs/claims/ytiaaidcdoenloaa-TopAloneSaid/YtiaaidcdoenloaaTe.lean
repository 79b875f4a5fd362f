/-
  Plain law of watches: with a look more, a narrower habit, a better screw.
-/
import Derived.Test.YtiaaidcdoenloaaTd
namespace Go.Proofs.Ytiaaidcdoenloaa
open ZW

/-- Truths of the one are truths of the other one, whichever looks are asked for. -/
structure FinerW (X Y : Wat) : Prop where
  x : WatOk X
  y : WatOk Y
  e : Y.eyes = X.eyes
  i : Y.images = X.images
  n : X.looks.length ≤ Y.looks.length
  l : ∀ i, i < X.looks.length → lkAt Y i = lkAt X i
  q : ∀ S q, Tru Y S (allE Y) q → Tru X S (allE X) q
theorem FinerW.can {X Y : Wat} (f : FinerW X Y) {S : Nat} (h : canQ Y S) : canQ X S := by
  obtain ⟨q, h⟩ := h; exact ⟨q, f.q S q h⟩
theorem FinerW.all {X Y : Wat} (f : FinerW X Y) {q : Nat → Int} (h : TruA Y q) : TruA X q :=
  (f.q _ q h).mono f.x (fun i hi _ => allS_bit (by have := f.n; omega)) fun _ _ h => h
theorem FinerW.ok {X Y : Wat} (f : FinerW X Y) (h : okW Y) : okW X := by
  obtain ⟨q, h⟩ := h; exact ⟨q, f.all h⟩
theorem FinerW.drop {X Y : Wat} (f : FinerW X Y) : popc (dropN X) ≤ popc (dropN Y) := by
  have a := set_facts f.x
  have b := set_facts f.y
  have h1 : canQ X (less (allS X) (dropN Y &&& allS X)) := canQ_mono f.x (f.can b.dcan) fun i hi hb => by
    rw [less_bit, Nat.testBit_and, allS_bit hi, Bool.and_true, Bool.true_and] at hb
    rw [less_bit, allS_bit (by have := f.n; omega), Bool.true_and]; exact hb
  have h2 := a.dmin _ Nat.and_le_right h1
  have h3 : popc (dropN Y &&& allS X) ≤ popc (dropN Y) := popF_sub 13 _ _ fun i hi => by rw [Nat.testBit_and, Bool.and_eq_true] at hi; exact hi.1
  omega
theorem FinerW.hab {X Y : Wat} (f : FinerW X Y) (ho : okW Y) {m : Nat} (hm : m < X.eyes.toNat) : (habP X m).1 ≤ (habP Y m).1 ∧ (habP Y m).2 ≤ (habP X m).2 :=
  (habP_span f.x (f.ok ho) hm).inside (habP_span f.y ho (by rw [f.e]; exact hm)) fun q hq => ⟨q, f.all hq, rfl⟩
theorem FinerW.bet {X Y : Wat} (f : FinerW X Y) (ho : okW Y) {m k : Nat} (hm : m < X.eyes.toNat) (hk : k < X.eyes.toNat) : (betP X m k).1 ≤ (betP Y m k).1 ∧ (betP Y m k).2 ≤ (betP X m k).2 :=
  (betP_span f.x (f.ok ho) hm hk).inside (betP_span f.y ho (by rw [f.e]; exact hm) (by rw [f.e]; exact hk)) fun q hq => ⟨q, f.all hq, rfl⟩
theorem FinerW.seen {X Y : Wat} (f : FinerW X Y) {a : Nat} (h : seenI X a) : seenI Y a := by
  obtain ⟨i, hi, he⟩ := h
  exact ⟨i, by have := f.n; omega, by rw [f.l i hi]; exact he⟩
theorem FinerW.pla {X Y : Wat} (f : FinerW X Y) (ho : okW Y) {a : Nat} (ha : seenI X a) : (plaP X a).1 ≤ (plaP Y a).1 ∧ (plaP Y a).2 ≤ (plaP X a).2 :=
  (plaP_span f.x (f.ok ho) ha).inside (plaP_span f.y ho (f.seen ha)) fun q hq => ⟨q, f.all hq, by rw [f.e]⟩
theorem FinerW.sure {X Y : Wat} (f : FinerW X Y) (ho : okW Y) : less (sureN X) (sureN Y) = 0 := by
  refine Nat.eq_of_testBit_eq fun m => ?_
  rw [less_bit, Nat.zero_testBit]
  cases h : (sureN X).testBit m with
  | false => rfl
  | true =>
    have hm : m < X.eyes.toNat := bit_of_lt (sureN_lt X) h
    rw [sureN_bit hm] at h
    have h1 := f.hab ho hm
    rw [(sureN_bit (X := Y) (m := m) (by rw [f.e]; exact hm)).2 (by omega)]
    rfl
/-- A look more. -/
def moreW (X : Wat) (l : Int × Int × Int) : Wat := { X with looks := X.looks ++ [l] }
theorem moreW_at {X : Wat} (l : Int × Int × Int) {i : Nat} (hi : i < X.looks.length) : lkAt (moreW X l) i = lkAt X i := by
  unfold lkAt moreW
  rw [List.getD_eq_getElem?_getD, List.getD_eq_getElem?_getD, List.getElem?_append_left hi]
theorem moreW_finer {X : Wat} (hM : WatOk X) {l : Int × Int × Int} (hY : WatOk (moreW X l)) : FinerW X (moreW X l) := by
  refine ⟨hM, hY, rfl, rfl, by show X.looks.length ≤ (X.looks ++ [l]).length; simp, fun i hi => moreW_at l hi, fun S q h => ?_⟩
  have h := tru_set.1 h
  refine tru_set.2 ⟨h.1, fun i hi hb => ?_⟩
  have h1 := h.2 i (by show i < (X.looks ++ [l]).length; simp; omega) hb
  rw [moreW_at l hi] at h1
  exact h1
/-- A narrower habit. -/
def thinW (X : Wat) (h : Int × Int) : Wat := { X with habit := h }
theorem thinW_finer {X : Wat} (hM : WatOk X) {b : Int × Int} (hY : WatOk (thinW X b)) (h1 : X.habit.1 ≤ b.1 ∧ b.2 ≤ X.habit.2) : FinerW X (thinW X b) := by
  refine ⟨hM, hY, rfl, rfl, Nat.le_refl _, fun i hi => rfl, fun S q h => ?_⟩
  have h := tru_set.1 h
  refine tru_set.2 ⟨fun m hm => ?_, h.2⟩
  have h2 := h.1 m hm
  rw [habOf_bit (allE_bit (X := thinW X b) hm)] at h2
  rw [habOf_bit (allE_bit hm)]
  simp only [thinW] at h2
  omega
/-- A better screw. -/
def bestW (X : Wat) (e : Int × Int) : Wat := { X with eyeS := e }
theorem bestW_finer {X : Wat} (hM : WatOk X) {e : Int × Int} (hY : WatOk (bestW X e)) (h1 : X.eyeS.1 ≤ e.1 ∧ e.2 ≤ X.eyeS.2) : FinerW X (bestW X e) := by
  refine ⟨hM, hY, rfl, rfl, Nat.le_refl _, fun i hi => rfl, fun S q h => ?_⟩
  have h := tru_set.1 h
  refine tru_set.2 ⟨h.1, fun i hi hb => ?_⟩
  have h2 := h.2 i hi hb
  unfold LookQ at h2 ⊢
  have e1 : lkAt (bestW X e) i = lkAt X i := rfl
  have e2 : (bestW X e).eyes = X.eyes := rfl
  rw [e1, e2] at h2
  simp only [travelP, bestW] at h2 ⊢
  omega
end Go.Proofs.Ytiaaidcdoenloaa
