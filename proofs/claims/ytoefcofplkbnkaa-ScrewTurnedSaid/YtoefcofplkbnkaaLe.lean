/-
  What the functions of the screw return, told by the document's functions.
-/
import Derived.Test.YtoefcofplkbnkaaLd
namespace Go.Proofs.Ytoefcofplkbnkaa
open ZW

/-! ### Sum, Place, Apart -/
def sumE (m : Meas) : (Int × Int) × Int := if ¬ MeasOk m then ((0, 0), 1) else if ¬ diagOk (tightB m (fullS m)) then ((0, 0), 10) else (spanB (tightB m (fullS m)) 0 1, 0)
def placeE (m : Meas) (a : Int) : (Int × Int) × Int := if ¬ MeasOk m then ((0, 0), 1) else if ¬ (0 ≤ a ∧ a ≤ m.images - 1) then ((0, 0), 2) else if ¬ diagOk (tightB m (fullS m)) then ((0, 0), 10)
  else if ¬ seenP m a then ((0, 0), 12) else (spanB (tightB m (fullS m)) 0 (2 + a.toNat), 0)
def apartE (m : Meas) (a b : Int) : (Int × Int) × Int := if ¬ MeasOk m then ((0, 0), 1) else if ¬ ((0 ≤ a ∧ a ≤ m.images - 1) ∧ (0 ≤ b ∧ b ≤ m.images - 1)) then ((0, 0), 2) else if ¬ diagOk (tightB m (fullS m)) then ((0, 0), 10)
  else if a = b then ((0, 0), 0) else if ¬ (seenP m a ∧ seenP m b) then ((0, 0), 12) else (spanB (tightB m (fullS m)) (2 + a.toNat) (2 + b.toNat), 0)
theorem sum_any (y : Loc) (m : Meas) (w : World) (hm : InM w y m) : Calls Try.prog 18 [.agg (measC y m).toArray].toArray w (Ret w (outC (sumE m))) := by
  unfold sumE
  by_cases hM : MeasOk m
  · rw [if_neg (not_not_intro hM)]
    by_cases hd : diagOk (tightB m (fullS m))
    · rw [if_neg (not_not_intro hd)]; exact sum_0 y m w hm hM hd
    · rw [if_pos hd]; exact sum_10 y m w hm hM hd
  · rw [if_pos hM]; exact sum_1 y m w hm hM
theorem place_any (y : Loc) (m : Meas) (a : Int) (w : World) (hm : InM w y m) : Calls Try.prog 20 [.agg (measC y m).toArray, i64 a].toArray w (Ret w (outC (placeE m a))) := by
  unfold placeE
  by_cases hM : MeasOk m
  · rw [if_neg (not_not_intro hM)]
    by_cases hI : 0 ≤ a ∧ a ≤ m.images - 1
    · rw [if_neg (not_not_intro hI)]
      by_cases hd : diagOk (tightB m (fullS m))
      · rw [if_neg (not_not_intro hd)]
        by_cases hs : seenP m a
        · rw [if_neg (not_not_intro hs)]; exact place_0 y m a w hm hM hI hd hs
        · rw [if_pos hs]; exact place_12 y m a w hm hM hI hd hs
      · rw [if_pos hd]; exact place_10 y m a w hm hM hI hd
    · rw [if_pos hI]; exact place_2 y m a w hm hM hI
  · rw [if_pos hM]; exact place_1 y m a w hm hM
theorem apart_any (y : Loc) (m : Meas) (a b : Int) (w : World) (hm : InM w y m) : Calls Try.prog 22 [.agg (measC y m).toArray, i64 a, i64 b].toArray w (Ret w (outC (apartE m a b))) := by
  unfold apartE
  by_cases hM : MeasOk m
  · rw [if_neg (not_not_intro hM)]
    by_cases hI : (0 ≤ a ∧ a ≤ m.images - 1) ∧ (0 ≤ b ∧ b ≤ m.images - 1)
    · rw [if_neg (not_not_intro hI)]
      by_cases hd : diagOk (tightB m (fullS m))
      · rw [if_neg (not_not_intro hd)]
        by_cases he : a = b
        · rw [if_pos he]; exact apart_same y m a b w hm hM hI hd he
        · rw [if_neg he]
          by_cases hs : seenP m a ∧ seenP m b
          · rw [if_neg (not_not_intro hs)]; exact apart_0 y m a b w hm hM hI hd he hs
          · rw [if_pos hs]; exact apart_12 y m a b w hm hM hI hd he hs
      · rw [if_pos hd]; exact apart_10 y m a b w hm hM hI hd
    · rw [if_pos hI]; exact apart_2 y m a b w hm hM hI
  · rw [if_pos hM]; exact apart_1 y m a b w hm hM

/-! ### The same, by the document's functions -/
def okF (m : Meas) : Prop := (sumsF m (fullS m)).1 ≤ (sumsF m (fullS m)).2
instance (m : Meas) : Decidable (okF m) := inferInstanceAs (Decidable (_ ≤ _))
def sumR (m : Meas) : (Int × Int) × Int := if ¬ MeasOk m then ((0, 0), 1) else if ¬ okF m then ((0, 0), 10) else (sumsF m (fullS m), 0)
def placeR (m : Meas) (a : Int) : (Int × Int) × Int := if ¬ MeasOk m then ((0, 0), 1) else if ¬ (0 ≤ a ∧ a ≤ m.images - 1) then ((0, 0), 2) else if ¬ okF m then ((0, 0), 10)
  else if ¬ seenP m a then ((0, 0), 12) else (placeF m (fullS m) a, 0)
def apartR (m : Meas) (a b : Int) : (Int × Int) × Int := if ¬ MeasOk m then ((0, 0), 1) else if ¬ ((0 ≤ a ∧ a ≤ m.images - 1) ∧ (0 ≤ b ∧ b ≤ m.images - 1)) then ((0, 0), 2) else if ¬ okF m then ((0, 0), 10)
  else if a = b then ((0, 0), 0) else if ¬ (seenP m a ∧ seenP m b) then ((0, 0), 12) else (apartF m (fullS m) a b, 0)
theorem sumE_eq (m : Meas) : sumE m = sumR m := by
  unfold sumE sumR okF
  by_cases hM : MeasOk m
  · rw [if_neg (not_not_intro hM), if_neg (not_not_intro hM)]
    by_cases hd : diagOk (tightB m (fullS m))
    · rw [if_neg (not_not_intro hd), if_neg (not_not_intro ((can_eq hM _).1 hd)), sum_eq hM hd]
    · rw [if_pos hd, if_pos fun h => hd ((can_eq hM _).2 h)]
  · rw [if_pos hM, if_pos hM]
theorem placeE_eq (m : Meas) (a : Int) : placeE m a = placeR m a := by
  unfold placeE placeR okF
  by_cases hM : MeasOk m
  · rw [if_neg (not_not_intro hM), if_neg (not_not_intro hM)]
    by_cases hI : 0 ≤ a ∧ a ≤ m.images - 1
    · rw [if_neg (not_not_intro hI), if_neg (not_not_intro hI)]
      by_cases hd : diagOk (tightB m (fullS m))
      · rw [if_neg (not_not_intro hd), if_neg (not_not_intro ((can_eq hM _).1 hd))]
        by_cases hs : seenP m a
        · rw [if_neg (not_not_intro hs), if_neg (not_not_intro hs)]
          have ha : ((a.toNat : Nat) : Int) = a := Int.toNat_of_nonneg hI.1
          have hs' : seenP m ((a.toNat : Nat) : Int) := by rw [ha]; exact hs
          have := place_eq hM hd (g := a.toNat) (by omega) (seen_has hs')
          rw [this, ha]
        · rw [if_pos hs, if_pos hs]
      · rw [if_pos hd, if_pos fun h => hd ((can_eq hM _).2 h)]
    · rw [if_pos hI, if_pos hI]
  · rw [if_pos hM, if_pos hM]
theorem apartE_eq (m : Meas) (a b : Int) : apartE m a b = apartR m a b := by
  unfold apartE apartR okF
  by_cases hM : MeasOk m
  · rw [if_neg (not_not_intro hM), if_neg (not_not_intro hM)]
    by_cases hI : (0 ≤ a ∧ a ≤ m.images - 1) ∧ (0 ≤ b ∧ b ≤ m.images - 1)
    · rw [if_neg (not_not_intro hI), if_neg (not_not_intro hI)]
      by_cases hd : diagOk (tightB m (fullS m))
      · rw [if_neg (not_not_intro hd), if_neg (not_not_intro ((can_eq hM _).1 hd))]
        by_cases he : a = b
        · rw [if_pos he, if_pos he]
        · rw [if_neg he, if_neg he]
          by_cases hs : seenP m a ∧ seenP m b
          · rw [if_neg (not_not_intro hs), if_neg (not_not_intro hs)]
            have ha : ((a.toNat : Nat) : Int) = a := Int.toNat_of_nonneg hI.1.1
            have hb : ((b.toNat : Nat) : Int) = b := Int.toNat_of_nonneg hI.2.1
            have hsa : seenP m ((a.toNat : Nat) : Int) := by rw [ha]; exact hs.1
            have hsb : seenP m ((b.toNat : Nat) : Int) := by rw [hb]; exact hs.2
            have := apart_eq hM hd (a := a.toNat) (b := b.toNat) (by omega) (by omega) (by omega) (seen_has hsa) (seen_has hsb)
            rw [this, ha, hb]
          · rw [if_pos hs, if_pos hs]
      · rw [if_pos hd, if_pos fun h => hd ((can_eq hM _).2 h)]
    · rw [if_pos hI, if_pos hI]
  · rw [if_pos hM, if_pos hM]
theorem badS_eq {m : Meas} (hM : MeasOk m) : badS m = fun s => !canF m s := by
  funext s; unfold badS canF
  rw [decide_eq_decide.2 (can_eq hM s)]
theorem canS_eq {m : Meas} (hM : MeasOk m) : canS m = fun s => canF m (less (fullS m) s) := by
  funext s; unfold canS canF
  rw [decide_eq_decide.2 (can_eq hM _)]

/-! ### The document's examples -/
def sets4 : List (Int × Int × Bool) := [(0, 500, false), (0, 2504, true), (1, 1200, false), (1, 1788, true)]
def fifthP : Int × Int × Bool := (0, 520, false)
def sampleM (l : List (Int × Int × Bool)) : Meas := { errs := [(-2, 2), (0, 5), (1, 1), (-4, 0)], eye := (-3, 3), images := 2, sum := (2900, 3100), sets := l }
abbrev sam : Meas := sampleM sets4
abbrev sam5 : Meas := sampleM (sets4 ++ [fifthP])
def sets1 : List (Int × Int × Bool) := [(0, 500, false), (1, 1200, false), (1, 1788, true)]
abbrev sam1 : Meas := sampleM sets1
theorem sam_ok : MeasOk sam := of_decide_eq_true (by kernel_rfl)
theorem sam5_ok : MeasOk sam5 := of_decide_eq_true (by kernel_rfl)
theorem sam1_ok : MeasOk sam1 := of_decide_eq_true (by kernel_rfl)
theorem v_travel : travelE sam 1200 = ((1197, 1208), 0) := by kernel_rfl
theorem v_travel1 : travelE sam1 4000 = ((0, 0), 2) := by kernel_rfl
theorem v_sum : sumE sam = ((2997, 3004), 0) := (sumE_eq _).trans (by kernel_rfl)
theorem v_sum5 : sumE sam5 = ((0, 0), 10) := (sumE_eq _).trans (by kernel_rfl)
theorem v_place1 : placeE sam 1 = ((1201, 1208), 0) := (placeE_eq _ _).trans (by kernel_rfl)
theorem v_place0 : placeE sam 0 = ((495, 502), 0) := (placeE_eq _ _).trans (by kernel_rfl)
theorem v_apart01 : apartE sam 0 1 = ((706, 713), 0) := (apartE_eq _ _ _).trans (by kernel_rfl)
theorem v_apart10 : apartE sam 1 0 = ((-713, -706), 0) := (apartE_eq _ _ _).trans (by kernel_rfl)
theorem v_best5 : bestS (fun s => !canF sam5 s) (fullS sam5 + 1) = some 17 := by kernel_rfl
theorem v_clash5 : clashE sam5 = (17, 0) := by
  have hd : ¬ diagOk (tightB sam5 (fullS sam5)) := fun h => absurd ((can_eq sam5_ok _).1 h) (of_decide_eq_false (by kernel_rfl))
  unfold clashE
  rw [if_neg (not_not_intro sam5_ok), if_neg hd, badS_eq sam5_ok, v_best5]
  rfl
theorem v_clash : clashE sam = (0, 0) := by
  have hd : diagOk (tightB sam (fullS sam)) := (can_eq sam_ok _).2 (of_decide_eq_true (by kernel_rfl))
  unfold clashE
  rw [if_neg (not_not_intro sam_ok), if_pos hd]
theorem v_drop5 : dropE sam5 = (16, 0) := by
  unfold dropE
  rw [if_neg (not_not_intro sam5_ok), canS_eq sam5_ok]
  kernel_rfl
theorem v_drop : dropE sam = (0, 0) := by
  unfold dropE
  rw [if_neg (not_not_intro sam_ok), canS_eq sam_ok]
  kernel_rfl
theorem v_once : onceE sam = (0, 0) := by
  unfold onceE; rw [if_neg (not_not_intro sam_ok)]; kernel_rfl
theorem v_once1 : onceE sam1 = (1, 0) := by
  unfold onceE; rw [if_neg (not_not_intro sam1_ok)]; kernel_rfl
theorem bEqB_at {b c : BMat} (h : bEqB b c = true) {i k : Nat} (hi : i < 8) (hk : k < 8) : b i k = c i k := by
  unfold bEqB at h
  have := List.all_eq_true.1 h i (List.mem_range.2 hi)
  simpa using List.all_eq_true.1 this k (List.mem_range.2 hk)
/-- Where the sums differ, the bounds do. -/
theorem bEqB_sum {m : Meas} (hM : MeasOk m) {S T : Nat} (h1 : canF m S = true) (h2 : canF m T = true) (hne : sumsF m S ≠ sumsF m T) : bEqB (tightB m S) (tightB m T) = false := by
  rw [← Bool.not_eq_true]
  intro h
  have d1 := (can_eq hM S).2 (of_decide_eq_true h1)
  have d2 := (can_eq hM T).2 (of_decide_eq_true h2)
  refine hne ?_
  rw [← sum_eq hM d1, ← sum_eq hM d2]
  refine Prod.ext ?_ ?_
  · exact congrArg Neg.neg (bEqB_at h (by decide) (by decide))
  · rw [spanB_2, spanB_2]; exact bEqB_at h (by decide) (by decide)
theorem v_idle : idleE sam = (0, 0) := by
  have hd : diagOk (tightB sam (fullS sam)) := (can_eq sam_ok _).2 (of_decide_eq_true (by kernel_rfl))
  have hk : ∀ j, j < 4 → bEqB (tightB sam (less (fullS sam) (1 * 2 ^ j))) (tightB sam (fullS sam)) = false := by
    intro j hj
    have hc : ∀ j, j < 4 → canF sam (less (fullS sam) (1 * 2 ^ j)) = true ∧ sumsF sam (less (fullS sam) (1 * 2 ^ j)) ≠ sumsF sam (fullS sam) := of_decide_eq_true (by kernel_rfl)
    exact bEqB_sum sam_ok (hc j hj).1 (by kernel_rfl) (hc j hj).2
  have h0 : idleW sam 4 = 0 := by
    have e0 : idleW sam 0 = 0 := rfl
    rw [idleW_succ, hk 3 (by decide), if_neg (by decide), idleW_succ, hk 2 (by decide), if_neg (by decide), idleW_succ, hk 1 (by decide), if_neg (by decide), idleW_succ, hk 0 (by decide), if_neg (by decide), e0]
  unfold idleE
  rw [if_neg (not_not_intro sam_ok), if_neg (not_not_intro hd)]
  have h4 : idleW sam sam.sets.length = 0 := h0
  rw [h4]; rfl
end Go.Proofs.Ytoefcofplkbnkaa
