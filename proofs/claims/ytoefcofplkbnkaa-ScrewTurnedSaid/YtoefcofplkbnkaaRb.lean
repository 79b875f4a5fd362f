/-
  Walks: the document's sums, places and distances.
-/
import Derived.Test.YtoefcofplkbnkaaRa
namespace Go.Proofs.Ytoefcofplkbnkaa
open ZW

theorem told_bd' {m : Meas} (hM : MeasOk m) (S : Nat) (g : Int) (r : Bool) : -1099511627776 ≤ (toldA m S g r).1 ∧ (toldA m S g r).1 ≤ 41000 ∧ -200 ≤ (toldA m S g r).2 ∧ (toldA m S g r).2 ≤ 1099511627776 := toldF_bd hM S g r _ (Nat.le_refl _)
set_option maxRecDepth 100000 in
theorem rsums_any (y : Loc) (m : Meas) (S : Nat) (w : World) (hm : InM w y m) (hM : MeasOk m) (hS : S < 2 ^ 62) :
    Calls Try.prog 46 [.agg (measC y m).toArray, i64 (S : Nat)].toArray w (Ret w (.agg [i64 (sumsF m S).1, i64 (sumsF m S).2].toArray)) := by
  have hI := hM.i
  refine fEnter Try.func46 rfl Try.ntmps46 rfl ?_
  refine kSeq ?_
  refine kRegion rfl ?_
  refine lE rfl ?_
  refine eBoxA rfl fun n2 => ?_
  refine lE rfl ?_
  refine eAlloc Z24 fun n4 => ?_
  refine lNil ?_
  refine kThen ?_
  refine kSeq ?_
  refine kRegion rfl ?_
  refine lV (yFieldAddr rfl F29_2) rfl rfl ?_
  refine lV (yLoadA (vs := [_, _]) rfl A24 (cOwn 1 rfl rfl)) rfl rfl ?_
  refine lE rfl ?_
  refine eAlloc Z24 fun n5 => ?_
  refine lE rfl ?_
  refine eStoreL 0 rfl rfl rfl rfl K24 rfl (rfl) ?_
  refine lNil ?_
  refine kThen ?_
  refine kSeq ?_
  refine kSeq ?_
  refine kRegion rfl ?_
  refine lV (yAssign rfl) rfl rfl ?_
  refine lNil ?_
  refine kThen ?_
  refine kBlock ?_
  refine kLoopX (ι := Nat × Int × Int) (fun x => x.1 ≤ m.images.toNat ∧ x.2 = sumsTo m S x.1 ∧ toldsOk m S x.1) (fun x => [(6, i64 (x.1 : Nat))]) [(0, _), (1, _), (2, _), (4, _), (9, _), (10, _), (5, _)] (fun x => []) (fun x => [(n5, blk [i64 x.2.1, i64 x.2.2] 24)]) [(n4, _), (n2, _)] (fun x => m.images.toNat - x.1) (0, m.sum) (⟨Nat.zero_le _, rfl, fun g hg => absurd hg (by omega)⟩) rfl (.c rfl .n) (.c rfl (.c rfl (.c rfl (.c rfl (.c rfl (.c rfl (.c rfl .n))))))) (.c 1 rfl (.c 1 rfl (.c 0 rfl .n))) ?_
  rintro ⟨i, o⟩ ⟨hi, ho, hok⟩
  dsimp only at hi ho hok ⊢
  refine kSeq ?_
  refine kSeq ?_
  refine kRegion rfl ?_
  refine lV (yMove rfl) rfl rfl ?_
  refine lV (yFieldAddr rfl F29_1) rfl rfl ?_
  refine lV (yLoad1 rfl O3 (cOwn 1 rfl rfl)) rfl rfl ?_
  refine lV (yLss rfl rfl) rfl rfl ?_
  refine lNil ?_
  refine kThen ?_
  refine split (t := 14) rfl (fun h14 => ?_) (fun h14 => ?_)
  · refine kIfT rfl ?_
    refine kSkip ?_
    refine kThen ?_
    refine kSeq ?_
    refine kBlock ?_
    refine kSeq ?_
    refine kDrawE [(0, none), (3, none), (4, none), (7, none)] [] [0, 1, 2, 3, 4, 5, 6, 7] 4 hMix (by kernel_rfl) ?_
    refine .run rfl (yLoadA (vs := [_, _, _, _, _, _, _]) rfl A29 (cOwn 1 rfl rfl)) rfl rfl ?_
    refine .run rfl (yMove rfl) rfl rfl ?_
    refine .run rfl (yMove rfl) rfl rfl ?_
    refine .run rfl (yCall rfl (.c rfl (.c rfl (.c rfl (.c rfl .n)))) C78 (fun w hw => told_any y m S (i : Nat) false w (hm.eff hw) hM hS)) rfl rfl ?_
    refine .run rfl (yLoadA (vs := [_, _, _, _, _, _, _]) rfl A29 (cOwn 1 rfl rfl)) rfl rfl ?_
    refine .run rfl (yMove rfl) rfl rfl ?_
    refine .run rfl (yMove rfl) rfl rfl ?_
    refine .run rfl (yCall rfl (.c rfl (.c rfl (.c rfl (.c rfl .n)))) C78 (fun w hw => told_any y m S (i : Nat) true w (hm.eff hw) hM hS)) rfl rfl ?_
    refine .done ?_
    refine effStep 8 [9] (by kernel_rfl) closedSt (hLeft [0, 3, 4, 7] (by kernel_rfl) (.c (fun _ _ hs => hs.ef) (.c (fun _ _ hs => hs.ef) (.c (fun _ _ hs => hs.ef) (.c (fun _ _ hs => hs.ef) .n))))) ?_
    refine (.c ?_ (.c ?_ .n))
    · refine effOne rfl (gNone rfl (fAlloc Z24)) ?_
      refine effStep 9 [] (by kernel_rfl) (closedEx fun n7 => closedSt) (hLeft [0, 3, 4, 7] (by kernel_rfl) (.c (fun _ _ ⟨n7, hs⟩ => hs.ef.sub (.c 1 rfl (.c 1 rfl (.c 1 rfl .n)))) (.c (fun _ _ ⟨n7, hs⟩ => hs.ef.sub (.c 1 rfl (.c 1 rfl (.c 1 rfl .n)))) (.c (fun _ _ ⟨n7, hs⟩ => hs.ef.sub (.c 1 rfl (.c 1 rfl (.c 1 rfl .n)))) (.c (fun _ _ ⟨n7, hs⟩ => hs.ef.sub (.c 1 rfl (.c 1 rfl (.c 1 rfl .n)))) .n))))) ?_
      refine .c ?_ .n
      refine effOne rfl (opEx fun n7 => (gNone rfl (fAlloc Z24))) ?_
      refine effStep 10 [] (by kernel_rfl) (closedEx fun n7 => (closedEx fun n8 => closedSt)) (hLeft [0, 3, 4, 7] (by kernel_rfl) (.c (fun _ _ ⟨n7, ⟨n8, hs⟩⟩ => hs.ef.sub (.c 2 rfl (.c 2 rfl (.c 2 rfl .n)))) (.c (fun _ _ ⟨n7, ⟨n8, hs⟩⟩ => hs.ef.sub (.c 2 rfl (.c 2 rfl (.c 2 rfl .n)))) (.c (fun _ _ ⟨n7, ⟨n8, hs⟩⟩ => hs.ef.sub (.c 2 rfl (.c 2 rfl (.c 2 rfl .n)))) (.c (fun _ _ ⟨n7, ⟨n8, hs⟩⟩ => hs.ef.sub (.c 2 rfl (.c 2 rfl (.c 2 rfl .n)))) .n))))) ?_
      refine .c ?_ .n
      refine effOne rfl (opEx fun n7 => (opEx fun n8 => (gNone rfl (fStoreL 1 rfl rfl rfl rfl K24 rfl (rfl))))) ?_
      refine effStep 11 [] (by kernel_rfl) (closedEx fun n7 => (closedEx fun n8 => closedSt)) (hLeft [] (by kernel_rfl) .n) ?_
      refine .c ?_ .n
      refine effOne rfl (opEx fun n7 => (opEx fun n8 => (gNone rfl (fStoreL 0 rfl rfl rfl rfl K24 rfl (rfl))))) ?_
      refine effDone (closedEx fun n7 => (closedEx fun n8 => closedSt)) (hLeft [] (by kernel_rfl) .n) (by kernel_rfl) ?_
      refine trEx fun n7 => ?_
      refine trEx fun n8 => ?_
      refine kThen ?_
      refine kSeq ?_
      refine kSeq ?_
      refine kRegion rfl ?_
      refine lV (yFieldAddr rfl F24_0) rfl rfl ?_
      refine lV (yLoad1 rfl O3 (cOwn 1 rfl rfl)) rfl rfl ?_
      refine lV (yFieldAddr rfl F24_1) rfl rfl ?_
      refine lV (yLoad1 rfl O3 (cOwn 1 rfl rfl)) rfl rfl ?_
      refine lV (yGtr rfl rfl) rfl rfl ?_
      refine lV (yMove rfl) rfl rfl ?_
      refine split (t := 30) rfl (fun h30 => ?_) (fun h30 => ?_)
      · refine lGN rfl rfl rfl rfl rfl ?_
        refine lGN rfl rfl rfl rfl rfl ?_
        refine lGN rfl rfl rfl rfl rfl ?_
        refine lGN rfl rfl rfl rfl rfl ?_
        refine lGN rfl rfl rfl rfl rfl ?_
        refine lV (yPickT rfl rfl) rfl rfl ?_
        refine lNil ?_
        refine kThen ?_
        refine kIfT rfl ?_
        refine kSeq ?_
        refine kRegion rfl ?_
        refine lV (yBuild (.c rfl (.c rfl .n)) (fun w => B24_0_1 w)) rfl rfl ?_
        refine lE rfl ?_
        refine eStoreL 2 rfl rfl rfl rfl K24 rfl (rfl) ?_
        refine lNil ?_
        refine kThen ?_
        refine kRet ?_
        refine kThenR ?_
        refine kInR ?_
        refine kThenR ?_
        refine kThenR ?_
        refine kInR ?_
        refine kThenR ?_
        refine fRet rfl (.cA (us := [_, _]) rfl A24 (cOwn 2 rfl rfl) .n) (endRet ?_)
        rw [show sumsF m S = (1, 0) from if_neg fun h => by have := h i (by omega); omega]
        rfl
      · refine lGY rfl rfl rfl (oV (yFieldAddr rfl F24_0) rfl ?_)
        refine lGY rfl rfl rfl (oV (yLoad1 rfl O3 (cOwn 0 rfl rfl)) rfl ?_)
        refine lGY rfl rfl rfl (oV (yFieldAddr rfl F24_1) rfl ?_)
        refine lGY rfl rfl rfl (oV (yLoad1 rfl O3 (cOwn 0 rfl rfl)) rfl ?_)
        refine lGY rfl rfl rfl (oV (yGtr rfl rfl) rfl ?_)
        refine lV (yPickF rfl rfl) rfl rfl ?_
        refine lNil ?_
        refine kThen ?_
        refine split (t := 36) rfl (fun h36 => ?_) (fun h36 => ?_)
        · refine kIfT rfl ?_
          refine kSeq ?_
          refine kRegion rfl ?_
          refine lV (yBuild (.c rfl (.c rfl .n)) (fun w => B24_0_1 w)) rfl rfl ?_
          refine lE rfl ?_
          refine eStoreL 2 rfl rfl rfl rfl K24 rfl (rfl) ?_
          refine lNil ?_
          refine kThen ?_
          refine kRet ?_
          refine kThenR ?_
          refine kInR ?_
          refine kThenR ?_
          refine kThenR ?_
          refine kInR ?_
          refine kThenR ?_
          refine fRet rfl (.cA (us := [_, _]) rfl A24 (cOwn 2 rfl rfl) .n) (endRet ?_)
          rw [show sumsF m S = (1, 0) from if_neg fun h => by have := h i (by omega); omega]
          rfl
        · refine kIfF rfl ?_
          refine kSkip ?_
          refine kThen ?_
          have hb1 := told_bd' hM S (i : Nat) false
          have hb2 := told_bd' hM S (i : Nat) true
          refine kRegion rfl ?_
          refine lV (yFieldAddr rfl F24_0) rfl rfl ?_
          refine lV (yLoad1 rfl O3 (cOwn 4 rfl rfl)) rfl rfl ?_
          refine lV (yFieldAddr rfl F24_0) rfl rfl ?_
          refine lV (yLoad1 rfl O3 (cOwn 1 rfl rfl)) rfl rfl ?_
          refine lV (yFieldAddr rfl F24_0) rfl rfl ?_
          refine lV (yLoad1 rfl O3 (cOwn 0 rfl rfl)) rfl rfl ?_
          refine lV (yAdd rfl rfl (by omega)) rfl rfl ?_
          refine lV (yMax rfl rfl) rfl rfl ?_
          refine lV (yFieldAddr rfl F24_1) rfl rfl ?_
          refine lV (yLoad1 rfl O3 (cOwn 4 rfl rfl)) rfl rfl ?_
          refine lV (yFieldAddr rfl F24_1) rfl rfl ?_
          refine lV (yLoad1 rfl O3 (cOwn 1 rfl rfl)) rfl rfl ?_
          refine lV (yFieldAddr rfl F24_1) rfl rfl ?_
          refine lV (yLoad1 rfl O3 (cOwn 0 rfl rfl)) rfl rfl ?_
          refine lV (yAdd rfl rfl (by omega)) rfl rfl ?_
          refine lV (yMin rfl rfl) rfl rfl ?_
          refine lV (yBuild (.c rfl (.c rfl .n)) (fun w => B24_0_1 w)) rfl rfl ?_
          refine lE rfl ?_
          refine eStoreL 4 rfl rfl rfl rfl K24 rfl (rfl) ?_
          refine lNil ?_
          refine kInN ?_
          refine kThen ?_
          refine kRegion rfl ?_
          refine lV (yMove rfl) rfl rfl ?_
          refine lV (yAdd rfl rfl (by omega)) rfl rfl ?_
          refine lV (yAssign rfl) rfl rfl ?_
          refine lNil ?_
          exact kRoundX (i + 1, max o.1 ((toldA m S (i : Nat) false).1 + (toldA m S (i : Nat) true).1), min o.2 ((toldA m S (i : Nat) false).2 + (toldA m S (i : Nat) true).2)) (⟨by dsimp only; omega, by dsimp only; rw [sumsTo_succ, ← ho], fun g hg => by rcases Nat.lt_or_ge g i with h | h; (· exact hok g h); (obtain rfl : g = i := (by dsimp only at hg; omega)); exact ⟨by omega, by omega⟩⟩) (by dsimp only; omega) rfl (.c rfl .n) (.c rfl (.c rfl (.c rfl (.c rfl (.c rfl (.c rfl (.c rfl .n))))))) (.c 2 rfl (.c 2 rfl (.c 2 rfl .n)))
    · refine effOne rfl (gNone rfl (fAlloc Z24)) ?_
      refine effStep 8 [] (by kernel_rfl) (closedEx fun n8 => closedSt) (hLeft [0, 3, 4, 7] (by kernel_rfl) (.c (fun _ _ ⟨n8, hs⟩ => hs.ef.sub (.c 1 rfl (.c 1 rfl (.c 1 rfl .n)))) (.c (fun _ _ ⟨n8, hs⟩ => hs.ef.sub (.c 1 rfl (.c 1 rfl (.c 1 rfl .n)))) (.c (fun _ _ ⟨n8, hs⟩ => hs.ef.sub (.c 1 rfl (.c 1 rfl (.c 1 rfl .n)))) (.c (fun _ _ ⟨n8, hs⟩ => hs.ef.sub (.c 1 rfl (.c 1 rfl (.c 1 rfl .n)))) .n))))) ?_
      refine .c ?_ .n
      refine effOne rfl (opEx fun n8 => (gNone rfl (fAlloc Z24))) ?_
      refine effStep 10 [] (by kernel_rfl) (closedEx fun n8 => (closedEx fun n7 => closedSt)) (hLeft [0, 3, 4, 7] (by kernel_rfl) (.c (fun _ _ ⟨n8, ⟨n7, hs⟩⟩ => hs.ef.sub (.c 2 rfl (.c 2 rfl (.c 2 rfl .n)))) (.c (fun _ _ ⟨n8, ⟨n7, hs⟩⟩ => hs.ef.sub (.c 2 rfl (.c 2 rfl (.c 2 rfl .n)))) (.c (fun _ _ ⟨n8, ⟨n7, hs⟩⟩ => hs.ef.sub (.c 2 rfl (.c 2 rfl (.c 2 rfl .n)))) (.c (fun _ _ ⟨n8, ⟨n7, hs⟩⟩ => hs.ef.sub (.c 2 rfl (.c 2 rfl (.c 2 rfl .n)))) .n))))) ?_
      refine .c ?_ .n
      refine effOne rfl (opEx fun n8 => (opEx fun n7 => (gNone rfl (fStoreL 0 rfl rfl rfl rfl K24 rfl (rfl))))) ?_
      refine effStep 11 [] (by kernel_rfl) (closedEx fun n8 => (closedEx fun n7 => closedSt)) (hLeft [] (by kernel_rfl) .n) ?_
      refine .c ?_ .n
      refine effOne rfl (opEx fun n8 => (opEx fun n7 => (gNone rfl (fStoreL 1 rfl rfl rfl rfl K24 rfl (rfl))))) ?_
      refine effDone (closedEx fun n8 => (closedEx fun n7 => closedSt)) (hLeft [] (by kernel_rfl) .n) (by kernel_rfl) ?_
      refine trEx fun n8 => ?_
      refine trEx fun n7 => ?_
      refine kThen ?_
      refine kSeq ?_
      refine kSeq ?_
      refine kRegion rfl ?_
      refine lV (yFieldAddr rfl F24_0) rfl rfl ?_
      refine lV (yLoad1 rfl O3 (cOwn 0 rfl rfl)) rfl rfl ?_
      refine lV (yFieldAddr rfl F24_1) rfl rfl ?_
      refine lV (yLoad1 rfl O3 (cOwn 0 rfl rfl)) rfl rfl ?_
      refine lV (yGtr rfl rfl) rfl rfl ?_
      refine lV (yMove rfl) rfl rfl ?_
      refine split (t := 30) rfl (fun h30 => ?_) (fun h30 => ?_)
      · refine lGN rfl rfl rfl rfl rfl ?_
        refine lGN rfl rfl rfl rfl rfl ?_
        refine lGN rfl rfl rfl rfl rfl ?_
        refine lGN rfl rfl rfl rfl rfl ?_
        refine lGN rfl rfl rfl rfl rfl ?_
        refine lV (yPickT rfl rfl) rfl rfl ?_
        refine lNil ?_
        refine kThen ?_
        refine kIfT rfl ?_
        refine kSeq ?_
        refine kRegion rfl ?_
        refine lV (yBuild (.c rfl (.c rfl .n)) (fun w => B24_0_1 w)) rfl rfl ?_
        refine lE rfl ?_
        refine eStoreL 2 rfl rfl rfl rfl K24 rfl (rfl) ?_
        refine lNil ?_
        refine kThen ?_
        refine kRet ?_
        refine kThenR ?_
        refine kInR ?_
        refine kThenR ?_
        refine kThenR ?_
        refine kInR ?_
        refine kThenR ?_
        refine fRet rfl (.cA (us := [_, _]) rfl A24 (cOwn 2 rfl rfl) .n) (endRet ?_)
        rw [show sumsF m S = (1, 0) from if_neg fun h => by have := h i (by omega); omega]
        rfl
      · refine lGY rfl rfl rfl (oV (yFieldAddr rfl F24_0) rfl ?_)
        refine lGY rfl rfl rfl (oV (yLoad1 rfl O3 (cOwn 1 rfl rfl)) rfl ?_)
        refine lGY rfl rfl rfl (oV (yFieldAddr rfl F24_1) rfl ?_)
        refine lGY rfl rfl rfl (oV (yLoad1 rfl O3 (cOwn 1 rfl rfl)) rfl ?_)
        refine lGY rfl rfl rfl (oV (yGtr rfl rfl) rfl ?_)
        refine lV (yPickF rfl rfl) rfl rfl ?_
        refine lNil ?_
        refine kThen ?_
        refine split (t := 36) rfl (fun h36 => ?_) (fun h36 => ?_)
        · refine kIfT rfl ?_
          refine kSeq ?_
          refine kRegion rfl ?_
          refine lV (yBuild (.c rfl (.c rfl .n)) (fun w => B24_0_1 w)) rfl rfl ?_
          refine lE rfl ?_
          refine eStoreL 2 rfl rfl rfl rfl K24 rfl (rfl) ?_
          refine lNil ?_
          refine kThen ?_
          refine kRet ?_
          refine kThenR ?_
          refine kInR ?_
          refine kThenR ?_
          refine kThenR ?_
          refine kInR ?_
          refine kThenR ?_
          refine fRet rfl (.cA (us := [_, _]) rfl A24 (cOwn 2 rfl rfl) .n) (endRet ?_)
          rw [show sumsF m S = (1, 0) from if_neg fun h => by have := h i (by omega); omega]
          rfl
        · refine kIfF rfl ?_
          refine kSkip ?_
          refine kThen ?_
          have hb1 := told_bd' hM S (i : Nat) false
          have hb2 := told_bd' hM S (i : Nat) true
          refine kRegion rfl ?_
          refine lV (yFieldAddr rfl F24_0) rfl rfl ?_
          refine lV (yLoad1 rfl O3 (cOwn 4 rfl rfl)) rfl rfl ?_
          refine lV (yFieldAddr rfl F24_0) rfl rfl ?_
          refine lV (yLoad1 rfl O3 (cOwn 0 rfl rfl)) rfl rfl ?_
          refine lV (yFieldAddr rfl F24_0) rfl rfl ?_
          refine lV (yLoad1 rfl O3 (cOwn 1 rfl rfl)) rfl rfl ?_
          refine lV (yAdd rfl rfl (by omega)) rfl rfl ?_
          refine lV (yMax rfl rfl) rfl rfl ?_
          refine lV (yFieldAddr rfl F24_1) rfl rfl ?_
          refine lV (yLoad1 rfl O3 (cOwn 4 rfl rfl)) rfl rfl ?_
          refine lV (yFieldAddr rfl F24_1) rfl rfl ?_
          refine lV (yLoad1 rfl O3 (cOwn 0 rfl rfl)) rfl rfl ?_
          refine lV (yFieldAddr rfl F24_1) rfl rfl ?_
          refine lV (yLoad1 rfl O3 (cOwn 1 rfl rfl)) rfl rfl ?_
          refine lV (yAdd rfl rfl (by omega)) rfl rfl ?_
          refine lV (yMin rfl rfl) rfl rfl ?_
          refine lV (yBuild (.c rfl (.c rfl .n)) (fun w => B24_0_1 w)) rfl rfl ?_
          refine lE rfl ?_
          refine eStoreL 4 rfl rfl rfl rfl K24 rfl (rfl) ?_
          refine lNil ?_
          refine kInN ?_
          refine kThen ?_
          refine kRegion rfl ?_
          refine lV (yMove rfl) rfl rfl ?_
          refine lV (yAdd rfl rfl (by omega)) rfl rfl ?_
          refine lV (yAssign rfl) rfl rfl ?_
          refine lNil ?_
          exact kRoundX (i + 1, max o.1 ((toldA m S (i : Nat) false).1 + (toldA m S (i : Nat) true).1), min o.2 ((toldA m S (i : Nat) false).2 + (toldA m S (i : Nat) true).2)) (⟨by dsimp only; omega, by dsimp only; rw [sumsTo_succ, ← ho], fun g hg => by rcases Nat.lt_or_ge g i with h | h; (· exact hok g h); (obtain rfl : g = i := (by dsimp only at hg; omega)); exact ⟨by omega, by omega⟩⟩) (by dsimp only; omega) rfl (.c rfl .n) (.c rfl (.c rfl (.c rfl (.c rfl (.c rfl (.c rfl (.c rfl .n))))))) (.c 2 rfl (.c 2 rfl (.c 2 rfl .n)))
  · refine kIfF rfl ?_
    refine kExit ?_
    refine kThenX ?_
    refine kThenX ?_
    refine kInX ?_
    refine kThen ?_
    refine kSeq ?_
    refine kRegion rfl ?_
    refine lV (yLoadA (vs := [_, _]) rfl A24 (cOwn 2 rfl rfl)) rfl rfl ?_
    refine lE rfl ?_
    refine eStoreL 0 rfl rfl rfl rfl K24 rfl (rfl) ?_
    refine lNil ?_
    refine kThen ?_
    refine kRet ?_
    refine fRet rfl (.cA (us := [_, _]) rfl A24 (cOwn 0 rfl rfl) .n) (endRet ?_)
    obtain rfl : i = m.images.toNat := by omega
    rw [show sumsF m S = sumsTo m S m.images.toNat from if_pos hok, ← ho]
    rfl
theorem fullS_62 {m : Meas} (hM : MeasOk m) : fullS m < 2 ^ 62 := by have := fullS_lt hM; omega
set_option maxRecDepth 100000 in
theorem revery_any (y : Loc) (m : Meas) (w : World) (hM : MeasOk m) :
    Calls Try.prog 63 [.agg (measC y m).toArray].toArray w (Ret w (i64 (fullS m : Nat))) := by
  have hN := hM.n
  have hp := Nat.two_pow_pos m.sets.length
  have hp2 := fullS_lt hM
  unfold fullS at hp2 ⊢
  refine fEnter Try.func63 rfl Try.ntmps63 rfl ?_
  refine kSeq ?_
  refine kRegion rfl ?_
  refine lE rfl ?_
  refine eBoxA rfl fun n1 => ?_
  refine lV (yAssign rfl) rfl rfl ?_
  refine lNil ?_
  refine kThen ?_
  refine kSeq ?_
  refine kRegion rfl ?_
  refine lV (yFieldAddr rfl F29_3) rfl rfl ?_
  refine lV (yLoad1 rfl O27 (cOwn 0 rfl rfl)) rfl rfl ?_
  refine lV (yLen rfl S27) rfl rfl ?_
  refine lV (yCall rfl (.c rfl .n) C75 (fun w hw => power_any m.sets.length w (by omega))) rfl rfl ?_
  refine lV (ySub rfl rfl (by omega)) rfl rfl ?_
  refine same (t := 7) (u := i64 ((2 ^ m.sets.length - 1 : Nat) : Int)) rfl (by congr 1; omega) ?_
  refine lV (yAssign rfl) rfl rfl ?_
  refine lNil ?_
  refine kThen ?_
  refine kRet ?_
  refine fRet rfl (.t rfl .n) (endRet ?_)
  first | rfl | (simp [packV, *]; done)
set_option maxRecDepth 100000 in
theorem rplaces_any (y : Loc) (m : Meas) (S : Nat) (g s : Int) (w : World) (hm : InM w y m) (hM : MeasOk m) (hS : S < 2 ^ 62) (hs : 0 ≤ s ∧ s ≤ 131072) :
    Calls Try.prog 62 [.agg (measC y m).toArray, i64 (S : Nat), i64 g, i64 s].toArray w (Ret w (.agg [i64 (placesF m S g s).1, i64 (placesF m S g s).2].toArray)) := by
  have hb1 := told_bd' hM S g false
  have hb2 := told_bd' hM S g true
  refine fEnter Try.func62 rfl Try.ntmps62 rfl ?_
  refine kSeq ?_
  refine kRegion rfl ?_
  refine lE rfl ?_
  refine eBoxA rfl fun n4 => ?_
  refine lE rfl ?_
  refine eAlloc Z24 fun n8 => ?_
  refine lNil ?_
  refine kThen ?_
  refine kSeq ?_
  refine kDrawE [(0, none), (3, none), (4, none), (7, none)] [] [0, 1, 2, 3, 4, 5, 6, 7] 4 hMix (by kernel_rfl) ?_
  refine .run rfl (yLoadA (vs := [_, _, _, _, _, _, _]) rfl A29 (cOwn 1 rfl rfl)) rfl rfl ?_
  refine .run rfl (yMove rfl) rfl rfl ?_
  refine .run rfl (yMove rfl) rfl rfl ?_
  refine .run rfl (yCall rfl (.c rfl (.c rfl (.c rfl (.c rfl .n)))) C78 (fun w hw => told_any y m S g false w (hm.eff hw) hM hS)) rfl rfl ?_
  refine .run rfl (yLoadA (vs := [_, _, _, _, _, _, _]) rfl A29 (cOwn 1 rfl rfl)) rfl rfl ?_
  refine .run rfl (yMove rfl) rfl rfl ?_
  refine .run rfl (yMove rfl) rfl rfl ?_
  refine .run rfl (yCall rfl (.c rfl (.c rfl (.c rfl (.c rfl .n)))) C78 (fun w hw => told_any y m S g true w (hm.eff hw) hM hS)) rfl rfl ?_
  refine .done ?_
  refine effStep 8 [9] (by kernel_rfl) closedSt (hLeft [0, 3, 4, 7] (by kernel_rfl) (.c (fun _ _ hs => hs.ef) (.c (fun _ _ hs => hs.ef) (.c (fun _ _ hs => hs.ef) (.c (fun _ _ hs => hs.ef) .n))))) ?_
  refine (.c ?_ (.c ?_ .n))
  · refine effOne rfl (gNone rfl (fAlloc Z24)) ?_
    refine effStep 9 [] (by kernel_rfl) (closedEx fun n9 => closedSt) (hLeft [0, 3, 4, 7] (by kernel_rfl) (.c (fun _ _ ⟨n9, hs⟩ => hs.ef.sub (.c 1 rfl (.c 1 rfl .n))) (.c (fun _ _ ⟨n9, hs⟩ => hs.ef.sub (.c 1 rfl (.c 1 rfl .n))) (.c (fun _ _ ⟨n9, hs⟩ => hs.ef.sub (.c 1 rfl (.c 1 rfl .n))) (.c (fun _ _ ⟨n9, hs⟩ => hs.ef.sub (.c 1 rfl (.c 1 rfl .n))) .n))))) ?_
    refine .c ?_ .n
    refine effOne rfl (opEx fun n9 => (gNone rfl (fAlloc Z24))) ?_
    refine effStep 10 [] (by kernel_rfl) (closedEx fun n9 => (closedEx fun n10 => closedSt)) (hLeft [0, 3, 4, 7] (by kernel_rfl) (.c (fun _ _ ⟨n9, ⟨n10, hs⟩⟩ => hs.ef.sub (.c 2 rfl (.c 2 rfl .n))) (.c (fun _ _ ⟨n9, ⟨n10, hs⟩⟩ => hs.ef.sub (.c 2 rfl (.c 2 rfl .n))) (.c (fun _ _ ⟨n9, ⟨n10, hs⟩⟩ => hs.ef.sub (.c 2 rfl (.c 2 rfl .n))) (.c (fun _ _ ⟨n9, ⟨n10, hs⟩⟩ => hs.ef.sub (.c 2 rfl (.c 2 rfl .n))) .n))))) ?_
    refine .c ?_ .n
    refine effOne rfl (opEx fun n9 => (opEx fun n10 => (gNone rfl (fStoreL 1 rfl rfl rfl rfl K24 rfl (rfl))))) ?_
    refine effStep 11 [] (by kernel_rfl) (closedEx fun n9 => (closedEx fun n10 => closedSt)) (hLeft [] (by kernel_rfl) .n) ?_
    refine .c ?_ .n
    refine effOne rfl (opEx fun n9 => (opEx fun n10 => (gNone rfl (fStoreL 0 rfl rfl rfl rfl K24 rfl (rfl))))) ?_
    refine effDone (closedEx fun n9 => (closedEx fun n10 => closedSt)) (hLeft [] (by kernel_rfl) .n) (by kernel_rfl) ?_
    refine trEx fun n9 => ?_
    refine trEx fun n10 => ?_
    refine kThen ?_
    refine kSeq ?_
    refine kRegion rfl ?_
    refine lV (yFieldAddr rfl F24_0) rfl rfl ?_
    refine lV (yLoad1 rfl O3 (cOwn 1 rfl rfl)) rfl rfl ?_
    refine lV (yMove rfl) rfl rfl ?_
    refine lV (yFieldAddr rfl F24_1) rfl rfl ?_
    refine lV (yLoad1 rfl O3 (cOwn 0 rfl rfl)) rfl rfl ?_
    refine lV (ySub rfl rfl (by omega)) rfl rfl ?_
    refine lV (yMax rfl rfl) rfl rfl ?_
    refine lV (yFieldAddr rfl F24_1) rfl rfl ?_
    refine lV (yLoad1 rfl O3 (cOwn 1 rfl rfl)) rfl rfl ?_
    refine lV (yMove rfl) rfl rfl ?_
    refine lV (yFieldAddr rfl F24_0) rfl rfl ?_
    refine lV (yLoad1 rfl O3 (cOwn 0 rfl rfl)) rfl rfl ?_
    refine lV (ySub rfl rfl (by omega)) rfl rfl ?_
    refine lV (yMin rfl rfl) rfl rfl ?_
    refine lV (yBuild (.c rfl (.c rfl .n)) (fun w => B24_0_1 w)) rfl rfl ?_
    refine lE rfl ?_
    refine eStoreL 2 rfl rfl rfl rfl K24 rfl (rfl) ?_
    refine lNil ?_
    refine kThen ?_
    refine kRet ?_
    refine fRet rfl (.cA (us := [_, _]) rfl A24 (cOwn 2 rfl rfl) .n) (endRet ?_)
    rfl
  · refine effOne rfl (gNone rfl (fAlloc Z24)) ?_
    refine effStep 8 [] (by kernel_rfl) (closedEx fun n10 => closedSt) (hLeft [0, 3, 4, 7] (by kernel_rfl) (.c (fun _ _ ⟨n10, hs⟩ => hs.ef.sub (.c 1 rfl (.c 1 rfl .n))) (.c (fun _ _ ⟨n10, hs⟩ => hs.ef.sub (.c 1 rfl (.c 1 rfl .n))) (.c (fun _ _ ⟨n10, hs⟩ => hs.ef.sub (.c 1 rfl (.c 1 rfl .n))) (.c (fun _ _ ⟨n10, hs⟩ => hs.ef.sub (.c 1 rfl (.c 1 rfl .n))) .n))))) ?_
    refine .c ?_ .n
    refine effOne rfl (opEx fun n10 => (gNone rfl (fAlloc Z24))) ?_
    refine effStep 10 [] (by kernel_rfl) (closedEx fun n10 => (closedEx fun n9 => closedSt)) (hLeft [0, 3, 4, 7] (by kernel_rfl) (.c (fun _ _ ⟨n10, ⟨n9, hs⟩⟩ => hs.ef.sub (.c 2 rfl (.c 2 rfl .n))) (.c (fun _ _ ⟨n10, ⟨n9, hs⟩⟩ => hs.ef.sub (.c 2 rfl (.c 2 rfl .n))) (.c (fun _ _ ⟨n10, ⟨n9, hs⟩⟩ => hs.ef.sub (.c 2 rfl (.c 2 rfl .n))) (.c (fun _ _ ⟨n10, ⟨n9, hs⟩⟩ => hs.ef.sub (.c 2 rfl (.c 2 rfl .n))) .n))))) ?_
    refine .c ?_ .n
    refine effOne rfl (opEx fun n10 => (opEx fun n9 => (gNone rfl (fStoreL 0 rfl rfl rfl rfl K24 rfl (rfl))))) ?_
    refine effStep 11 [] (by kernel_rfl) (closedEx fun n10 => (closedEx fun n9 => closedSt)) (hLeft [] (by kernel_rfl) .n) ?_
    refine .c ?_ .n
    refine effOne rfl (opEx fun n10 => (opEx fun n9 => (gNone rfl (fStoreL 1 rfl rfl rfl rfl K24 rfl (rfl))))) ?_
    refine effDone (closedEx fun n10 => (closedEx fun n9 => closedSt)) (hLeft [] (by kernel_rfl) .n) (by kernel_rfl) ?_
    refine trEx fun n10 => ?_
    refine trEx fun n9 => ?_
    refine kThen ?_
    refine kSeq ?_
    refine kRegion rfl ?_
    refine lV (yFieldAddr rfl F24_0) rfl rfl ?_
    refine lV (yLoad1 rfl O3 (cOwn 0 rfl rfl)) rfl rfl ?_
    refine lV (yMove rfl) rfl rfl ?_
    refine lV (yFieldAddr rfl F24_1) rfl rfl ?_
    refine lV (yLoad1 rfl O3 (cOwn 1 rfl rfl)) rfl rfl ?_
    refine lV (ySub rfl rfl (by omega)) rfl rfl ?_
    refine lV (yMax rfl rfl) rfl rfl ?_
    refine lV (yFieldAddr rfl F24_1) rfl rfl ?_
    refine lV (yLoad1 rfl O3 (cOwn 0 rfl rfl)) rfl rfl ?_
    refine lV (yMove rfl) rfl rfl ?_
    refine lV (yFieldAddr rfl F24_0) rfl rfl ?_
    refine lV (yLoad1 rfl O3 (cOwn 1 rfl rfl)) rfl rfl ?_
    refine lV (ySub rfl rfl (by omega)) rfl rfl ?_
    refine lV (yMin rfl rfl) rfl rfl ?_
    refine lV (yBuild (.c rfl (.c rfl .n)) (fun w => B24_0_1 w)) rfl rfl ?_
    refine lE rfl ?_
    refine eStoreL 2 rfl rfl rfl rfl K24 rfl (rfl) ?_
    refine lNil ?_
    refine kThen ?_
    refine kRet ?_
    refine fRet rfl (.cA (us := [_, _]) rfl A24 (cOwn 2 rfl rfl) .n) (endRet ?_)
    rfl
/-- What the document's open returns. -/
def openR (m : Meas) (v : Bool) : (Int × Int) × Int := if ¬ MeasOk m then ((0, 0), 1) else if v = false then ((0, 0), 2) else if ¬ okF m then ((0, 0), 10) else (sumsF m (fullS m), 0)
set_option maxRecDepth 100000 in
theorem ropen_any (y : Loc) (m : Meas) (v : Bool) (w : World) (hm : InM w y m) (hn : m.errs.length ≤ 1000000) :
    Calls Try.prog 57 [.agg (measC y m).toArray, .bool v].toArray w (Ret w (outC (openR m v))) := by
  refine fEnter Try.func57 rfl Try.ntmps57 rfl ?_
  refine kSeq ?_
  refine kRegion rfl ?_
  refine lE rfl ?_
  refine eBoxA rfl fun n2 => ?_
  refine lE rfl ?_
  refine eAlloc Z24 fun n4 => ?_
  refine lV (yAssign rfl) rfl rfl ?_
  refine lNil ?_
  refine kThen ?_
  refine kSeq ?_
  refine kSeq ?_
  refine kRegion rfl ?_
  refine lV (yLoadA (vs := [_, _, _, _, _, _, _]) rfl A29 (cOwn 1 rfl rfl)) rfl rfl ?_
  refine lV (yCall rfl (.c rfl .n) C28 (fun w hw => rmeasure_any y m w (hm.eff hw) hn)) rfl rfl ?_
  refine lV (yNot rfl) rfl rfl ?_
  refine lNil ?_
  refine kThen ?_
  refine splitB (t := 9) rfl (fun h9 => ?_) (fun h9 => ?_)
  · refine kIfT rfl ?_
    refine kSeq ?_
    refine kRegion rfl ?_
    refine lV (yBuild .n (fun w => B24_ w)) rfl rfl ?_
    refine lE rfl ?_
    refine eStoreL 0 rfl rfl rfl rfl K24 rfl (rfl) ?_
    refine lV (yAssign rfl) rfl rfl ?_
    refine lNil ?_
    refine kThen ?_
    refine kRet ?_
    refine kThenR ?_
    refine fRet rfl (.cA (us := [_, _]) rfl A24 (cOwn 0 rfl rfl) (.t rfl .n)) (endRet ?_)
    rw [show openR m v = ((0, 0), 1) from if_pos (notT h9)]
    rfl
  · refine kIfF rfl ?_
    refine kSkip ?_
    refine kThen ?_
    refine kSeq ?_
    refine kSeq ?_
    refine kRegion rfl ?_
    refine lV (yMove rfl) rfl rfl ?_
    refine lV (yNot rfl) rfl rfl ?_
    refine lNil ?_
    refine kThen ?_
    refine splitB (t := 12) rfl (fun h12 => ?_) (fun h12 => ?_)
    · refine kIfT rfl ?_
      refine kSeq ?_
      refine kRegion rfl ?_
      refine lV (yBuild .n (fun w => B24_ w)) rfl rfl ?_
      refine lE rfl ?_
      refine eStoreL 0 rfl rfl rfl rfl K24 rfl (rfl) ?_
      refine lV (yAssign rfl) rfl rfl ?_
      refine lNil ?_
      refine kThen ?_
      refine kRet ?_
      refine kThenR ?_
      refine fRet rfl (.cA (us := [_, _]) rfl A24 (cOwn 0 rfl rfl) (.t rfl .n)) (endRet ?_)
      rw [show openR m v = ((0, 0), 2) from (if_neg (not_not_intro (notF h9))).trans (if_pos (by simpa using h12))]
      rfl
    · refine kIfF rfl ?_
      refine kSkip ?_
      refine kThen ?_
      refine kSeq ?_
      refine kDrawE [(0, none), (1, none), (2, none), (3, none)] [] [0, 1, 2, 3] 2 hMix (by kernel_rfl) ?_
      refine .run rfl (yLoadA (vs := [_, _, _, _, _, _, _]) rfl A29 (cOwn 1 rfl rfl)) rfl rfl ?_
      refine .run rfl (yLoadA (vs := [_, _, _, _, _, _, _]) rfl A29 (cOwn 1 rfl rfl)) rfl rfl ?_
      refine .run rfl (yCall rfl (.c rfl .n) C63 (fun w hw => revery_any y m w (notF h9))) rfl rfl ?_
      refine .run rfl (yCall rfl (.c rfl (.c rfl .n)) C46 (fun w hw => rsums_any y m (fullS m) w (hm.eff hw) (notF h9) (fullS_62 (notF h9)))) rfl rfl ?_
      refine .done ?_
      refine effStep 4 [] (by kernel_rfl) closedSt (hLeft [0, 1, 2, 3] (by kernel_rfl) (.c (fun _ _ hs => hs.ef) (.c (fun _ _ hs => hs.ef) (.c (fun _ _ hs => hs.ef) (.c (fun _ _ hs => hs.ef) .n))))) ?_
      refine .c ?_ .n
      refine effOne rfl (gNone rfl (fAlloc Z24)) ?_
      refine effStep 5 [] (by kernel_rfl) (closedEx fun n6 => closedSt) (hLeft [0, 1, 2, 3] (by kernel_rfl) (.c (fun _ _ ⟨n6, hs⟩ => hs.ef.sub (.c 1 rfl (.c 1 rfl .n))) (.c (fun _ _ ⟨n6, hs⟩ => hs.ef.sub (.c 1 rfl (.c 1 rfl .n))) (.c (fun _ _ ⟨n6, hs⟩ => hs.ef.sub (.c 1 rfl (.c 1 rfl .n))) (.c (fun _ _ ⟨n6, hs⟩ => hs.ef.sub (.c 1 rfl (.c 1 rfl .n))) .n))))) ?_
      refine .c ?_ .n
      refine effOne rfl (opEx fun n6 => (gNone rfl (fStoreL 0 rfl rfl rfl rfl K24 rfl (rfl)))) ?_
      refine effDone (closedEx fun n6 => closedSt) (hLeft [] (by kernel_rfl) .n) (by kernel_rfl) ?_
      refine trEx fun n6 => ?_
      refine kThen ?_
      refine kSeq ?_
      refine kSeq ?_
      refine kRegion rfl ?_
      refine lV (yFieldAddr rfl F24_0) rfl rfl ?_
      refine lV (yLoad1 rfl O3 (cOwn 0 rfl rfl)) rfl rfl ?_
      refine lV (yFieldAddr rfl F24_1) rfl rfl ?_
      refine lV (yLoad1 rfl O3 (cOwn 0 rfl rfl)) rfl rfl ?_
      refine lV (yGtr rfl rfl) rfl rfl ?_
      refine lNil ?_
      refine kThen ?_
      refine split (t := 22) rfl (fun h22 => ?_) (fun h22 => ?_)
      · refine kIfT rfl ?_
        refine kSeq ?_
        refine kRegion rfl ?_
        refine lV (yBuild .n (fun w => B24_ w)) rfl rfl ?_
        refine lE rfl ?_
        refine eStoreL 1 rfl rfl rfl rfl K24 rfl (rfl) ?_
        refine lV (yAssign rfl) rfl rfl ?_
        refine lNil ?_
        refine kThen ?_
        refine kRet ?_
        refine kThenR ?_
        refine fRet rfl (.cA (us := [_, _]) rfl A24 (cOwn 1 rfl rfl) (.t rfl .n)) (endRet ?_)
        rw [show openR m v = ((0, 0), 10) from (if_neg (not_not_intro (notF h9))).trans ((if_neg (by simpa using h12)).trans (if_pos (by unfold okF; omega)))]
        rfl
      · refine kIfF rfl ?_
        refine kSkip ?_
        refine kThen ?_
        refine kSeq ?_
        refine kRegion rfl ?_
        refine lV (yLoadA (vs := [_, _]) rfl A24 (cOwn 0 rfl rfl)) rfl rfl ?_
        refine lE rfl ?_
        refine eStoreL 1 rfl rfl rfl rfl K24 rfl (rfl) ?_
        refine lV (yAssign rfl) rfl rfl ?_
        refine lNil ?_
        refine kThen ?_
        refine kRet ?_
        refine fRet rfl (.cA (us := [_, _]) rfl A24 (cOwn 1 rfl rfl) (.t rfl .n)) (endRet ?_)
        rw [show openR m v = (sumsF m (fullS m), 0) from (if_neg (not_not_intro (notF h9))).trans ((if_neg (by simpa using h12)).trans (if_neg (by unfold okF; omega)))]
        rfl
theorem openR_bad {m : Meas} (v : Bool) (h : ¬ MeasOk m) : openR m v = ((0, 0), 1) := if_pos h
theorem openR_rng {m : Meas} (h : MeasOk m) : openR m false = ((0, 0), 2) := (if_neg (not_not_intro h)).trans (if_pos rfl)
theorem openR_clash {m : Meas} (h : MeasOk m) (ho : ¬ okF m) : openR m true = ((0, 0), 10) := (if_neg (not_not_intro h)).trans ((if_neg (by simp)).trans (if_pos ho))
theorem openR_good {m : Meas} (h : MeasOk m) (ho : okF m) : openR m true = (sumsF m (fullS m), 0) := (if_neg (not_not_intro h)).trans ((if_neg (by simp)).trans (if_neg (not_not_intro ho)))
theorem openR_ok {m : Meas} {v : Bool} (h : (openR m v).2 = 0) : MeasOk m ∧ v = true ∧ okF m ∧ openR m v = (sumsF m (fullS m), 0) := by
  by_cases hM : MeasOk m
  · cases v
    · rw [openR_rng hM] at h; exact absurd h (by decide)
    · by_cases ho : okF m
      · exact ⟨hM, rfl, ho, openR_good hM ho⟩
      · rw [openR_clash hM ho] at h; exact absurd h (by decide)
  · rw [openR_bad _ hM] at h; exact absurd h (by decide)
theorem openR_err {m : Meas} {v : Bool} (h : (openR m v).2 ≠ 0) : openR m v = ((0, 0), (openR m v).2) := by
  by_cases hM : MeasOk m
  · cases v
    · rw [openR_rng hM]
    · by_cases ho : okF m
      · rw [openR_good hM ho] at h; exact absurd rfl h
      · rw [openR_clash hM ho]
  · rw [openR_bad _ hM]
theorem placeR_open (m : Meas) (a : Int) : placeR m a = if (openR m (decide (0 ≤ a ∧ a ≤ m.images - 1))).2 ≠ 0 then ((0, 0), (openR m (decide (0 ≤ a ∧ a ≤ m.images - 1))).2) else if ¬ seenP m a then ((0, 0), 12) else (placeF m (fullS m) a, 0) := by
  unfold placeR
  by_cases hM : MeasOk m
  · rw [if_neg (not_not_intro hM)]
    by_cases hI : 0 ≤ a ∧ a ≤ m.images - 1
    · rw [if_neg (not_not_intro hI), decide_eq_true hI]
      by_cases ho : okF m
      · rw [if_neg (not_not_intro ho), openR_good hM ho]; exact (if_neg (not_not_intro rfl)).symm
      · rw [if_pos ho, openR_clash hM ho, if_pos (by simp)]
    · rw [if_pos hI, decide_eq_false hI, openR_rng hM, if_pos (by simp)]
  · rw [if_pos hM, openR_bad _ hM, if_pos (by simp)]
theorem apartR_open (m : Meas) (a b : Int) (v : Bool) (hv : v = decide ((0 ≤ a ∧ a ≤ m.images - 1) ∧ (0 ≤ b ∧ b ≤ m.images - 1))) : apartR m a b = if (openR m v).2 ≠ 0 then ((0, 0), (openR m v).2) else if a = b then ((0, 0), 0) else if ¬ (seenP m a ∧ seenP m b) then ((0, 0), 12) else (apartF m (fullS m) a b, 0) := by
  subst hv
  unfold apartR
  by_cases hM : MeasOk m
  · rw [if_neg (not_not_intro hM)]
    by_cases hI : (0 ≤ a ∧ a ≤ m.images - 1) ∧ (0 ≤ b ∧ b ≤ m.images - 1)
    · rw [if_neg (not_not_intro hI), decide_eq_true hI]
      by_cases ho : okF m
      · rw [if_neg (not_not_intro ho), openR_good hM ho]; exact (if_neg (not_not_intro rfl)).symm
      · rw [if_pos ho, openR_clash hM ho, if_pos (by simp)]
    · rw [if_pos hI, decide_eq_false hI, openR_rng hM, if_pos (by simp)]
  · rw [if_pos hM, openR_bad _ hM, if_pos (by simp)]
theorem and_dec {p q : Prop} [Decidable p] [Decidable q] (h : p) : decide q = decide (p ∧ q) := by simp [h]
theorem and_nodec {p q : Prop} [Decidable p] [Decidable q] (h : ¬ p) : false = decide (p ∧ q) := by simp [h]
set_option maxRecDepth 100000 in
theorem rseen_any (y : Loc) (m : Meas) (a : Int) (w : World) (hm : InM w y m) (hN : m.sets.length ≤ 1000) :
    Calls Try.prog 61 [.agg (measC y m).toArray, i64 a].toArray w (Ret w (.bool (decide (seenP m a)))) := by
  refine fEnter Try.func61 rfl Try.ntmps61 rfl ?_
  refine kSeq ?_
  refine kRegion rfl ?_
  refine lE rfl ?_
  refine eBoxA rfl fun n2 => ?_
  refine lV (yAssign rfl) rfl rfl ?_
  refine lNil ?_
  refine kThen ?_
  refine kSeq ?_
  refine kSeq ?_
  refine kRegion rfl ?_
  refine lV (yAssign rfl) rfl rfl ?_
  refine lNil ?_
  refine kThen ?_
  refine kBlock ?_
  refine kLoopX (ι := Nat) (fun i => i ≤ m.sets.length ∧ ∀ j, j < i → (setAt m j).1 ≠ a) (fun i => [(5, i64 (i : Nat))]) [(0, _), (1, _), (2, _)] (fun i => []) (fun i => []) [(n2, _)] (fun i => m.sets.length - i) 0 (⟨Nat.zero_le _, fun j hj => absurd hj (by omega)⟩) rfl (.c rfl .n) (.c rfl (.c rfl (.c rfl .n))) (.c 0 rfl .n) ?_
  rintro i ⟨hi, hok⟩
  refine kSeq ?_
  refine kSeq ?_
  refine kRegion rfl ?_
  refine lV (yMove rfl) rfl rfl ?_
  refine lV (yFieldAddr rfl F29_3) rfl rfl ?_
  refine lV (yLoad1 rfl O27 (cOwn 0 rfl rfl)) rfl rfl ?_
  refine lV (yLen rfl S27) rfl rfl ?_
  refine lV (yLss rfl rfl) rfl rfl ?_
  refine lNil ?_
  refine kThen ?_
  refine split (t := 10) rfl (fun h10 => ?_) (fun h10 => ?_)
  · refine kIfT rfl ?_
    refine kSkip ?_
    refine kThen ?_
    refine kSeq ?_
    refine kBlock ?_
    refine kSeq ?_
    refine kRegion rfl ?_
    refine lV (yFieldAddr rfl F29_3) rfl rfl ?_
    refine lV (yLoad1 rfl O27 (cOwn 0 rfl rfl)) rfl rfl ?_
    refine lV (yMove rfl) rfl rfl ?_
    refine lV (yIndexS  rfl rfl S27 (hm.s.r) ((by omega))) rfl rfl ?_
    refine lV (yFieldAddr rfl F49_0) rfl rfl ?_
    refine lV (yLoad1 rfl O3 (cSl (hm.s.r) ((by omega)) rfl)) rfl rfl ?_
    refine lV (yMove rfl) rfl rfl ?_
    refine lV (yEql rfl rfl) rfl rfl ?_
    refine lNil ?_
    refine kThen ?_
    refine split (t := 20) rfl (fun h20 => ?_) (fun h20 => ?_)
    · refine kIfT rfl ?_
      refine kSeq ?_
      refine kRegion rfl ?_
      refine lV (yAssign rfl) rfl rfl ?_
      refine lNil ?_
      refine kThen ?_
      refine kRet ?_
      refine kInR ?_
      refine kThenR ?_
      refine kThenR ?_
      refine kInR ?_
      refine kThenR ?_
      refine fRet rfl (.t rfl .n) (endRet ?_)
      rw [decide_eq_true ((seenP_iff m a).2 ⟨_, getD_mem (i := i) (by omega) (0, 0, false), h20⟩)]
      rfl
    · refine kIfF rfl ?_
      refine kSkip ?_
      refine kInN ?_
      refine kThen ?_
      refine kRegion rfl ?_
      refine lV (yMove rfl) rfl rfl ?_
      refine lV (yAdd rfl rfl (by omega)) rfl rfl ?_
      refine lV (yAssign rfl) rfl rfl ?_
      refine lNil ?_
      exact kRoundX (i + 1) (⟨by omega, fun j hj => by rcases Nat.lt_or_ge j i with h | h; (· exact hok j h); (obtain rfl : j = i := (by omega)); exact h20⟩) (by omega) rfl (.c rfl .n) (.c rfl (.c rfl (.c rfl .n))) (.c 0 rfl .n)
  · refine kIfF rfl ?_
    refine kExit ?_
    refine kThenX ?_
    refine kThenX ?_
    refine kInX ?_
    refine kThen ?_
    refine kSeq ?_
    refine kRegion rfl ?_
    refine lV (yAssign rfl) rfl rfl ?_
    refine lNil ?_
    refine kThen ?_
    refine kRet ?_
    refine fRet rfl (.t rfl .n) (endRet ?_)
    rw [decide_eq_false fun h => by
      obtain ⟨x, hx, he⟩ := (seenP_iff m a).1 h
      obtain ⟨j, hj, rfl⟩ := List.mem_iff_getElem.1 hx
      refine hok j (by omega) ?_
      unfold setAt
      rw [← List.getElem_eq_getD (h := hj)]; exact he]
    rfl
set_option maxRecDepth 100000 in
theorem rtravel_any (y : Loc) (m : Meas) (n : Int) (w : World) (hm : InM w y m) (hn : m.errs.length ≤ 1000000) : Calls Try.prog 17 [.agg (screwC y m).toArray, i64 n].toArray w (Ret w (outC (travelE m n))) := by
  refine fEnter Try.func17 rfl Try.ntmps17 rfl ?_
  refine kSeq ?_
  refine kRegion rfl ?_
  refine lE rfl ?_
  refine eBoxA rfl fun n2 => ?_
  refine lE rfl ?_
  refine eAlloc Z24 fun n4 => ?_
  refine lV (yAssign rfl) rfl rfl ?_
  refine lNil ?_
  refine kThen ?_
  refine kSeq ?_
  refine kSeq ?_
  refine kRegion rfl ?_
  refine lV (yLoadA (vs := [_, _, _]) rfl A26 (cOwn 1 rfl rfl)) rfl rfl ?_
  refine lV (yCall rfl (.c rfl .n) C50 (fun w hw => rscrew_any y m w (hm.eff hw).e hn)) rfl rfl ?_
  refine lV (yNot rfl) rfl rfl ?_
  refine lNil ?_
  refine kThen ?_
  refine splitB (t := 8) rfl (fun h8 => ?_) (fun h8 => ?_)
  · refine kIfT rfl ?_
    refine kSeq ?_
    refine kRegion rfl ?_
    refine lV (yBuild .n (fun w => B24_ w)) rfl rfl ?_
    refine lE rfl ?_
    refine eStoreL 0 rfl rfl rfl rfl K24 rfl (rfl) ?_
    refine lV (yAssign rfl) rfl rfl ?_
    refine lNil ?_
    refine kThen ?_
    refine kRet ?_
    refine kThenR ?_
    refine fRet rfl (.cA (us := [_, _]) rfl A24 (cOwn 0 rfl rfl) (.t rfl .n)) (endRet ?_)
    have h := notT h8
    simp only [packV, travelE, if_pos h]
  · refine kIfF rfl ?_
    refine kSkip ?_
    refine kThen ?_
    refine kSeq ?_
    refine kSeq ?_
    refine kRegion rfl ?_
    refine lV (yLoadA (vs := [_, _, _]) rfl A26 (cOwn 1 rfl rfl)) rfl rfl ?_
    refine lV (yMove rfl) rfl rfl ?_
    refine lV (yCall rfl (.c rfl (.c rfl .n)) C51 (fun w hw => rreading_any y m n w hn)) rfl rfl ?_
    refine lV (yNot rfl) rfl rfl ?_
    refine lNil ?_
    refine kThen ?_
    refine splitB (t := 13) rfl (fun h13 => ?_) (fun h13 => ?_)
    · refine kIfT rfl ?_
      refine kSeq ?_
      refine kRegion rfl ?_
      refine lV (yBuild .n (fun w => B24_ w)) rfl rfl ?_
      refine lE rfl ?_
      refine eStoreL 0 rfl rfl rfl rfl K24 rfl (rfl) ?_
      refine lV (yAssign rfl) rfl rfl ?_
      refine lNil ?_
      refine kThen ?_
      refine kRet ?_
      refine kThenR ?_
      refine fRet rfl (.cA (us := [_, _]) rfl A24 (cOwn 0 rfl rfl) (.t rfl .n)) (endRet ?_)
      have h := notF h8
      have h' := notT h13
      simp only [packV, travelE, if_neg (not_not_intro h), if_pos h']
    · refine kIfF rfl ?_
      refine kSkip ?_
      refine kThen ?_
      refine kSeq ?_
      refine kRegion rfl ?_
      refine lV (yLoadA (vs := [_, _, _]) rfl A26 (cOwn 1 rfl rfl)) rfl rfl ?_
      refine lV (yMove rfl) rfl rfl ?_
      refine lV (yCall rfl (.c rfl (.c rfl .n)) C52 (fun w hw => rtravels_any y m n w (hm.eff hw) (notF h8) (notF h13))) rfl rfl ?_
      refine lE rfl ?_
      refine eStoreL 0 rfl rfl rfl rfl K24 rfl (rfl) ?_
      refine lV (yAssign rfl) rfl rfl ?_
      refine lNil ?_
      refine kThen ?_
      refine kRet ?_
      refine fRet rfl (.cA (us := [_, _]) rfl A24 (cOwn 0 rfl rfl) (.t rfl .n)) (endRet ?_)
      have h := notF h8
      have h' := notF h13
      simp only [packV, travelE, if_neg (not_not_intro h), if_neg (not_not_intro h')]
set_option maxRecDepth 100000 in
theorem rsum_any (y : Loc) (m : Meas) (w : World) (hm : InM w y m) (hn : m.errs.length ≤ 1000000) : Calls Try.prog 19 [.agg (measC y m).toArray].toArray w (Ret w (outC (sumR m))) := by
  refine fEnter Try.func19 rfl Try.ntmps19 rfl ?_
  refine kSeq ?_
  refine kRegion rfl ?_
  refine lE rfl ?_
  refine eBoxA rfl fun n1 => ?_
  refine lE rfl ?_
  refine eAlloc Z24 fun n2 => ?_
  refine lV (yAssign rfl) rfl rfl ?_
  refine lNil ?_
  refine kThen ?_
  refine kSeq ?_
  refine kRegion rfl ?_
  refine lV (yLoadA (vs := [_, _, _, _, _, _, _]) rfl A29 (cOwn 1 rfl rfl)) rfl rfl ?_
  refine lV (yCall rfl (.c rfl (.c rfl .n)) C57 (fun w hw => ropen_any y m true w (hm.eff hw) hn)) rfl rfl ?_
  refine lV (yExtract rfl rfl) rfl rfl ?_
  refine lV (yExtract rfl rfl) rfl rfl ?_
  refine lE rfl ?_
  refine eStoreL 0 rfl rfl rfl rfl K24 rfl (rfl) ?_
  refine lV (yAssign rfl) rfl rfl ?_
  refine lNil ?_
  refine kThen ?_
  refine kRet ?_
  refine fRet rfl (.cA (us := [_, _]) rfl A24 (cOwn 0 rfl rfl) (.t rfl .n)) (endRet ?_)
  rfl
end Go.Proofs.Ytoefcofplkbnkaa
