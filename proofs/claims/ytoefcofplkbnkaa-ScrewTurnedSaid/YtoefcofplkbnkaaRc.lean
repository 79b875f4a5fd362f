/-
  Walks: the document's places and distances; what is too great.
-/
import Derived.Test.YtoefcofplkbnkaaRb
namespace Go.Proofs.Ytoefcofplkbnkaa
open ZW

theorem sums_in {m : Meas} (hM : MeasOk m) {S : Nat} {s : Int} (h : (sumsF m S).1 ≤ s ∧ s ≤ (sumsF m S).2) : 0 ≤ s ∧ s ≤ 131072 := by
  have h1 := ((sums_iff hM).1 h).1
  have h2 := hM.u
  unfold spanOk at h2; omega
set_option maxRecDepth 100000 in
theorem rplace_any (y : Loc) (m : Meas) (a : Int) (w : World) (hm : InM w y m) (hn : m.errs.length ≤ 1000000) : Calls Try.prog 21 [.agg (measC y m).toArray, i64 a].toArray w (Ret w (outC (placeR m a))) := by
  rw [placeR_open]
  refine fEnter Try.func21 rfl Try.ntmps21 rfl ?_
  refine kSeq ?_
  refine kRegion rfl ?_
  refine lE rfl ?_
  refine eBoxA rfl fun n2 => ?_
  refine lE rfl ?_
  refine eAlloc Z24 fun n4 => ?_
  refine lV (yAssign rfl) rfl rfl ?_
  refine lNil ?_
  refine kThen ?_
  refine kSeq ?_
  by_cases hM : MeasOk m
  · refine kDrawE [(0, none), (3, none), (5, none), (6, none)] [] [0, 1, 2, 3, 4, 5, 6, 7, 8, 9, 12] 2 hMix (by kernel_rfl) ?_
    refine .run rfl (yLoadA (vs := [_, _, _, _, _, _, _]) rfl A29 (cOwn 1 rfl rfl)) rfl rfl ?_
    refine .run rfl (yMove rfl) rfl rfl ?_
    refine .run rfl (yFieldAddr rfl F29_1) rfl rfl ?_
    refine .run rfl (yLoad1 rfl O3 (cOwn 1 rfl rfl)) rfl rfl ?_
    refine .run rfl (ySub rfl rfl (by have := hM.i; omega)) rfl rfl ?_
    refine .run rfl (yCall rfl (.c rfl (.c rfl (.c rfl .n))) C60 (fun w hw => rin_any _ _ _ w)) rfl rfl ?_
    refine .run rfl (yCall rfl (.c rfl (.c rfl .n)) C57 (fun w hw => ropen_any y m _ w (hm.eff hw) hn)) rfl rfl ?_
    refine .run rfl (yMove rfl) rfl rfl ?_
    refine .run rfl (yExtract rfl rfl) rfl rfl ?_
    refine .run rfl (yExtract rfl rfl) rfl rfl ?_
    refine .run rfl (yAssign rfl) rfl rfl ?_
    refine .done ?_
    refine effStep 10 [] (by kernel_rfl) closedSt (hLeft [0, 3, 5, 6] (by kernel_rfl) (.c (fun _ _ hs => hs.ef) (.c (fun _ _ hs => hs.ef) (.c (fun _ _ hs => hs.ef) (.c (fun _ _ hs => hs.ef) .n))))) ?_
    refine .c ?_ .n
    refine effOne rfl (gNone rfl (fAlloc Z24)) ?_
    refine effStep 11 [] (by kernel_rfl) (closedEx fun n6 => closedSt) (hLeft [0, 3, 5, 6] (by kernel_rfl) (.c (fun _ _ ⟨n6, hs⟩ => hs.ef.sub (.c 1 rfl (.c 1 rfl .n))) (.c (fun _ _ ⟨n6, hs⟩ => hs.ef.sub (.c 1 rfl (.c 1 rfl .n))) (.c (fun _ _ ⟨n6, hs⟩ => hs.ef.sub (.c 1 rfl (.c 1 rfl .n))) (.c (fun _ _ ⟨n6, hs⟩ => hs.ef.sub (.c 1 rfl (.c 1 rfl .n))) .n))))) ?_
    refine .c ?_ .n
    refine effOne rfl (opEx fun n6 => (gNone rfl (fStoreL 0 rfl rfl rfl rfl K24 rfl (rfl)))) ?_
    refine effDone (closedEx fun n6 => closedSt) (hLeft [] (by kernel_rfl) .n) (by kernel_rfl) ?_
    refine trEx fun n6 => ?_
    refine kThen ?_
    refine kSeq ?_
    refine kSeq ?_
    refine kRegion rfl ?_
    refine lV (yMove rfl) rfl rfl ?_
    refine lV (yNeq rfl rfl) rfl rfl ?_
    refine lNil ?_
    refine kThen ?_
    refine split (t := 22) rfl (fun h22 => ?_) (fun h22 => ?_)
    · refine kIfT rfl ?_
      refine kSeq ?_
      refine kRegion rfl ?_
      refine lV (yBuild .n (fun w => B24_ w)) rfl rfl ?_
      refine lV (yMove rfl) rfl rfl ?_
      refine lE rfl ?_
      refine eStoreL 1 rfl rfl rfl rfl K24 rfl (rfl) ?_
      refine lV (yAssign rfl) rfl rfl ?_
      refine lNil ?_
      refine kThen ?_
      refine kRet ?_
      refine kThenR ?_
      refine fRet rfl (.cA (us := [_, _]) rfl A24 (cOwn 1 rfl rfl) (.t rfl .n)) (endRet ?_)
      rw [if_pos h22]
      rfl
    · have h22' := Decidable.not_not.1 h22
      obtain ⟨_, _, hok, e⟩ := openR_ok h22'
      rw [if_neg h22]
      rw [e]
      have hF := fullS_62 hM
      have hN : m.sets.length ≤ 1000 := by have := hM.n; omega
      have hb : ∀ j : Nat, (sumsF m (fullS m)).1 + j ≤ (sumsF m (fullS m)).2 → 0 ≤ (sumsF m (fullS m)).1 + j ∧ (sumsF m (fullS m)).1 + j ≤ 131072 := fun j hj => sums_in (S := fullS m) hM ⟨by omega, hj⟩
      have hb0 := sums_in (S := fullS m) hM ⟨Int.le_refl _, hok⟩
      have hb1 := sums_in (S := fullS m) hM ⟨hok, Int.le_refl _⟩
      unfold okF at hok
      refine kIfF rfl ?_
      refine kSkip ?_
      refine kThen ?_
      refine kSeq ?_
      refine kSeq ?_
      refine kRegion rfl ?_
      refine lV (yLoadA (vs := [_, _, _, _, _, _, _]) rfl A29 (cOwn 2 rfl rfl)) rfl rfl ?_
      refine lV (yMove rfl) rfl rfl ?_
      refine lV (yCall rfl (.c rfl (.c rfl .n)) C61 (fun w hw => rseen_any y m a w (hm.eff hw) hN)) rfl rfl ?_
      refine lV (yNot rfl) rfl rfl ?_
      refine lNil ?_
      refine kThen ?_
      refine splitB (t := 28) rfl (fun h28 => ?_) (fun h28 => ?_)
      · refine kIfT rfl ?_
        refine kSeq ?_
        refine kRegion rfl ?_
        refine lV (yBuild .n (fun w => B24_ w)) rfl rfl ?_
        refine lE rfl ?_
        refine eStoreL 1 rfl rfl rfl rfl K24 rfl (rfl) ?_
        refine lV (yAssign rfl) rfl rfl ?_
        refine lNil ?_
        refine kThen ?_
        refine kRet ?_
        refine kThenR ?_
        refine fRet rfl (.cA (us := [_, _]) rfl A24 (cOwn 1 rfl rfl) (.t rfl .n)) (endRet ?_)
        rw [if_pos (notT h28)]
        rfl
      · refine kIfF rfl ?_
        refine kSkip ?_
        refine kThen ?_
        refine kSeq ?_
        refine kDrawE [(0, none), (1, none), (2, none), (5, none), (6, none)] [] [0, 1, 2, 3, 4, 5, 6] 2 hMix (by kernel_rfl) ?_
        refine .run rfl (yLoadA (vs := [_, _, _, _, _, _, _]) rfl A29 (cOwn 2 rfl rfl)) rfl rfl ?_
        refine .run rfl (yLoadA (vs := [_, _, _, _, _, _, _]) rfl A29 (cOwn 2 rfl rfl)) rfl rfl ?_
        refine .run rfl (yCall rfl (.c rfl .n) C63 (fun w hw => revery_any y m w hM)) rfl rfl ?_
        refine .run rfl (yMove rfl) rfl rfl ?_
        refine .run rfl (yFieldAddr rfl F24_0) rfl rfl ?_
        refine .run rfl (yLoad1 rfl O3 (cOwn 0 rfl rfl)) rfl rfl ?_
        refine .run rfl (yCall rfl (.c rfl (.c rfl (.c rfl (.c rfl .n)))) C62 (fun w hw => rplaces_any y m (fullS m) a (sumsF m (fullS m)).1 w (hm.eff hw) hM hF hb0)) rfl rfl ?_
        refine .done ?_
        refine effStep 7 [] (by kernel_rfl) closedSt (hLeft [0, 1, 2, 5, 6] (by kernel_rfl) (.c (fun _ _ hs => hs.ef) (.c (fun _ _ hs => hs.ef) (.c (fun _ _ hs => hs.ef) (.c (fun _ _ hs => hs.ef) (.c (fun _ _ hs => hs.ef) .n)))))) ?_
        refine .c ?_ .n
        refine effOne rfl (gNone rfl (fAlloc Z24)) ?_
        refine effStep 8 [] (by kernel_rfl) (closedEx fun n8 => closedSt) (hLeft [0, 1, 2, 5, 6] (by kernel_rfl) (.c (fun _ _ ⟨n8, hs⟩ => hs.ef.sub (.c 1 rfl (.c 1 rfl (.c 1 rfl .n)))) (.c (fun _ _ ⟨n8, hs⟩ => hs.ef.sub (.c 1 rfl (.c 1 rfl (.c 1 rfl .n)))) (.c (fun _ _ ⟨n8, hs⟩ => hs.ef.sub (.c 1 rfl (.c 1 rfl (.c 1 rfl .n)))) (.c (fun _ _ ⟨n8, hs⟩ => hs.ef.sub (.c 1 rfl (.c 1 rfl (.c 1 rfl .n)))) (.c (fun _ _ ⟨n8, hs⟩ => hs.ef.sub (.c 1 rfl (.c 1 rfl (.c 1 rfl .n)))) .n)))))) ?_
        refine .c ?_ .n
        refine effOne rfl (opEx fun n8 => (gNone rfl (fStoreL 0 rfl rfl rfl rfl K24 rfl (rfl)))) ?_
        refine effDone (closedEx fun n8 => closedSt) (hLeft [] (by kernel_rfl) .n) (by kernel_rfl) ?_
        refine trEx fun n8 => ?_
        refine kThen ?_
        refine kSeq ?_
        refine kSeq ?_
        refine kRegion rfl ?_
        refine lV (yFieldAddr rfl F24_0) rfl rfl ?_
        refine lV (yLoad1 rfl O3 (cOwn 1 rfl rfl)) rfl rfl ?_
        refine same (t := 38) (u := i64 ((sumsF m (fullS m)).1 + ((0 : Nat) : Int))) rfl (by simp) ?_
        refine lV (yAssign rfl) rfl rfl ?_
        refine lNil ?_
        refine kThen ?_
        refine kBlock ?_
        refine kLoopX (ι := Nat × Int × Int) (fun x => x.1 ≤ sumsN m (fullS m) ∧ x.2 = mmTo (fun j => placesF m (fullS m) a ((sumsF m (fullS m)).1 + j)) (placesF m (fullS m) a (sumsF m (fullS m)).1) x.1) (fun x => [(9, i64 ((sumsF m (fullS m)).1 + (x.1 : Nat)))]) [(0, _), (1, _), (2, _), (4, _), (5, _), (12, _), (13, _), (14, _), (15, _), (16, _), (17, _), (18, _), (11, _), (19, _), (20, _), (7, _), (6, _), (21, _), (22, _), (25, _), (26, _), (27, _), (28, _), (30, _), (31, _), (32, _), (33, _), (34, _), (35, _), (36, _), (8, _), (37, _), (38, _)] (fun x => []) (fun x => [(n8, blk [i64 x.2.1, i64 x.2.2] 24)]) [(n6, _), (n4, _), (n2, _)] (fun x => sumsN m (fullS m) - x.1) (0, placesF m (fullS m) a (sumsF m (fullS m)).1) (⟨Nat.zero_le _, rfl⟩) rfl (.c rfl .n) (.c rfl (.c rfl (.c rfl (.c rfl (.c rfl (.c rfl (.c rfl (.c rfl (.c rfl (.c rfl (.c rfl (.c rfl (.c rfl (.c rfl (.c rfl (.c rfl (.c rfl (.c rfl (.c rfl (.c rfl (.c rfl (.c rfl (.c rfl (.c rfl (.c rfl (.c rfl (.c rfl (.c rfl (.c rfl (.c rfl (.c rfl (.c rfl (.c rfl .n))))))))))))))))))))))))))))))))) (.c 1 rfl (.c 1 rfl (.c 1 rfl (.c 0 rfl .n)))) ?_
        rintro ⟨j, o⟩ ⟨hj, ho⟩
        dsimp only at hj ho ⊢
        have hnN : sumsN m (fullS m) = ((sumsF m (fullS m)).2 - (sumsF m (fullS m)).1 + 1).toNat := rfl
        refine kSeq ?_
        refine kSeq ?_
        refine kRegion rfl ?_
        refine lV (yMove rfl) rfl rfl ?_
        refine lV (yFieldAddr rfl F24_1) rfl rfl ?_
        refine lV (yLoad1 rfl O3 (cOwn 0 rfl rfl)) rfl rfl ?_
        refine lV (yLeq rfl rfl) rfl rfl ?_
        refine lNil ?_
        refine kThen ?_
        refine split (t := 42) rfl (fun h42 => ?_) (fun h42 => ?_)
        · refine kIfT rfl ?_
          refine kSkip ?_
          refine kThen ?_
          refine kSeq ?_
          refine kBlock ?_
          refine kSeq ?_
          refine kDrawE [(0, none), (1, none), (2, none), (5, none)] [] [0, 1, 2, 3, 4, 5] 2 hMix (by kernel_rfl) ?_
          refine .run rfl (yLoadA (vs := [_, _, _, _, _, _, _]) rfl A29 (cOwn 2 rfl rfl)) rfl rfl ?_
          refine .run rfl (yLoadA (vs := [_, _, _, _, _, _, _]) rfl A29 (cOwn 2 rfl rfl)) rfl rfl ?_
          refine .run rfl (yCall rfl (.c rfl .n) C63 (fun w hw => revery_any y m w hM)) rfl rfl ?_
          refine .run rfl (yMove rfl) rfl rfl ?_
          refine .run rfl (yMove rfl) rfl rfl ?_
          refine .run rfl (yCall rfl (.c rfl (.c rfl (.c rfl (.c rfl .n)))) C62 (fun w hw => rplaces_any y m (fullS m) a ((sumsF m (fullS m)).1 + (j : Nat)) w (hm.eff hw) hM hF (hb j (by omega)))) rfl rfl ?_
          refine .done ?_
          refine effStep 6 [] (by kernel_rfl) closedSt (hLeft [0, 1, 2, 5] (by kernel_rfl) (.c (fun _ _ hs => hs.ef) (.c (fun _ _ hs => hs.ef) (.c (fun _ _ hs => hs.ef) (.c (fun _ _ hs => hs.ef) .n))))) ?_
          refine .c ?_ .n
          refine effOne rfl (gNone rfl (fAlloc Z24)) ?_
          refine effStep 7 [] (by kernel_rfl) (closedEx fun n10 => closedSt) (hLeft [0, 1, 2, 5] (by kernel_rfl) (.c (fun _ _ ⟨n10, hs⟩ => hs.ef.sub (.c 1 rfl (.c 1 rfl (.c 1 rfl (.c 1 rfl .n))))) (.c (fun _ _ ⟨n10, hs⟩ => hs.ef.sub (.c 1 rfl (.c 1 rfl (.c 1 rfl (.c 1 rfl .n))))) (.c (fun _ _ ⟨n10, hs⟩ => hs.ef.sub (.c 1 rfl (.c 1 rfl (.c 1 rfl (.c 1 rfl .n))))) (.c (fun _ _ ⟨n10, hs⟩ => hs.ef.sub (.c 1 rfl (.c 1 rfl (.c 1 rfl (.c 1 rfl .n))))) .n))))) ?_
          refine .c ?_ .n
          refine effOne rfl (opEx fun n10 => (gNone rfl (fStoreL 0 rfl rfl rfl rfl K24 rfl (rfl)))) ?_
          refine effDone (closedEx fun n10 => closedSt) (hLeft [] (by kernel_rfl) .n) (by kernel_rfl) ?_
          refine trEx fun n10 => ?_
          refine kThen ?_
          refine kRegion rfl ?_
          refine lV (yFieldAddr rfl F24_0) rfl rfl ?_
          refine lV (yLoad1 rfl O3 (cOwn 4 rfl rfl)) rfl rfl ?_
          refine lV (yFieldAddr rfl F24_0) rfl rfl ?_
          refine lV (yLoad1 rfl O3 (cOwn 0 rfl rfl)) rfl rfl ?_
          refine lV (yMin rfl rfl) rfl rfl ?_
          refine lV (yFieldAddr rfl F24_1) rfl rfl ?_
          refine lV (yLoad1 rfl O3 (cOwn 4 rfl rfl)) rfl rfl ?_
          refine lV (yFieldAddr rfl F24_1) rfl rfl ?_
          refine lV (yLoad1 rfl O3 (cOwn 0 rfl rfl)) rfl rfl ?_
          refine lV (yMax rfl rfl) rfl rfl ?_
          refine lV (yBuild (.c rfl (.c rfl .n)) (fun w => B24_0_1 w)) rfl rfl ?_
          refine lE rfl ?_
          refine eStoreL 4 rfl rfl rfl rfl K24 rfl (rfl) ?_
          refine lNil ?_
          refine kInN ?_
          refine kThen ?_
          refine kRegion rfl ?_
          refine lV (yMove rfl) rfl rfl ?_
          refine lV (yAdd rfl rfl (by omega)) rfl rfl ?_
          refine same (t := 44) (u := i64 ((sumsF m (fullS m)).1 + ((j + 1 : Nat) : Int))) rfl (by congr 1; omega) ?_
          refine lV (yAssign rfl) rfl rfl ?_
          refine lNil ?_
          exact kRoundX (j + 1, min o.1 (placesF m (fullS m) a ((sumsF m (fullS m)).1 + j)).1, max o.2 (placesF m (fullS m) a ((sumsF m (fullS m)).1 + j)).2) (⟨by dsimp only; omega, by dsimp only; rw [mmTo_succ, ← ho]⟩) (by dsimp only; omega) rfl (.c rfl .n) (.c rfl (.c rfl (.c rfl (.c rfl (.c rfl (.c rfl (.c rfl (.c rfl (.c rfl (.c rfl (.c rfl (.c rfl (.c rfl (.c rfl (.c rfl (.c rfl (.c rfl (.c rfl (.c rfl (.c rfl (.c rfl (.c rfl (.c rfl (.c rfl (.c rfl (.c rfl (.c rfl (.c rfl (.c rfl (.c rfl (.c rfl (.c rfl (.c rfl .n))))))))))))))))))))))))))))))))) (.c 1 rfl (.c 1 rfl (.c 1 rfl (.c 1 rfl .n))))
        · refine kIfF rfl ?_
          refine kExit ?_
          refine kThenX ?_
          refine kThenX ?_
          refine kInX ?_
          refine kThen ?_
          refine kSeq ?_
          refine kRegion rfl ?_
          refine lV (yLoadA (vs := [_, _]) rfl A24 (cOwn 3 rfl rfl)) rfl rfl ?_
          refine lE rfl ?_
          refine eStoreL 1 rfl rfl rfl rfl K24 rfl (rfl) ?_
          refine lV (yAssign rfl) rfl rfl ?_
          refine lNil ?_
          refine kThen ?_
          refine kRet ?_
          refine fRet rfl (.cA (us := [_, _]) rfl A24 (cOwn 1 rfl rfl) (.t rfl .n)) (endRet ?_)
          obtain rfl : j = sumsN m (fullS m) := by omega
          rw [if_neg (not_not_intro (notF h28)), show placeF m (fullS m) a = o from ho.symm]
          rfl
  · refine kDrawE [(0, none), (3, none), (5, none), (6, none)] [] [0, 1, 2, 3, 4, 5, 6, 7, 8, 9, 12] 2 hMix (by kernel_rfl) ?_
    refine .run rfl (yLoadA (vs := [_, _, _, _, _, _, _]) rfl A29 (cOwn 1 rfl rfl)) rfl rfl ?_
    refine .run rfl (yMove rfl) rfl rfl ?_
    refine .run rfl (yFieldAddr rfl F29_1) rfl rfl ?_
    refine .run rfl (yLoad1 rfl O3 (cOwn 1 rfl rfl)) rfl rfl ?_
    refine .run rfl (yArith rfl rfl (.inr (.inl ⟨rfl, rfl⟩))) rfl rfl ?_
    refine .run rfl (yCall rfl (.c rfl (.c rfl (.c rfl .n))) C60 (fun w hw => rin_any _ _ _ w)) rfl rfl ?_
    refine .run rfl (yCall rfl (.c rfl (.c rfl .n)) C57 (fun w hw => ropen_any y m _ w (hm.eff hw) hn)) rfl rfl ?_
    refine .run rfl (yMove rfl) rfl rfl ?_
    refine .run rfl (yExtract rfl rfl) rfl rfl ?_
    refine .run rfl (yExtract rfl rfl) rfl rfl ?_
    refine .run rfl (yAssign rfl) rfl rfl ?_
    refine .done ?_
    refine effStep 10 [] (by kernel_rfl) closedSt (hLeft [0, 3, 5, 6] (by kernel_rfl) (.c (fun _ _ hs => hs.ef) (.c (fun _ _ hs => hs.ef) (.c (fun _ _ hs => hs.ef) (.c (fun _ _ hs => hs.ef) .n))))) ?_
    refine .c ?_ .n
    refine effOne rfl (gNone rfl (fAlloc Z24)) ?_
    refine effStep 11 [] (by kernel_rfl) (closedEx fun n6 => closedSt) (hLeft [0, 3, 5, 6] (by kernel_rfl) (.c (fun _ _ ⟨n6, hs⟩ => hs.ef.sub (.c 1 rfl (.c 1 rfl .n))) (.c (fun _ _ ⟨n6, hs⟩ => hs.ef.sub (.c 1 rfl (.c 1 rfl .n))) (.c (fun _ _ ⟨n6, hs⟩ => hs.ef.sub (.c 1 rfl (.c 1 rfl .n))) (.c (fun _ _ ⟨n6, hs⟩ => hs.ef.sub (.c 1 rfl (.c 1 rfl .n))) .n))))) ?_
    refine .c ?_ .n
    refine effOne rfl (opEx fun n6 => (gNone rfl (fStoreL 0 rfl rfl rfl rfl K24 rfl (rfl)))) ?_
    refine effDone (closedEx fun n6 => closedSt) (hLeft [] (by kernel_rfl) .n) (by kernel_rfl) ?_
    refine trEx fun n6 => ?_
    refine kThen ?_
    refine kSeq ?_
    refine kSeq ?_
    refine kRegion rfl ?_
    refine lV (yMove rfl) rfl rfl ?_
    refine lV (yNeq rfl rfl) rfl rfl ?_
    refine lNil ?_
    refine kThen ?_
    refine split (t := 22) rfl (fun h22 => ?_) (fun h22 => ?_)
    · refine kIfT rfl ?_
      refine kSeq ?_
      refine kRegion rfl ?_
      refine lV (yBuild .n (fun w => B24_ w)) rfl rfl ?_
      refine lV (yMove rfl) rfl rfl ?_
      refine lE rfl ?_
      refine eStoreL 1 rfl rfl rfl rfl K24 rfl (rfl) ?_
      refine lV (yAssign rfl) rfl rfl ?_
      refine lNil ?_
      refine kThen ?_
      refine kRet ?_
      refine kThenR ?_
      refine fRet rfl (.cA (us := [_, _]) rfl A24 (cOwn 1 rfl rfl) (.t rfl .n)) (endRet ?_)
      rw [openR_bad _ hM, openR_bad _ hM]
      rfl
    · rw [openR_bad _ hM] at h22; exact absurd h22 (by decide)
set_option maxRecDepth 100000 in
theorem rapart_bad (y : Loc) (m : Meas) (a b : Int) (w : World) (hm : InM w y m) (hn : m.errs.length ≤ 1000000) (hM : ¬ MeasOk m) : Calls Try.prog 23 [.agg (measC y m).toArray, i64 a, i64 b].toArray w (Ret w (outC (apartR m a b))) := by
  refine fEnter Try.func23 rfl Try.ntmps23 rfl ?_
  refine kSeq ?_
  refine kRegion rfl ?_
  refine lE rfl ?_
  refine eBoxA rfl fun n3 => ?_
  refine lE rfl ?_
  refine eAlloc Z24 fun n6 => ?_
  refine lV (yAssign rfl) rfl rfl ?_
  refine lNil ?_
  refine kThen ?_
  refine kSeq ?_
  by_cases ha : 0 ≤ a ∧ a ≤ IntKind.wrap .i64 (m.images - 1)
  · refine kDrawE [(0, none), (3, none), (5, none), (9, none), (11, none), (13, none)] [] [0, 1, 2, 3, 4, 5, 6, 7, 8, 9, 10, 11, 12, 13, 14, 15, 16, 19] 2 hMix (by kernel_rfl) ?_
    refine .run rfl (yLoadA (vs := [_, _, _, _, _, _, _]) rfl A29 (cOwn 1 rfl rfl)) rfl rfl ?_
    refine .run rfl (yMove rfl) rfl rfl ?_
    refine .run rfl (yFieldAddr rfl F29_1) rfl rfl ?_
    refine .run rfl (yLoad1 rfl O3 (cOwn 1 rfl rfl)) rfl rfl ?_
    refine .run rfl (yArith rfl rfl (.inr (.inl ⟨rfl, rfl⟩))) rfl rfl ?_
    refine .run rfl (yCall rfl (.c rfl (.c rfl (.c rfl .n))) C60 (fun w hw => rin_any _ _ _ w)) rfl rfl ?_
    refine .run rfl (yvTrue (yMove rfl) (ha)) rfl rfl ?_
    refine .runG rfl (yMove rfl) rfl rfl rfl rfl ?_
    refine .runG rfl (yFieldAddr rfl F29_1) rfl rfl rfl rfl ?_
    refine .runG rfl (yLoad1 rfl O3 (cOwn 1 rfl rfl)) rfl rfl rfl rfl ?_
    refine .runG rfl (yArith rfl rfl (.inr (.inl ⟨rfl, rfl⟩))) rfl rfl rfl rfl ?_
    refine .runG rfl (yCall rfl (.c rfl (.c rfl (.c rfl .n))) C60 (fun w hw => rin_any _ _ _ w)) rfl rfl rfl rfl ?_
    refine .run rfl (yPickT rfl rfl) rfl rfl ?_
    refine .run rfl (yCall rfl (.c rfl (.c rfl .n)) C57 (fun w hw => ropen_any y m _ w (hm.eff hw) hn)) rfl rfl ?_
    refine .run rfl (yMove rfl) rfl rfl ?_
    refine .run rfl (yExtract rfl rfl) rfl rfl ?_
    refine .run rfl (yExtract rfl rfl) rfl rfl ?_
    refine .run rfl (yAssign rfl) rfl rfl ?_
    refine .done ?_
    refine effStep 17 [] (by kernel_rfl) closedSt (hLeft [0, 3, 5, 9, 11, 13] (by kernel_rfl) (.c (fun _ _ hs => hs.ef) (.c (fun _ _ hs => hs.ef) (.c (fun _ _ hs => hs.ef) (.c (fun _ _ hs => hs.ef) (.c (fun _ _ hs => hs.ef) (.c (fun _ _ hs => hs.ef) .n))))))) ?_
    refine .c ?_ .n
    refine effOne rfl (gNone rfl (fAlloc Z24)) ?_
    refine effStep 18 [] (by kernel_rfl) (closedEx fun n8 => closedSt) (hLeft [0, 3, 5, 9, 11, 13] (by kernel_rfl) (.c (fun _ _ ⟨n8, hs⟩ => hs.ef.sub (.c 1 rfl (.c 1 rfl .n))) (.c (fun _ _ ⟨n8, hs⟩ => hs.ef.sub (.c 1 rfl (.c 1 rfl .n))) (.c (fun _ _ ⟨n8, hs⟩ => hs.ef.sub (.c 1 rfl (.c 1 rfl .n))) (.c (fun _ _ ⟨n8, hs⟩ => hs.ef.sub (.c 1 rfl (.c 1 rfl .n))) (.c (fun _ _ ⟨n8, hs⟩ => hs.ef.sub (.c 1 rfl (.c 1 rfl .n))) (.c (fun _ _ ⟨n8, hs⟩ => hs.ef.sub (.c 1 rfl (.c 1 rfl .n))) .n))))))) ?_
    refine .c ?_ .n
    refine effOne rfl (opEx fun n8 => (gNone rfl (fStoreL 0 rfl rfl rfl rfl K24 rfl (rfl)))) ?_
    refine effDone (closedEx fun n8 => closedSt) (hLeft [] (by kernel_rfl) .n) (by kernel_rfl) ?_
    refine trEx fun n8 => ?_
    refine kThen ?_
    refine kSeq ?_
    refine kSeq ?_
    refine kRegion rfl ?_
    refine lV (yMove rfl) rfl rfl ?_
    refine lV (yNeq rfl rfl) rfl rfl ?_
    refine lNil ?_
    refine kThen ?_
    refine split (t := 32) rfl (fun h32 => ?_) (fun h32 => ?_)
    · refine kIfT rfl ?_
      refine kSeq ?_
      refine kRegion rfl ?_
      refine lV (yBuild .n (fun w => B24_ w)) rfl rfl ?_
      refine lV (yMove rfl) rfl rfl ?_
      refine lE rfl ?_
      refine eStoreL 1 rfl rfl rfl rfl K24 rfl (rfl) ?_
      refine lV (yAssign rfl) rfl rfl ?_
      refine lNil ?_
      refine kThen ?_
      refine kRet ?_
      refine kThenR ?_
      refine fRet rfl (.cA (us := [_, _]) rfl A24 (cOwn 1 rfl rfl) (.t rfl .n)) (endRet ?_)
      rw [openR_bad _ hM, show apartR m a b = ((0, 0), 1) from if_pos hM]
      rfl
    · rw [openR_bad _ hM] at h32; exact absurd h32 (by decide)
  · refine kDrawE [(0, none), (3, none), (5, none), (13, none)] [] [0, 1, 2, 3, 4, 5, 6, 7, 8, 9, 10, 11, 12, 13, 14, 15, 16, 19] 2 hMix (by kernel_rfl) ?_
    refine .run rfl (yLoadA (vs := [_, _, _, _, _, _, _]) rfl A29 (cOwn 1 rfl rfl)) rfl rfl ?_
    refine .run rfl (yMove rfl) rfl rfl ?_
    refine .run rfl (yFieldAddr rfl F29_1) rfl rfl ?_
    refine .run rfl (yLoad1 rfl O3 (cOwn 1 rfl rfl)) rfl rfl ?_
    refine .run rfl (yArith rfl rfl (.inr (.inl ⟨rfl, rfl⟩))) rfl rfl ?_
    refine .run rfl (yCall rfl (.c rfl (.c rfl (.c rfl .n))) C60 (fun w hw => rin_any _ _ _ w)) rfl rfl ?_
    refine .run rfl (yvFalse (yMove rfl) (ha)) rfl rfl ?_
    refine .skip rfl rfl rfl rfl rfl rfl ?_
    refine .skip rfl rfl rfl rfl rfl rfl ?_
    refine .skip rfl rfl rfl rfl rfl rfl ?_
    refine .skip rfl rfl rfl rfl rfl rfl ?_
    refine .skip rfl rfl rfl rfl rfl rfl ?_
    refine .run rfl (yPickF rfl rfl) rfl rfl ?_
    refine .run rfl (yCall rfl (.c rfl (.c rfl .n)) C57 (fun w hw => ropen_any y m _ w (hm.eff hw) hn)) rfl rfl ?_
    refine .run rfl (yMove rfl) rfl rfl ?_
    refine .run rfl (yExtract rfl rfl) rfl rfl ?_
    refine .run rfl (yExtract rfl rfl) rfl rfl ?_
    refine .run rfl (yAssign rfl) rfl rfl ?_
    refine .done ?_
    refine effStep 17 [] (by kernel_rfl) closedSt (hLeft [0, 3, 5, 13] (by kernel_rfl) (.c (fun _ _ hs => hs.ef) (.c (fun _ _ hs => hs.ef) (.c (fun _ _ hs => hs.ef) (.c (fun _ _ hs => hs.ef) .n))))) ?_
    refine .c ?_ .n
    refine effOne rfl (gNone rfl (fAlloc Z24)) ?_
    refine effStep 18 [] (by kernel_rfl) (closedEx fun n8 => closedSt) (hLeft [0, 3, 5, 13] (by kernel_rfl) (.c (fun _ _ ⟨n8, hs⟩ => hs.ef.sub (.c 1 rfl (.c 1 rfl .n))) (.c (fun _ _ ⟨n8, hs⟩ => hs.ef.sub (.c 1 rfl (.c 1 rfl .n))) (.c (fun _ _ ⟨n8, hs⟩ => hs.ef.sub (.c 1 rfl (.c 1 rfl .n))) (.c (fun _ _ ⟨n8, hs⟩ => hs.ef.sub (.c 1 rfl (.c 1 rfl .n))) .n))))) ?_
    refine .c ?_ .n
    refine effOne rfl (opEx fun n8 => (gNone rfl (fStoreL 0 rfl rfl rfl rfl K24 rfl (rfl)))) ?_
    refine effDone (closedEx fun n8 => closedSt) (hLeft [] (by kernel_rfl) .n) (by kernel_rfl) ?_
    refine trEx fun n8 => ?_
    refine kThen ?_
    refine kSeq ?_
    refine kSeq ?_
    refine kRegion rfl ?_
    refine lV (yMove rfl) rfl rfl ?_
    refine lV (yNeq rfl rfl) rfl rfl ?_
    refine lNil ?_
    refine kThen ?_
    refine split (t := 32) rfl (fun h32 => ?_) (fun h32 => ?_)
    · refine kIfT rfl ?_
      refine kSeq ?_
      refine kRegion rfl ?_
      refine lV (yBuild .n (fun w => B24_ w)) rfl rfl ?_
      refine lV (yMove rfl) rfl rfl ?_
      refine lE rfl ?_
      refine eStoreL 1 rfl rfl rfl rfl K24 rfl (rfl) ?_
      refine lV (yAssign rfl) rfl rfl ?_
      refine lNil ?_
      refine kThen ?_
      refine kRet ?_
      refine kThenR ?_
      refine fRet rfl (.cA (us := [_, _]) rfl A24 (cOwn 1 rfl rfl) (.t rfl .n)) (endRet ?_)
      rw [openR_bad _ hM, show apartR m a b = ((0, 0), 1) from if_pos hM]
      rfl
    · rw [openR_bad _ hM] at h32; exact absurd h32 (by decide)
set_option maxRecDepth 100000 in
theorem rapart_ok (y : Loc) (m : Meas) (a b : Int) (w : World) (hm : InM w y m) (hn : m.errs.length ≤ 1000000) (hM : MeasOk m) : Calls Try.prog 23 [.agg (measC y m).toArray, i64 a, i64 b].toArray w (Ret w (outC (apartR m a b))) := by
  have hI := hM.i
  refine fEnter Try.func23 rfl Try.ntmps23 rfl ?_
  refine kSeq ?_
  refine kRegion rfl ?_
  refine lE rfl ?_
  refine eBoxA rfl fun n3 => ?_
  refine lE rfl ?_
  refine eAlloc Z24 fun n6 => ?_
  refine lV (yAssign rfl) rfl rfl ?_
  refine lNil ?_
  refine kThen ?_
  refine kSeq ?_
  by_cases ha : 0 ≤ a ∧ a ≤ m.images - 1
  · refine kDrawE [(0, none), (3, none), (5, none), (9, none), (11, none), (13, none)] [] [0, 1, 2, 3, 4, 5, 6, 7, 8, 9, 10, 11, 12, 13, 14, 15, 16, 19] 2 hMix (by kernel_rfl) ?_
    refine .run rfl (yLoadA (vs := [_, _, _, _, _, _, _]) rfl A29 (cOwn 1 rfl rfl)) rfl rfl ?_
    refine .run rfl (yMove rfl) rfl rfl ?_
    refine .run rfl (yFieldAddr rfl F29_1) rfl rfl ?_
    refine .run rfl (yLoad1 rfl O3 (cOwn 1 rfl rfl)) rfl rfl ?_
    refine .run rfl (ySub rfl rfl (by omega)) rfl rfl ?_
    refine .run rfl (yCall rfl (.c rfl (.c rfl (.c rfl .n))) C60 (fun w hw => rin_any _ _ _ w)) rfl rfl ?_
    refine .run rfl (yvTrue (yMove rfl) (ha)) rfl rfl ?_
    refine .runG rfl (yMove rfl) rfl rfl rfl rfl ?_
    refine .runG rfl (yFieldAddr rfl F29_1) rfl rfl rfl rfl ?_
    refine .runG rfl (yLoad1 rfl O3 (cOwn 1 rfl rfl)) rfl rfl rfl rfl ?_
    refine .runG rfl (ySub rfl rfl (by omega)) rfl rfl rfl rfl ?_
    refine .runG rfl (yCall rfl (.c rfl (.c rfl (.c rfl .n))) C60 (fun w hw => rin_any _ _ _ w)) rfl rfl rfl rfl ?_
    refine .run rfl (yPickT rfl rfl) rfl rfl ?_
    refine .run rfl (yCall rfl (.c rfl (.c rfl .n)) C57 (fun w hw => ropen_any y m _ w (hm.eff hw) hn)) rfl rfl ?_
    refine .run rfl (yMove rfl) rfl rfl ?_
    refine .run rfl (yExtract rfl rfl) rfl rfl ?_
    refine .run rfl (yExtract rfl rfl) rfl rfl ?_
    refine .run rfl (yAssign rfl) rfl rfl ?_
    refine .done ?_
    refine effStep 17 [] (by kernel_rfl) closedSt (hLeft [0, 3, 5, 9, 11, 13] (by kernel_rfl) (.c (fun _ _ hs => hs.ef) (.c (fun _ _ hs => hs.ef) (.c (fun _ _ hs => hs.ef) (.c (fun _ _ hs => hs.ef) (.c (fun _ _ hs => hs.ef) (.c (fun _ _ hs => hs.ef) .n))))))) ?_
    refine .c ?_ .n
    refine effOne rfl (gNone rfl (fAlloc Z24)) ?_
    refine effStep 18 [] (by kernel_rfl) (closedEx fun n8 => closedSt) (hLeft [0, 3, 5, 9, 11, 13] (by kernel_rfl) (.c (fun _ _ ⟨n8, hs⟩ => hs.ef.sub (.c 1 rfl (.c 1 rfl .n))) (.c (fun _ _ ⟨n8, hs⟩ => hs.ef.sub (.c 1 rfl (.c 1 rfl .n))) (.c (fun _ _ ⟨n8, hs⟩ => hs.ef.sub (.c 1 rfl (.c 1 rfl .n))) (.c (fun _ _ ⟨n8, hs⟩ => hs.ef.sub (.c 1 rfl (.c 1 rfl .n))) (.c (fun _ _ ⟨n8, hs⟩ => hs.ef.sub (.c 1 rfl (.c 1 rfl .n))) (.c (fun _ _ ⟨n8, hs⟩ => hs.ef.sub (.c 1 rfl (.c 1 rfl .n))) .n))))))) ?_
    refine .c ?_ .n
    refine effOne rfl (opEx fun n8 => (gNone rfl (fStoreL 0 rfl rfl rfl rfl K24 rfl (rfl)))) ?_
    refine effDone (closedEx fun n8 => closedSt) (hLeft [] (by kernel_rfl) .n) (by kernel_rfl) ?_
    refine trEx fun n8 => ?_
    refine kThen ?_
    refine kSeq ?_
    refine kSeq ?_
    refine kRegion rfl ?_
    refine lV (yMove rfl) rfl rfl ?_
    refine lV (yNeq rfl rfl) rfl rfl ?_
    refine lNil ?_
    refine kThen ?_
    refine split (t := 32) rfl (fun h32 => ?_) (fun h32 => ?_)
    · refine kIfT rfl ?_
      refine kSeq ?_
      refine kRegion rfl ?_
      refine lV (yBuild .n (fun w => B24_ w)) rfl rfl ?_
      refine lV (yMove rfl) rfl rfl ?_
      refine lE rfl ?_
      refine eStoreL 1 rfl rfl rfl rfl K24 rfl (rfl) ?_
      refine lV (yAssign rfl) rfl rfl ?_
      refine lNil ?_
      refine kThen ?_
      refine kRet ?_
      refine kThenR ?_
      refine fRet rfl (.cA (us := [_, _]) rfl A24 (cOwn 1 rfl rfl) (.t rfl .n)) (endRet ?_)
      rw [apartR_open m a b _ (and_dec ha), if_pos h32]
      rfl
    · have h32' := Decidable.not_not.1 h32
      rw [apartR_open m a b _ (and_dec ha), if_neg h32]
      obtain ⟨_, _, hok, e⟩ := openR_ok h32'
      rw [e]
      have hF := fullS_62 hM
      have hN : m.sets.length ≤ 1000 := by have := hM.n; omega
      have hb : ∀ j : Nat, (sumsF m (fullS m)).1 + j ≤ (sumsF m (fullS m)).2 → 0 ≤ (sumsF m (fullS m)).1 + j ∧ (sumsF m (fullS m)).1 + j ≤ 131072 := fun j hj => sums_in (S := fullS m) hM ⟨by omega, hj⟩
      have hb0 := sums_in (S := fullS m) hM ⟨Int.le_refl _, hok⟩
      have hb1 := sums_in (S := fullS m) hM ⟨hok, Int.le_refl _⟩
      unfold okF at hok
      refine kIfF rfl ?_
      refine kSkip ?_
      refine kThen ?_
      refine kSeq ?_
      refine kSeq ?_
      refine kRegion rfl ?_
      refine lV (yMove rfl) rfl rfl ?_
      refine lV (yMove rfl) rfl rfl ?_
      refine lV (yEql rfl rfl) rfl rfl ?_
      refine lNil ?_
      refine kThen ?_
      refine split (t := 37) rfl (fun h37 => ?_) (fun h37 => ?_)
      · refine kIfT rfl ?_
        refine kSeq ?_
        refine kRegion rfl ?_
        refine lV (yBuild .n (fun w => B24_ w)) rfl rfl ?_
        refine lE rfl ?_
        refine eStoreL 1 rfl rfl rfl rfl K24 rfl (rfl) ?_
        refine lV (yAssign rfl) rfl rfl ?_
        refine lNil ?_
        refine kThen ?_
        refine kRet ?_
        refine kThenR ?_
        refine fRet rfl (.cA (us := [_, _]) rfl A24 (cOwn 1 rfl rfl) (.t rfl .n)) (endRet ?_)
        rw [if_pos h37]
        rfl
      · refine kIfF rfl ?_
        refine kSkip ?_
        refine kThen ?_
        refine kSeq ?_
        refine kSeq ?_
        refine kRegion rfl ?_
        refine lV (yLoadA (vs := [_, _, _, _, _, _, _]) rfl A29 (cOwn 2 rfl rfl)) rfl rfl ?_
        refine lV (yMove rfl) rfl rfl ?_
        refine lV (yCall rfl (.c rfl (.c rfl .n)) C61 (fun w hw => rseen_any y m a w (hm.eff hw) hN)) rfl rfl ?_
        refine lV (yNot rfl) rfl rfl ?_
        refine lV (yMove rfl) rfl rfl ?_
        refine splitB (t := 43) rfl (fun h43 => ?_) (fun h43 => ?_)
        · refine lGN rfl rfl rfl rfl rfl ?_
          refine lGN rfl rfl rfl rfl rfl ?_
          refine lGN rfl rfl rfl rfl rfl ?_
          refine lGN rfl rfl rfl rfl rfl ?_
          refine lV (yPickT rfl rfl) rfl rfl ?_
          refine lNil ?_
          refine kThen ?_
          refine kIfT rfl ?_
          refine kSeq ?_
          refine kRegion rfl ?_
          refine lV (yBuild .n (fun w => B24_ w)) rfl rfl ?_
          refine lE rfl ?_
          refine eStoreL 1 rfl rfl rfl rfl K24 rfl (rfl) ?_
          refine lV (yAssign rfl) rfl rfl ?_
          refine lNil ?_
          refine kThen ?_
          refine kRet ?_
          refine kThenR ?_
          refine fRet rfl (.cA (us := [_, _]) rfl A24 (cOwn 1 rfl rfl) (.t rfl .n)) (endRet ?_)
          rw [if_neg h37, if_pos fun h => notT h43 h.1]
          rfl
        · refine lGY rfl rfl rfl (oV (yLoadA (vs := [_, _, _, _, _, _, _]) rfl A29 (cOwn 2 rfl rfl)) rfl ?_)
          refine lGY rfl rfl rfl (oV (yMove rfl) rfl ?_)
          refine lGY rfl rfl rfl (oV (yCall rfl (.c rfl (.c rfl .n)) C61 (fun w hw => rseen_any y m b w (hm.eff hw) hN)) rfl ?_)
          refine lGY rfl rfl rfl (oV (yNot rfl) rfl ?_)
          refine lV (yPickF rfl rfl) rfl rfl ?_
          refine lNil ?_
          refine kThen ?_
          refine splitB (t := 48) rfl (fun h48 => ?_) (fun h48 => ?_)
          · refine kIfT rfl ?_
            refine kSeq ?_
            refine kRegion rfl ?_
            refine lV (yBuild .n (fun w => B24_ w)) rfl rfl ?_
            refine lE rfl ?_
            refine eStoreL 1 rfl rfl rfl rfl K24 rfl (rfl) ?_
            refine lV (yAssign rfl) rfl rfl ?_
            refine lNil ?_
            refine kThen ?_
            refine kRet ?_
            refine kThenR ?_
            refine fRet rfl (.cA (us := [_, _]) rfl A24 (cOwn 1 rfl rfl) (.t rfl .n)) (endRet ?_)
            rw [if_neg h37, if_pos fun h => notT h48 h.2]
            rfl
          · have hse : seenP m a ∧ seenP m b := ⟨notF h43, notF h48⟩
            refine kIfF rfl ?_
            refine kSkip ?_
            refine kThen ?_
            refine kSeq ?_
            refine kRegion rfl ?_
            refine lV (yBuild (.c rfl (.c rfl .n)) (fun w => B24_0_1 w)) rfl rfl ?_
            refine lE rfl ?_
            refine eAlloc Z24 fun n10 => ?_
            refine lE rfl ?_
            refine eStoreL 0 rfl rfl rfl rfl K24 rfl (rfl) ?_
            refine lNil ?_
            refine kThen ?_
            refine kSeq ?_
            refine kSeq ?_
            refine kRegion rfl ?_
            refine lV (yFieldAddr rfl F24_0) rfl rfl ?_
            refine lV (yLoad1 rfl O3 (cOwn 1 rfl rfl)) rfl rfl ?_
            refine same (t := 52) (u := i64 ((sumsF m (fullS m)).1 + ((0 : Nat) : Int))) rfl (by simp) ?_
            refine lV (yAssign rfl) rfl rfl ?_
            refine lNil ?_
            refine kThen ?_
            refine kBlock ?_
            refine kLoopX (ι := Nat × Int × Int) (fun x => x.1 ≤ sumsN m (fullS m) ∧ x.2 = mmTo (fun j => ((placesF m (fullS m) b ((sumsF m (fullS m)).1 + j)).1 - (placesF m (fullS m) a ((sumsF m (fullS m)).1 + j)).2, (placesF m (fullS m) b ((sumsF m (fullS m)).1 + j)).2 - (placesF m (fullS m) a ((sumsF m (fullS m)).1 + j)).1)) (never, -never) x.1) (fun x => [(11, i64 ((sumsF m (fullS m)).1 + (x.1 : Nat)))]) [(0, _), (1, _), (2, _), (3, _), (6, _), (7, _), (15, _), (16, _), (17, _), (18, _), (19, _), (20, _), (21, _), (22, _), (23, _), (24, _), (25, _), (26, _), (27, _), (28, _), (14, _), (29, _), (30, _), (9, _), (8, _), (31, _), (32, _), (35, _), (36, _), (37, _), (39, _), (40, _), (41, _), (42, _), (43, _), (44, _), (45, _), (46, _), (47, _), (48, _), (50, _), (10, _), (51, _), (52, _)] (fun x => []) (fun x => [(n10, blk [i64 x.2.1, i64 x.2.2] 24)]) [(n8, _), (n6, _), (n3, _)] (fun x => sumsN m (fullS m) - x.1) (0, never, -never) (⟨Nat.zero_le _, rfl⟩) rfl (.c rfl .n) (.c rfl (.c rfl (.c rfl (.c rfl (.c rfl (.c rfl (.c rfl (.c rfl (.c rfl (.c rfl (.c rfl (.c rfl (.c rfl (.c rfl (.c rfl (.c rfl (.c rfl (.c rfl (.c rfl (.c rfl (.c rfl (.c rfl (.c rfl (.c rfl (.c rfl (.c rfl (.c rfl (.c rfl (.c rfl (.c rfl (.c rfl (.c rfl (.c rfl (.c rfl (.c rfl (.c rfl (.c rfl (.c rfl (.c rfl (.c rfl (.c rfl (.c rfl (.c rfl (.c rfl .n)))))))))))))))))))))))))))))))))))))))))))) (.c 1 rfl (.c 1 rfl (.c 1 rfl (.c 0 rfl .n)))) ?_
            rintro ⟨j, o⟩ ⟨hj, ho⟩
            dsimp only at hj ho ⊢
            have hnN : sumsN m (fullS m) = ((sumsF m (fullS m)).2 - (sumsF m (fullS m)).1 + 1).toNat := rfl
            refine kSeq ?_
            refine kSeq ?_
            refine kRegion rfl ?_
            refine lV (yMove rfl) rfl rfl ?_
            refine lV (yFieldAddr rfl F24_1) rfl rfl ?_
            refine lV (yLoad1 rfl O3 (cOwn 0 rfl rfl)) rfl rfl ?_
            refine lV (yLeq rfl rfl) rfl rfl ?_
            refine lNil ?_
            refine kThen ?_
            refine split (t := 56) rfl (fun h56 => ?_) (fun h56 => ?_)
            · refine kIfT rfl ?_
              refine kSkip ?_
              refine kThen ?_
              refine kSeq ?_
              refine kBlock ?_
              refine kSeq ?_
              refine kDrawE [(0, none), (1, none), (2, none), (5, none), (6, none), (7, none), (8, none), (11, none)] [] [0, 1, 2, 3, 4, 5, 6, 7, 8, 9, 10, 11] 4 hMix (by kernel_rfl) ?_
              refine .run rfl (yLoadA (vs := [_, _, _, _, _, _, _]) rfl A29 (cOwn 2 rfl rfl)) rfl rfl ?_
              refine .run rfl (yLoadA (vs := [_, _, _, _, _, _, _]) rfl A29 (cOwn 2 rfl rfl)) rfl rfl ?_
              refine .run rfl (yCall rfl (.c rfl .n) C63 (fun w hw => revery_any y m w hM)) rfl rfl ?_
              refine .run rfl (yMove rfl) rfl rfl ?_
              refine .run rfl (yMove rfl) rfl rfl ?_
              refine .run rfl (yCall rfl (.c rfl (.c rfl (.c rfl (.c rfl .n)))) C62 (fun w hw => rplaces_any y m (fullS m) a ((sumsF m (fullS m)).1 + (j : Nat)) w (hm.eff hw) hM hF (hb j (by omega)))) rfl rfl ?_
              refine .run rfl (yLoadA (vs := [_, _, _, _, _, _, _]) rfl A29 (cOwn 2 rfl rfl)) rfl rfl ?_
              refine .run rfl (yLoadA (vs := [_, _, _, _, _, _, _]) rfl A29 (cOwn 2 rfl rfl)) rfl rfl ?_
              refine .run rfl (yCall rfl (.c rfl .n) C63 (fun w hw => revery_any y m w hM)) rfl rfl ?_
              refine .run rfl (yMove rfl) rfl rfl ?_
              refine .run rfl (yMove rfl) rfl rfl ?_
              refine .run rfl (yCall rfl (.c rfl (.c rfl (.c rfl (.c rfl .n)))) C62 (fun w hw => rplaces_any y m (fullS m) b ((sumsF m (fullS m)).1 + (j : Nat)) w (hm.eff hw) hM hF (hb j (by omega)))) rfl rfl ?_
              refine .done ?_
              refine effStep 12 [13] (by kernel_rfl) closedSt (hLeft [0, 1, 2, 5, 6, 7, 8, 11] (by kernel_rfl) (.c (fun _ _ hs => hs.ef) (.c (fun _ _ hs => hs.ef) (.c (fun _ _ hs => hs.ef) (.c (fun _ _ hs => hs.ef) (.c (fun _ _ hs => hs.ef) (.c (fun _ _ hs => hs.ef) (.c (fun _ _ hs => hs.ef) (.c (fun _ _ hs => hs.ef) .n))))))))) ?_
              refine (.c ?_ (.c ?_ .n))
              · refine effOne rfl (gNone rfl (fAlloc Z24)) ?_
                refine effStep 13 [] (by kernel_rfl) (closedEx fun n12 => closedSt) (hLeft [0, 1, 2, 5, 6, 7, 8, 11] (by kernel_rfl) (.c (fun _ _ ⟨n12, hs⟩ => hs.ef.sub (.c 1 rfl (.c 1 rfl (.c 1 rfl (.c 1 rfl .n))))) (.c (fun _ _ ⟨n12, hs⟩ => hs.ef.sub (.c 1 rfl (.c 1 rfl (.c 1 rfl (.c 1 rfl .n))))) (.c (fun _ _ ⟨n12, hs⟩ => hs.ef.sub (.c 1 rfl (.c 1 rfl (.c 1 rfl (.c 1 rfl .n))))) (.c (fun _ _ ⟨n12, hs⟩ => hs.ef.sub (.c 1 rfl (.c 1 rfl (.c 1 rfl (.c 1 rfl .n))))) (.c (fun _ _ ⟨n12, hs⟩ => hs.ef.sub (.c 1 rfl (.c 1 rfl (.c 1 rfl (.c 1 rfl .n))))) (.c (fun _ _ ⟨n12, hs⟩ => hs.ef.sub (.c 1 rfl (.c 1 rfl (.c 1 rfl (.c 1 rfl .n))))) (.c (fun _ _ ⟨n12, hs⟩ => hs.ef.sub (.c 1 rfl (.c 1 rfl (.c 1 rfl (.c 1 rfl .n))))) (.c (fun _ _ ⟨n12, hs⟩ => hs.ef.sub (.c 1 rfl (.c 1 rfl (.c 1 rfl (.c 1 rfl .n))))) .n))))))))) ?_
                refine .c ?_ .n
                refine effOne rfl (opEx fun n12 => (gNone rfl (fAlloc Z24))) ?_
                refine effStep 14 [] (by kernel_rfl) (closedEx fun n12 => (closedEx fun n13 => closedSt)) (hLeft [0, 1, 2, 5, 6, 7, 8, 11] (by kernel_rfl) (.c (fun _ _ ⟨n12, ⟨n13, hs⟩⟩ => hs.ef.sub (.c 2 rfl (.c 2 rfl (.c 2 rfl (.c 2 rfl .n))))) (.c (fun _ _ ⟨n12, ⟨n13, hs⟩⟩ => hs.ef.sub (.c 2 rfl (.c 2 rfl (.c 2 rfl (.c 2 rfl .n))))) (.c (fun _ _ ⟨n12, ⟨n13, hs⟩⟩ => hs.ef.sub (.c 2 rfl (.c 2 rfl (.c 2 rfl (.c 2 rfl .n))))) (.c (fun _ _ ⟨n12, ⟨n13, hs⟩⟩ => hs.ef.sub (.c 2 rfl (.c 2 rfl (.c 2 rfl (.c 2 rfl .n))))) (.c (fun _ _ ⟨n12, ⟨n13, hs⟩⟩ => hs.ef.sub (.c 2 rfl (.c 2 rfl (.c 2 rfl (.c 2 rfl .n))))) (.c (fun _ _ ⟨n12, ⟨n13, hs⟩⟩ => hs.ef.sub (.c 2 rfl (.c 2 rfl (.c 2 rfl (.c 2 rfl .n))))) (.c (fun _ _ ⟨n12, ⟨n13, hs⟩⟩ => hs.ef.sub (.c 2 rfl (.c 2 rfl (.c 2 rfl (.c 2 rfl .n))))) (.c (fun _ _ ⟨n12, ⟨n13, hs⟩⟩ => hs.ef.sub (.c 2 rfl (.c 2 rfl (.c 2 rfl (.c 2 rfl .n))))) .n))))))))) ?_
                refine .c ?_ .n
                refine effOne rfl (opEx fun n12 => (opEx fun n13 => (gNone rfl (fStoreL 1 rfl rfl rfl rfl K24 rfl (rfl))))) ?_
                refine effStep 15 [] (by kernel_rfl) (closedEx fun n12 => (closedEx fun n13 => closedSt)) (hLeft [] (by kernel_rfl) .n) ?_
                refine .c ?_ .n
                refine effOne rfl (opEx fun n12 => (opEx fun n13 => (gNone rfl (fStoreL 0 rfl rfl rfl rfl K24 rfl (rfl))))) ?_
                refine effDone (closedEx fun n12 => (closedEx fun n13 => closedSt)) (hLeft [] (by kernel_rfl) .n) (by kernel_rfl) ?_
                refine trEx fun n12 => ?_
                refine trEx fun n13 => ?_
                refine kThen ?_
                have hp1 := placesF_bd hM (fullS m) a (hb j (by omega))
                have hp2 := placesF_bd hM (fullS m) b (hb j (by omega))
                unfold never at hp1 hp2
                refine kRegion rfl ?_
                refine lV (yFieldAddr rfl F24_0) rfl rfl ?_
                refine lV (yLoad1 rfl O3 (cOwn 5 rfl rfl)) rfl rfl ?_
                refine lV (yFieldAddr rfl F24_0) rfl rfl ?_
                refine lV (yLoad1 rfl O3 (cOwn 0 rfl rfl)) rfl rfl ?_
                refine lV (yFieldAddr rfl F24_1) rfl rfl ?_
                refine lV (yLoad1 rfl O3 (cOwn 1 rfl rfl)) rfl rfl ?_
                refine lV (ySub rfl rfl (by omega)) rfl rfl ?_
                refine lV (yMin rfl rfl) rfl rfl ?_
                refine lV (yFieldAddr rfl F24_1) rfl rfl ?_
                refine lV (yLoad1 rfl O3 (cOwn 5 rfl rfl)) rfl rfl ?_
                refine lV (yFieldAddr rfl F24_1) rfl rfl ?_
                refine lV (yLoad1 rfl O3 (cOwn 0 rfl rfl)) rfl rfl ?_
                refine lV (yFieldAddr rfl F24_0) rfl rfl ?_
                refine lV (yLoad1 rfl O3 (cOwn 1 rfl rfl)) rfl rfl ?_
                refine lV (ySub rfl rfl (by omega)) rfl rfl ?_
                refine lV (yMax rfl rfl) rfl rfl ?_
                refine lV (yBuild (.c rfl (.c rfl .n)) (fun w => B24_0_1 w)) rfl rfl ?_
                refine lE rfl ?_
                refine eStoreL 5 rfl rfl rfl rfl K24 rfl (rfl) ?_
                refine lNil ?_
                refine kInN ?_
                refine kThen ?_
                refine kRegion rfl ?_
                refine lV (yMove rfl) rfl rfl ?_
                refine lV (yAdd rfl rfl (by omega)) rfl rfl ?_
                refine same (t := 58) (u := i64 ((sumsF m (fullS m)).1 + ((j + 1 : Nat) : Int))) rfl (by congr 1; omega) ?_
                refine lV (yAssign rfl) rfl rfl ?_
                refine lNil ?_
                exact kRoundX (j + 1, min o.1 ((placesF m (fullS m) b ((sumsF m (fullS m)).1 + j)).1 - (placesF m (fullS m) a ((sumsF m (fullS m)).1 + j)).2), max o.2 ((placesF m (fullS m) b ((sumsF m (fullS m)).1 + j)).2 - (placesF m (fullS m) a ((sumsF m (fullS m)).1 + j)).1)) (⟨by dsimp only; omega, by dsimp only; rw [mmTo_succ, ← ho]⟩) (by dsimp only; omega) rfl (.c rfl .n) (.c rfl (.c rfl (.c rfl (.c rfl (.c rfl (.c rfl (.c rfl (.c rfl (.c rfl (.c rfl (.c rfl (.c rfl (.c rfl (.c rfl (.c rfl (.c rfl (.c rfl (.c rfl (.c rfl (.c rfl (.c rfl (.c rfl (.c rfl (.c rfl (.c rfl (.c rfl (.c rfl (.c rfl (.c rfl (.c rfl (.c rfl (.c rfl (.c rfl (.c rfl (.c rfl (.c rfl (.c rfl (.c rfl (.c rfl (.c rfl (.c rfl (.c rfl (.c rfl (.c rfl .n)))))))))))))))))))))))))))))))))))))))))))) (.c 2 rfl (.c 2 rfl (.c 2 rfl (.c 2 rfl .n))))
              · refine effOne rfl (gNone rfl (fAlloc Z24)) ?_
                refine effStep 12 [] (by kernel_rfl) (closedEx fun n13 => closedSt) (hLeft [0, 1, 2, 5, 6, 7, 8, 11] (by kernel_rfl) (.c (fun _ _ ⟨n13, hs⟩ => hs.ef.sub (.c 1 rfl (.c 1 rfl (.c 1 rfl (.c 1 rfl .n))))) (.c (fun _ _ ⟨n13, hs⟩ => hs.ef.sub (.c 1 rfl (.c 1 rfl (.c 1 rfl (.c 1 rfl .n))))) (.c (fun _ _ ⟨n13, hs⟩ => hs.ef.sub (.c 1 rfl (.c 1 rfl (.c 1 rfl (.c 1 rfl .n))))) (.c (fun _ _ ⟨n13, hs⟩ => hs.ef.sub (.c 1 rfl (.c 1 rfl (.c 1 rfl (.c 1 rfl .n))))) (.c (fun _ _ ⟨n13, hs⟩ => hs.ef.sub (.c 1 rfl (.c 1 rfl (.c 1 rfl (.c 1 rfl .n))))) (.c (fun _ _ ⟨n13, hs⟩ => hs.ef.sub (.c 1 rfl (.c 1 rfl (.c 1 rfl (.c 1 rfl .n))))) (.c (fun _ _ ⟨n13, hs⟩ => hs.ef.sub (.c 1 rfl (.c 1 rfl (.c 1 rfl (.c 1 rfl .n))))) (.c (fun _ _ ⟨n13, hs⟩ => hs.ef.sub (.c 1 rfl (.c 1 rfl (.c 1 rfl (.c 1 rfl .n))))) .n))))))))) ?_
                refine .c ?_ .n
                refine effOne rfl (opEx fun n13 => (gNone rfl (fAlloc Z24))) ?_
                refine effStep 14 [] (by kernel_rfl) (closedEx fun n13 => (closedEx fun n12 => closedSt)) (hLeft [0, 1, 2, 5, 6, 7, 8, 11] (by kernel_rfl) (.c (fun _ _ ⟨n13, ⟨n12, hs⟩⟩ => hs.ef.sub (.c 2 rfl (.c 2 rfl (.c 2 rfl (.c 2 rfl .n))))) (.c (fun _ _ ⟨n13, ⟨n12, hs⟩⟩ => hs.ef.sub (.c 2 rfl (.c 2 rfl (.c 2 rfl (.c 2 rfl .n))))) (.c (fun _ _ ⟨n13, ⟨n12, hs⟩⟩ => hs.ef.sub (.c 2 rfl (.c 2 rfl (.c 2 rfl (.c 2 rfl .n))))) (.c (fun _ _ ⟨n13, ⟨n12, hs⟩⟩ => hs.ef.sub (.c 2 rfl (.c 2 rfl (.c 2 rfl (.c 2 rfl .n))))) (.c (fun _ _ ⟨n13, ⟨n12, hs⟩⟩ => hs.ef.sub (.c 2 rfl (.c 2 rfl (.c 2 rfl (.c 2 rfl .n))))) (.c (fun _ _ ⟨n13, ⟨n12, hs⟩⟩ => hs.ef.sub (.c 2 rfl (.c 2 rfl (.c 2 rfl (.c 2 rfl .n))))) (.c (fun _ _ ⟨n13, ⟨n12, hs⟩⟩ => hs.ef.sub (.c 2 rfl (.c 2 rfl (.c 2 rfl (.c 2 rfl .n))))) (.c (fun _ _ ⟨n13, ⟨n12, hs⟩⟩ => hs.ef.sub (.c 2 rfl (.c 2 rfl (.c 2 rfl (.c 2 rfl .n))))) .n))))))))) ?_
                refine .c ?_ .n
                refine effOne rfl (opEx fun n13 => (opEx fun n12 => (gNone rfl (fStoreL 0 rfl rfl rfl rfl K24 rfl (rfl))))) ?_
                refine effStep 15 [] (by kernel_rfl) (closedEx fun n13 => (closedEx fun n12 => closedSt)) (hLeft [] (by kernel_rfl) .n) ?_
                refine .c ?_ .n
                refine effOne rfl (opEx fun n13 => (opEx fun n12 => (gNone rfl (fStoreL 1 rfl rfl rfl rfl K24 rfl (rfl))))) ?_
                refine effDone (closedEx fun n13 => (closedEx fun n12 => closedSt)) (hLeft [] (by kernel_rfl) .n) (by kernel_rfl) ?_
                refine trEx fun n13 => ?_
                refine trEx fun n12 => ?_
                refine kThen ?_
                have hp1 := placesF_bd hM (fullS m) a (hb j (by omega))
                have hp2 := placesF_bd hM (fullS m) b (hb j (by omega))
                unfold never at hp1 hp2
                refine kRegion rfl ?_
                refine lV (yFieldAddr rfl F24_0) rfl rfl ?_
                refine lV (yLoad1 rfl O3 (cOwn 5 rfl rfl)) rfl rfl ?_
                refine lV (yFieldAddr rfl F24_0) rfl rfl ?_
                refine lV (yLoad1 rfl O3 (cOwn 1 rfl rfl)) rfl rfl ?_
                refine lV (yFieldAddr rfl F24_1) rfl rfl ?_
                refine lV (yLoad1 rfl O3 (cOwn 0 rfl rfl)) rfl rfl ?_
                refine lV (ySub rfl rfl (by omega)) rfl rfl ?_
                refine lV (yMin rfl rfl) rfl rfl ?_
                refine lV (yFieldAddr rfl F24_1) rfl rfl ?_
                refine lV (yLoad1 rfl O3 (cOwn 5 rfl rfl)) rfl rfl ?_
                refine lV (yFieldAddr rfl F24_1) rfl rfl ?_
                refine lV (yLoad1 rfl O3 (cOwn 1 rfl rfl)) rfl rfl ?_
                refine lV (yFieldAddr rfl F24_0) rfl rfl ?_
                refine lV (yLoad1 rfl O3 (cOwn 0 rfl rfl)) rfl rfl ?_
                refine lV (ySub rfl rfl (by omega)) rfl rfl ?_
                refine lV (yMax rfl rfl) rfl rfl ?_
                refine lV (yBuild (.c rfl (.c rfl .n)) (fun w => B24_0_1 w)) rfl rfl ?_
                refine lE rfl ?_
                refine eStoreL 5 rfl rfl rfl rfl K24 rfl (rfl) ?_
                refine lNil ?_
                refine kInN ?_
                refine kThen ?_
                refine kRegion rfl ?_
                refine lV (yMove rfl) rfl rfl ?_
                refine lV (yAdd rfl rfl (by omega)) rfl rfl ?_
                refine same (t := 58) (u := i64 ((sumsF m (fullS m)).1 + ((j + 1 : Nat) : Int))) rfl (by congr 1; omega) ?_
                refine lV (yAssign rfl) rfl rfl ?_
                refine lNil ?_
                exact kRoundX (j + 1, min o.1 ((placesF m (fullS m) b ((sumsF m (fullS m)).1 + j)).1 - (placesF m (fullS m) a ((sumsF m (fullS m)).1 + j)).2), max o.2 ((placesF m (fullS m) b ((sumsF m (fullS m)).1 + j)).2 - (placesF m (fullS m) a ((sumsF m (fullS m)).1 + j)).1)) (⟨by dsimp only; omega, by dsimp only; rw [mmTo_succ, ← ho]⟩) (by dsimp only; omega) rfl (.c rfl .n) (.c rfl (.c rfl (.c rfl (.c rfl (.c rfl (.c rfl (.c rfl (.c rfl (.c rfl (.c rfl (.c rfl (.c rfl (.c rfl (.c rfl (.c rfl (.c rfl (.c rfl (.c rfl (.c rfl (.c rfl (.c rfl (.c rfl (.c rfl (.c rfl (.c rfl (.c rfl (.c rfl (.c rfl (.c rfl (.c rfl (.c rfl (.c rfl (.c rfl (.c rfl (.c rfl (.c rfl (.c rfl (.c rfl (.c rfl (.c rfl (.c rfl (.c rfl (.c rfl (.c rfl .n)))))))))))))))))))))))))))))))))))))))))))) (.c 2 rfl (.c 2 rfl (.c 2 rfl (.c 2 rfl .n))))
            · refine kIfF rfl ?_
              refine kExit ?_
              refine kThenX ?_
              refine kThenX ?_
              refine kInX ?_
              refine kThen ?_
              refine kSeq ?_
              refine kRegion rfl ?_
              refine lV (yLoadA (vs := [_, _]) rfl A24 (cOwn 3 rfl rfl)) rfl rfl ?_
              refine lE rfl ?_
              refine eStoreL 1 rfl rfl rfl rfl K24 rfl (rfl) ?_
              refine lV (yAssign rfl) rfl rfl ?_
              refine lNil ?_
              refine kThen ?_
              refine kRet ?_
              refine fRet rfl (.cA (us := [_, _]) rfl A24 (cOwn 1 rfl rfl) (.t rfl .n)) (endRet ?_)
              obtain rfl : j = sumsN m (fullS m) := by omega
              rw [if_neg h37, if_neg (not_not_intro hse), show apartF m (fullS m) a b = o from ho.symm]
              rfl
  · refine kDrawE [(0, none), (3, none), (5, none), (13, none)] [] [0, 1, 2, 3, 4, 5, 6, 7, 8, 9, 10, 11, 12, 13, 14, 15, 16, 19] 2 hMix (by kernel_rfl) ?_
    refine .run rfl (yLoadA (vs := [_, _, _, _, _, _, _]) rfl A29 (cOwn 1 rfl rfl)) rfl rfl ?_
    refine .run rfl (yMove rfl) rfl rfl ?_
    refine .run rfl (yFieldAddr rfl F29_1) rfl rfl ?_
    refine .run rfl (yLoad1 rfl O3 (cOwn 1 rfl rfl)) rfl rfl ?_
    refine .run rfl (ySub rfl rfl (by omega)) rfl rfl ?_
    refine .run rfl (yCall rfl (.c rfl (.c rfl (.c rfl .n))) C60 (fun w hw => rin_any _ _ _ w)) rfl rfl ?_
    refine .run rfl (yvFalse (yMove rfl) (ha)) rfl rfl ?_
    refine .skip rfl rfl rfl rfl rfl rfl ?_
    refine .skip rfl rfl rfl rfl rfl rfl ?_
    refine .skip rfl rfl rfl rfl rfl rfl ?_
    refine .skip rfl rfl rfl rfl rfl rfl ?_
    refine .skip rfl rfl rfl rfl rfl rfl ?_
    refine .run rfl (yPickF rfl rfl) rfl rfl ?_
    refine .run rfl (yCall rfl (.c rfl (.c rfl .n)) C57 (fun w hw => ropen_any y m _ w (hm.eff hw) hn)) rfl rfl ?_
    refine .run rfl (yMove rfl) rfl rfl ?_
    refine .run rfl (yExtract rfl rfl) rfl rfl ?_
    refine .run rfl (yExtract rfl rfl) rfl rfl ?_
    refine .run rfl (yAssign rfl) rfl rfl ?_
    refine .done ?_
    refine effStep 17 [] (by kernel_rfl) closedSt (hLeft [0, 3, 5, 13] (by kernel_rfl) (.c (fun _ _ hs => hs.ef) (.c (fun _ _ hs => hs.ef) (.c (fun _ _ hs => hs.ef) (.c (fun _ _ hs => hs.ef) .n))))) ?_
    refine .c ?_ .n
    refine effOne rfl (gNone rfl (fAlloc Z24)) ?_
    refine effStep 18 [] (by kernel_rfl) (closedEx fun n8 => closedSt) (hLeft [0, 3, 5, 13] (by kernel_rfl) (.c (fun _ _ ⟨n8, hs⟩ => hs.ef.sub (.c 1 rfl (.c 1 rfl .n))) (.c (fun _ _ ⟨n8, hs⟩ => hs.ef.sub (.c 1 rfl (.c 1 rfl .n))) (.c (fun _ _ ⟨n8, hs⟩ => hs.ef.sub (.c 1 rfl (.c 1 rfl .n))) (.c (fun _ _ ⟨n8, hs⟩ => hs.ef.sub (.c 1 rfl (.c 1 rfl .n))) .n))))) ?_
    refine .c ?_ .n
    refine effOne rfl (opEx fun n8 => (gNone rfl (fStoreL 0 rfl rfl rfl rfl K24 rfl (rfl)))) ?_
    refine effDone (closedEx fun n8 => closedSt) (hLeft [] (by kernel_rfl) .n) (by kernel_rfl) ?_
    refine trEx fun n8 => ?_
    refine kThen ?_
    refine kSeq ?_
    refine kSeq ?_
    refine kRegion rfl ?_
    refine lV (yMove rfl) rfl rfl ?_
    refine lV (yNeq rfl rfl) rfl rfl ?_
    refine lNil ?_
    refine kThen ?_
    refine split (t := 32) rfl (fun h32 => ?_) (fun h32 => ?_)
    · refine kIfT rfl ?_
      refine kSeq ?_
      refine kRegion rfl ?_
      refine lV (yBuild .n (fun w => B24_ w)) rfl rfl ?_
      refine lV (yMove rfl) rfl rfl ?_
      refine lE rfl ?_
      refine eStoreL 1 rfl rfl rfl rfl K24 rfl (rfl) ?_
      refine lV (yAssign rfl) rfl rfl ?_
      refine lNil ?_
      refine kThen ?_
      refine kRet ?_
      refine kThenR ?_
      refine fRet rfl (.cA (us := [_, _]) rfl A24 (cOwn 1 rfl rfl) (.t rfl .n)) (endRet ?_)
      rw [apartR_open m a b false (and_nodec ha), if_pos h32]
      rfl
    · exact absurd (openR_ok (Decidable.not_not.1 h32)).2.1 (by decide)
theorem rapart_any (y : Loc) (m : Meas) (a b : Int) (w : World) (hm : InM w y m) (hn : m.errs.length ≤ 1000000) : Calls Try.prog 23 [.agg (measC y m).toArray, i64 a, i64 b].toArray w (Ret w (outC (apartR m a b))) := by
  by_cases hM : MeasOk m
  · exact rapart_ok y m a b w hm hn hM
  · exact rapart_bad y m a b w hm hn hM
/-! ### What is too great -/
def greatP (m : Meas) : Prop := 30 < (m.sets.length : Int) ∨ 100 < (m.errs.length : Int)
instance (m : Meas) : Decidable (greatP m) := inferInstanceAs (Decidable (_ ∨ _))
set_option maxRecDepth 100000 in
theorem great_any (y : Loc) (m : Meas) (w : World) : Calls Try.prog 13 [.agg (measC y m).toArray].toArray w (Ret w (.bool (decide (greatP m)))) := by
  refine fEnter Try.func13 rfl Try.ntmps13 rfl ?_
  refine kSeq ?_
  refine kRegion rfl ?_
  refine lE rfl ?_
  refine eBoxA rfl fun n1 => ?_
  refine lV (yAssign rfl) rfl rfl ?_
  refine lNil ?_
  refine kThen ?_
  refine kSeq ?_
  refine kRegion rfl ?_
  refine lV (yFieldAddr rfl F29_3) rfl rfl ?_
  refine lV (yLoad1 rfl O27 (cOwn 0 rfl rfl)) rfl rfl ?_
  refine lV (yLen rfl S27) rfl rfl ?_
  refine lV (yGtr rfl rfl) rfl rfl ?_
  refine lV (yMove rfl) rfl rfl ?_
  refine split (t := 7) rfl (fun h7 => ?_) (fun h7 => ?_)
  · refine lGN rfl rfl rfl rfl rfl ?_
    refine lGN rfl rfl rfl rfl rfl ?_
    refine lGN rfl rfl rfl rfl rfl ?_
    refine lGN rfl rfl rfl rfl rfl ?_
    refine lGN rfl rfl rfl rfl rfl ?_
    refine lV (yPickT rfl rfl) rfl rfl ?_
    refine lV (yAssign rfl) rfl rfl ?_
    refine lNil ?_
    refine kThen ?_
    refine kRet ?_
    refine fRet rfl (.t rfl .n) (endRet ?_)
    rw [show decide (greatP m) = true from decide_eq_true (.inl h7)]
    rfl
  · refine lGY rfl rfl rfl (oV (yFieldAddr rfl F29_0) rfl ?_)
    refine lGY rfl rfl rfl (oV (yFieldAddr rfl F26_0) rfl ?_)
    refine lGY rfl rfl rfl (oV (yLoad1 rfl O22 (cOwn 0 rfl rfl)) rfl ?_)
    refine lGY rfl rfl rfl (oV (yLen rfl S22) rfl ?_)
    refine lGY rfl rfl rfl (oV (yGtr rfl rfl) rfl ?_)
    refine lV (yPickF rfl rfl) rfl rfl ?_
    refine lV (yAssign rfl) rfl rfl ?_
    refine lNil ?_
    refine kThen ?_
    refine kRet ?_
    refine fRet rfl (.t rfl .n) (endRet ?_)
    rw [show decide (greatP m) = decide (100 < (m.errs.length : Int)) from decide_eq_decide.2 ⟨fun h => h.resolve_left h7, .inr⟩]
    rfl
def heavyP (m : Meas) (n k : Int) : Prop := MeasOk m ∧ (n < (m.sets.length : Int) ∨ k < (sumsF m (fullS m)).2 - (sumsF m (fullS m)).1)
instance (m : Meas) (n k : Int) : Decidable (heavyP m n k) := inferInstanceAs (Decidable (_ ∧ _))
theorem sumsF_bd {m : Meas} (hM : MeasOk m) (S : Nat) : -1000000 ≤ (sumsF m S).2 - (sumsF m S).1 ∧ (sumsF m S).2 - (sumsF m S).1 ≤ 1000000 := by
  have hu := hM.u
  unfold spanOk at hu
  have h : ∀ n, 0 ≤ (sumsTo m S n).1 ∧ (sumsTo m S n).1 ≤ 200000 ∧ -400 ≤ (sumsTo m S n).2 ∧ (sumsTo m S n).2 ≤ 131072 := fun n => by
    induction n with
    | zero => have : sumsTo m S 0 = m.sum := rfl
              rw [this]; omega
    | succ n ih =>
      have h1 := told_bd' hM S (n : Nat) false
      have h2 := told_bd' hM S (n : Nat) true
      rw [sumsTo_succ]; simp only; omega
  unfold sumsF
  split
  · have := h m.images.toNat; omega
  · simp only; omega
set_option maxRecDepth 100000 in
theorem heavy_any (y : Loc) (m : Meas) (n k : Int) (w : World) (hm : InM w y m) (hn : m.errs.length ≤ 1000000) : Calls Try.prog 14 [.agg (measC y m).toArray, i64 n, i64 k].toArray w (Ret w (.bool (decide (heavyP m n k)))) := by
  refine fEnter Try.func14 rfl Try.ntmps14 rfl ?_
  refine kSeq ?_
  refine kRegion rfl ?_
  refine lE rfl ?_
  refine eBoxA rfl fun n3 => ?_
  refine lV (yAssign rfl) rfl rfl ?_
  refine lNil ?_
  refine kThen ?_
  refine kSeq ?_
  refine kSeq ?_
  refine kRegion rfl ?_
  refine lV (yLoadA (vs := [_, _, _, _, _, _, _]) rfl A29 (cOwn 0 rfl rfl)) rfl rfl ?_
  refine lV (yCall rfl (.c rfl .n) C28 (fun w hw => rmeasure_any y m w (hm.eff hw) hn)) rfl rfl ?_
  refine lV (yNot rfl) rfl rfl ?_
  refine lNil ?_
  refine kThen ?_
  refine splitB (t := 10) rfl (fun h10 => ?_) (fun h10 => ?_)
  · refine kIfT rfl ?_
    refine kSeq ?_
    refine kRegion rfl ?_
    refine lV (yAssign rfl) rfl rfl ?_
    refine lNil ?_
    refine kThen ?_
    refine kRet ?_
    refine kThenR ?_
    refine fRet rfl (.t rfl .n) (endRet ?_)
    rw [decide_eq_false fun h : heavyP m n k => notT h10 h.1]
    rfl
  · refine kIfF rfl ?_
    refine kSkip ?_
    refine kThen ?_
    refine kSeq ?_
    have hM := notF h10
    have hN := hM.n
    have hF := fullS_62 hM
    have hp := Nat.two_pow_pos m.sets.length
    have hpp : 1 * 2 ^ m.sets.length ≤ 2 ^ 12 := by rw [Nat.one_mul]; exact Nat.pow_le_pow_right (by omega) hN
    have hsb := sumsF_bd hM (fullS m)
    refine kDrawE [(0, none), (2, none), (6, none)] [] [0, 1, 2, 3, 4, 5, 6] 2 hMix (by kernel_rfl) ?_
    refine .run rfl (yLoadA (vs := [_, _, _, _, _, _, _]) rfl A29 (cOwn 0 rfl rfl)) rfl rfl ?_
    refine .run rfl (yFieldAddr rfl F29_3) rfl rfl ?_
    refine .run rfl (yLoad1 rfl O27 (cOwn 0 rfl rfl)) rfl rfl ?_
    refine .run rfl (yLen rfl S27) rfl rfl ?_
    refine .run rfl (yShl (a := 1) rfl rfl rfl (by omega) (by omega)) rfl rfl ?_
    refine .run rfl (yvSame (u := i64 ((fullS m : Nat) : Int)) (ySub rfl rfl (by omega)) (by unfold fullS; congr 1; omega)) rfl rfl ?_
    refine .run rfl (yCall rfl (.c rfl (.c rfl .n)) C46 (fun w hw => rsums_any y m (fullS m) w (hm.eff hw) hM hF)) rfl rfl ?_
    refine .done ?_
    refine effStep 7 [] (by kernel_rfl) closedSt (hLeft [0, 2, 6] (by kernel_rfl) (.c (fun _ _ hs => hs.ef) (.c (fun _ _ hs => hs.ef) (.c (fun _ _ hs => hs.ef) .n)))) ?_
    refine .c ?_ .n
    refine effOne rfl (gNone rfl (fAlloc Z24)) ?_
    refine effStep 8 [] (by kernel_rfl) (closedEx fun n7 => closedSt) (hLeft [0, 2, 6] (by kernel_rfl) (.c (fun _ _ ⟨n7, hs⟩ => hs.ef.sub (.c 1 rfl .n)) (.c (fun _ _ ⟨n7, hs⟩ => hs.ef.sub (.c 1 rfl .n)) (.c (fun _ _ ⟨n7, hs⟩ => hs.ef.sub (.c 1 rfl .n)) .n)))) ?_
    refine .c ?_ .n
    refine effOne rfl (opEx fun n7 => (gNone rfl (fStoreL 0 rfl rfl rfl rfl K24 rfl (rfl)))) ?_
    refine effDone (closedEx fun n7 => closedSt) (hLeft [] (by kernel_rfl) .n) (by kernel_rfl) ?_
    refine trEx fun n7 => ?_
    refine kThen ?_
    refine kSeq ?_
    refine kRegion rfl ?_
    refine lV (yFieldAddr rfl F29_3) rfl rfl ?_
    refine lV (yLoad1 rfl O27 (cOwn 1 rfl rfl)) rfl rfl ?_
    refine lV (yLen rfl S27) rfl rfl ?_
    refine lV (yMove rfl) rfl rfl ?_
    refine lV (yGtr rfl rfl) rfl rfl ?_
    refine lV (yMove rfl) rfl rfl ?_
    refine split (t := 23) rfl (fun h23 => ?_) (fun h23 => ?_)
    · refine lGN rfl rfl rfl rfl rfl ?_
      refine lGN rfl rfl rfl rfl rfl ?_
      refine lGN rfl rfl rfl rfl rfl ?_
      refine lGN rfl rfl rfl rfl rfl ?_
      refine lGN rfl rfl rfl rfl rfl ?_
      refine lGN rfl rfl rfl rfl rfl ?_
      refine lGN rfl rfl rfl rfl rfl ?_
      refine lV (yPickT rfl rfl) rfl rfl ?_
      refine lV (yAssign rfl) rfl rfl ?_
      refine lNil ?_
      refine kThen ?_
      refine kRet ?_
      refine fRet rfl (.t rfl .n) (endRet ?_)
      rw [show decide (heavyP m n k) = true from decide_eq_true ⟨hM, .inl h23⟩]
      rfl
    · refine lGY rfl rfl rfl (oV (yFieldAddr rfl F24_1) rfl ?_)
      refine lGY rfl rfl rfl (oV (yLoad1 rfl O3 (cOwn 0 rfl rfl)) rfl ?_)
      refine lGY rfl rfl rfl (oV (yFieldAddr rfl F24_0) rfl ?_)
      refine lGY rfl rfl rfl (oV (yLoad1 rfl O3 (cOwn 0 rfl rfl)) rfl ?_)
      refine lGY rfl rfl rfl (oV (ySub rfl rfl (by omega)) rfl ?_)
      refine lGY rfl rfl rfl (oV (yMove rfl) rfl ?_)
      refine lGY rfl rfl rfl (oV (yGtr rfl rfl) rfl ?_)
      refine lV (yPickF rfl rfl) rfl rfl ?_
      refine lV (yAssign rfl) rfl rfl ?_
      refine lNil ?_
      refine kThen ?_
      refine kRet ?_
      refine fRet rfl (.t rfl .n) (endRet ?_)
      rw [show decide (heavyP m n k) = decide (k < (sumsF m (fullS m)).2 - (sumsF m (fullS m)).1) from decide_eq_decide.2 ⟨fun h => h.2.resolve_left h23, fun h => ⟨hM, .inr h⟩⟩]
      rfl
end Go.Proofs.Ytoefcofplkbnkaa
