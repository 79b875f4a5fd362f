/-
  Texts Ak, Al, Am, An in one.
-/
import Derived.Test.YtlcdohhhhlhpmaaP2
namespace Go.Proofs.Ytlcdohhhhlhpmaa
open ZW

abbrev isStarB (p : Plt) (n : Int) : Bool := decide (0 ≤ n ∧ n ≤ p.st.length - 1)
def starE (p : Plt) (n : Int) : (Int × Int) × (Int × Int) × Int := if toldE p (isStarB p n) ≠ 0 then ((0, 0), (0, 0), toldE p (isStarB p n)) else (spanE (starH p n.toNat false), spanE (starH p n.toNat true), 0)
set_option maxRecDepth 100000 in
set_option maxHeartbeats 2000000 in
theorem star_bad (y : Option Addr × Nat) (p : Plt) (n : Int) (w : World) (hm : InP w y p) (hL : p.st.length ≤ 1000000) (h : toldE p (isStarB p n) ≠ 0) : Calls Try.prog 19 [.agg (pltC y p).toArray, i64 n].toArray w (Ret w (outC2 (starE p n))) := by
  refine fEnter Try.func19 rfl Try.ntmps19 rfl ?_
  refine kSeq ?_
  refine kRegion rfl ?_
  refine lE rfl ?_
  refine eBoxA rfl fun n2 => ?_
  refine lE rfl ?_
  refine eAlloc Z23 fun n4 => ?_
  refine lE rfl ?_
  refine eAlloc Z23 fun n5 => ?_
  refine lE rfl ?_
  refine eAlloc Z29 fun n6 => ?_
  refine lNil ?_
  refine kThen ?_
  refine kSeq ?_
  refine kRegion rfl ?_
  refine lV (yMakeFunc .n (.c rfl .n)) rfl rfl ?_
  refine lE rfl ?_
  refine eDefer rfl .n ?_
  refine lNil ?_
  refine kThen ?_
  refine kSeq ?_
  refine kDrawE [(0, none), (1, none), (3, none)] [] [0, 1, 2, 3] 5 hMix (by kernel_rfl) ?_
  refine .run rfl (yLoadA (vs := [_, _, _]) rfl A26 (cOwn 3 rfl rfl)) rfl rfl ?_
  refine .run rfl (yLoadA (vs := [_, _, _]) rfl A26 (cOwn 3 rfl rfl)) rfl rfl ?_
  refine .run rfl (yMove rfl) rfl rfl ?_
  refine .run rfl (yCall rfl (.c rfl (.c rfl .n)) C64 (fun w hw => isStar_any y p n w hL)) rfl rfl ?_
  refine .done ?_
  refine effStep 4 [5, 7] (by kernel_rfl) closedSt (hLeft [0, 1, 3] (by kernel_rfl) (.c (fun _ _ hs => hs.ef) (.c (fun _ _ hs => hs.ef) (.c (fun _ _ hs => hs.ef) .n)))) ?_
  refine (.c ?_ (.c ?_ (.c ?_ .n)))
  · refine effLast rfl rfl (by kernel_rfl) ?_
    refine eCallP rfl (.c rfl (.c rfl .n)) C59 (fun w hw => told_bad y p (isStarB p n) w (hm.eff0 hw) h) ?_
    refine kThenP ?_
    refine fPanC 0 DStar C63 rfl rfl (.cA (us := [_, _]) rfl A23 (cOwn 2 rfl rfl) (.cA (us := [_, _]) rfl A23 (cOwn 1 rfl rfl) (.c1 rfl O29 (cOwn 0 rfl rfl) .n))) (endRet ?_)
    simp only [packV, starE, if_pos h]
  · refine effOne rfl (gNone rfl (fV (yMove rfl) rfl)) ?_
    refine effStep 4 [7] (by kernel_rfl) closedSt (hLeft [0, 1, 3] (by kernel_rfl) (.c (fun _ _ hs => hs.ef) (.c (fun _ _ hs => hs.ef) (.c (fun _ _ hs => hs.ef) .n)))) ?_
    refine (.c ?_ (.c ?_ .n))
    · refine effLast rfl rfl (by kernel_rfl) ?_
      refine eCallP rfl (.c rfl (.c rfl .n)) C59 (fun w hw => told_bad y p (isStarB p n) w (hm.eff0 hw) h) ?_
      refine kThenP ?_
      refine fPanC 0 DStar C63 rfl rfl (.cA (us := [_, _]) rfl A23 (cOwn 2 rfl rfl) (.cA (us := [_, _]) rfl A23 (cOwn 1 rfl rfl) (.c1 rfl O29 (cOwn 0 rfl rfl) .n))) (endRet ?_)
      simp only [packV, starE, if_pos h]
    · refine effOne rfl (gNone rfl (fAlloc Z96)) ?_
      refine effStep 4 [] (by kernel_rfl) (closedEx fun n7 => closedSt) (hLeft [0, 1, 3] (by kernel_rfl) (.c (fun _ _ ⟨n7, hs⟩ => hs.ef.sub (.c 1 rfl (.c 1 rfl (.c 1 rfl (.c 1 rfl .n))))) (.c (fun _ _ ⟨n7, hs⟩ => hs.ef.sub (.c 1 rfl (.c 1 rfl (.c 1 rfl (.c 1 rfl .n))))) (.c (fun _ _ ⟨n7, hs⟩ => hs.ef.sub (.c 1 rfl (.c 1 rfl (.c 1 rfl (.c 1 rfl .n))))) .n)))) ?_
      refine .c ?_ .n
      refine effLast rfl rfl (by kernel_rfl) ?_
      refine trEx fun n7 => ?_
      refine eCallP rfl (.c rfl (.c rfl .n)) C59 (fun w hw => told_bad y p (isStarB p n) w (hm.eff0 hw) h) ?_
      refine kThenP ?_
      refine fPanC 1 DStar C63 rfl rfl (.cA (us := [_, _]) rfl A23 (cOwn 3 rfl rfl) (.cA (us := [_, _]) rfl A23 (cOwn 2 rfl rfl) (.c1 rfl O29 (cOwn 1 rfl rfl) .n))) (endRet ?_)
      simp only [packV, starE, if_pos h]
  · refine effOne rfl (gNone rfl (fAlloc Z96)) ?_
    refine effStep 4 [5] (by kernel_rfl) (closedEx fun n7 => closedSt) (hLeft [0, 1, 3] (by kernel_rfl) (.c (fun _ _ ⟨n7, hs⟩ => hs.ef.sub (.c 1 rfl (.c 1 rfl (.c 1 rfl (.c 1 rfl .n))))) (.c (fun _ _ ⟨n7, hs⟩ => hs.ef.sub (.c 1 rfl (.c 1 rfl (.c 1 rfl (.c 1 rfl .n))))) (.c (fun _ _ ⟨n7, hs⟩ => hs.ef.sub (.c 1 rfl (.c 1 rfl (.c 1 rfl (.c 1 rfl .n))))) .n)))) ?_
    refine (.c ?_ (.c ?_ .n))
    · refine effLast rfl rfl (by kernel_rfl) ?_
      refine trEx fun n7 => ?_
      refine eCallP rfl (.c rfl (.c rfl .n)) C59 (fun w hw => told_bad y p (isStarB p n) w (hm.eff0 hw) h) ?_
      refine kThenP ?_
      refine fPanC 1 DStar C63 rfl rfl (.cA (us := [_, _]) rfl A23 (cOwn 3 rfl rfl) (.cA (us := [_, _]) rfl A23 (cOwn 2 rfl rfl) (.c1 rfl O29 (cOwn 1 rfl rfl) .n))) (endRet ?_)
      simp only [packV, starE, if_pos h]
    · refine effOne rfl (opEx fun n7 => (gNone rfl (fV (yMove rfl) rfl))) ?_
      refine effStep 4 [] (by kernel_rfl) (closedEx fun n7 => closedSt) (hLeft [0, 1, 3] (by kernel_rfl) (.c (fun _ _ ⟨n7, hs⟩ => hs.ef.sub (.c 1 rfl (.c 1 rfl (.c 1 rfl (.c 1 rfl .n))))) (.c (fun _ _ ⟨n7, hs⟩ => hs.ef.sub (.c 1 rfl (.c 1 rfl (.c 1 rfl (.c 1 rfl .n))))) (.c (fun _ _ ⟨n7, hs⟩ => hs.ef.sub (.c 1 rfl (.c 1 rfl (.c 1 rfl (.c 1 rfl .n))))) .n)))) ?_
      refine .c ?_ .n
      refine effLast rfl rfl (by kernel_rfl) ?_
      refine trEx fun n7 => ?_
      refine eCallP rfl (.c rfl (.c rfl .n)) C59 (fun w hw => told_bad y p (isStarB p n) w (hm.eff0 hw) h) ?_
      refine kThenP ?_
      refine fPanC 1 DStar C63 rfl rfl (.cA (us := [_, _]) rfl A23 (cOwn 3 rfl rfl) (.cA (us := [_, _]) rfl A23 (cOwn 2 rfl rfl) (.c1 rfl O29 (cOwn 1 rfl rfl) .n))) (endRet ?_)
      simp only [packV, starE, if_pos h]
set_option maxRecDepth 100000 in
set_option maxHeartbeats 4000000 in
theorem star_ok (y : Option Addr × Nat) (p : Plt) (k : Nat) (w : World) (hm : InP w y p) (hk : k < p.st.length) (h : toldE p (isStarB p (k : Nat)) = 0) : Calls Try.prog 19 [.agg (pltC y p).toArray, i64 (k : Nat)].toArray w (Ret w (outC2 (starE p (k : Nat)))) := by
  have hp := (truthE_ok (toldE_ok h).1).1
  have hpn := hp.n
  refine fEnter Try.func19 rfl Try.ntmps19 rfl ?_
  refine kSeq ?_
  refine kRegion rfl ?_
  refine lE rfl ?_
  refine eBoxA rfl fun n2 => ?_
  refine lE rfl ?_
  refine eAlloc Z23 fun n4 => ?_
  refine lE rfl ?_
  refine eAlloc Z23 fun n5 => ?_
  refine lE rfl ?_
  refine eAlloc Z29 fun n6 => ?_
  refine lNil ?_
  refine kThen ?_
  refine kSeq ?_
  refine kRegion rfl ?_
  refine lV (yMakeFunc .n (.c rfl .n)) rfl rfl ?_
  refine lE rfl ?_
  refine eDefer rfl .n ?_
  refine lNil ?_
  refine kThen ?_
  refine kSeq ?_
  refine kDrawE [(0, none), (1, none), (3, none)] [] [0, 1, 2, 3] 5 hMix (by kernel_rfl) ?_
  refine .run rfl (yLoadA (vs := [_, _, _]) rfl A26 (cOwn 3 rfl rfl)) rfl rfl ?_
  refine .run rfl (yLoadA (vs := [_, _, _]) rfl A26 (cOwn 3 rfl rfl)) rfl rfl ?_
  refine .run rfl (yMove rfl) rfl rfl ?_
  refine .run rfl (yCall rfl (.c rfl (.c rfl .n)) C64 (fun w hw => isStar_any y p (k : Nat) w (by omega))) rfl rfl ?_
  refine .done ?_
  refine effStep 4 [5, 7] (by kernel_rfl) closedSt (hLeft [0, 1, 3] (by kernel_rfl) (.c (fun _ _ hs => hs.ef) (.c (fun _ _ hs => hs.ef) (.c (fun _ _ hs => hs.ef) .n)))) ?_
  refine (.c ?_ (.c ?_ (.c ?_ .n)))
  · refine effOne rfl (gNone rfl (fCallO rfl (.c rfl (.c rfl .n)) C59 (fun w hw => told_any y p (isStarB p (k : Nat)) w (hm.eff0 hw) h))) ?_
    refine effStep 5 [7] (by kernel_rfl) (closedEx fun x => closedSt) (hLeft [] (by kernel_rfl) .n) ?_
    refine (.c ?_ (.c ?_ .n))
    · refine effOne rfl (opEx fun x => (gNone rfl (fV (yMove rfl) rfl))) ?_
      refine effStep 6 [7] (by kernel_rfl) (closedEx fun x => closedSt) (hLeft [] (by kernel_rfl) .n) ?_
      refine (.c ?_ (.c ?_ .n))
      · refine effOne rfl (opEx fun x => (gNone rfl (fV (yCall rfl (.c rfl (.c rfl .n)) C65 (fun w hw => starW_any x.1.1 x.1.2 k y p w (hw.blkAt 4 rfl) (hw.blkAt 5 rfl) (hm.eff0 hw) hp hk)) rfl))) ?_
        refine effStep 7 [] (by kernel_rfl) (closedEx fun x => closedSt) (hLeft [] (by kernel_rfl) .n) ?_
        refine .c ?_ .n
        refine effOne rfl (opEx fun x => (gNone rfl (fAlloc Z96))) ?_
        refine effStep 8 [] (by kernel_rfl) (closedEx fun x => (closedEx fun n7 => closedSt)) (hLeft [] (by kernel_rfl) .n) ?_
        refine .c ?_ .n
        refine effOne rfl (opEx fun x => (opEx fun n7 => (gNone rfl (fStoreL 0 rfl rfl rfl rfl K96 rfl (rfl))))) ?_
        refine effDone (closedEx fun x => (closedEx fun n7 => closedSt)) (hLeft [] (by kernel_rfl) .n) (by kernel_rfl) ?_
        refine trEx fun x => ?_
        refine trEx fun n7 => ?_
        refine kThen ?_
        refine kSeq ?_
        refine kDrawE [(1, none), (2, none), (4, none), (5, none)] [] [0, 1, 2, 3, 4, 5] 3 hMix (by kernel_rfl) ?_
        refine .run rfl (yIndexAr rfl rfl R96 (by omega) (by omega)) rfl rfl ?_
        refine .run rfl (yLoadA (vs := [_, _, _]) rfl A86 (cOwn 0 rfl rfl)) rfl rfl ?_
        refine .run rfl (yCall rfl (.c rfl .n) C56 (fun w hw => span_any _ w)) rfl rfl ?_
        refine .run rfl (yIndexAr rfl rfl R96 (by omega) (by omega)) rfl rfl ?_
        refine .run rfl (yLoadA (vs := [_, _, _]) rfl A86 (cOwn 0 rfl rfl)) rfl rfl ?_
        refine .run rfl (yCall rfl (.c rfl .n) C56 (fun w hw => span_any _ w)) rfl rfl ?_
        refine .done ?_
        refine effStep 6 [] (by kernel_rfl) closedSt (hLeft [1, 2, 4, 5] (by kernel_rfl) (.c (fun _ _ hs => hs.ef) (.c (fun _ _ hs => hs.ef) (.c (fun _ _ hs => hs.ef) (.c (fun _ _ hs => hs.ef) .n))))) ?_
        refine .c ?_ .n
        refine effOne rfl (gNone rfl (fStoreL 3 rfl rfl rfl rfl K23 rfl (rfl))) ?_
        refine effStep 7 [] (by kernel_rfl) closedSt (hLeft [] (by kernel_rfl) .n) ?_
        refine .c ?_ .n
        refine effOne rfl (gNone rfl (fStoreL 2 rfl rfl rfl rfl K23 rfl (rfl))) ?_
        refine effStep 8 [] (by kernel_rfl) closedSt (hLeft [] (by kernel_rfl) .n) ?_
        refine .c ?_ .n
        refine effOne rfl (gNone rfl (fStoreL 1 rfl rfl rfl rfl K29 rfl (rfl))) ?_
        refine effDone closedSt (hLeft [] (by kernel_rfl) .n) (by kernel_rfl) ?_
        refine kThen ?_
        refine kRet ?_
        refine fRetC DStar C63 rfl (.cA (us := [_, _]) rfl A23 (cOwn 3 rfl rfl) (.cA (us := [_, _]) rfl A23 (cOwn 2 rfl rfl) (.c1 rfl O29 (cOwn 1 rfl rfl) .n))) (endRet ?_)
        simp only [packV, starE, if_neg (not_not_intro h), Int.toNat_natCast]
      · refine effOne rfl (opEx fun x => (gNone rfl (fAlloc Z96))) ?_
        refine effStep 6 [] (by kernel_rfl) (closedEx fun x => (closedEx fun n7 => closedSt)) (hLeft [] (by kernel_rfl) .n) ?_
        refine .c ?_ .n
        refine effOne rfl (opEx fun x => (opEx fun n7 => (gNone rfl (fV (yCall rfl (.c rfl (.c rfl .n)) C65 (fun w hw => starW_any x.1.1 x.1.2 k y p w (hw.blkAt 5 rfl) (hw.blkAt 6 rfl) (hm.eff0 hw) hp hk)) rfl)))) ?_
        refine effStep 8 [] (by kernel_rfl) (closedEx fun x => (closedEx fun n7 => closedSt)) (hLeft [] (by kernel_rfl) .n) ?_
        refine .c ?_ .n
        refine effOne rfl (opEx fun x => (opEx fun n7 => (gNone rfl (fStoreL 0 rfl rfl rfl rfl K96 rfl (rfl))))) ?_
        refine effDone (closedEx fun x => (closedEx fun n7 => closedSt)) (hLeft [] (by kernel_rfl) .n) (by kernel_rfl) ?_
        refine trEx fun x => ?_
        refine trEx fun n7 => ?_
        refine kThen ?_
        refine kSeq ?_
        refine kDrawE [(1, none), (2, none), (4, none), (5, none)] [] [0, 1, 2, 3, 4, 5] 3 hMix (by kernel_rfl) ?_
        refine .run rfl (yIndexAr rfl rfl R96 (by omega) (by omega)) rfl rfl ?_
        refine .run rfl (yLoadA (vs := [_, _, _]) rfl A86 (cOwn 0 rfl rfl)) rfl rfl ?_
        refine .run rfl (yCall rfl (.c rfl .n) C56 (fun w hw => span_any _ w)) rfl rfl ?_
        refine .run rfl (yIndexAr rfl rfl R96 (by omega) (by omega)) rfl rfl ?_
        refine .run rfl (yLoadA (vs := [_, _, _]) rfl A86 (cOwn 0 rfl rfl)) rfl rfl ?_
        refine .run rfl (yCall rfl (.c rfl .n) C56 (fun w hw => span_any _ w)) rfl rfl ?_
        refine .done ?_
        refine effStep 6 [] (by kernel_rfl) closedSt (hLeft [1, 2, 4, 5] (by kernel_rfl) (.c (fun _ _ hs => hs.ef) (.c (fun _ _ hs => hs.ef) (.c (fun _ _ hs => hs.ef) (.c (fun _ _ hs => hs.ef) .n))))) ?_
        refine .c ?_ .n
        refine effOne rfl (gNone rfl (fStoreL 3 rfl rfl rfl rfl K23 rfl (rfl))) ?_
        refine effStep 7 [] (by kernel_rfl) closedSt (hLeft [] (by kernel_rfl) .n) ?_
        refine .c ?_ .n
        refine effOne rfl (gNone rfl (fStoreL 2 rfl rfl rfl rfl K23 rfl (rfl))) ?_
        refine effStep 8 [] (by kernel_rfl) closedSt (hLeft [] (by kernel_rfl) .n) ?_
        refine .c ?_ .n
        refine effOne rfl (gNone rfl (fStoreL 1 rfl rfl rfl rfl K29 rfl (rfl))) ?_
        refine effDone closedSt (hLeft [] (by kernel_rfl) .n) (by kernel_rfl) ?_
        refine kThen ?_
        refine kRet ?_
        refine fRetC DStar C63 rfl (.cA (us := [_, _]) rfl A23 (cOwn 3 rfl rfl) (.cA (us := [_, _]) rfl A23 (cOwn 2 rfl rfl) (.c1 rfl O29 (cOwn 1 rfl rfl) .n))) (endRet ?_)
        simp only [packV, starE, if_neg (not_not_intro h), Int.toNat_natCast]
    · refine effOne rfl (opEx fun x => (gNone rfl (fAlloc Z96))) ?_
      refine effStep 5 [] (by kernel_rfl) (closedEx fun x => (closedEx fun n7 => closedSt)) (hLeft [] (by kernel_rfl) .n) ?_
      refine .c ?_ .n
      refine effOne rfl (opEx fun x => (opEx fun n7 => (gNone rfl (fV (yMove rfl) rfl)))) ?_
      refine effStep 6 [] (by kernel_rfl) (closedEx fun x => (closedEx fun n7 => closedSt)) (hLeft [] (by kernel_rfl) .n) ?_
      refine .c ?_ .n
      refine effOne rfl (opEx fun x => (opEx fun n7 => (gNone rfl (fV (yCall rfl (.c rfl (.c rfl .n)) C65 (fun w hw => starW_any x.1.1 x.1.2 k y p w (hw.blkAt 5 rfl) (hw.blkAt 6 rfl) (hm.eff0 hw) hp hk)) rfl)))) ?_
      refine effStep 8 [] (by kernel_rfl) (closedEx fun x => (closedEx fun n7 => closedSt)) (hLeft [] (by kernel_rfl) .n) ?_
      refine .c ?_ .n
      refine effOne rfl (opEx fun x => (opEx fun n7 => (gNone rfl (fStoreL 0 rfl rfl rfl rfl K96 rfl (rfl))))) ?_
      refine effDone (closedEx fun x => (closedEx fun n7 => closedSt)) (hLeft [] (by kernel_rfl) .n) (by kernel_rfl) ?_
      refine trEx fun x => ?_
      refine trEx fun n7 => ?_
      refine kThen ?_
      refine kSeq ?_
      refine kDrawE [(1, none), (2, none), (4, none), (5, none)] [] [0, 1, 2, 3, 4, 5] 3 hMix (by kernel_rfl) ?_
      refine .run rfl (yIndexAr rfl rfl R96 (by omega) (by omega)) rfl rfl ?_
      refine .run rfl (yLoadA (vs := [_, _, _]) rfl A86 (cOwn 0 rfl rfl)) rfl rfl ?_
      refine .run rfl (yCall rfl (.c rfl .n) C56 (fun w hw => span_any _ w)) rfl rfl ?_
      refine .run rfl (yIndexAr rfl rfl R96 (by omega) (by omega)) rfl rfl ?_
      refine .run rfl (yLoadA (vs := [_, _, _]) rfl A86 (cOwn 0 rfl rfl)) rfl rfl ?_
      refine .run rfl (yCall rfl (.c rfl .n) C56 (fun w hw => span_any _ w)) rfl rfl ?_
      refine .done ?_
      refine effStep 6 [] (by kernel_rfl) closedSt (hLeft [1, 2, 4, 5] (by kernel_rfl) (.c (fun _ _ hs => hs.ef) (.c (fun _ _ hs => hs.ef) (.c (fun _ _ hs => hs.ef) (.c (fun _ _ hs => hs.ef) .n))))) ?_
      refine .c ?_ .n
      refine effOne rfl (gNone rfl (fStoreL 3 rfl rfl rfl rfl K23 rfl (rfl))) ?_
      refine effStep 7 [] (by kernel_rfl) closedSt (hLeft [] (by kernel_rfl) .n) ?_
      refine .c ?_ .n
      refine effOne rfl (gNone rfl (fStoreL 2 rfl rfl rfl rfl K23 rfl (rfl))) ?_
      refine effStep 8 [] (by kernel_rfl) closedSt (hLeft [] (by kernel_rfl) .n) ?_
      refine .c ?_ .n
      refine effOne rfl (gNone rfl (fStoreL 1 rfl rfl rfl rfl K29 rfl (rfl))) ?_
      refine effDone closedSt (hLeft [] (by kernel_rfl) .n) (by kernel_rfl) ?_
      refine kThen ?_
      refine kRet ?_
      refine fRetC DStar C63 rfl (.cA (us := [_, _]) rfl A23 (cOwn 3 rfl rfl) (.cA (us := [_, _]) rfl A23 (cOwn 2 rfl rfl) (.c1 rfl O29 (cOwn 1 rfl rfl) .n))) (endRet ?_)
      simp only [packV, starE, if_neg (not_not_intro h), Int.toNat_natCast]
  · refine effOne rfl (gNone rfl (fV (yMove rfl) rfl)) ?_
    refine effStep 4 [7] (by kernel_rfl) closedSt (hLeft [0, 1, 3] (by kernel_rfl) (.c (fun _ _ hs => hs.ef) (.c (fun _ _ hs => hs.ef) (.c (fun _ _ hs => hs.ef) .n)))) ?_
    refine (.c ?_ (.c ?_ .n))
    · refine effOne rfl (gNone rfl (fCallO rfl (.c rfl (.c rfl .n)) C59 (fun w hw => told_any y p (isStarB p (k : Nat)) w (hm.eff0 hw) h))) ?_
      refine effStep 6 [7] (by kernel_rfl) (closedEx fun x => closedSt) (hLeft [] (by kernel_rfl) .n) ?_
      refine (.c ?_ (.c ?_ .n))
      · refine effOne rfl (opEx fun x => (gNone rfl (fV (yCall rfl (.c rfl (.c rfl .n)) C65 (fun w hw => starW_any x.1.1 x.1.2 k y p w (hw.blkAt 4 rfl) (hw.blkAt 5 rfl) (hm.eff0 hw) hp hk)) rfl))) ?_
        refine effStep 7 [] (by kernel_rfl) (closedEx fun x => closedSt) (hLeft [] (by kernel_rfl) .n) ?_
        refine .c ?_ .n
        refine effOne rfl (opEx fun x => (gNone rfl (fAlloc Z96))) ?_
        refine effStep 8 [] (by kernel_rfl) (closedEx fun x => (closedEx fun n7 => closedSt)) (hLeft [] (by kernel_rfl) .n) ?_
        refine .c ?_ .n
        refine effOne rfl (opEx fun x => (opEx fun n7 => (gNone rfl (fStoreL 0 rfl rfl rfl rfl K96 rfl (rfl))))) ?_
        refine effDone (closedEx fun x => (closedEx fun n7 => closedSt)) (hLeft [] (by kernel_rfl) .n) (by kernel_rfl) ?_
        refine trEx fun x => ?_
        refine trEx fun n7 => ?_
        refine kThen ?_
        refine kSeq ?_
        refine kDrawE [(1, none), (2, none), (4, none), (5, none)] [] [0, 1, 2, 3, 4, 5] 3 hMix (by kernel_rfl) ?_
        refine .run rfl (yIndexAr rfl rfl R96 (by omega) (by omega)) rfl rfl ?_
        refine .run rfl (yLoadA (vs := [_, _, _]) rfl A86 (cOwn 0 rfl rfl)) rfl rfl ?_
        refine .run rfl (yCall rfl (.c rfl .n) C56 (fun w hw => span_any _ w)) rfl rfl ?_
        refine .run rfl (yIndexAr rfl rfl R96 (by omega) (by omega)) rfl rfl ?_
        refine .run rfl (yLoadA (vs := [_, _, _]) rfl A86 (cOwn 0 rfl rfl)) rfl rfl ?_
        refine .run rfl (yCall rfl (.c rfl .n) C56 (fun w hw => span_any _ w)) rfl rfl ?_
        refine .done ?_
        refine effStep 6 [] (by kernel_rfl) closedSt (hLeft [1, 2, 4, 5] (by kernel_rfl) (.c (fun _ _ hs => hs.ef) (.c (fun _ _ hs => hs.ef) (.c (fun _ _ hs => hs.ef) (.c (fun _ _ hs => hs.ef) .n))))) ?_
        refine .c ?_ .n
        refine effOne rfl (gNone rfl (fStoreL 3 rfl rfl rfl rfl K23 rfl (rfl))) ?_
        refine effStep 7 [] (by kernel_rfl) closedSt (hLeft [] (by kernel_rfl) .n) ?_
        refine .c ?_ .n
        refine effOne rfl (gNone rfl (fStoreL 2 rfl rfl rfl rfl K23 rfl (rfl))) ?_
        refine effStep 8 [] (by kernel_rfl) closedSt (hLeft [] (by kernel_rfl) .n) ?_
        refine .c ?_ .n
        refine effOne rfl (gNone rfl (fStoreL 1 rfl rfl rfl rfl K29 rfl (rfl))) ?_
        refine effDone closedSt (hLeft [] (by kernel_rfl) .n) (by kernel_rfl) ?_
        refine kThen ?_
        refine kRet ?_
        refine fRetC DStar C63 rfl (.cA (us := [_, _]) rfl A23 (cOwn 3 rfl rfl) (.cA (us := [_, _]) rfl A23 (cOwn 2 rfl rfl) (.c1 rfl O29 (cOwn 1 rfl rfl) .n))) (endRet ?_)
        simp only [packV, starE, if_neg (not_not_intro h), Int.toNat_natCast]
      · refine effOne rfl (opEx fun x => (gNone rfl (fAlloc Z96))) ?_
        refine effStep 6 [] (by kernel_rfl) (closedEx fun x => (closedEx fun n7 => closedSt)) (hLeft [] (by kernel_rfl) .n) ?_
        refine .c ?_ .n
        refine effOne rfl (opEx fun x => (opEx fun n7 => (gNone rfl (fV (yCall rfl (.c rfl (.c rfl .n)) C65 (fun w hw => starW_any x.1.1 x.1.2 k y p w (hw.blkAt 5 rfl) (hw.blkAt 6 rfl) (hm.eff0 hw) hp hk)) rfl)))) ?_
        refine effStep 8 [] (by kernel_rfl) (closedEx fun x => (closedEx fun n7 => closedSt)) (hLeft [] (by kernel_rfl) .n) ?_
        refine .c ?_ .n
        refine effOne rfl (opEx fun x => (opEx fun n7 => (gNone rfl (fStoreL 0 rfl rfl rfl rfl K96 rfl (rfl))))) ?_
        refine effDone (closedEx fun x => (closedEx fun n7 => closedSt)) (hLeft [] (by kernel_rfl) .n) (by kernel_rfl) ?_
        refine trEx fun x => ?_
        refine trEx fun n7 => ?_
        refine kThen ?_
        refine kSeq ?_
        refine kDrawE [(1, none), (2, none), (4, none), (5, none)] [] [0, 1, 2, 3, 4, 5] 3 hMix (by kernel_rfl) ?_
        refine .run rfl (yIndexAr rfl rfl R96 (by omega) (by omega)) rfl rfl ?_
        refine .run rfl (yLoadA (vs := [_, _, _]) rfl A86 (cOwn 0 rfl rfl)) rfl rfl ?_
        refine .run rfl (yCall rfl (.c rfl .n) C56 (fun w hw => span_any _ w)) rfl rfl ?_
        refine .run rfl (yIndexAr rfl rfl R96 (by omega) (by omega)) rfl rfl ?_
        refine .run rfl (yLoadA (vs := [_, _, _]) rfl A86 (cOwn 0 rfl rfl)) rfl rfl ?_
        refine .run rfl (yCall rfl (.c rfl .n) C56 (fun w hw => span_any _ w)) rfl rfl ?_
        refine .done ?_
        refine effStep 6 [] (by kernel_rfl) closedSt (hLeft [1, 2, 4, 5] (by kernel_rfl) (.c (fun _ _ hs => hs.ef) (.c (fun _ _ hs => hs.ef) (.c (fun _ _ hs => hs.ef) (.c (fun _ _ hs => hs.ef) .n))))) ?_
        refine .c ?_ .n
        refine effOne rfl (gNone rfl (fStoreL 3 rfl rfl rfl rfl K23 rfl (rfl))) ?_
        refine effStep 7 [] (by kernel_rfl) closedSt (hLeft [] (by kernel_rfl) .n) ?_
        refine .c ?_ .n
        refine effOne rfl (gNone rfl (fStoreL 2 rfl rfl rfl rfl K23 rfl (rfl))) ?_
        refine effStep 8 [] (by kernel_rfl) closedSt (hLeft [] (by kernel_rfl) .n) ?_
        refine .c ?_ .n
        refine effOne rfl (gNone rfl (fStoreL 1 rfl rfl rfl rfl K29 rfl (rfl))) ?_
        refine effDone closedSt (hLeft [] (by kernel_rfl) .n) (by kernel_rfl) ?_
        refine kThen ?_
        refine kRet ?_
        refine fRetC DStar C63 rfl (.cA (us := [_, _]) rfl A23 (cOwn 3 rfl rfl) (.cA (us := [_, _]) rfl A23 (cOwn 2 rfl rfl) (.c1 rfl O29 (cOwn 1 rfl rfl) .n))) (endRet ?_)
        simp only [packV, starE, if_neg (not_not_intro h), Int.toNat_natCast]
    · refine effOne rfl (gNone rfl (fAlloc Z96)) ?_
      refine effStep 4 [] (by kernel_rfl) (closedEx fun n7 => closedSt) (hLeft [0, 1, 3] (by kernel_rfl) (.c (fun _ _ ⟨n7, hs⟩ => hs.ef.sub (.c 1 rfl (.c 1 rfl (.c 1 rfl (.c 1 rfl .n))))) (.c (fun _ _ ⟨n7, hs⟩ => hs.ef.sub (.c 1 rfl (.c 1 rfl (.c 1 rfl (.c 1 rfl .n))))) (.c (fun _ _ ⟨n7, hs⟩ => hs.ef.sub (.c 1 rfl (.c 1 rfl (.c 1 rfl (.c 1 rfl .n))))) .n)))) ?_
      refine .c ?_ .n
      refine effOne rfl (opEx fun n7 => (gNone rfl (fCallO rfl (.c rfl (.c rfl .n)) C59 (fun w hw => told_any y p (isStarB p (k : Nat)) w (hm.eff0 hw) h)))) ?_
      refine effStep 6 [] (by kernel_rfl) (closedEx fun n7 => (closedEx fun x => closedSt)) (hLeft [] (by kernel_rfl) .n) ?_
      refine .c ?_ .n
      refine effOne rfl (opEx fun n7 => (opEx fun x => (gNone rfl (fV (yCall rfl (.c rfl (.c rfl .n)) C65 (fun w hw => starW_any x.1.1 x.1.2 k y p w (hw.blkAt 5 rfl) (hw.blkAt 6 rfl) (hm.eff0 hw) hp hk)) rfl)))) ?_
      refine effStep 8 [] (by kernel_rfl) (closedEx fun n7 => (closedEx fun x => closedSt)) (hLeft [] (by kernel_rfl) .n) ?_
      refine .c ?_ .n
      refine effOne rfl (opEx fun n7 => (opEx fun x => (gNone rfl (fStoreL 0 rfl rfl rfl rfl K96 rfl (rfl))))) ?_
      refine effDone (closedEx fun n7 => (closedEx fun x => closedSt)) (hLeft [] (by kernel_rfl) .n) (by kernel_rfl) ?_
      refine trEx fun n7 => ?_
      refine trEx fun x => ?_
      refine kThen ?_
      refine kSeq ?_
      refine kDrawE [(1, none), (2, none), (4, none), (5, none)] [] [0, 1, 2, 3, 4, 5] 3 hMix (by kernel_rfl) ?_
      refine .run rfl (yIndexAr rfl rfl R96 (by omega) (by omega)) rfl rfl ?_
      refine .run rfl (yLoadA (vs := [_, _, _]) rfl A86 (cOwn 0 rfl rfl)) rfl rfl ?_
      refine .run rfl (yCall rfl (.c rfl .n) C56 (fun w hw => span_any _ w)) rfl rfl ?_
      refine .run rfl (yIndexAr rfl rfl R96 (by omega) (by omega)) rfl rfl ?_
      refine .run rfl (yLoadA (vs := [_, _, _]) rfl A86 (cOwn 0 rfl rfl)) rfl rfl ?_
      refine .run rfl (yCall rfl (.c rfl .n) C56 (fun w hw => span_any _ w)) rfl rfl ?_
      refine .done ?_
      refine effStep 6 [] (by kernel_rfl) closedSt (hLeft [1, 2, 4, 5] (by kernel_rfl) (.c (fun _ _ hs => hs.ef) (.c (fun _ _ hs => hs.ef) (.c (fun _ _ hs => hs.ef) (.c (fun _ _ hs => hs.ef) .n))))) ?_
      refine .c ?_ .n
      refine effOne rfl (gNone rfl (fStoreL 3 rfl rfl rfl rfl K23 rfl (rfl))) ?_
      refine effStep 7 [] (by kernel_rfl) closedSt (hLeft [] (by kernel_rfl) .n) ?_
      refine .c ?_ .n
      refine effOne rfl (gNone rfl (fStoreL 2 rfl rfl rfl rfl K23 rfl (rfl))) ?_
      refine effStep 8 [] (by kernel_rfl) closedSt (hLeft [] (by kernel_rfl) .n) ?_
      refine .c ?_ .n
      refine effOne rfl (gNone rfl (fStoreL 1 rfl rfl rfl rfl K29 rfl (rfl))) ?_
      refine effDone closedSt (hLeft [] (by kernel_rfl) .n) (by kernel_rfl) ?_
      refine kThen ?_
      refine kRet ?_
      refine fRetC DStar C63 rfl (.cA (us := [_, _]) rfl A23 (cOwn 3 rfl rfl) (.cA (us := [_, _]) rfl A23 (cOwn 2 rfl rfl) (.c1 rfl O29 (cOwn 1 rfl rfl) .n))) (endRet ?_)
      simp only [packV, starE, if_neg (not_not_intro h), Int.toNat_natCast]
  · refine effOne rfl (gNone rfl (fAlloc Z96)) ?_
    refine effStep 4 [5] (by kernel_rfl) (closedEx fun n7 => closedSt) (hLeft [0, 1, 3] (by kernel_rfl) (.c (fun _ _ ⟨n7, hs⟩ => hs.ef.sub (.c 1 rfl (.c 1 rfl (.c 1 rfl (.c 1 rfl .n))))) (.c (fun _ _ ⟨n7, hs⟩ => hs.ef.sub (.c 1 rfl (.c 1 rfl (.c 1 rfl (.c 1 rfl .n))))) (.c (fun _ _ ⟨n7, hs⟩ => hs.ef.sub (.c 1 rfl (.c 1 rfl (.c 1 rfl (.c 1 rfl .n))))) .n)))) ?_
    refine (.c ?_ (.c ?_ .n))
    · refine effOne rfl (opEx fun n7 => (gNone rfl (fCallO rfl (.c rfl (.c rfl .n)) C59 (fun w hw => told_any y p (isStarB p (k : Nat)) w (hm.eff0 hw) h)))) ?_
      refine effStep 5 [] (by kernel_rfl) (closedEx fun n7 => (closedEx fun x => closedSt)) (hLeft [] (by kernel_rfl) .n) ?_
      refine .c ?_ .n
      refine effOne rfl (opEx fun n7 => (opEx fun x => (gNone rfl (fV (yMove rfl) rfl)))) ?_
      refine effStep 6 [] (by kernel_rfl) (closedEx fun n7 => (closedEx fun x => closedSt)) (hLeft [] (by kernel_rfl) .n) ?_
      refine .c ?_ .n
      refine effOne rfl (opEx fun n7 => (opEx fun x => (gNone rfl (fV (yCall rfl (.c rfl (.c rfl .n)) C65 (fun w hw => starW_any x.1.1 x.1.2 k y p w (hw.blkAt 5 rfl) (hw.blkAt 6 rfl) (hm.eff0 hw) hp hk)) rfl)))) ?_
      refine effStep 8 [] (by kernel_rfl) (closedEx fun n7 => (closedEx fun x => closedSt)) (hLeft [] (by kernel_rfl) .n) ?_
      refine .c ?_ .n
      refine effOne rfl (opEx fun n7 => (opEx fun x => (gNone rfl (fStoreL 0 rfl rfl rfl rfl K96 rfl (rfl))))) ?_
      refine effDone (closedEx fun n7 => (closedEx fun x => closedSt)) (hLeft [] (by kernel_rfl) .n) (by kernel_rfl) ?_
      refine trEx fun n7 => ?_
      refine trEx fun x => ?_
      refine kThen ?_
      refine kSeq ?_
      refine kDrawE [(1, none), (2, none), (4, none), (5, none)] [] [0, 1, 2, 3, 4, 5] 3 hMix (by kernel_rfl) ?_
      refine .run rfl (yIndexAr rfl rfl R96 (by omega) (by omega)) rfl rfl ?_
      refine .run rfl (yLoadA (vs := [_, _, _]) rfl A86 (cOwn 0 rfl rfl)) rfl rfl ?_
      refine .run rfl (yCall rfl (.c rfl .n) C56 (fun w hw => span_any _ w)) rfl rfl ?_
      refine .run rfl (yIndexAr rfl rfl R96 (by omega) (by omega)) rfl rfl ?_
      refine .run rfl (yLoadA (vs := [_, _, _]) rfl A86 (cOwn 0 rfl rfl)) rfl rfl ?_
      refine .run rfl (yCall rfl (.c rfl .n) C56 (fun w hw => span_any _ w)) rfl rfl ?_
      refine .done ?_
      refine effStep 6 [] (by kernel_rfl) closedSt (hLeft [1, 2, 4, 5] (by kernel_rfl) (.c (fun _ _ hs => hs.ef) (.c (fun _ _ hs => hs.ef) (.c (fun _ _ hs => hs.ef) (.c (fun _ _ hs => hs.ef) .n))))) ?_
      refine .c ?_ .n
      refine effOne rfl (gNone rfl (fStoreL 3 rfl rfl rfl rfl K23 rfl (rfl))) ?_
      refine effStep 7 [] (by kernel_rfl) closedSt (hLeft [] (by kernel_rfl) .n) ?_
      refine .c ?_ .n
      refine effOne rfl (gNone rfl (fStoreL 2 rfl rfl rfl rfl K23 rfl (rfl))) ?_
      refine effStep 8 [] (by kernel_rfl) closedSt (hLeft [] (by kernel_rfl) .n) ?_
      refine .c ?_ .n
      refine effOne rfl (gNone rfl (fStoreL 1 rfl rfl rfl rfl K29 rfl (rfl))) ?_
      refine effDone closedSt (hLeft [] (by kernel_rfl) .n) (by kernel_rfl) ?_
      refine kThen ?_
      refine kRet ?_
      refine fRetC DStar C63 rfl (.cA (us := [_, _]) rfl A23 (cOwn 3 rfl rfl) (.cA (us := [_, _]) rfl A23 (cOwn 2 rfl rfl) (.c1 rfl O29 (cOwn 1 rfl rfl) .n))) (endRet ?_)
      simp only [packV, starE, if_neg (not_not_intro h), Int.toNat_natCast]
    · refine effOne rfl (opEx fun n7 => (gNone rfl (fV (yMove rfl) rfl))) ?_
      refine effStep 4 [] (by kernel_rfl) (closedEx fun n7 => closedSt) (hLeft [0, 1, 3] (by kernel_rfl) (.c (fun _ _ ⟨n7, hs⟩ => hs.ef.sub (.c 1 rfl (.c 1 rfl (.c 1 rfl (.c 1 rfl .n))))) (.c (fun _ _ ⟨n7, hs⟩ => hs.ef.sub (.c 1 rfl (.c 1 rfl (.c 1 rfl (.c 1 rfl .n))))) (.c (fun _ _ ⟨n7, hs⟩ => hs.ef.sub (.c 1 rfl (.c 1 rfl (.c 1 rfl (.c 1 rfl .n))))) .n)))) ?_
      refine .c ?_ .n
      refine effOne rfl (opEx fun n7 => (gNone rfl (fCallO rfl (.c rfl (.c rfl .n)) C59 (fun w hw => told_any y p (isStarB p (k : Nat)) w (hm.eff0 hw) h)))) ?_
      refine effStep 6 [] (by kernel_rfl) (closedEx fun n7 => (closedEx fun x => closedSt)) (hLeft [] (by kernel_rfl) .n) ?_
      refine .c ?_ .n
      refine effOne rfl (opEx fun n7 => (opEx fun x => (gNone rfl (fV (yCall rfl (.c rfl (.c rfl .n)) C65 (fun w hw => starW_any x.1.1 x.1.2 k y p w (hw.blkAt 5 rfl) (hw.blkAt 6 rfl) (hm.eff0 hw) hp hk)) rfl)))) ?_
      refine effStep 8 [] (by kernel_rfl) (closedEx fun n7 => (closedEx fun x => closedSt)) (hLeft [] (by kernel_rfl) .n) ?_
      refine .c ?_ .n
      refine effOne rfl (opEx fun n7 => (opEx fun x => (gNone rfl (fStoreL 0 rfl rfl rfl rfl K96 rfl (rfl))))) ?_
      refine effDone (closedEx fun n7 => (closedEx fun x => closedSt)) (hLeft [] (by kernel_rfl) .n) (by kernel_rfl) ?_
      refine trEx fun n7 => ?_
      refine trEx fun x => ?_
      refine kThen ?_
      refine kSeq ?_
      refine kDrawE [(1, none), (2, none), (4, none), (5, none)] [] [0, 1, 2, 3, 4, 5] 3 hMix (by kernel_rfl) ?_
      refine .run rfl (yIndexAr rfl rfl R96 (by omega) (by omega)) rfl rfl ?_
      refine .run rfl (yLoadA (vs := [_, _, _]) rfl A86 (cOwn 0 rfl rfl)) rfl rfl ?_
      refine .run rfl (yCall rfl (.c rfl .n) C56 (fun w hw => span_any _ w)) rfl rfl ?_
      refine .run rfl (yIndexAr rfl rfl R96 (by omega) (by omega)) rfl rfl ?_
      refine .run rfl (yLoadA (vs := [_, _, _]) rfl A86 (cOwn 0 rfl rfl)) rfl rfl ?_
      refine .run rfl (yCall rfl (.c rfl .n) C56 (fun w hw => span_any _ w)) rfl rfl ?_
      refine .done ?_
      refine effStep 6 [] (by kernel_rfl) closedSt (hLeft [1, 2, 4, 5] (by kernel_rfl) (.c (fun _ _ hs => hs.ef) (.c (fun _ _ hs => hs.ef) (.c (fun _ _ hs => hs.ef) (.c (fun _ _ hs => hs.ef) .n))))) ?_
      refine .c ?_ .n
      refine effOne rfl (gNone rfl (fStoreL 3 rfl rfl rfl rfl K23 rfl (rfl))) ?_
      refine effStep 7 [] (by kernel_rfl) closedSt (hLeft [] (by kernel_rfl) .n) ?_
      refine .c ?_ .n
      refine effOne rfl (gNone rfl (fStoreL 2 rfl rfl rfl rfl K23 rfl (rfl))) ?_
      refine effStep 8 [] (by kernel_rfl) closedSt (hLeft [] (by kernel_rfl) .n) ?_
      refine .c ?_ .n
      refine effOne rfl (gNone rfl (fStoreL 1 rfl rfl rfl rfl K29 rfl (rfl))) ?_
      refine effDone closedSt (hLeft [] (by kernel_rfl) .n) (by kernel_rfl) ?_
      refine kThen ?_
      refine kRet ?_
      refine fRetC DStar C63 rfl (.cA (us := [_, _]) rfl A23 (cOwn 3 rfl rfl) (.cA (us := [_, _]) rfl A23 (cOwn 2 rfl rfl) (.c1 rfl O29 (cOwn 1 rfl rfl) .n))) (endRet ?_)
      simp only [packV, starE, if_neg (not_not_intro h), Int.toNat_natCast]
theorem star_any (y : Option Addr × Nat) (p : Plt) (n : Int) (w : World) (hm : InP w y p) (hL : p.st.length ≤ 1000000) : Calls Try.prog 19 [.agg (pltC y p).toArray, i64 n].toArray w (Ret w (outC2 (starE p n))) := by
  by_cases h : toldE p (isStarB p n) = 0
  · have h1 := of_decide_eq_true (truthE_ok (toldE_ok h).1).2.1
    obtain ⟨k, rfl⟩ := Int.eq_ofNat_of_zero_le h1.1
    exact star_ok y p k w hm (by omega) h
  · exact star_bad y p n w hm hL h
end Go.Proofs.Ytlcdohhhhlhpmaa
namespace Go.Proofs.Ytlcdohhhhlhpmaa
open ZW

theorem hullE_bd {l : List Int} {B : Int} (hB : 0 ≤ B) (h : ∀ x ∈ l, -B ≤ x ∧ x ≤ B) : (-B ≤ (hullE l).lo ∧ (hullE l).lo ≤ B) ∧ -B ≤ (hullE l).hi ∧ (hullE l).hi ≤ B := by
  rcases hullE_hull l with ⟨e, _⟩ | ⟨_, h1, h2, _⟩
  · rw [e]; dsimp only; omega
  · exact ⟨h _ h1, h _ h2⟩
theorem placeP_bd {d : Bool} {s : StarV} {sc c : Int} (hs : starOk s) (hsc : 0 ≤ sc ∧ sc ≤ 1000) (hc : -1099511627776 ≤ c ∧ c ≤ 1099511627776) : (-1100000000000 ≤ (placeP d s sc c).1 ∧ (placeP d s sc c).1 ≤ 1100000000000) ∧ -1100000000000 ≤ (placeP d s sc c).2 ∧ (placeP d s sc c).2 ≤ 1100000000000 := by
  have hl := long_bd (d := d) hs hsc
  unfold placeP
  split
  · rename_i hk
    have h2 := said_ok (d := d) hs hk
    unfold spanOk at h2
    dsimp only; omega
  · dsimp only; omega
theorem starH_bd {p : Plt} {n : Nat} (hp : PltOk p) (hn : n < p.st.length) (d : Bool) : (-1100000000000 ≤ (starH p n d).lo ∧ (starH p n d).lo ≤ 1100000000000) ∧ -1100000000000 ≤ (starH p n d).hi ∧ (starH p n d).hi ≤ 1100000000000 := by
  refine hullE_bd (by omega) fun x hx => ?_
  obtain ⟨s, hs, hx⟩ := List.mem_flatMap.1 hx
  have h1 := scalesP_mem.1 hs
  have hc := hp.c
  unfold spanOk at hc
  have hcb := corn_bd h1.2 d
  have h2 := placeP_bd (d := d) (hp.s _ (getD_mem hn star0)) (sc := s) (by omega) hcb.1
  have h3 := placeP_bd (d := d) (hp.s _ (getD_mem hn star0)) (sc := s) (by omega) hcb.2
  unfold starG at hx
  simp only [List.mem_cons, List.not_mem_nil, or_false] at hx
  rcases hx with rfl | rfl
  · exact h2.1
  · exact h3.2
/-- How wide the place of a star is. -/
def wideP (p : Plt) (i : Nat) : Int := (starH p i false).hi - (starH p i false).lo + (starH p i true).hi - (starH p i true).lo
def poorT (p : Plt) (n : Nat) : Int × Int := (List.range n).foldl (fun r i => if wideP p i > r.2 then ((i : Int), wideP p i) else r) (0, -1)
theorem poorT_succ (p : Plt) (n : Nat) : poorT p (n + 1) = if wideP p n > (poorT p n).2 then ((n : Int), wideP p n) else poorT p n := range_foldl_succ _ _ _
abbrev outI2 (r : Int × Int × Int) : Value := .tuple [i64 r.1, i64 r.2.1, i64 r.2.2].toArray
def poorE (p : Plt) : Int × Int × Int := if toldE p true ≠ 0 then (0, 0, toldE p true) else ((poorT p p.st.length).1, (poorT p p.st.length).2, 0)
set_option maxRecDepth 100000 in
theorem poor_bad (y : Option Addr × Nat) (p : Plt) (w : World) (hm : InP w y p) (h : toldE p true ≠ 0) : Calls Try.prog 30 [.agg (pltC y p).toArray].toArray w (Ret w (outI2 (poorE p))) := by
  refine fEnter Try.func30 rfl Try.ntmps30 rfl ?_
  refine kSeq ?_
  refine kRegion rfl ?_
  refine lE rfl ?_
  refine eBoxA rfl fun n1 => ?_
  refine lV (yAssign rfl) rfl rfl ?_
  refine lV (yAssign rfl) rfl rfl ?_
  refine lE rfl ?_
  refine eAlloc Z29 fun n4 => ?_
  refine lNil ?_
  refine kThen ?_
  refine kSeq ?_
  refine kRegion rfl ?_
  refine lV (yMakeFunc .n (.c rfl .n)) rfl rfl ?_
  refine lE rfl ?_
  refine eDefer rfl .n ?_
  refine lNil ?_
  refine kThen ?_
  refine kSeq ?_
  refine kRegion rfl ?_
  refine lV (yLoadA (vs := [_, _, _]) rfl A26 (cOwn 1 rfl rfl)) rfl rfl ?_
  refine lE rfl ?_
  refine eCallP rfl (.c rfl (.c rfl .n)) C59 (fun w hw => told_bad y p true w (hm.eff0 hw) h) ?_
  refine kThenP ?_
  refine fPanC 0 DPoor C88 rfl rfl (.t rfl (.t rfl (.c1 rfl O29 (cOwn 0 rfl rfl) .n))) (endRet ?_)
  simp only [packV, poorE, if_pos h]
set_option maxRecDepth 100000 in
set_option maxHeartbeats 2000000 in
theorem poor_ok (y : Option Addr × Nat) (p : Plt) (w : World) (hm : InP w y p) (h : toldE p true = 0) : Calls Try.prog 30 [.agg (pltC y p).toArray].toArray w (Ret w (outI2 (poorE p))) := by
  have hp := (truthE_ok (toldE_ok h).1).1
  have hpn := hp.n
  refine fEnter Try.func30 rfl Try.ntmps30 rfl ?_
  refine kSeq ?_
  refine kRegion rfl ?_
  refine lE rfl ?_
  refine eBoxA rfl fun n1 => ?_
  refine lV (yAssign rfl) rfl rfl ?_
  refine lV (yAssign rfl) rfl rfl ?_
  refine lE rfl ?_
  refine eAlloc Z29 fun n4 => ?_
  refine lNil ?_
  refine kThen ?_
  refine kSeq ?_
  refine kRegion rfl ?_
  refine lV (yMakeFunc .n (.c rfl .n)) rfl rfl ?_
  refine lE rfl ?_
  refine eDefer rfl .n ?_
  refine lNil ?_
  refine kThen ?_
  refine kSeq ?_
  refine kRegion rfl ?_
  refine lV (yLoadA (vs := [_, _, _]) rfl A26 (cOwn 1 rfl rfl)) rfl rfl ?_
  refine lE rfl ?_
  refine eCallX rfl (.c rfl (.c rfl .n)) C59 (fun w hw => told_any y p true w (hm.eff0 hw) h) fun ⟨pb, mb⟩ _ => ?_
  refine lV (yAssign rfl) rfl rfl ?_
  refine lNil ?_
  refine kThen ?_
  refine kSeq ?_
  refine kRegion rfl ?_
  refine lV (yAssign rfl) rfl rfl ?_
  refine lNil ?_
  refine kThen ?_
  refine kSeq ?_
  refine kSeq ?_
  refine kRegion rfl ?_
  refine lV (yMove rfl) rfl rfl ?_
  refine lV (yNilCheckP rfl) rfl rfl ?_
  refine lV (yFieldAddr rfl F90_0) rfl rfl ?_
  refine lV (yFieldAddr rfl F26_1) rfl rfl ?_
  refine lV (yLoad1 rfl O24 (cOwn 0 rfl rfl)) rfl rfl ?_
  refine lV (yLen rfl S24) rfl rfl ?_
  refine lV (yMove rfl) rfl rfl ?_
  refine lNil ?_
  refine kThen ?_
  refine kBlock ?_
  refine kLoopX (ι := Nat × Int × Int) (fun x => x.1 ≤ p.st.length ∧ x.2 = poorT p x.1) (fun x => [(18, i64 (x.1 : Nat)), (2, i64 x.2.1), (3, i64 x.2.2)]) [(0, _), (1, _), (4, _), (9, _), (10, _), (11, _), (5, _), (12, _), (13, _), (14, _), (15, _), (16, _), (17, _)] (fun x => []) (fun x => []) [(pb, _), (mb, _), (n4, _), (n1, _)] (fun x => p.st.length - x.1) (0, 0, -1) (⟨Nat.zero_le _, rfl⟩) rfl (.c rfl (.c rfl (.c rfl .n))) (.c rfl (.c rfl (.c rfl (.c rfl (.c rfl (.c rfl (.c rfl (.c rfl (.c rfl (.c rfl (.c rfl (.c rfl (.c rfl .n))))))))))))) (.c 0 rfl (.c 0 rfl (.c 0 rfl (.c 0 rfl .n)))) ?_
  rintro ⟨i, b, v⟩ ⟨hi, hv⟩
  dsimp only at hi hv ⊢
  refine kSeq ?_
  refine kRegion rfl ?_
  refine lV (yLss rfl rfl) rfl rfl ?_
  refine lNil ?_
  refine kThen ?_
  refine kSeq ?_
  refine split (t := 19) rfl (fun h19 => ?_) (fun h19 => ?_)
  · refine kIfT rfl ?_
    refine kSkip ?_
    refine kThen ?_
    refine kSeq ?_
    refine kBlock ?_
    refine kSeq ?_
    refine kRegion rfl ?_
    refine lV (yMove rfl) rfl rfl ?_
    refine lV (yAssign rfl) rfl rfl ?_
    refine lNil ?_
    refine kThen ?_
    refine kSeq ?_
    refine kRegion rfl ?_
    refine lV (yMove rfl) rfl rfl ?_
    refine lV (yMove rfl) rfl rfl ?_
    refine lV (yCall rfl (.c rfl (.c rfl .n)) C65 (fun w hw => starW_any pb mb i y p w (hw.blkAt 0 rfl) (hw.blkAt 1 rfl) (hm.eff0 hw) hp (by omega))) rfl rfl ?_
    refine lE rfl ?_
    refine eAlloc Z96 fun n7 => ?_
    refine lE rfl ?_
    refine eStoreL 0 rfl rfl rfl rfl K96 rfl (rfl) ?_
    refine lNil ?_
    refine kThen ?_
    refine kSeq ?_
    have hb1 := starH_bd hp (n := i) (by omega) false
    have hb2 := starH_bd hp (n := i) (by omega) true
    refine kRegion rfl ?_
    refine lV (yIndexAr rfl rfl R96 (by omega) (by omega)) rfl rfl ?_
    refine lV (yFieldAddr rfl F86_1) rfl rfl ?_
    refine lV (yLoad1 rfl O3 (cOwn 0 rfl rfl)) rfl rfl ?_
    refine lV (yIndexAr rfl rfl R96 (by omega) (by omega)) rfl rfl ?_
    refine lV (yFieldAddr rfl F86_0) rfl rfl ?_
    refine lV (yLoad1 rfl O3 (cOwn 0 rfl rfl)) rfl rfl ?_
    refine lV (ySub rfl rfl (by omega)) rfl rfl ?_
    refine lV (yIndexAr rfl rfl R96 (by omega) (by omega)) rfl rfl ?_
    refine lV (yFieldAddr rfl F86_1) rfl rfl ?_
    refine lV (yLoad1 rfl O3 (cOwn 0 rfl rfl)) rfl rfl ?_
    refine lV (yAdd rfl rfl (by omega)) rfl rfl ?_
    refine lV (yIndexAr rfl rfl R96 (by omega) (by omega)) rfl rfl ?_
    refine lV (yFieldAddr rfl F86_0) rfl rfl ?_
    refine lV (yLoad1 rfl O3 (cOwn 0 rfl rfl)) rfl rfl ?_
    refine lV (ySub rfl rfl (by omega)) rfl rfl ?_
    refine same (t := 38) (u := i64 (wideP p i)) rfl (rfl) ?_
    refine lV (yAssign rfl) rfl rfl ?_
    refine lNil ?_
    refine kThen ?_
    refine kSeq ?_
    refine kRegion rfl ?_
    refine lV (yMove rfl) rfl rfl ?_
    refine lV (yMove rfl) rfl rfl ?_
    refine lV (yGtr rfl rfl) rfl rfl ?_
    refine split (t := 41) rfl (fun h41 => ?_) (fun h41 => ?_)
    · refine lNil ?_
      refine kThen ?_
      refine kIfT rfl ?_
      refine kRegion rfl ?_
      refine lV (yMove rfl) rfl rfl ?_
      refine lV (yMove rfl) rfl rfl ?_
      refine lV (yAssign rfl) rfl rfl ?_
      refine lV (yAssign rfl) rfl rfl ?_
      refine lNil ?_
      refine kInN ?_
      refine kThen ?_
      refine kRegion rfl ?_
      refine lV (yAdd rfl rfl (by omega)) rfl rfl ?_
      refine lV (yMove rfl) rfl rfl ?_
      refine lNil ?_
      exact kRoundX (i + 1, (i : Int), wideP p i) (⟨by dsimp only; omega, by dsimp only; rw [poorT_succ, ← hv, if_pos h41]⟩) (by dsimp only; omega) rfl (.c rfl (.c rfl (.c rfl .n))) (.c rfl (.c rfl (.c rfl (.c rfl (.c rfl (.c rfl (.c rfl (.c rfl (.c rfl (.c rfl (.c rfl (.c rfl (.c rfl .n))))))))))))) (.c 1 rfl (.c 1 rfl (.c 1 rfl (.c 1 rfl .n))))
    · refine lNil ?_
      refine kThen ?_
      refine kIfF rfl ?_
      refine kSkip ?_
      refine kInN ?_
      refine kThen ?_
      refine kRegion rfl ?_
      refine lV (yAdd rfl rfl (by omega)) rfl rfl ?_
      refine lV (yMove rfl) rfl rfl ?_
      refine lNil ?_
      exact kRoundX (i + 1, b, v) (⟨by dsimp only; omega, by dsimp only; rw [poorT_succ, ← hv, if_neg h41]⟩) (by dsimp only; omega) rfl (.c rfl (.c rfl (.c rfl .n))) (.c rfl (.c rfl (.c rfl (.c rfl (.c rfl (.c rfl (.c rfl (.c rfl (.c rfl (.c rfl (.c rfl (.c rfl (.c rfl .n))))))))))))) (.c 1 rfl (.c 1 rfl (.c 1 rfl (.c 1 rfl .n))))
  · refine kIfF rfl ?_
    refine kExit ?_
    refine kThenX ?_
    refine kThenX ?_
    refine kInX ?_
    refine kThen ?_
    refine kSeq ?_
    refine kRegion rfl ?_
    refine lV (yMove rfl) rfl rfl ?_
    refine lV (yMove rfl) rfl rfl ?_
    refine lV (yAssign rfl) rfl rfl ?_
    refine lV (yAssign rfl) rfl rfl ?_
    refine lE rfl ?_
    refine eStoreL 2 rfl rfl rfl rfl K29 rfl (rfl) ?_
    refine lNil ?_
    refine kThen ?_
    refine kRet ?_
    refine fRetC DPoor C88 rfl (.t rfl (.t rfl (.c1 rfl O29 (cOwn 2 rfl rfl) .n))) (endRet ?_)
    obtain rfl : i = p.st.length := by omega
    simp only [packV, poorE, if_neg (not_not_intro h), ← hv]
theorem poor_any (y : Option Addr × Nat) (p : Plt) (w : World) (hm : InP w y p) : Calls Try.prog 30 [.agg (pltC y p).toArray].toArray w (Ret w (outI2 (poorE p))) := by
  by_cases h : toldE p true = 0
  · exact poor_ok y p w hm h
  · exact poor_bad y p w hm h
end Go.Proofs.Ytlcdohhhhlhpmaa
namespace Go.Proofs.Ytlcdohhhhlhpmaa
open ZW

/-- The ends along both directions; the one that is kept now. -/
def endD (d : Bool) (o e : Ends) : List Value := match d with
  | false => endC2 e o
  | true => endC2 o e
theorem keepD_any : ∀ (d : Bool) (n : Nat) (o e : Ends) (x : Int) (w : World), w.heap[n]? = some (blk (endD d o e) 96) → Calls Try.prog 54 [.pointer (some ⟨n, bif d then 3 else 0, none⟩), i64 x].toArray w (Wr w n (blk (endD d o (keepE e x)) 96) (.tuple #[]))
  | false, n, o, e, x, w, h => keepA n e o x w h
  | true, n, o, e, x, w, h => keepB n o e x w h
/-- Corners that are tried. -/
def triedT (d : Bool) (l : List StarV) (sc : Int) (c : Int × Int) (n : Nat) : List Int :=
  (List.range n).foldl (fun t i => if (l.getD i star0).k = true then t ++ [(saidD d (l.getD i star0)).1 - (longP sc (imgD d (l.getD i star0))).1, (saidD d (l.getD i star0)).2 - (longP sc (imgD d (l.getD i star0))).2] else t) [c.1, c.2]
theorem triedT_succ (d : Bool) (l : List StarV) (sc : Int) (c : Int × Int) (n : Nat) : triedT d l sc c (n + 1) = if (l.getD n star0).k = true then triedT d l sc c n ++ [(saidD d (l.getD n star0)).1 - (longP sc (imgD d (l.getD n star0))).1, (saidD d (l.getD n star0)).2 - (longP sc (imgD d (l.getD n star0))).2] else triedT d l sc c n := range_foldl_succ _ _ _
theorem triedT_len (d : Bool) (l : List StarV) (sc : Int) (c : Int × Int) : ∀ n, (triedT d l sc c n).length ≤ 2 * n + 2
  | 0 => by simp [triedT]
  | n + 1 => by
    have ih := triedT_len d l sc c n
    rw [triedT_succ]
    split
    · rw [List.length_append]; simp only [List.length_cons, List.length_nil]; omega
    · omega
def triedP (d : Bool) (a b : StarV) (sc : Int) (c : Int × Int) : List Int := triedT d [a, b] sc c 2
def clampC (c : Int × Int) (n : Int) : Int := max c.1 (min c.2 n)
/-- What is kept of a corner. -/
def apartK (d : Bool) (a b : StarV) (sc : Int) (c : Int × Int) (n : Int) : List Int :=
  [(placeP d b sc (clampC c n)).1 - (placeP d a sc (clampC c n)).2, (placeP d b sc (clampC c n)).2 - (placeP d a sc (clampC c n)).1]
def apartG (d : Bool) (a b : StarV) (sc : Int) (c : Int × Int) : List Int := (triedP d a b sc c).flatMap (apartK d a b sc c)
def keptT (d : Bool) (a b : StarV) (sc : Int) (c : Int × Int) (e : Ends) (n : Nat) : Ends := (List.range n).foldl (fun e j => (apartK d a b sc c ((triedP d a b sc c).getD j 0)).foldl keepE e) e
theorem keptT_succ (d : Bool) (a b : StarV) (sc : Int) (c : Int × Int) (e : Ends) (n : Nat) : keptT d a b sc c e (n + 1) = (apartK d a b sc c ((triedP d a b sc c).getD n 0)).foldl keepE (keptT d a b sc c e n) := range_foldl_succ _ _ _
theorem foldl_flat (F : Int → List Int) : ∀ (l : List Int) (e : Ends), (List.range l.length).foldl (fun e j => (F (l.getD j 0)).foldl keepE e) e = (l.flatMap F).foldl keepE e := by
  intro l e
  have h : ∀ (l : List Int) (e : Ends), (l.flatMap F).foldl keepE e = l.foldl (fun e x => (F x).foldl keepE e) e := by
    intro l
    induction l with
    | nil => intro e; rfl
    | cons x l ih => intro e; rw [List.flatMap_cons, List.foldl_append, List.foldl_cons, ih]
  rw [h]
  have h2 : l = (List.range l.length).map fun j => l.getD j 0 := by
    refine List.ext_getElem? fun i => ?_
    by_cases hi : i < l.length
    · rw [List.getElem?_map, List.getElem?_range hi, List.getElem?_eq_getElem hi, Option.map_some, List.getElem_eq_getD (h := hi) (fallback := 0)]
    · rw [List.getElem?_eq_none (by omega), List.getElem?_eq_none (by simp; omega)]
  conv => rhs; rw [h2, List.foldl_map]

set_option maxRecDepth 100000 in
set_option maxHeartbeats 4000000 in
theorem apartW_any (pb ne : Nat) (d : Bool) (a b : StarV) (sc : Int) (c : Int × Int) (o e : Ends) (w : World) (ha : starOk a) (hb : starOk b) (hsc : 0 ≤ sc ∧ sc ≤ 1000) (hc : (-1099511627776 ≤ c.1 ∧ c.1 ≤ 1099511627776) ∧ -1099511627776 ≤ c.2 ∧ c.2 ≤ 1099511627776)
    (hne : w.heap[ne]? = some (blk (endD d o e) 96)) :
    Calls Try.prog 70 [.agg (wayC pb d).toArray, .agg (rowS a).toArray, .agg (rowS b).toArray, i64 sc, .agg (rowE c).toArray, .pointer (some ⟨ne, bif d then 3 else 0, none⟩)].toArray w (Wr w ne (blk (endD d o ((apartG d a b sc c).foldl keepE e)) 96) (.tuple #[])) := by
  have hab : ∀ i, i < 2 → starOk ([a, b].getD i star0) := fun i hi => by
    match i, hi with
    | 0, _ => exact ha
    | 1, _ => exact hb
  refine fEnterM (Eff.one hne) Try.func70 rfl Try.ntmps70 rfl ?_
  refine kSeq ?_
  refine kRegion rfl ?_
  refine lE rfl ?_
  refine eBoxA rfl fun n6 => ?_
  refine lE rfl ?_
  refine eBoxA rfl fun n7 => ?_
  refine lE rfl ?_
  refine eBoxA rfl fun n8 => ?_
  refine lE rfl ?_
  refine eBoxA rfl fun n10 => ?_
  refine lNil ?_
  refine kThen ?_
  refine kSeq ?_
  refine kRegion rfl ?_
  refine lV (yFieldAddr rfl F23_0) rfl rfl ?_
  refine lV (yLoad1 rfl O3 (cOwn 1 rfl rfl)) rfl rfl ?_
  refine lV (yFieldAddr rfl F23_1) rfl rfl ?_
  refine lV (yLoad1 rfl O3 (cOwn 1 rfl rfl)) rfl rfl ?_
  refine lE rfl ?_
  refine eBuildSlice (.c rfl (.c rfl .n)) (fun w => BS56_2_0_1 w) fun n27 => ?_
  refine lV (yAssign rfl) rfl rfl ?_
  refine lNil ?_
  refine kThen ?_
  refine kSeq ?_
  refine kSeq ?_
  refine kRegion rfl ?_
  refine lV (yLoadA (vs := [_, _, _, _, _, _, _, _, _]) rfl A58 (cOwn 4 rfl rfl)) rfl rfl ?_
  refine lV (yLoadA (vs := [_, _, _, _, _, _, _, _, _]) rfl A58 (cOwn 3 rfl rfl)) rfl rfl ?_
  refine lE rfl ?_
  refine eBuildSlice (.c rfl (.c rfl .n)) (fun w => BS24_2_0_1 w) fun n30 => ?_
  refine lV (yLen rfl S24) rfl rfl ?_
  refine lV (yMove rfl) rfl rfl ?_
  refine lNil ?_
  refine kThen ?_
  refine kBlock ?_
  refine kLoopX (ι := Nat × Own × List (List Value)) (fun x => x.1 ≤ 2 ∧ x.2.2 = (triedT d [a, b] sc c x.1).map rowI ∧ OS 1 x.2.1 x.2.2) (fun x => [(32, i64 (x.1 : Nat)), (12, osV x.2.1 x.2.2.length)]) [(0, _), (1, _), (2, _), (3, _), (4, _), (5, _), (6, _), (7, _), (8, _), (10, _), (23, _), (24, _), (25, _), (26, _), (27, _), (28, _), (29, _), (30, _), (31, _)] (fun x => [(ne, blk (endD d o e) 96)]) (fun x => osL 3 x.2.1) [(n30, _), (n10, _), (n8, _), (n7, _), (n6, _)] (fun x => 2 - x.1) (0, .b n27 2 [i64 c.1, i64 c.2], [[i64 c.1], [i64 c.2]]) (⟨by omega, rfl, OS.lit (es := [[i64 c.1], [i64 c.2]]) (by simp) rfl (by simp)⟩) rfl (.c rfl (.c rfl .n)) (.c rfl (.c rfl (.c rfl (.c rfl (.c rfl (.c rfl (.c rfl (.c rfl (.c rfl (.c rfl (.c rfl (.c rfl (.c rfl (.c rfl (.c rfl (.c rfl (.c rfl (.c rfl (.c rfl .n))))))))))))))))))) (.c 0 rfl (.c 1 rfl (.c 1 rfl (.c 1 rfl (.c 1 rfl (.c 0 rfl .n)))))) ?_
  rintro ⟨i, g, es⟩ ⟨hi, hes, hg⟩
  dsimp only at hi hes hg ⊢
  refine kSeq ?_
  refine kRegion rfl ?_
  refine lV (yLss rfl rfl) rfl rfl ?_
  refine lNil ?_
  refine kThen ?_
  refine kSeq ?_
  refine split (t := 33) rfl (fun h33 => ?_) (fun h33 => ?_)
  · refine kIfT rfl ?_
    refine kSkip ?_
    refine kThen ?_
    refine kSeq ?_
    refine kBlock ?_
    refine kSeq ?_
    refine kRegion rfl ?_
    refine lV (yIndexS  rfl rfl S24 ((fun w hw => sleRows (f := rowS) (fun _ => rfl) star0 [a, b] rfl (hw.blkAt 1 rfl))) ((by show i < 2; omega))) rfl rfl ?_
    refine lV (yLoadA (vs := [_, _, _, _, _, _, _, _, _]) rfl A58 (cSl0 ((fun w hw => sleRows (f := rowS) (fun _ => rfl) star0 [a, b] rfl (hw.blkAt 1 rfl))) ((by show i < 2; omega)) rfl)) rfl rfl ?_
    refine lE rfl ?_
    refine eAlloc Z58 fun n14 => ?_
    refine lE rfl ?_
    refine eStoreL 0 rfl rfl rfl rfl K58 rfl (rfl) ?_
    refine lNil ?_
    refine kThen ?_
    refine kSeq ?_
    refine kDrawE [(0, none), (2, none), (3, none), (5, none), (6, none), (7, none)] [] [0, 1, 2, 3, 4, 5, 6, 7] 4 hMix (by kernel_rfl) ?_
    refine .run rfl (yLoadA (vs := [_, _, _]) rfl A103 (cOwn 6 rfl rfl)) rfl rfl ?_
    refine .run rfl (yMove rfl) rfl rfl ?_
    refine .run rfl (yLoadA (vs := [_, _, _, _, _, _, _, _, _]) rfl A58 (cOwn 1 rfl rfl)) rfl rfl ?_
    refine .run rfl (yCall rfl (.c rfl (.c rfl (.c rfl .n))) C111 (fun w hw => long_any pb d sc _ w hsc (img_ok (hab i (by omega))))) rfl rfl ?_
    refine .run rfl (yFieldAddr rfl F103_2) rfl rfl ?_
    refine .run rfl (yLoad1 rfl O101 (cOwn 6 rfl rfl)) rfl rfl ?_
    refine .run rfl (yLoadA (vs := [_, _, _, _, _, _, _, _, _]) rfl A58 (cOwn 1 rfl rfl)) rfl rfl ?_
    refine .run rfl (yCall rfl (.c rfl .n) (said_c d) (fun w hw => said_any d _ w)) rfl rfl ?_
    refine .done ?_
    refine effStep 8 [9] (by kernel_rfl) closedSt (hLeft [0, 2, 3, 5, 6, 7] (by kernel_rfl) (.c (fun _ _ hs => hs.ef) (.c (fun _ _ hs => hs.ef) (.c (fun _ _ hs => hs.ef) (.c (fun _ _ hs => hs.ef) (.c (fun _ _ hs => hs.ef) (.c (fun _ _ hs => hs.ef) .n))))))) ?_
    refine (.c ?_ (.c ?_ .n))
    · refine effOne rfl (gNone rfl (fAlloc Z23)) ?_
      refine effStep 9 [] (by kernel_rfl) (closedEx fun n15 => closedSt) (hLeft [0, 2, 3, 5, 6, 7] (by kernel_rfl) (.c (fun _ _ ⟨n15, hs⟩ => hs.ef.sub (.c 1 rfl (.c 1 rfl (.c 1 rfl (.c 1 rfl (.c 1 rfl (.c 1 rfl (.d 0 .r)))))))) (.c (fun _ _ ⟨n15, hs⟩ => hs.ef.sub (.c 1 rfl (.c 1 rfl (.c 1 rfl (.c 1 rfl (.c 1 rfl (.c 1 rfl (.d 0 .r)))))))) (.c (fun _ _ ⟨n15, hs⟩ => hs.ef.sub (.c 1 rfl (.c 1 rfl (.c 1 rfl (.c 1 rfl (.c 1 rfl (.c 1 rfl (.d 0 .r)))))))) (.c (fun _ _ ⟨n15, hs⟩ => hs.ef.sub (.c 1 rfl (.c 1 rfl (.c 1 rfl (.c 1 rfl (.c 1 rfl (.c 1 rfl (.d 0 .r)))))))) (.c (fun _ _ ⟨n15, hs⟩ => hs.ef.sub (.c 1 rfl (.c 1 rfl (.c 1 rfl (.c 1 rfl (.c 1 rfl (.c 1 rfl (.d 0 .r)))))))) (.c (fun _ _ ⟨n15, hs⟩ => hs.ef.sub (.c 1 rfl (.c 1 rfl (.c 1 rfl (.c 1 rfl (.c 1 rfl (.c 1 rfl (.d 0 .r)))))))) .n))))))) ?_
      refine .c ?_ .n
      refine effOne rfl (opEx fun n15 => (gNone rfl (fAlloc Z23))) ?_
      refine effStep 10 [] (by kernel_rfl) (closedEx fun n15 => (closedEx fun n16 => closedSt)) (hLeft [0, 2, 3, 5, 6, 7] (by kernel_rfl) (.c (fun _ _ ⟨n15, ⟨n16, hs⟩⟩ => hs.ef.sub (.c 2 rfl (.c 2 rfl (.c 2 rfl (.c 2 rfl (.c 2 rfl (.c 2 rfl (.d 0 (.d 0 .r))))))))) (.c (fun _ _ ⟨n15, ⟨n16, hs⟩⟩ => hs.ef.sub (.c 2 rfl (.c 2 rfl (.c 2 rfl (.c 2 rfl (.c 2 rfl (.c 2 rfl (.d 0 (.d 0 .r))))))))) (.c (fun _ _ ⟨n15, ⟨n16, hs⟩⟩ => hs.ef.sub (.c 2 rfl (.c 2 rfl (.c 2 rfl (.c 2 rfl (.c 2 rfl (.c 2 rfl (.d 0 (.d 0 .r))))))))) (.c (fun _ _ ⟨n15, ⟨n16, hs⟩⟩ => hs.ef.sub (.c 2 rfl (.c 2 rfl (.c 2 rfl (.c 2 rfl (.c 2 rfl (.c 2 rfl (.d 0 (.d 0 .r))))))))) (.c (fun _ _ ⟨n15, ⟨n16, hs⟩⟩ => hs.ef.sub (.c 2 rfl (.c 2 rfl (.c 2 rfl (.c 2 rfl (.c 2 rfl (.c 2 rfl (.d 0 (.d 0 .r))))))))) (.c (fun _ _ ⟨n15, ⟨n16, hs⟩⟩ => hs.ef.sub (.c 2 rfl (.c 2 rfl (.c 2 rfl (.c 2 rfl (.c 2 rfl (.c 2 rfl (.d 0 (.d 0 .r))))))))) .n))))))) ?_
      refine .c ?_ .n
      refine effOne rfl (opEx fun n15 => (opEx fun n16 => (gNone rfl (fStoreL 1 rfl rfl rfl rfl K23 rfl (rfl))))) ?_
      refine effStep 11 [] (by kernel_rfl) (closedEx fun n15 => (closedEx fun n16 => closedSt)) (hLeft [] (by kernel_rfl) .n) ?_
      refine .c ?_ .n
      refine effOne rfl (opEx fun n15 => (opEx fun n16 => (gNone rfl (fStoreL 0 rfl rfl rfl rfl K23 rfl (rfl))))) ?_
      refine effDone (closedEx fun n15 => (closedEx fun n16 => closedSt)) (hLeft [] (by kernel_rfl) .n) (by kernel_rfl) ?_
      refine trEx fun n15 => ?_
      refine trEx fun n16 => ?_
      refine kThen ?_
      refine kSeq ?_
      refine kRegion rfl ?_
      refine lV (yFieldAddr rfl F58_2) rfl rfl ?_
      refine lV (yLoad1 rfl O4 (cOwn 3 rfl rfl)) rfl rfl ?_
      refine splitB (t := 45) rfl (fun h45 => ?_) (fun h45 => ?_)
      · refine lNil ?_
        refine kThen ?_
        refine kIfT rfl ?_
        have hl := long_bd (d := d) (hab i (by omega)) hsc
        have hsd := said_ok (d := d) (hab i (by omega)) h45
        have htl := triedT_len d [a, b] sc c i
        unfold spanOk at hsd
        refine kRegion rfl ?_
        refine lV (yMove rfl) rfl rfl ?_
        refine lV (yFieldAddr rfl F23_0) rfl rfl ?_
        refine lV (yLoad1 rfl O3 (cOwn 1 rfl rfl)) rfl rfl ?_
        refine lV (yFieldAddr rfl F23_0) rfl rfl ?_
        refine lV (yLoad1 rfl O3 (cOwn 2 rfl rfl)) rfl rfl ?_
        refine lV (ySub rfl rfl (by omega)) rfl rfl ?_
        refine lV (yFieldAddr rfl F23_1) rfl rfl ?_
        refine lV (yLoad1 rfl O3 (cOwn 1 rfl rfl)) rfl rfl ?_
        refine lV (yFieldAddr rfl F23_1) rfl rfl ?_
        refine lV (yLoad1 rfl O3 (cOwn 2 rfl rfl)) rfl rfl ?_
        refine lV (ySub rfl rfl (by omega)) rfl rfl ?_
        refine lE rfl ?_
        refine eBuildSlice (.c rfl (.c rfl .n)) (fun w => BS56_2_0_1 w) fun n57 => ?_
        refine lE rfl ?_
        skip
        refine eAppend (gs := g) [(n57, _), (n16, _), (n15, _), (n14, _), (n30, _), (n10, _), (n8, _), (n7, _), (n6, _)] [[i64 ((saidD d ([a, b].getD i star0)).1 - (longP sc (imgD d ([a, b].getD i star0))).1)], [i64 ((saidD d ([a, b].getD i star0)).2 - (longP sc (imgD d ([a, b].getD i star0))).2)]] AP56 rfl rfl .r hg rfl (by simp) (SlN.own 1 rfl rfl) (by simp [Value.oneCell']) (by simp [hes]; omega) (by simp [hes]; omega) fun h hh => ?_
        refine lV (yAssign rfl) rfl rfl ?_
        refine lNil ?_
        refine kInN ?_
        refine kThen ?_
        refine kRegion rfl ?_
        refine lV (yAdd rfl rfl (by omega)) rfl rfl ?_
        refine lV (yMove rfl) rfl rfl ?_
        refine lNil ?_
        exact kRoundX (i + 1, h, es ++ [[i64 ((saidD d ([a, b].getD i star0)).1 - (longP sc (imgD d ([a, b].getD i star0))).1)], [i64 ((saidD d ([a, b].getD i star0)).2 - (longP sc (imgD d ([a, b].getD i star0))).2)]]) (⟨by dsimp only; omega, by dsimp only; rw [triedT_succ, if_pos h45, hes]; simp, hh⟩) (by dsimp only; omega) rfl (.c rfl (.c rfl .n)) (.c rfl (.c rfl (.c rfl (.c rfl (.c rfl (.c rfl (.c rfl (.c rfl (.c rfl (.c rfl (.c rfl (.c rfl (.c rfl (.c rfl (.c rfl (.c rfl (.c rfl (.c rfl (.c rfl .n))))))))))))))))))) (.c 4 rfl (.c 4 rfl (.c 4 rfl (.c 4 rfl (.c 4 rfl (.d 0 (.d 0 (.d 0 (.d 0 .r)))))))))
      · refine lNil ?_
        refine kThen ?_
        refine kIfF rfl ?_
        refine kSkip ?_
        refine kInN ?_
        refine kThen ?_
        refine kRegion rfl ?_
        refine lV (yAdd rfl rfl (by omega)) rfl rfl ?_
        refine lV (yMove rfl) rfl rfl ?_
        refine lNil ?_
        exact kRoundX (i + 1, g, es) (⟨by dsimp only; omega, by dsimp only; rw [triedT_succ, if_neg (by rw [h45]; decide), hes], hg⟩) (by dsimp only; omega) rfl (.c rfl (.c rfl .n)) (.c rfl (.c rfl (.c rfl (.c rfl (.c rfl (.c rfl (.c rfl (.c rfl (.c rfl (.c rfl (.c rfl (.c rfl (.c rfl (.c rfl (.c rfl (.c rfl (.c rfl (.c rfl (.c rfl .n))))))))))))))))))) (.c 3 rfl (.c 3 rfl (.c 3 rfl (.c 3 rfl (.c 3 rfl (.d 0 (.d 0 (.d 0 .r))))))))
    · refine effOne rfl (gNone rfl (fAlloc Z23)) ?_
      refine effStep 8 [] (by kernel_rfl) (closedEx fun n16 => closedSt) (hLeft [0, 2, 3, 5, 6, 7] (by kernel_rfl) (.c (fun _ _ ⟨n16, hs⟩ => hs.ef.sub (.c 1 rfl (.c 1 rfl (.c 1 rfl (.c 1 rfl (.c 1 rfl (.c 1 rfl (.d 0 .r)))))))) (.c (fun _ _ ⟨n16, hs⟩ => hs.ef.sub (.c 1 rfl (.c 1 rfl (.c 1 rfl (.c 1 rfl (.c 1 rfl (.c 1 rfl (.d 0 .r)))))))) (.c (fun _ _ ⟨n16, hs⟩ => hs.ef.sub (.c 1 rfl (.c 1 rfl (.c 1 rfl (.c 1 rfl (.c 1 rfl (.c 1 rfl (.d 0 .r)))))))) (.c (fun _ _ ⟨n16, hs⟩ => hs.ef.sub (.c 1 rfl (.c 1 rfl (.c 1 rfl (.c 1 rfl (.c 1 rfl (.c 1 rfl (.d 0 .r)))))))) (.c (fun _ _ ⟨n16, hs⟩ => hs.ef.sub (.c 1 rfl (.c 1 rfl (.c 1 rfl (.c 1 rfl (.c 1 rfl (.c 1 rfl (.d 0 .r)))))))) (.c (fun _ _ ⟨n16, hs⟩ => hs.ef.sub (.c 1 rfl (.c 1 rfl (.c 1 rfl (.c 1 rfl (.c 1 rfl (.c 1 rfl (.d 0 .r)))))))) .n))))))) ?_
      refine .c ?_ .n
      refine effOne rfl (opEx fun n16 => (gNone rfl (fAlloc Z23))) ?_
      refine effStep 10 [] (by kernel_rfl) (closedEx fun n16 => (closedEx fun n15 => closedSt)) (hLeft [0, 2, 3, 5, 6, 7] (by kernel_rfl) (.c (fun _ _ ⟨n16, ⟨n15, hs⟩⟩ => hs.ef.sub (.c 2 rfl (.c 2 rfl (.c 2 rfl (.c 2 rfl (.c 2 rfl (.c 2 rfl (.d 0 (.d 0 .r))))))))) (.c (fun _ _ ⟨n16, ⟨n15, hs⟩⟩ => hs.ef.sub (.c 2 rfl (.c 2 rfl (.c 2 rfl (.c 2 rfl (.c 2 rfl (.c 2 rfl (.d 0 (.d 0 .r))))))))) (.c (fun _ _ ⟨n16, ⟨n15, hs⟩⟩ => hs.ef.sub (.c 2 rfl (.c 2 rfl (.c 2 rfl (.c 2 rfl (.c 2 rfl (.c 2 rfl (.d 0 (.d 0 .r))))))))) (.c (fun _ _ ⟨n16, ⟨n15, hs⟩⟩ => hs.ef.sub (.c 2 rfl (.c 2 rfl (.c 2 rfl (.c 2 rfl (.c 2 rfl (.c 2 rfl (.d 0 (.d 0 .r))))))))) (.c (fun _ _ ⟨n16, ⟨n15, hs⟩⟩ => hs.ef.sub (.c 2 rfl (.c 2 rfl (.c 2 rfl (.c 2 rfl (.c 2 rfl (.c 2 rfl (.d 0 (.d 0 .r))))))))) (.c (fun _ _ ⟨n16, ⟨n15, hs⟩⟩ => hs.ef.sub (.c 2 rfl (.c 2 rfl (.c 2 rfl (.c 2 rfl (.c 2 rfl (.c 2 rfl (.d 0 (.d 0 .r))))))))) .n))))))) ?_
      refine .c ?_ .n
      refine effOne rfl (opEx fun n16 => (opEx fun n15 => (gNone rfl (fStoreL 0 rfl rfl rfl rfl K23 rfl (rfl))))) ?_
      refine effStep 11 [] (by kernel_rfl) (closedEx fun n16 => (closedEx fun n15 => closedSt)) (hLeft [] (by kernel_rfl) .n) ?_
      refine .c ?_ .n
      refine effOne rfl (opEx fun n16 => (opEx fun n15 => (gNone rfl (fStoreL 1 rfl rfl rfl rfl K23 rfl (rfl))))) ?_
      refine effDone (closedEx fun n16 => (closedEx fun n15 => closedSt)) (hLeft [] (by kernel_rfl) .n) (by kernel_rfl) ?_
      refine trEx fun n16 => ?_
      refine trEx fun n15 => ?_
      refine kThen ?_
      refine kSeq ?_
      refine kRegion rfl ?_
      refine lV (yFieldAddr rfl F58_2) rfl rfl ?_
      refine lV (yLoad1 rfl O4 (cOwn 3 rfl rfl)) rfl rfl ?_
      refine splitB (t := 45) rfl (fun h45 => ?_) (fun h45 => ?_)
      · refine lNil ?_
        refine kThen ?_
        refine kIfT rfl ?_
        have hl := long_bd (d := d) (hab i (by omega)) hsc
        have hsd := said_ok (d := d) (hab i (by omega)) h45
        have htl := triedT_len d [a, b] sc c i
        unfold spanOk at hsd
        refine kRegion rfl ?_
        refine lV (yMove rfl) rfl rfl ?_
        refine lV (yFieldAddr rfl F23_0) rfl rfl ?_
        refine lV (yLoad1 rfl O3 (cOwn 2 rfl rfl)) rfl rfl ?_
        refine lV (yFieldAddr rfl F23_0) rfl rfl ?_
        refine lV (yLoad1 rfl O3 (cOwn 1 rfl rfl)) rfl rfl ?_
        refine lV (ySub rfl rfl (by omega)) rfl rfl ?_
        refine lV (yFieldAddr rfl F23_1) rfl rfl ?_
        refine lV (yLoad1 rfl O3 (cOwn 2 rfl rfl)) rfl rfl ?_
        refine lV (yFieldAddr rfl F23_1) rfl rfl ?_
        refine lV (yLoad1 rfl O3 (cOwn 1 rfl rfl)) rfl rfl ?_
        refine lV (ySub rfl rfl (by omega)) rfl rfl ?_
        refine lE rfl ?_
        refine eBuildSlice (.c rfl (.c rfl .n)) (fun w => BS56_2_0_1 w) fun n57 => ?_
        refine lE rfl ?_
        skip
        refine eAppend (gs := g) [(n57, _), (n15, _), (n16, _), (n14, _), (n30, _), (n10, _), (n8, _), (n7, _), (n6, _)] [[i64 ((saidD d ([a, b].getD i star0)).1 - (longP sc (imgD d ([a, b].getD i star0))).1)], [i64 ((saidD d ([a, b].getD i star0)).2 - (longP sc (imgD d ([a, b].getD i star0))).2)]] AP56 rfl rfl .r hg rfl (by simp) (SlN.own 1 rfl rfl) (by simp [Value.oneCell']) (by simp [hes]; omega) (by simp [hes]; omega) fun h hh => ?_
        refine lV (yAssign rfl) rfl rfl ?_
        refine lNil ?_
        refine kInN ?_
        refine kThen ?_
        refine kRegion rfl ?_
        refine lV (yAdd rfl rfl (by omega)) rfl rfl ?_
        refine lV (yMove rfl) rfl rfl ?_
        refine lNil ?_
        exact kRoundX (i + 1, h, es ++ [[i64 ((saidD d ([a, b].getD i star0)).1 - (longP sc (imgD d ([a, b].getD i star0))).1)], [i64 ((saidD d ([a, b].getD i star0)).2 - (longP sc (imgD d ([a, b].getD i star0))).2)]]) (⟨by dsimp only; omega, by dsimp only; rw [triedT_succ, if_pos h45, hes]; simp, hh⟩) (by dsimp only; omega) rfl (.c rfl (.c rfl .n)) (.c rfl (.c rfl (.c rfl (.c rfl (.c rfl (.c rfl (.c rfl (.c rfl (.c rfl (.c rfl (.c rfl (.c rfl (.c rfl (.c rfl (.c rfl (.c rfl (.c rfl (.c rfl (.c rfl .n))))))))))))))))))) (.c 4 rfl (.c 4 rfl (.c 4 rfl (.c 4 rfl (.c 4 rfl (.d 0 (.d 0 (.d 0 (.d 0 .r)))))))))
      · refine lNil ?_
        refine kThen ?_
        refine kIfF rfl ?_
        refine kSkip ?_
        refine kInN ?_
        refine kThen ?_
        refine kRegion rfl ?_
        refine lV (yAdd rfl rfl (by omega)) rfl rfl ?_
        refine lV (yMove rfl) rfl rfl ?_
        refine lNil ?_
        exact kRoundX (i + 1, g, es) (⟨by dsimp only; omega, by dsimp only; rw [triedT_succ, if_neg (by rw [h45]; decide), hes], hg⟩) (by dsimp only; omega) rfl (.c rfl (.c rfl .n)) (.c rfl (.c rfl (.c rfl (.c rfl (.c rfl (.c rfl (.c rfl (.c rfl (.c rfl (.c rfl (.c rfl (.c rfl (.c rfl (.c rfl (.c rfl (.c rfl (.c rfl (.c rfl (.c rfl .n))))))))))))))))))) (.c 3 rfl (.c 3 rfl (.c 3 rfl (.c 3 rfl (.c 3 rfl (.d 0 (.d 0 (.d 0 .r))))))))
  · refine kIfF rfl ?_
    refine kExit ?_
    refine kThenX ?_
    refine kThenX ?_
    refine kInX ?_
    refine kThen ?_
    refine kSeq ?_
    obtain rfl : i = 2 := by omega
    have hes2 : es = (triedP d a b sc c).map rowI := hes
    have htl := triedT_len d [a, b] sc c 2
    have hel : es.length = (triedP d a b sc c).length := by rw [hes2, List.length_map]
    rw [show triedT d [a, b] sc c 2 = triedP d a b sc c from rfl] at htl
    refine kRegion rfl ?_
    refine lV (yMove rfl) rfl rfl ?_
    refine lV (yLen rfl S56) rfl rfl ?_
    refine lV (yMove rfl) rfl rfl ?_
    refine lNil ?_
    refine kThen ?_
    refine kBlock ?_
    refine kLoopX (ι := Nat) (fun j => j ≤ (triedP d a b sc c).length) (fun j => [(62, i64 (j : Nat))]) [(0, _), (1, _), (2, _), (3, _), (4, _), (5, _), (6, _), (7, _), (8, _), (10, _), (23, _), (24, _), (25, _), (26, _), (27, _), (28, _), (29, _), (30, _), (31, _), (32, _), (12, _), (33, _), (60, _), (61, _)] (fun j => [(ne, blk (endD d o (keptT d a b sc c e j)) 96)]) (fun j => osL 3 g) [(n30, _), (n10, _), (n8, _), (n7, _), (n6, _)] (fun j => (triedP d a b sc c).length - j) 0 (Nat.zero_le _) rfl (.c rfl .n) (.c rfl (.c rfl (.c rfl (.c rfl (.c rfl (.c rfl (.c rfl (.c rfl (.c rfl (.c rfl (.c rfl (.c rfl (.c rfl (.c rfl (.c rfl (.c rfl (.c rfl (.c rfl (.c rfl (.c rfl (.c rfl (.c rfl (.c rfl (.c rfl .n)))))))))))))))))))))))) (.c 0 rfl (.c 0 rfl (.c 0 rfl (.c 0 rfl (.c 0 rfl .r))))) ?_
    rintro j hj
    refine kSeq ?_
    refine kRegion rfl ?_
    refine lV (yLss rfl rfl) rfl rfl ?_
    refine lNil ?_
    refine kThen ?_
    refine kSeq ?_
    refine split (t := 63) rfl (fun h63 => ?_) (fun h63 => ?_)
    · refine kIfT rfl ?_
      refine kSkip ?_
      refine kThen ?_
      refine kSeq ?_
      refine kBlock ?_
      refine kSeq ?_
      refine kRegion rfl ?_
      refine lV (yIndexS  rfl rfl S56 ((fun w hw => (OS.rowsE (f := rowI) (l := triedP d a b sc c) 0 (by rw [← hes2]; exact hg) hw (.d 0 (.d 0 (.d 0 (.d 0 (.d 0 .r)))))).congr hel fun i _ => rfl)) ((by omega))) rfl rfl ?_
      refine lV (yLoad1 rfl O3 (cSl0 ((fun w hw => (OS.rowsE (f := rowI) (l := triedP d a b sc c) 0 (by rw [← hes2]; exact hg) hw (.d 0 (.d 0 (.d 0 (.d 0 (.d 0 .r)))))).congr hel fun i _ => rfl)) ((by omega)) rfl)) rfl rfl ?_
      refine lV (yAssign rfl) rfl rfl ?_
      refine lNil ?_
      refine kThen ?_
      refine kSeq ?_
      refine kRegion rfl ?_
      refine lV (yFieldAddr rfl F23_0) rfl rfl ?_
      refine lV (yLoad1 rfl O3 (cOwn 2 rfl rfl)) rfl rfl ?_
      refine lV (yFieldAddr rfl F23_1) rfl rfl ?_
      refine lV (yLoad1 rfl O3 (cOwn 2 rfl rfl)) rfl rfl ?_
      refine lV (yMove rfl) rfl rfl ?_
      refine lV (yMin rfl rfl) rfl rfl ?_
      refine lV (yMax rfl rfl) rfl rfl ?_
      refine lV (yAssign rfl) rfl rfl ?_
      refine lNil ?_
      refine kThen ?_
      refine kSeq ?_
      refine kRegion rfl ?_
      refine lV (yLoadA (vs := [_, _, _]) rfl A103 (cOwn 5 rfl rfl)) rfl rfl ?_
      refine lV (yLoadA (vs := [_, _, _, _, _, _, _, _, _]) rfl A58 (cOwn 4 rfl rfl)) rfl rfl ?_
      refine lV (yMove rfl) rfl rfl ?_
      refine lV (yMove rfl) rfl rfl ?_
      refine lV (yCall rfl (.c rfl (.c rfl (.c rfl (.c rfl .n)))) C105 (fun w hw => place_any pb d a sc _ w ha hsc (by omega))) rfl rfl ?_
      refine lV (yMove rfl) rfl rfl ?_
      refine lV (yExtract rfl rfl) rfl rfl ?_
      refine lV (yExtract rfl rfl) rfl rfl ?_
      refine lV (yAssign rfl) rfl rfl ?_
      refine lV (yAssign rfl) rfl rfl ?_
      refine lNil ?_
      refine kThen ?_
      refine kSeq ?_
      refine kRegion rfl ?_
      refine lV (yLoadA (vs := [_, _, _]) rfl A103 (cOwn 5 rfl rfl)) rfl rfl ?_
      refine lV (yLoadA (vs := [_, _, _, _, _, _, _, _, _]) rfl A58 (cOwn 3 rfl rfl)) rfl rfl ?_
      refine lV (yMove rfl) rfl rfl ?_
      refine lV (yMove rfl) rfl rfl ?_
      refine lV (yCall rfl (.c rfl (.c rfl (.c rfl (.c rfl .n)))) C105 (fun w hw => place_any pb d b sc _ w hb hsc (by omega))) rfl rfl ?_
      refine lV (yMove rfl) rfl rfl ?_
      refine lV (yExtract rfl rfl) rfl rfl ?_
      refine lV (yExtract rfl rfl) rfl rfl ?_
      refine lV (yAssign rfl) rfl rfl ?_
      refine lV (yAssign rfl) rfl rfl ?_
      refine lNil ?_
      refine kThen ?_
      refine kSeq ?_
      have hpa := placeP_bd (d := d) ha hsc (c := max c.1 (min c.2 ((triedP d a b sc c).getD j 0))) (by omega)
      have hpb := placeP_bd (d := d) hb hsc (c := max c.1 (min c.2 ((triedP d a b sc c).getD j 0))) (by omega)
      refine kRegion rfl ?_
      refine lV (yMove rfl) rfl rfl ?_
      refine lV (yMove rfl) rfl rfl ?_
      refine lV (yMove rfl) rfl rfl ?_
      refine lV (ySub rfl rfl (by omega)) rfl rfl ?_
      refine lE rfl ?_
      refine eCallWM 0 rfl rfl (.c rfl (.c rfl .n)) C54 (fun w hw hb => keepD_any d ne o _ _ w hb) ?_
      refine lNil ?_
      refine kThen ?_
      refine kRegion rfl ?_
      refine lV (yMove rfl) rfl rfl ?_
      refine lV (yMove rfl) rfl rfl ?_
      refine lV (yMove rfl) rfl rfl ?_
      refine lV (ySub rfl rfl (by omega)) rfl rfl ?_
      refine lE rfl ?_
      refine eCallWM 0 rfl rfl (.c rfl (.c rfl .n)) C54 (fun w hw hb => keepD_any d ne o _ _ w hb) ?_
      refine lNil ?_
      refine kInN ?_
      refine kThen ?_
      refine kRegion rfl ?_
      refine lV (yAdd rfl rfl (by omega)) rfl rfl ?_
      refine lV (yMove rfl) rfl rfl ?_
      refine lNil ?_
      exact kRoundX (j + 1) (by omega) (by omega) (by rw [keptT_succ]; rfl) (.c rfl .n) (.c rfl (.c rfl (.c rfl (.c rfl (.c rfl (.c rfl (.c rfl (.c rfl (.c rfl (.c rfl (.c rfl (.c rfl (.c rfl (.c rfl (.c rfl (.c rfl (.c rfl (.c rfl (.c rfl (.c rfl (.c rfl (.c rfl (.c rfl (.c rfl .n)))))))))))))))))))))))) (.c 0 rfl (.c 0 rfl (.c 0 rfl (.c 0 rfl (.c 0 rfl .r)))))
    · refine kIfF rfl ?_
      refine kExit ?_
      refine kThenX ?_
      refine kThenX ?_
      refine kInX ?_
      refine fEnd rfl .n ?_
      obtain rfl : j = (triedP d a b sc c).length := by omega
      rw [show keptT d a b sc c e (triedP d a b sc c).length = (apartG d a b sc c).foldl keepE e from foldl_flat _ _ _]
      exact endW rfl rfl
end Go.Proofs.Ytlcdohhhhlhpmaa
namespace Go.Proofs.Ytlcdohhhhlhpmaa
open ZW

def apartQ (p : Plt) (i k : Nat) (d : Bool) (s : Int) : List Int := apartG d (p.st.getD i star0) (p.st.getD k star0) s (cornP p d s (knownP p))
def apartH (p : Plt) (i k : Nat) (d : Bool) : Ends := hullE ((scalesP p (knownP p)).flatMap (apartQ p i k d))
def apartE (p : Plt) (a b : Int) : (Int × Int) × (Int × Int) × Int :=
  if truthE p (isStarB p a && isStarB p b) ≠ 0 then ((0, 0), (0, 0), truthE p (isStarB p a && isStarB p b)) else if a = b then ((0, 0), (0, 0), 0)
  else (spanE (apartH p a.toNat b.toNat false), spanE (apartH p a.toNat b.toNat true), 0)
set_option maxRecDepth 100000 in
set_option maxHeartbeats 2000000 in
theorem apart_bad (y : Option Addr × Nat) (p : Plt) (a b : Int) (w : World) (hm : InP w y p) (hL : p.st.length ≤ 1000000) (h : truthE p (isStarB p a && isStarB p b) ≠ 0) : Calls Try.prog 21 [.agg (pltC y p).toArray, i64 a, i64 b].toArray w (Ret w (outC2 (apartE p a b))) := by
  have e : apartE p a b = ((0, 0), (0, 0), truthE p (isStarB p a && isStarB p b)) := by unfold apartE; rw [if_pos h]
  rw [e]
  refine fEnter Try.func21 rfl Try.ntmps21 rfl ?_
  refine kSeq ?_
  refine kRegion rfl ?_
  refine lE rfl ?_
  refine eBoxA rfl fun n3 => ?_
  refine lE rfl ?_
  refine eAlloc Z23 fun n6 => ?_
  refine lE rfl ?_
  refine eAlloc Z23 fun n7 => ?_
  refine lE rfl ?_
  refine eAlloc Z29 fun n8 => ?_
  refine lNil ?_
  refine kThen ?_
  refine kSeq ?_
  refine kRegion rfl ?_
  refine lV (yMakeFunc .n (.c rfl .n)) rfl rfl ?_
  refine lE rfl ?_
  refine eDefer rfl .n ?_
  refine lNil ?_
  refine kThen ?_
  refine kSeq ?_
  by_cases hsa : 0 ≤ a ∧ a ≤ p.st.length - 1
  · rw [show isStarB p a = true from decide_eq_true hsa, Bool.true_and] at h ⊢
    refine kDrawE [(0, none), (1, none), (3, none), (5, none), (7, none)] [] [0, 1, 2, 3, 4, 5, 6, 7, 8] 2 hMix (by kernel_rfl) ?_
    refine .run rfl (yLoadA (vs := [_, _, _]) rfl A26 (cOwn 3 rfl rfl)) rfl rfl ?_
    refine .run rfl (yLoadA (vs := [_, _, _]) rfl A26 (cOwn 3 rfl rfl)) rfl rfl ?_
    refine .run rfl (yMove rfl) rfl rfl ?_
    refine .run rfl (yvIs (c := true) (yCall rfl (.c rfl (.c rfl .n)) C64 (fun w hw => isStar_any y p a w hL)) (decide_eq_true hsa)) rfl rfl ?_
    refine .run rfl (yMove rfl) rfl rfl ?_
    refine .runG rfl (yLoadA (vs := [_, _, _]) rfl A26 (cOwn 3 rfl rfl)) rfl rfl rfl rfl ?_
    refine .runG rfl (yMove rfl) rfl rfl rfl rfl ?_
    refine .runG rfl (yCall rfl (.c rfl (.c rfl .n)) C64 (fun w hw => isStar_any y p b w hL)) rfl rfl rfl rfl ?_
    refine .run rfl (yPickT rfl rfl) rfl rfl ?_
    refine .done ?_
    refine effStep 9 [] (by kernel_rfl) closedSt (hLeft [0, 1, 3, 5, 7] (by kernel_rfl) (.c (fun _ _ hs => hs.ef) (.c (fun _ _ hs => hs.ef) (.c (fun _ _ hs => hs.ef) (.c (fun _ _ hs => hs.ef) (.c (fun _ _ hs => hs.ef) .n)))))) ?_
    refine .c ?_ .n
    refine effLast rfl rfl (by kernel_rfl) ?_
    refine eCallP rfl (.c rfl (.c rfl .n)) C55 (fun w hw => truth_bad y p _ w (hm.eff0 hw) h) ?_
    refine kThenP ?_
    refine fPanC 0 DApart C68 rfl rfl (.cA (us := [_, _]) rfl A23 (cOwn 2 rfl rfl) (.cA (us := [_, _]) rfl A23 (cOwn 1 rfl rfl) (.c1 rfl O29 (cOwn 0 rfl rfl) .n))) (endRet ?_)
    simp only [packV]
  · rw [show isStarB p a = false from decide_eq_false hsa, Bool.false_and] at h ⊢
    refine kDrawE [(0, none), (1, none), (3, none)] [] [0, 1, 2, 3, 4, 5, 6, 7, 8] 2 hMix (by kernel_rfl) ?_
    refine .run rfl (yLoadA (vs := [_, _, _]) rfl A26 (cOwn 3 rfl rfl)) rfl rfl ?_
    refine .run rfl (yLoadA (vs := [_, _, _]) rfl A26 (cOwn 3 rfl rfl)) rfl rfl ?_
    refine .run rfl (yMove rfl) rfl rfl ?_
    refine .run rfl (yvIs (c := false) (yCall rfl (.c rfl (.c rfl .n)) C64 (fun w hw => isStar_any y p a w hL)) (decide_eq_false hsa)) rfl rfl ?_
    refine .run rfl (yMove rfl) rfl rfl ?_
    refine .skip rfl rfl rfl rfl rfl rfl ?_
    refine .skip rfl rfl rfl rfl rfl rfl ?_
    refine .skip rfl rfl rfl rfl rfl rfl ?_
    refine .run rfl (yPickF rfl rfl) rfl rfl ?_
    refine .done ?_
    refine effStep 9 [] (by kernel_rfl) closedSt (hLeft [0, 1, 3] (by kernel_rfl) (.c (fun _ _ hs => hs.ef) (.c (fun _ _ hs => hs.ef) (.c (fun _ _ hs => hs.ef) .n)))) ?_
    refine .c ?_ .n
    refine effLast rfl rfl (by kernel_rfl) ?_
    refine eCallP rfl (.c rfl (.c rfl .n)) C55 (fun w hw => truth_bad y p _ w (hm.eff0 hw) h) ?_
    refine kThenP ?_
    refine fPanC 0 DApart C68 rfl rfl (.cA (us := [_, _]) rfl A23 (cOwn 2 rfl rfl) (.cA (us := [_, _]) rfl A23 (cOwn 1 rfl rfl) (.c1 rfl O29 (cOwn 0 rfl rfl) .n))) (endRet ?_)
    simp only [packV]
set_option maxRecDepth 100000 in
set_option maxHeartbeats 4000000 in
theorem apart_ok (y : Option Addr × Nat) (p : Plt) (i k : Nat) (w : World) (hm : InP w y p) (hi : i < p.st.length) (hk : k < p.st.length) (h : truthE p (isStarB p (i : Nat) && isStarB p (k : Nat)) = 0) : Calls Try.prog 21 [.agg (pltC y p).toArray, i64 (i : Nat), i64 (k : Nat)].toArray w (Ret w (outC2 (apartE p (i : Nat) (k : Nat)))) := by
  have hp := (truthE_ok h).1
  have hpn := hp.n
  have hsi : isStarB p (i : Nat) = true := decide_eq_true (by omega)
  have hsk : isStarB p (k : Nat) = true := decide_eq_true (by omega)
  have h' := h
  rw [hsi, hsk] at h'
  refine fEnter Try.func21 rfl Try.ntmps21 rfl ?_
  refine kSeq ?_
  refine kRegion rfl ?_
  refine lE rfl ?_
  refine eBoxA rfl fun n3 => ?_
  refine lE rfl ?_
  refine eAlloc Z23 fun n6 => ?_
  refine lE rfl ?_
  refine eAlloc Z23 fun n7 => ?_
  refine lE rfl ?_
  refine eAlloc Z29 fun n8 => ?_
  refine lNil ?_
  refine kThen ?_
  refine kSeq ?_
  refine kRegion rfl ?_
  refine lV (yMakeFunc .n (.c rfl .n)) rfl rfl ?_
  refine lE rfl ?_
  refine eDefer rfl .n ?_
  refine lNil ?_
  refine kThen ?_
  refine kSeq ?_
  refine kDrawE [(0, none), (1, none), (3, none), (5, none), (7, none)] [] [0, 1, 2, 3, 4, 5, 6, 7, 8] 2 hMix (by kernel_rfl) ?_
  refine .run rfl (yLoadA (vs := [_, _, _]) rfl A26 (cOwn 3 rfl rfl)) rfl rfl ?_
  refine .run rfl (yLoadA (vs := [_, _, _]) rfl A26 (cOwn 3 rfl rfl)) rfl rfl ?_
  refine .run rfl (yMove rfl) rfl rfl ?_
  refine .run rfl (yvIs (c := true) (yCall rfl (.c rfl (.c rfl .n)) C64 (fun w hw => isStar_any y p _ w (by omega))) (decide_eq_true (by omega))) rfl rfl ?_
  refine .run rfl (yMove rfl) rfl rfl ?_
  refine .runG rfl (yLoadA (vs := [_, _, _]) rfl A26 (cOwn 3 rfl rfl)) rfl rfl rfl rfl ?_
  refine .runG rfl (yMove rfl) rfl rfl rfl rfl ?_
  refine .runG rfl (yvIs (c := true) (yCall rfl (.c rfl (.c rfl .n)) C64 (fun w hw => isStar_any y p _ w (by omega))) (decide_eq_true (by omega))) rfl rfl rfl rfl ?_
  refine .run rfl (yPickT rfl rfl) rfl rfl ?_
  refine .done ?_
  refine effStep 9 [] (by kernel_rfl) closedSt (hLeft [0, 1, 3, 5, 7] (by kernel_rfl) (.c (fun _ _ hs => hs.ef) (.c (fun _ _ hs => hs.ef) (.c (fun _ _ hs => hs.ef) (.c (fun _ _ hs => hs.ef) (.c (fun _ _ hs => hs.ef) .n)))))) ?_
  refine .c ?_ .n
  refine effOne rfl (gNone rfl (fCallO rfl (.c rfl (.c rfl .n)) C55 (fun w hw => truth_any y p true w (hm.eff0 hw) h'))) ?_
  refine effStep 10 [] (by kernel_rfl) (closedEx fun x => closedSt) (hLeft [1] (by kernel_rfl) (.c (fun _ _ ⟨x, hs⟩ => hs.ef.sub (.c 0 rfl (.c 0 rfl (.c 0 rfl (.c 0 rfl .n))))) .n)) ?_
  refine .c ?_ .n
  refine effOne rfl (opEx fun x => (gNone rfl (fV (yAssign rfl) rfl))) ?_
  refine effDone (closedEx fun x => closedSt) (hLeft [] (by kernel_rfl) .n) (by kernel_rfl) ?_
  refine trEx fun x => ?_
  obtain ⟨⟨pb, mb⟩, _⟩ := x
  dsimp only
  refine kThen ?_
  refine kSeq ?_
  refine kSeq ?_
  refine kRegion rfl ?_
  refine lV (yMove rfl) rfl rfl ?_
  refine lV (yMove rfl) rfl rfl ?_
  refine lV (yEql rfl rfl) rfl rfl ?_
  refine split (t := 28) rfl (fun h28 => ?_) (fun h28 => ?_)
  · refine lNil ?_
    refine kThen ?_
    refine kIfT rfl ?_
    refine kSeq ?_
    refine kDrawE [(0, none), (1, some [0, 1, 3, 4, 5])] [] [0, 1] 3 hMix (by kernel_rfl) ?_
    refine .run rfl (yLoadA (vs := [_, _]) rfl A23 (cOwn 2 rfl rfl)) rfl rfl ?_
    refine .run rfl (yLoadA (vs := [_, _]) rfl A23 (cOwn 1 rfl rfl)) rfl rfl ?_
    refine .done ?_
    refine effStep 2 [] (by kernel_rfl) closedSt (hLeft [0, 1] (by kernel_rfl) (.c (fun _ _ hs => hs.ef) (.c (fun _ _ hs => hs.ef.sub (.c 0 rfl (.c 0 rfl (.c 1 rfl (.c 1 rfl (.c 1 rfl .n)))))) .n))) ?_
    refine .c ?_ .n
    refine effOne rfl (gNone rfl (fStoreL 2 rfl rfl rfl rfl K23 rfl (rfl))) ?_
    refine effStep 3 [] (by kernel_rfl) closedSt (hLeft [1] (by kernel_rfl) (.c (fun _ _ hs => hs.ef.sub (.c 0 rfl (.c 0 rfl (.c 1 rfl (.c 1 rfl (.c 1 rfl .n)))))) .n)) ?_
    refine .c ?_ .n
    refine effOne rfl (gNone rfl (fStoreL 1 rfl rfl rfl rfl K23 rfl (rfl))) ?_
    refine effStep 4 [] (by kernel_rfl) closedSt (hLeft [] (by kernel_rfl) .n) ?_
    refine .c ?_ .n
    refine effOne rfl (gNone rfl (fStoreL 0 rfl rfl rfl rfl K29 rfl (rfl))) ?_
    refine effDone closedSt (hLeft [] (by kernel_rfl) .n) (by kernel_rfl) ?_
    refine kThen ?_
    refine kRet ?_
    refine kThenR ?_
    refine fRetC DApart C68 rfl (.cA (us := [_, _]) rfl A23 (cOwn 2 rfl rfl) (.cA (us := [_, _]) rfl A23 (cOwn 1 rfl rfl) (.c1 rfl O29 (cOwn 0 rfl rfl) .n))) (endRet ?_)
    simp only [packV, apartE, if_neg (not_not_intro h), if_pos h28]
  · refine lNil ?_
    refine kThen ?_
    refine kIfF rfl ?_
    refine kSkip ?_
    refine kThen ?_
    refine kSeq ?_
    refine kRegion rfl ?_
    refine lE rfl ?_
    refine eAlloc Z96 fun n10 => ?_
    refine lNil ?_
    refine kThen ?_
    refine kSeq ?_
    refine kSeq ?_
    refine kRegion rfl ?_
    refine lV (yMove rfl) rfl rfl ?_
    refine lV (yNilCheckP rfl) rfl rfl ?_
    refine lV (yFieldAddr rfl F90_1) rfl rfl ?_
    refine lV (yLoad1 rfl O88 (cOwn 5 rfl rfl)) rfl rfl ?_
    refine lE rfl ?_
    refine eRange MP88 rfl (fun w hw => hw.blkAt 6 rfl) fun it => ?_
    refine lNil ?_
    refine kThen ?_
    refine kBlock ?_
    refine kLoopX (ι := Array Nat × Ends × Ends) (fun x => (∀ j, x.1.contains j = true → j < (filS p (knownP p) (nSc p)).length) ∧ Hull x.2.1 (SeenS x.1 fun j => apartQ p i k false ((scalesP p (knownP p)).getD j 0)) ∧ Hull x.2.2 (SeenS x.1 fun j => apartQ p i k true ((scalesP p (knownP p)).getD j 0))) (fun x => []) [(0, _), (1, _), (2, _), (3, _), (6, _), (7, _), (8, _), (15, _), (16, _), (17, _), (18, _), (19, _), (20, _), (21, _), (22, _), (23, _), (24, _), (25, _), (9, _), (26, _), (27, _), (28, _), (10, _), (31, _), (32, _), (33, _), (34, _), (35, _)] (fun x => []) (fun x => [(it, itO mb (esA p (knownP p)) x.1), (n10, blk (endC2 x.2.1 x.2.2) 96)]) [(n8, _), (n7, _), (n6, _), (n3, _), (pb, _), (mb, _)] (fun x => leftN (filS p (knownP p) (nSc p)).length x.1) (#[], end0, end0) (⟨fun j h => by simp at h, SeenS.empty _, SeenS.empty _⟩) rfl .n (.c rfl (.c rfl (.c rfl (.c rfl (.c rfl (.c rfl (.c rfl (.c rfl (.c rfl (.c rfl (.c rfl (.c rfl (.c rfl (.c rfl (.c rfl (.c rfl (.c rfl (.c rfl (.c rfl (.c rfl (.c rfl (.c rfl (.c rfl (.c rfl (.c rfl (.c rfl (.c rfl (.c rfl .n)))))))))))))))))))))))))))) (.c 2 rfl (.c 2 rfl (.c 2 rfl (.c 2 rfl (.c 2 rfl (.c 2 rfl (.c 0 rfl (.c 0 rfl .n)))))))) ?_
    rintro ⟨seen, a, b⟩ ⟨hsn, ha, hb⟩
    dsimp only at hsn ha hb ⊢
    refine kSeq ?_
    refine kRegion rfl ?_
    refine lE rfl ?_
    refine eNext 6 rfl rfl (fun w hw => hw.blkAt 5 rfl) (fun hall => ?_) (fun j p hj hsj => ?_)
    · refine lV (yExtract rfl rfl) rfl rfl ?_
      refine lNil ?_
      refine kThen ?_
      refine kSeq ?_
      refine kIfF rfl ?_
      refine kExit ?_
      refine kThenX ?_
      refine kThenX ?_
      refine kInX ?_
      refine kThen ?_
      refine kSeq ?_
      refine kDrawE [(1, none), (2, none), (4, none), (5, none)] [] [0, 1, 2, 3, 4, 5] 3 hMix (by kernel_rfl) ?_
      refine .run rfl (yIndexAr rfl rfl R96 (by omega) (by omega)) rfl rfl ?_
      refine .run rfl (yLoadA (vs := [_, _, _]) rfl A86 (cOwn 7 rfl rfl)) rfl rfl ?_
      refine .run rfl (yCall rfl (.c rfl .n) C56 (fun w hw => span_any _ w)) rfl rfl ?_
      refine .run rfl (yIndexAr rfl rfl R96 (by omega) (by omega)) rfl rfl ?_
      refine .run rfl (yLoadA (vs := [_, _, _]) rfl A86 (cOwn 7 rfl rfl)) rfl rfl ?_
      refine .run rfl (yCall rfl (.c rfl .n) C56 (fun w hw => span_any _ w)) rfl rfl ?_
      refine .done ?_
      refine effStep 6 [] (by kernel_rfl) closedSt (hLeft [1, 2, 4, 5] (by kernel_rfl) (.c (fun _ _ hs => hs.ef) (.c (fun _ _ hs => hs.ef) (.c (fun _ _ hs => hs.ef) (.c (fun _ _ hs => hs.ef) .n))))) ?_
      refine .c ?_ .n
      refine effOne rfl (gNone rfl (fStoreL 2 rfl rfl rfl rfl K23 rfl (rfl))) ?_
      refine effStep 7 [] (by kernel_rfl) closedSt (hLeft [] (by kernel_rfl) .n) ?_
      refine .c ?_ .n
      refine effOne rfl (gNone rfl (fStoreL 1 rfl rfl rfl rfl K23 rfl (rfl))) ?_
      refine effStep 8 [] (by kernel_rfl) closedSt (hLeft [] (by kernel_rfl) .n) ?_
      refine .c ?_ .n
      refine effOne rfl (gNone rfl (fStoreL 0 rfl rfl rfl rfl K29 rfl (rfl))) ?_
      refine effDone closedSt (hLeft [] (by kernel_rfl) .n) (by kernel_rfl) ?_
      refine kThen ?_
      refine kRet ?_
      refine fRetC DApart C68 rfl (.cA (us := [_, _]) rfl A23 (cOwn 2 rfl rfl) (.cA (us := [_, _]) rfl A23 (cOwn 1 rfl rfl) (.c1 rfl O29 (cOwn 0 rfl rfl) .n))) (endRet ?_)
      have e1 := SeenS.all (G := apartQ p i k false) ha (scalesP_len p (knownP p)).symm hsn (fun i hi => hall i (by rw [esP_len]; exact hi))
      have e2 := SeenS.all (G := apartQ p i k true) hb (scalesP_len p (knownP p)).symm hsn (fun i hi => hall i (by rw [esP_len]; exact hi))
      subst e1 e2
      simp only [packV, apartE, if_neg (not_not_intro h), if_neg h28, Int.toNat_natCast]
      rfl
    · obtain ⟨hjl, rfl⟩ := esP_get hj
      have heo := entry_ok hp hjl
      have hcb := corn_bd heo.2
      refine lV (yExtract rfl rfl) rfl rfl ?_
      refine lNil ?_
      refine kThen ?_
      refine kSeq ?_
      refine kIfT rfl ?_
      refine kSkip ?_
      refine kThen ?_
      refine kBlock ?_
      refine kSeq ?_
      refine kRegion rfl ?_
      refine lV (yEntry rfl hj (fun w hw => ⟨hw.blkAt 6 rfl, hw.blkAt 5 rfl⟩)) rfl rfl ?_
      refine lV (yExtract rfl rfl) rfl rfl ?_
      refine lV (yExtract rfl rfl) rfl rfl ?_
      refine lE rfl ?_
      refine eAlloc Z97 fun n12 => ?_
      refine lV (yAssign rfl) rfl rfl ?_
      refine lE rfl ?_
      refine eStoreL 0 rfl rfl rfl rfl K97 rfl (rfl) ?_
      refine lNil ?_
      refine kThen ?_
      refine kSeq ?_
      refine kRegion rfl ?_
      refine lV (yMove rfl) rfl rfl ?_
      refine lV (yCall rfl (.c rfl .n) C69 (fun w hw => ways_any pb w)) rfl rfl ?_
      refine lV (yMove rfl) rfl rfl ?_
      refine lNil ?_
      refine kThen ?_
      refine kBlock ?_
      refine kLoopX (ι := Nat) (fun q => q ≤ 2) (fun q => [(43, i64 (q : Nat))]) [(0, _), (1, _), (2, _), (3, _), (6, _), (7, _), (8, _), (15, _), (16, _), (17, _), (18, _), (19, _), (20, _), (21, _), (22, _), (23, _), (24, _), (25, _), (9, _), (26, _), (27, _), (28, _), (10, _), (31, _), (32, _), (33, _), (34, _), (35, _), (36, _), (37, _), (38, _), (39, _), (40, _), (12, _), (11, _), (41, _), (42, _)] (fun q => []) (fun q => [(n10, blk (endC2 (cond (Nat.blt 0 q) ((apartQ p i k false ((scalesP p (knownP p)).getD j 0)).foldl keepE a) a) (cond (Nat.blt 1 q) ((apartQ p i k true ((scalesP p (knownP p)).getD j 0)).foldl keepE b) b)) 96)]) [(n12, _), (n8, _), (n7, _), (n6, _), (n3, _), (pb, _), (mb, _), (it, _)] (fun q => 2 - q) 0 (by omega) rfl (.c rfl .n) (.c rfl (.c rfl (.c rfl (.c rfl (.c rfl (.c rfl (.c rfl (.c rfl (.c rfl (.c rfl (.c rfl (.c rfl (.c rfl (.c rfl (.c rfl (.c rfl (.c rfl (.c rfl (.c rfl (.c rfl (.c rfl (.c rfl (.c rfl (.c rfl (.c rfl (.c rfl (.c rfl (.c rfl (.c rfl (.c rfl (.c rfl (.c rfl (.c rfl (.c rfl (.c rfl (.c rfl (.c rfl .n))))))))))))))))))))))))))))))))))))) (.c 0 rfl (.c 0 rfl (.c 0 rfl (.c 0 rfl (.c 0 rfl (.c 0 rfl (.c 0 rfl (.c 0 rfl (.c 0 rfl .n))))))))) ?_
      rintro q hq
      refine kSeq ?_
      refine kRegion rfl ?_
      refine lV (yLss rfl rfl) rfl rfl ?_
      refine lNil ?_
      refine kThen ?_
      refine kSeq ?_
      refine split (t := 44) rfl (fun h44 => ?_) (fun h44 => ?_)
      · refine kIfT rfl ?_
        refine kSkip ?_
        refine kThen ?_
        refine kSeq ?_
        refine kBlock ?_
        refine kSeq ?_
        by_cases hq0 : q = 0
        · subst hq0
          refine kRegion rfl ?_
          refine lV (yMove rfl) rfl rfl ?_
          refine lV (yIndexV rfl rfl (fun w => IX104_0 w)) rfl rfl ?_
          refine lE rfl ?_
          refine eAlloc Z103 fun n14 => ?_
          refine lV (yAssign rfl) rfl rfl ?_
          refine lE rfl ?_
          refine eStoreL 0 rfl rfl rfl rfl K103 rfl (rfl) ?_
          refine lNil ?_
          refine kThen ?_
          refine kDrawE [(0, none), (5, none), (7, none), (8, none), (13, none), (15, none), (16, none), (20, none)] [] [0, 1, 2, 3, 4, 5, 6, 7, 8, 9, 10, 11, 12, 13, 14, 15, 16, 17, 18, 19, 20, 21, 22] 1 hMix (by kernel_rfl) ?_
          refine .run rfl (yLoadA (vs := [_, _, _]) rfl A103 (cOwn 0 rfl rfl)) rfl rfl ?_
          refine .run rfl (yMove rfl) rfl rfl ?_
          refine .run rfl (yNilCheckP rfl) rfl rfl ?_
          refine .run rfl (yFieldAddr rfl F90_0) rfl rfl ?_
          refine .run rfl (yFieldAddr rfl F26_1) rfl rfl ?_
          refine .run rfl (yLoad1 rfl O24 (cOwn 6 rfl rfl)) rfl rfl ?_
          refine .run rfl (yMove rfl) rfl rfl ?_
          refine .run rfl (yIndexS  rfl rfl S24 (hm.r) (hi)) rfl rfl ?_
          refine .run rfl (yLoadA (vs := [_, _, _, _, _, _, _, _, _]) rfl A58 (cSl0 (hm.r) (hi) rfl)) rfl rfl ?_
          refine .run rfl (yMove rfl) rfl rfl ?_
          refine .run rfl (yNilCheckP rfl) rfl rfl ?_
          refine .run rfl (yFieldAddr rfl F90_0) rfl rfl ?_
          refine .run rfl (yFieldAddr rfl F26_1) rfl rfl ?_
          refine .run rfl (yLoad1 rfl O24 (cOwn 6 rfl rfl)) rfl rfl ?_
          refine .run rfl (yMove rfl) rfl rfl ?_
          refine .run rfl (yIndexS  rfl rfl S24 (hm.r) (hk)) rfl rfl ?_
          refine .run rfl (yLoadA (vs := [_, _, _, _, _, _, _, _, _]) rfl A58 (cSl0 (hm.r) (hk) rfl)) rfl rfl ?_
          refine .run rfl (yMove rfl) rfl rfl ?_
          refine .run rfl (yMove rfl) rfl rfl ?_
          refine .run rfl (yIndexAr rfl rfl R97 (by omega) (by omega)) rfl rfl ?_
          refine .run rfl (yLoadA (vs := [_, _]) rfl A23 (cOwn 1 rfl rfl)) rfl rfl ?_
          refine .run rfl (yMove rfl) rfl rfl ?_
          refine .run rfl (yIndexAr rfl rfl R96 (by omega) (by omega)) rfl rfl ?_
          refine .done ?_
          refine effStep 23 [] (by kernel_rfl) closedSt (hLeft [0, 5, 7, 8, 13, 15, 16, 20] (by kernel_rfl) (.c (fun _ _ hs => hs.ef) (.c (fun _ _ hs => hs.ef) (.c (fun _ _ hs => hs.ef) (.c (fun _ _ hs => hs.ef) (.c (fun _ _ hs => hs.ef) (.c (fun _ _ hs => hs.ef) (.c (fun _ _ hs => hs.ef) (.c (fun _ _ hs => hs.ef) .n))))))))) ?_
          refine .c ?_ .n
          refine effOne rfl (gNone rfl (eCallW 9 rfl rfl (.c rfl (.c rfl (.c rfl (.c rfl (.c rfl (.c rfl .n)))))) C70 (fun w hw hb => apartW_any pb n10 false _ _ _ (cornP p false ((scalesP p (knownP p)).getD j 0) (knownP p)) b a w (hp.s _ (getD_mem hi star0)) (hp.s _ (getD_mem hk star0)) heo.1 (hcb false) hb) trSelf)) ?_
          refine effDone closedSt (hLeft [] (by kernel_rfl) .n) (by kernel_rfl) ?_
          refine kInN ?_
          refine kThen ?_
          refine kRegion rfl ?_
          refine lV (yAdd rfl rfl (by omega)) rfl rfl ?_
          refine lV (yMove rfl) rfl rfl ?_
          refine lNil ?_
          exact kRoundX 1 (by omega) (by omega) rfl (.c rfl .n) (.c rfl (.c rfl (.c rfl (.c rfl (.c rfl (.c rfl (.c rfl (.c rfl (.c rfl (.c rfl (.c rfl (.c rfl (.c rfl (.c rfl (.c rfl (.c rfl (.c rfl (.c rfl (.c rfl (.c rfl (.c rfl (.c rfl (.c rfl (.c rfl (.c rfl (.c rfl (.c rfl (.c rfl (.c rfl (.c rfl (.c rfl (.c rfl (.c rfl (.c rfl (.c rfl (.c rfl (.c rfl .n))))))))))))))))))))))))))))))))))))) (.c 1 rfl (.c 1 rfl (.c 1 rfl (.c 1 rfl (.c 1 rfl (.c 1 rfl (.c 1 rfl (.c 1 rfl (.c 1 rfl .n)))))))))
        · obtain rfl : q = 1 := by omega
          refine kRegion rfl ?_
          refine lV (yMove rfl) rfl rfl ?_
          refine lV (yIndexV rfl rfl (fun w => IX104_1 w)) rfl rfl ?_
          refine lE rfl ?_
          refine eAlloc Z103 fun n14 => ?_
          refine lV (yAssign rfl) rfl rfl ?_
          refine lE rfl ?_
          refine eStoreL 0 rfl rfl rfl rfl K103 rfl (rfl) ?_
          refine lNil ?_
          refine kThen ?_
          refine kDrawE [(0, none), (5, none), (7, none), (8, none), (13, none), (15, none), (16, none), (20, none)] [] [0, 1, 2, 3, 4, 5, 6, 7, 8, 9, 10, 11, 12, 13, 14, 15, 16, 17, 18, 19, 20, 21, 22] 1 hMix (by kernel_rfl) ?_
          refine .run rfl (yLoadA (vs := [_, _, _]) rfl A103 (cOwn 0 rfl rfl)) rfl rfl ?_
          refine .run rfl (yMove rfl) rfl rfl ?_
          refine .run rfl (yNilCheckP rfl) rfl rfl ?_
          refine .run rfl (yFieldAddr rfl F90_0) rfl rfl ?_
          refine .run rfl (yFieldAddr rfl F26_1) rfl rfl ?_
          refine .run rfl (yLoad1 rfl O24 (cOwn 6 rfl rfl)) rfl rfl ?_
          refine .run rfl (yMove rfl) rfl rfl ?_
          refine .run rfl (yIndexS  rfl rfl S24 (hm.r) (hi)) rfl rfl ?_
          refine .run rfl (yLoadA (vs := [_, _, _, _, _, _, _, _, _]) rfl A58 (cSl0 (hm.r) (hi) rfl)) rfl rfl ?_
          refine .run rfl (yMove rfl) rfl rfl ?_
          refine .run rfl (yNilCheckP rfl) rfl rfl ?_
          refine .run rfl (yFieldAddr rfl F90_0) rfl rfl ?_
          refine .run rfl (yFieldAddr rfl F26_1) rfl rfl ?_
          refine .run rfl (yLoad1 rfl O24 (cOwn 6 rfl rfl)) rfl rfl ?_
          refine .run rfl (yMove rfl) rfl rfl ?_
          refine .run rfl (yIndexS  rfl rfl S24 (hm.r) (hk)) rfl rfl ?_
          refine .run rfl (yLoadA (vs := [_, _, _, _, _, _, _, _, _]) rfl A58 (cSl0 (hm.r) (hk) rfl)) rfl rfl ?_
          refine .run rfl (yMove rfl) rfl rfl ?_
          refine .run rfl (yMove rfl) rfl rfl ?_
          refine .run rfl (yIndexAr rfl rfl R97 (by omega) (by omega)) rfl rfl ?_
          refine .run rfl (yLoadA (vs := [_, _]) rfl A23 (cOwn 1 rfl rfl)) rfl rfl ?_
          refine .run rfl (yMove rfl) rfl rfl ?_
          refine .run rfl (yIndexAr rfl rfl R96 (by omega) (by omega)) rfl rfl ?_
          refine .done ?_
          refine effStep 23 [] (by kernel_rfl) closedSt (hLeft [0, 5, 7, 8, 13, 15, 16, 20] (by kernel_rfl) (.c (fun _ _ hs => hs.ef) (.c (fun _ _ hs => hs.ef) (.c (fun _ _ hs => hs.ef) (.c (fun _ _ hs => hs.ef) (.c (fun _ _ hs => hs.ef) (.c (fun _ _ hs => hs.ef) (.c (fun _ _ hs => hs.ef) (.c (fun _ _ hs => hs.ef) .n))))))))) ?_
          refine .c ?_ .n
          refine effOne rfl (gNone rfl (eCallW 9 rfl rfl (.c rfl (.c rfl (.c rfl (.c rfl (.c rfl (.c rfl .n)))))) C70 (fun w hw hb => apartW_any pb n10 true _ _ _ (cornP p true ((scalesP p (knownP p)).getD j 0) (knownP p)) _ b w (hp.s _ (getD_mem hi star0)) (hp.s _ (getD_mem hk star0)) heo.1 (hcb true) hb) trSelf)) ?_
          refine effDone closedSt (hLeft [] (by kernel_rfl) .n) (by kernel_rfl) ?_
          refine kInN ?_
          refine kThen ?_
          refine kRegion rfl ?_
          refine lV (yAdd rfl rfl (by omega)) rfl rfl ?_
          refine lV (yMove rfl) rfl rfl ?_
          refine lNil ?_
          exact kRoundX 2 (by omega) (by omega) rfl (.c rfl .n) (.c rfl (.c rfl (.c rfl (.c rfl (.c rfl (.c rfl (.c rfl (.c rfl (.c rfl (.c rfl (.c rfl (.c rfl (.c rfl (.c rfl (.c rfl (.c rfl (.c rfl (.c rfl (.c rfl (.c rfl (.c rfl (.c rfl (.c rfl (.c rfl (.c rfl (.c rfl (.c rfl (.c rfl (.c rfl (.c rfl (.c rfl (.c rfl (.c rfl (.c rfl (.c rfl (.c rfl (.c rfl .n))))))))))))))))))))))))))))))))))))) (.c 1 rfl (.c 1 rfl (.c 1 rfl (.c 1 rfl (.c 1 rfl (.c 1 rfl (.c 1 rfl (.c 1 rfl (.c 1 rfl .n)))))))))
      · refine kIfF rfl ?_
        refine kExit ?_
        refine kThenX ?_
        refine kThenX ?_
        refine kInX ?_
        refine kInN ?_
        obtain rfl : q = 2 := by omega
        exact kRoundX (seen.push j, (apartQ p i k false ((scalesP p (knownP p)).getD j 0)).foldl keepE a, (apartQ p i k true ((scalesP p (knownP p)).getD j 0)).foldl keepE b) (⟨seen_push hsn hjl, SeenS.push j ha, SeenS.push j hb⟩) (leftN_push hjl hsj) rfl .n (.c rfl (.c rfl (.c rfl (.c rfl (.c rfl (.c rfl (.c rfl (.c rfl (.c rfl (.c rfl (.c rfl (.c rfl (.c rfl (.c rfl (.c rfl (.c rfl (.c rfl (.c rfl (.c rfl (.c rfl (.c rfl (.c rfl (.c rfl (.c rfl (.c rfl (.c rfl (.c rfl (.c rfl .n)))))))))))))))))))))))))))) (.c 1 rfl (.c 1 rfl (.c 1 rfl (.c 1 rfl (.c 1 rfl (.c 1 rfl (.c 1 rfl (.c 1 rfl .n))))))))
theorem apart_any (y : Option Addr × Nat) (p : Plt) (a b : Int) (w : World) (hm : InP w y p) (hL : p.st.length ≤ 1000000) : Calls Try.prog 21 [.agg (pltC y p).toArray, i64 a, i64 b].toArray w (Ret w (outC2 (apartE p a b))) := by
  by_cases h : truthE p (isStarB p a && isStarB p b) = 0
  · have h1 := (truthE_ok h).2.1
    rw [Bool.and_eq_true] at h1
    have h2 := of_decide_eq_true h1.1
    have h3 := of_decide_eq_true h1.2
    obtain ⟨i, rfl⟩ := Int.eq_ofNat_of_zero_le h2.1
    obtain ⟨k, rfl⟩ := Int.eq_ofNat_of_zero_le h3.1
    exact apart_ok y p i k w hm (by omega) (by omega) h
  · exact apart_bad y p a b w hm hL h
end Go.Proofs.Ytlcdohhhhlhpmaa
