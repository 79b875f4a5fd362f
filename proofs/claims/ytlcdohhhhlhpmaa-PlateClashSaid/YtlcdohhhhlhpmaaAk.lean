/-
  Walks: Star and Poor.
-/
import Derived.Test.YtlcdohhhhlhpmaaAj
namespace Go.Proofs.Ytlcdohhhhlhpmaa
open ZW

abbrev isStarB (p : Plt) (n : Int) : Bool := decide (0 ≤ n ∧ n ≤ p.st.length - 1)
def starE (p : Plt) (n : Int) : (Int × Int) × (Int × Int) × Int := if toldE p (isStarB p n) ≠ 0 then ((0, 0), (0, 0), toldE p (isStarB p n)) else (spanE (starH p n.toNat false), spanE (starH p n.toNat true), 0)
set_option maxRecDepth 100000 in
set_option maxHeartbeats 2000000 in
theorem star_bad (y : Option Addr × Nat) (p : Plt) (n : Int) (w : World) (hm : InP w y p) (hL : p.st.length ≤ 1000000) (h : toldE p (isStarB p n) ≠ 0) : Calls Try.prog 19 [.agg (pltC y p).toArray, i64 n].toArray w (Ret w (outC2 (starE p n))) := by
  refine fEnter Try.func19 rfl Try.ntmps19 rfl ?_
  refine kSeq ?_
  refine kRegion rfl ?_
  refine lE rfl ?_
  refine eBoxA rfl fun n2 => ?_
  refine lE rfl ?_
  refine eAlloc Z23 fun n4 => ?_
  refine lE rfl ?_
  refine eAlloc Z23 fun n5 => ?_
  refine lE rfl ?_
  refine eAlloc Z29 fun n6 => ?_
  refine lNil ?_
  refine kThen ?_
  refine kSeq ?_
  refine kRegion rfl ?_
  refine lV (yMakeFunc .n (.c rfl .n)) rfl rfl ?_
  refine lE rfl ?_
  refine eDefer rfl .n ?_
  refine lNil ?_
  refine kThen ?_
  refine kSeq ?_
  refine kDrawE [(0, none), (1, none), (3, none)] [] [0, 1, 2, 3] 5 hMix (by kernel_rfl) ?_
  refine .run rfl (yLoadA (vs := [_, _, _]) rfl A26 (cOwn 3 rfl rfl)) rfl rfl ?_
  refine .run rfl (yLoadA (vs := [_, _, _]) rfl A26 (cOwn 3 rfl rfl)) rfl rfl ?_
  refine .run rfl (yMove rfl) rfl rfl ?_
  refine .run rfl (yCall rfl (.c rfl (.c rfl .n)) C64 (fun w hw => isStar_any y p n w hL)) rfl rfl ?_
  refine .done ?_
  refine effStep 4 [5, 7] (by kernel_rfl) closedSt (hLeft [0, 1, 3] (by kernel_rfl) (.c (fun _ _ hs => hs.ef) (.c (fun _ _ hs => hs.ef) (.c (fun _ _ hs => hs.ef) .n)))) ?_
  refine (.c ?_ (.c ?_ (.c ?_ .n)))
  · refine effLast rfl rfl (by kernel_rfl) ?_
    refine eCallP rfl (.c rfl (.c rfl .n)) C59 (fun w hw => told_bad y p (isStarB p n) w (hm.eff0 hw) h) ?_
    refine kThenP ?_
    refine fPanC 0 DStar C63 rfl rfl (.cA (us := [_, _]) rfl A23 (cOwn 2 rfl rfl) (.cA (us := [_, _]) rfl A23 (cOwn 1 rfl rfl) (.c1 rfl O29 (cOwn 0 rfl rfl) .n))) (endRet ?_)
    simp only [packV, starE, if_pos h]
  · refine effOne rfl (gNone rfl (fV (yMove rfl) rfl)) ?_
    refine effStep 4 [7] (by kernel_rfl) closedSt (hLeft [0, 1, 3] (by kernel_rfl) (.c (fun _ _ hs => hs.ef) (.c (fun _ _ hs => hs.ef) (.c (fun _ _ hs => hs.ef) .n)))) ?_
    refine (.c ?_ (.c ?_ .n))
    · refine effLast rfl rfl (by kernel_rfl) ?_
      refine eCallP rfl (.c rfl (.c rfl .n)) C59 (fun w hw => told_bad y p (isStarB p n) w (hm.eff0 hw) h) ?_
      refine kThenP ?_
      refine fPanC 0 DStar C63 rfl rfl (.cA (us := [_, _]) rfl A23 (cOwn 2 rfl rfl) (.cA (us := [_, _]) rfl A23 (cOwn 1 rfl rfl) (.c1 rfl O29 (cOwn 0 rfl rfl) .n))) (endRet ?_)
      simp only [packV, starE, if_pos h]
    · refine effOne rfl (gNone rfl (fAlloc Z96)) ?_
      refine effStep 4 [] (by kernel_rfl) (closedEx fun n7 => closedSt) (hLeft [0, 1, 3] (by kernel_rfl) (.c (fun _ _ ⟨n7, hs⟩ => hs.ef.sub (.c 1 rfl (.c 1 rfl (.c 1 rfl (.c 1 rfl .n))))) (.c (fun _ _ ⟨n7, hs⟩ => hs.ef.sub (.c 1 rfl (.c 1 rfl (.c 1 rfl (.c 1 rfl .n))))) (.c (fun _ _ ⟨n7, hs⟩ => hs.ef.sub (.c 1 rfl (.c 1 rfl (.c 1 rfl (.c 1 rfl .n))))) .n)))) ?_
      refine .c ?_ .n
      refine effLast rfl rfl (by kernel_rfl) ?_
      refine trEx fun n7 => ?_
      refine eCallP rfl (.c rfl (.c rfl .n)) C59 (fun w hw => told_bad y p (isStarB p n) w (hm.eff0 hw) h) ?_
      refine kThenP ?_
      refine fPanC 1 DStar C63 rfl rfl (.cA (us := [_, _]) rfl A23 (cOwn 3 rfl rfl) (.cA (us := [_, _]) rfl A23 (cOwn 2 rfl rfl) (.c1 rfl O29 (cOwn 1 rfl rfl) .n))) (endRet ?_)
      simp only [packV, starE, if_pos h]
  · refine effOne rfl (gNone rfl (fAlloc Z96)) ?_
    refine effStep 4 [5] (by kernel_rfl) (closedEx fun n7 => closedSt) (hLeft [0, 1, 3] (by kernel_rfl) (.c (fun _ _ ⟨n7, hs⟩ => hs.ef.sub (.c 1 rfl (.c 1 rfl (.c 1 rfl (.c 1 rfl .n))))) (.c (fun _ _ ⟨n7, hs⟩ => hs.ef.sub (.c 1 rfl (.c 1 rfl (.c 1 rfl (.c 1 rfl .n))))) (.c (fun _ _ ⟨n7, hs⟩ => hs.ef.sub (.c 1 rfl (.c 1 rfl (.c 1 rfl (.c 1 rfl .n))))) .n)))) ?_
    refine (.c ?_ (.c ?_ .n))
    · refine effLast rfl rfl (by kernel_rfl) ?_
      refine trEx fun n7 => ?_
      refine eCallP rfl (.c rfl (.c rfl .n)) C59 (fun w hw => told_bad y p (isStarB p n) w (hm.eff0 hw) h) ?_
      refine kThenP ?_
      refine fPanC 1 DStar C63 rfl rfl (.cA (us := [_, _]) rfl A23 (cOwn 3 rfl rfl) (.cA (us := [_, _]) rfl A23 (cOwn 2 rfl rfl) (.c1 rfl O29 (cOwn 1 rfl rfl) .n))) (endRet ?_)
      simp only [packV, starE, if_pos h]
    · refine effOne rfl (opEx fun n7 => (gNone rfl (fV (yMove rfl) rfl))) ?_
      refine effStep 4 [] (by kernel_rfl) (closedEx fun n7 => closedSt) (hLeft [0, 1, 3] (by kernel_rfl) (.c (fun _ _ ⟨n7, hs⟩ => hs.ef.sub (.c 1 rfl (.c 1 rfl (.c 1 rfl (.c 1 rfl .n))))) (.c (fun _ _ ⟨n7, hs⟩ => hs.ef.sub (.c 1 rfl (.c 1 rfl (.c 1 rfl (.c 1 rfl .n))))) (.c (fun _ _ ⟨n7, hs⟩ => hs.ef.sub (.c 1 rfl (.c 1 rfl (.c 1 rfl (.c 1 rfl .n))))) .n)))) ?_
      refine .c ?_ .n
      refine effLast rfl rfl (by kernel_rfl) ?_
      refine trEx fun n7 => ?_
      refine eCallP rfl (.c rfl (.c rfl .n)) C59 (fun w hw => told_bad y p (isStarB p n) w (hm.eff0 hw) h) ?_
      refine kThenP ?_
      refine fPanC 1 DStar C63 rfl rfl (.cA (us := [_, _]) rfl A23 (cOwn 3 rfl rfl) (.cA (us := [_, _]) rfl A23 (cOwn 2 rfl rfl) (.c1 rfl O29 (cOwn 1 rfl rfl) .n))) (endRet ?_)
      simp only [packV, starE, if_pos h]
set_option maxRecDepth 100000 in
set_option maxHeartbeats 4000000 in
theorem star_ok (y : Option Addr × Nat) (p : Plt) (k : Nat) (w : World) (hm : InP w y p) (hk : k < p.st.length) (h : toldE p (isStarB p (k : Nat)) = 0) : Calls Try.prog 19 [.agg (pltC y p).toArray, i64 (k : Nat)].toArray w (Ret w (outC2 (starE p (k : Nat)))) := by
  have hp := (truthE_ok (toldE_ok h).1).1
  have hpn := hp.n
  refine fEnter Try.func19 rfl Try.ntmps19 rfl ?_
  refine kSeq ?_
  refine kRegion rfl ?_
  refine lE rfl ?_
  refine eBoxA rfl fun n2 => ?_
  refine lE rfl ?_
  refine eAlloc Z23 fun n4 => ?_
  refine lE rfl ?_
  refine eAlloc Z23 fun n5 => ?_
  refine lE rfl ?_
  refine eAlloc Z29 fun n6 => ?_
  refine lNil ?_
  refine kThen ?_
  refine kSeq ?_
  refine kRegion rfl ?_
  refine lV (yMakeFunc .n (.c rfl .n)) rfl rfl ?_
  refine lE rfl ?_
  refine eDefer rfl .n ?_
  refine lNil ?_
  refine kThen ?_
  refine kSeq ?_
  refine kDrawE [(0, none), (1, none), (3, none)] [] [0, 1, 2, 3] 5 hMix (by kernel_rfl) ?_
  refine .run rfl (yLoadA (vs := [_, _, _]) rfl A26 (cOwn 3 rfl rfl)) rfl rfl ?_
  refine .run rfl (yLoadA (vs := [_, _, _]) rfl A26 (cOwn 3 rfl rfl)) rfl rfl ?_
  refine .run rfl (yMove rfl) rfl rfl ?_
  refine .run rfl (yCall rfl (.c rfl (.c rfl .n)) C64 (fun w hw => isStar_any y p (k : Nat) w (by omega))) rfl rfl ?_
  refine .done ?_
  refine effStep 4 [5, 7] (by kernel_rfl) closedSt (hLeft [0, 1, 3] (by kernel_rfl) (.c (fun _ _ hs => hs.ef) (.c (fun _ _ hs => hs.ef) (.c (fun _ _ hs => hs.ef) .n)))) ?_
  refine (.c ?_ (.c ?_ (.c ?_ .n)))
  · refine effOne rfl (gNone rfl (fCallO rfl (.c rfl (.c rfl .n)) C59 (fun w hw => told_any y p (isStarB p (k : Nat)) w (hm.eff0 hw) h))) ?_
    refine effStep 5 [7] (by kernel_rfl) (closedEx fun x => closedSt) (hLeft [] (by kernel_rfl) .n) ?_
    refine (.c ?_ (.c ?_ .n))
    · refine effOne rfl (opEx fun x => (gNone rfl (fV (yMove rfl) rfl))) ?_
      refine effStep 6 [7] (by kernel_rfl) (closedEx fun x => closedSt) (hLeft [] (by kernel_rfl) .n) ?_
      refine (.c ?_ (.c ?_ .n))
      · refine effOne rfl (opEx fun x => (gNone rfl (fV (yCall rfl (.c rfl (.c rfl .n)) C65 (fun w hw => starW_any x.1.1 x.1.2 k y p w (hw.blkAt 4 rfl) (hw.blkAt 5 rfl) (hm.eff0 hw) hp hk)) rfl))) ?_
        refine effStep 7 [] (by kernel_rfl) (closedEx fun x => closedSt) (hLeft [] (by kernel_rfl) .n) ?_
        refine .c ?_ .n
        refine effOne rfl (opEx fun x => (gNone rfl (fAlloc Z96))) ?_
        refine effStep 8 [] (by kernel_rfl) (closedEx fun x => (closedEx fun n7 => closedSt)) (hLeft [] (by kernel_rfl) .n) ?_
        refine .c ?_ .n
        refine effOne rfl (opEx fun x => (opEx fun n7 => (gNone rfl (fStoreL 0 rfl rfl rfl rfl K96 rfl (rfl))))) ?_
        refine effDone (closedEx fun x => (closedEx fun n7 => closedSt)) (hLeft [] (by kernel_rfl) .n) (by kernel_rfl) ?_
        refine trEx fun x => ?_
        refine trEx fun n7 => ?_
        refine kThen ?_
        refine kSeq ?_
        refine kDrawE [(1, none), (2, none), (4, none), (5, none)] [] [0, 1, 2, 3, 4, 5] 3 hMix (by kernel_rfl) ?_
        refine .run rfl (yIndexAr rfl rfl R96 (by omega) (by omega)) rfl rfl ?_
        refine .run rfl (yLoadA (vs := [_, _, _]) rfl A86 (cOwn 0 rfl rfl)) rfl rfl ?_
        refine .run rfl (yCall rfl (.c rfl .n) C56 (fun w hw => span_any _ w)) rfl rfl ?_
        refine .run rfl (yIndexAr rfl rfl R96 (by omega) (by omega)) rfl rfl ?_
        refine .run rfl (yLoadA (vs := [_, _, _]) rfl A86 (cOwn 0 rfl rfl)) rfl rfl ?_
        refine .run rfl (yCall rfl (.c rfl .n) C56 (fun w hw => span_any _ w)) rfl rfl ?_
        refine .done ?_
        refine effStep 6 [] (by kernel_rfl) closedSt (hLeft [1, 2, 4, 5] (by kernel_rfl) (.c (fun _ _ hs => hs.ef) (.c (fun _ _ hs => hs.ef) (.c (fun _ _ hs => hs.ef) (.c (fun _ _ hs => hs.ef) .n))))) ?_
        refine .c ?_ .n
        refine effOne rfl (gNone rfl (fStoreL 3 rfl rfl rfl rfl K23 rfl (rfl))) ?_
        refine effStep 7 [] (by kernel_rfl) closedSt (hLeft [] (by kernel_rfl) .n) ?_
        refine .c ?_ .n
        refine effOne rfl (gNone rfl (fStoreL 2 rfl rfl rfl rfl K23 rfl (rfl))) ?_
        refine effStep 8 [] (by kernel_rfl) closedSt (hLeft [] (by kernel_rfl) .n) ?_
        refine .c ?_ .n
        refine effOne rfl (gNone rfl (fStoreL 1 rfl rfl rfl rfl K29 rfl (rfl))) ?_
        refine effDone closedSt (hLeft [] (by kernel_rfl) .n) (by kernel_rfl) ?_
        refine kThen ?_
        refine kRet ?_
        refine fRetC DStar C63 rfl (.cA (us := [_, _]) rfl A23 (cOwn 3 rfl rfl) (.cA (us := [_, _]) rfl A23 (cOwn 2 rfl rfl) (.c1 rfl O29 (cOwn 1 rfl rfl) .n))) (endRet ?_)
        simp only [packV, starE, if_neg (not_not_intro h), Int.toNat_natCast]
      · refine effOne rfl (opEx fun x => (gNone rfl (fAlloc Z96))) ?_
        refine effStep 6 [] (by kernel_rfl) (closedEx fun x => (closedEx fun n7 => closedSt)) (hLeft [] (by kernel_rfl) .n) ?_
        refine .c ?_ .n
        refine effOne rfl (opEx fun x => (opEx fun n7 => (gNone rfl (fV (yCall rfl (.c rfl (.c rfl .n)) C65 (fun w hw => starW_any x.1.1 x.1.2 k y p w (hw.blkAt 5 rfl) (hw.blkAt 6 rfl) (hm.eff0 hw) hp hk)) rfl)))) ?_
        refine effStep 8 [] (by kernel_rfl) (closedEx fun x => (closedEx fun n7 => closedSt)) (hLeft [] (by kernel_rfl) .n) ?_
        refine .c ?_ .n
        refine effOne rfl (opEx fun x => (opEx fun n7 => (gNone rfl (fStoreL 0 rfl rfl rfl rfl K96 rfl (rfl))))) ?_
        refine effDone (closedEx fun x => (closedEx fun n7 => closedSt)) (hLeft [] (by kernel_rfl) .n) (by kernel_rfl) ?_
        refine trEx fun x => ?_
        refine trEx fun n7 => ?_
        refine kThen ?_
        refine kSeq ?_
        refine kDrawE [(1, none), (2, none), (4, none), (5, none)] [] [0, 1, 2, 3, 4, 5] 3 hMix (by kernel_rfl) ?_
        refine .run rfl (yIndexAr rfl rfl R96 (by omega) (by omega)) rfl rfl ?_
        refine .run rfl (yLoadA (vs := [_, _, _]) rfl A86 (cOwn 0 rfl rfl)) rfl rfl ?_
        refine .run rfl (yCall rfl (.c rfl .n) C56 (fun w hw => span_any _ w)) rfl rfl ?_
        refine .run rfl (yIndexAr rfl rfl R96 (by omega) (by omega)) rfl rfl ?_
        refine .run rfl (yLoadA (vs := [_, _, _]) rfl A86 (cOwn 0 rfl rfl)) rfl rfl ?_
        refine .run rfl (yCall rfl (.c rfl .n) C56 (fun w hw => span_any _ w)) rfl rfl ?_
        refine .done ?_
        refine effStep 6 [] (by kernel_rfl) closedSt (hLeft [1, 2, 4, 5] (by kernel_rfl) (.c (fun _ _ hs => hs.ef) (.c (fun _ _ hs => hs.ef) (.c (fun _ _ hs => hs.ef) (.c (fun _ _ hs => hs.ef) .n))))) ?_
        refine .c ?_ .n
        refine effOne rfl (gNone rfl (fStoreL 3 rfl rfl rfl rfl K23 rfl (rfl))) ?_
        refine effStep 7 [] (by kernel_rfl) closedSt (hLeft [] (by kernel_rfl) .n) ?_
        refine .c ?_ .n
        refine effOne rfl (gNone rfl (fStoreL 2 rfl rfl rfl rfl K23 rfl (rfl))) ?_
        refine effStep 8 [] (by kernel_rfl) closedSt (hLeft [] (by kernel_rfl) .n) ?_
        refine .c ?_ .n
        refine effOne rfl (gNone rfl (fStoreL 1 rfl rfl rfl rfl K29 rfl (rfl))) ?_
        refine effDone closedSt (hLeft [] (by kernel_rfl) .n) (by kernel_rfl) ?_
        refine kThen ?_
        refine kRet ?_
        refine fRetC DStar C63 rfl (.cA (us := [_, _]) rfl A23 (cOwn 3 rfl rfl) (.cA (us := [_, _]) rfl A23 (cOwn 2 rfl rfl) (.c1 rfl O29 (cOwn 1 rfl rfl) .n))) (endRet ?_)
        simp only [packV, starE, if_neg (not_not_intro h), Int.toNat_natCast]
    · refine effOne rfl (opEx fun x => (gNone rfl (fAlloc Z96))) ?_
      refine effStep 5 [] (by kernel_rfl) (closedEx fun x => (closedEx fun n7 => closedSt)) (hLeft [] (by kernel_rfl) .n) ?_
      refine .c ?_ .n
      refine effOne rfl (opEx fun x => (opEx fun n7 => (gNone rfl (fV (yMove rfl) rfl)))) ?_
      refine effStep 6 [] (by kernel_rfl) (closedEx fun x => (closedEx fun n7 => closedSt)) (hLeft [] (by kernel_rfl) .n) ?_
      refine .c ?_ .n
      refine effOne rfl (opEx fun x => (opEx fun n7 => (gNone rfl (fV (yCall rfl (.c rfl (.c rfl .n)) C65 (fun w hw => starW_any x.1.1 x.1.2 k y p w (hw.blkAt 5 rfl) (hw.blkAt 6 rfl) (hm.eff0 hw) hp hk)) rfl)))) ?_
      refine effStep 8 [] (by kernel_rfl) (closedEx fun x => (closedEx fun n7 => closedSt)) (hLeft [] (by kernel_rfl) .n) ?_
      refine .c ?_ .n
      refine effOne rfl (opEx fun x => (opEx fun n7 => (gNone rfl (fStoreL 0 rfl rfl rfl rfl K96 rfl (rfl))))) ?_
      refine effDone (closedEx fun x => (closedEx fun n7 => closedSt)) (hLeft [] (by kernel_rfl) .n) (by kernel_rfl) ?_
      refine trEx fun x => ?_
      refine trEx fun n7 => ?_
      refine kThen ?_
      refine kSeq ?_
      refine kDrawE [(1, none), (2, none), (4, none), (5, none)] [] [0, 1, 2, 3, 4, 5] 3 hMix (by kernel_rfl) ?_
      refine .run rfl (yIndexAr rfl rfl R96 (by omega) (by omega)) rfl rfl ?_
      refine .run rfl (yLoadA (vs := [_, _, _]) rfl A86 (cOwn 0 rfl rfl)) rfl rfl ?_
      refine .run rfl (yCall rfl (.c rfl .n) C56 (fun w hw => span_any _ w)) rfl rfl ?_
      refine .run rfl (yIndexAr rfl rfl R96 (by omega) (by omega)) rfl rfl ?_
      refine .run rfl (yLoadA (vs := [_, _, _]) rfl A86 (cOwn 0 rfl rfl)) rfl rfl ?_
      refine .run rfl (yCall rfl (.c rfl .n) C56 (fun w hw => span_any _ w)) rfl rfl ?_
      refine .done ?_
      refine effStep 6 [] (by kernel_rfl) closedSt (hLeft [1, 2, 4, 5] (by kernel_rfl) (.c (fun _ _ hs => hs.ef) (.c (fun _ _ hs => hs.ef) (.c (fun _ _ hs => hs.ef) (.c (fun _ _ hs => hs.ef) .n))))) ?_
      refine .c ?_ .n
      refine effOne rfl (gNone rfl (fStoreL 3 rfl rfl rfl rfl K23 rfl (rfl))) ?_
      refine effStep 7 [] (by kernel_rfl) closedSt (hLeft [] (by kernel_rfl) .n) ?_
      refine .c ?_ .n
      refine effOne rfl (gNone rfl (fStoreL 2 rfl rfl rfl rfl K23 rfl (rfl))) ?_
      refine effStep 8 [] (by kernel_rfl) closedSt (hLeft [] (by kernel_rfl) .n) ?_
      refine .c ?_ .n
      refine effOne rfl (gNone rfl (fStoreL 1 rfl rfl rfl rfl K29 rfl (rfl))) ?_
      refine effDone closedSt (hLeft [] (by kernel_rfl) .n) (by kernel_rfl) ?_
      refine kThen ?_
      refine kRet ?_
      refine fRetC DStar C63 rfl (.cA (us := [_, _]) rfl A23 (cOwn 3 rfl rfl) (.cA (us := [_, _]) rfl A23 (cOwn 2 rfl rfl) (.c1 rfl O29 (cOwn 1 rfl rfl) .n))) (endRet ?_)
      simp only [packV, starE, if_neg (not_not_intro h), Int.toNat_natCast]
  · refine effOne rfl (gNone rfl (fV (yMove rfl) rfl)) ?_
    refine effStep 4 [7] (by kernel_rfl) closedSt (hLeft [0, 1, 3] (by kernel_rfl) (.c (fun _ _ hs => hs.ef) (.c (fun _ _ hs => hs.ef) (.c (fun _ _ hs => hs.ef) .n)))) ?_
    refine (.c ?_ (.c ?_ .n))
    · refine effOne rfl (gNone rfl (fCallO rfl (.c rfl (.c rfl .n)) C59 (fun w hw => told_any y p (isStarB p (k : Nat)) w (hm.eff0 hw) h))) ?_
      refine effStep 6 [7] (by kernel_rfl) (closedEx fun x => closedSt) (hLeft [] (by kernel_rfl) .n) ?_
      refine (.c ?_ (.c ?_ .n))
      · refine effOne rfl (opEx fun x => (gNone rfl (fV (yCall rfl (.c rfl (.c rfl .n)) C65 (fun w hw => starW_any x.1.1 x.1.2 k y p w (hw.blkAt 4 rfl) (hw.blkAt 5 rfl) (hm.eff0 hw) hp hk)) rfl))) ?_
        refine effStep 7 [] (by kernel_rfl) (closedEx fun x => closedSt) (hLeft [] (by kernel_rfl) .n) ?_
        refine .c ?_ .n
        refine effOne rfl (opEx fun x => (gNone rfl (fAlloc Z96))) ?_
        refine effStep 8 [] (by kernel_rfl) (closedEx fun x => (closedEx fun n7 => closedSt)) (hLeft [] (by kernel_rfl) .n) ?_
        refine .c ?_ .n
        refine effOne rfl (opEx fun x => (opEx fun n7 => (gNone rfl (fStoreL 0 rfl rfl rfl rfl K96 rfl (rfl))))) ?_
        refine effDone (closedEx fun x => (closedEx fun n7 => closedSt)) (hLeft [] (by kernel_rfl) .n) (by kernel_rfl) ?_
        refine trEx fun x => ?_
        refine trEx fun n7 => ?_
        refine kThen ?_
        refine kSeq ?_
        refine kDrawE [(1, none), (2, none), (4, none), (5, none)] [] [0, 1, 2, 3, 4, 5] 3 hMix (by kernel_rfl) ?_
        refine .run rfl (yIndexAr rfl rfl R96 (by omega) (by omega)) rfl rfl ?_
        refine .run rfl (yLoadA (vs := [_, _, _]) rfl A86 (cOwn 0 rfl rfl)) rfl rfl ?_
        refine .run rfl (yCall rfl (.c rfl .n) C56 (fun w hw => span_any _ w)) rfl rfl ?_
        refine .run rfl (yIndexAr rfl rfl R96 (by omega) (by omega)) rfl rfl ?_
        refine .run rfl (yLoadA (vs := [_, _, _]) rfl A86 (cOwn 0 rfl rfl)) rfl rfl ?_
        refine .run rfl (yCall rfl (.c rfl .n) C56 (fun w hw => span_any _ w)) rfl rfl ?_
        refine .done ?_
        refine effStep 6 [] (by kernel_rfl) closedSt (hLeft [1, 2, 4, 5] (by kernel_rfl) (.c (fun _ _ hs => hs.ef) (.c (fun _ _ hs => hs.ef) (.c (fun _ _ hs => hs.ef) (.c (fun _ _ hs => hs.ef) .n))))) ?_
        refine .c ?_ .n
        refine effOne rfl (gNone rfl (fStoreL 3 rfl rfl rfl rfl K23 rfl (rfl))) ?_
        refine effStep 7 [] (by kernel_rfl) closedSt (hLeft [] (by kernel_rfl) .n) ?_
        refine .c ?_ .n
        refine effOne rfl (gNone rfl (fStoreL 2 rfl rfl rfl rfl K23 rfl (rfl))) ?_
        refine effStep 8 [] (by kernel_rfl) closedSt (hLeft [] (by kernel_rfl) .n) ?_
        refine .c ?_ .n
        refine effOne rfl (gNone rfl (fStoreL 1 rfl rfl rfl rfl K29 rfl (rfl))) ?_
        refine effDone closedSt (hLeft [] (by kernel_rfl) .n) (by kernel_rfl) ?_
        refine kThen ?_
        refine kRet ?_
        refine fRetC DStar C63 rfl (.cA (us := [_, _]) rfl A23 (cOwn 3 rfl rfl) (.cA (us := [_, _]) rfl A23 (cOwn 2 rfl rfl) (.c1 rfl O29 (cOwn 1 rfl rfl) .n))) (endRet ?_)
        simp only [packV, starE, if_neg (not_not_intro h), Int.toNat_natCast]
      · refine effOne rfl (opEx fun x => (gNone rfl (fAlloc Z96))) ?_
        refine effStep 6 [] (by kernel_rfl) (closedEx fun x => (closedEx fun n7 => closedSt)) (hLeft [] (by kernel_rfl) .n) ?_
        refine .c ?_ .n
        refine effOne rfl (opEx fun x => (opEx fun n7 => (gNone rfl (fV (yCall rfl (.c rfl (.c rfl .n)) C65 (fun w hw => starW_any x.1.1 x.1.2 k y p w (hw.blkAt 5 rfl) (hw.blkAt 6 rfl) (hm.eff0 hw) hp hk)) rfl)))) ?_
        refine effStep 8 [] (by kernel_rfl) (closedEx fun x => (closedEx fun n7 => closedSt)) (hLeft [] (by kernel_rfl) .n) ?_
        refine .c ?_ .n
        refine effOne rfl (opEx fun x => (opEx fun n7 => (gNone rfl (fStoreL 0 rfl rfl rfl rfl K96 rfl (rfl))))) ?_
        refine effDone (closedEx fun x => (closedEx fun n7 => closedSt)) (hLeft [] (by kernel_rfl) .n) (by kernel_rfl) ?_
        refine trEx fun x => ?_
        refine trEx fun n7 => ?_
        refine kThen ?_
        refine kSeq ?_
        refine kDrawE [(1, none), (2, none), (4, none), (5, none)] [] [0, 1, 2, 3, 4, 5] 3 hMix (by kernel_rfl) ?_
        refine .run rfl (yIndexAr rfl rfl R96 (by omega) (by omega)) rfl rfl ?_
        refine .run rfl (yLoadA (vs := [_, _, _]) rfl A86 (cOwn 0 rfl rfl)) rfl rfl ?_
        refine .run rfl (yCall rfl (.c rfl .n) C56 (fun w hw => span_any _ w)) rfl rfl ?_
        refine .run rfl (yIndexAr rfl rfl R96 (by omega) (by omega)) rfl rfl ?_
        refine .run rfl (yLoadA (vs := [_, _, _]) rfl A86 (cOwn 0 rfl rfl)) rfl rfl ?_
        refine .run rfl (yCall rfl (.c rfl .n) C56 (fun w hw => span_any _ w)) rfl rfl ?_
        refine .done ?_
        refine effStep 6 [] (by kernel_rfl) closedSt (hLeft [1, 2, 4, 5] (by kernel_rfl) (.c (fun _ _ hs => hs.ef) (.c (fun _ _ hs => hs.ef) (.c (fun _ _ hs => hs.ef) (.c (fun _ _ hs => hs.ef) .n))))) ?_
        refine .c ?_ .n
        refine effOne rfl (gNone rfl (fStoreL 3 rfl rfl rfl rfl K23 rfl (rfl))) ?_
        refine effStep 7 [] (by kernel_rfl) closedSt (hLeft [] (by kernel_rfl) .n) ?_
        refine .c ?_ .n
        refine effOne rfl (gNone rfl (fStoreL 2 rfl rfl rfl rfl K23 rfl (rfl))) ?_
        refine effStep 8 [] (by kernel_rfl) closedSt (hLeft [] (by kernel_rfl) .n) ?_
        refine .c ?_ .n
        refine effOne rfl (gNone rfl (fStoreL 1 rfl rfl rfl rfl K29 rfl (rfl))) ?_
        refine effDone closedSt (hLeft [] (by kernel_rfl) .n) (by kernel_rfl) ?_
        refine kThen ?_
        refine kRet ?_
        refine fRetC DStar C63 rfl (.cA (us := [_, _]) rfl A23 (cOwn 3 rfl rfl) (.cA (us := [_, _]) rfl A23 (cOwn 2 rfl rfl) (.c1 rfl O29 (cOwn 1 rfl rfl) .n))) (endRet ?_)
        simp only [packV, starE, if_neg (not_not_intro h), Int.toNat_natCast]
    · refine effOne rfl (gNone rfl (fAlloc Z96)) ?_
      refine effStep 4 [] (by kernel_rfl) (closedEx fun n7 => closedSt) (hLeft [0, 1, 3] (by kernel_rfl) (.c (fun _ _ ⟨n7, hs⟩ => hs.ef.sub (.c 1 rfl (.c 1 rfl (.c 1 rfl (.c 1 rfl .n))))) (.c (fun _ _ ⟨n7, hs⟩ => hs.ef.sub (.c 1 rfl (.c 1 rfl (.c 1 rfl (.c 1 rfl .n))))) (.c (fun _ _ ⟨n7, hs⟩ => hs.ef.sub (.c 1 rfl (.c 1 rfl (.c 1 rfl (.c 1 rfl .n))))) .n)))) ?_
      refine .c ?_ .n
      refine effOne rfl (opEx fun n7 => (gNone rfl (fCallO rfl (.c rfl (.c rfl .n)) C59 (fun w hw => told_any y p (isStarB p (k : Nat)) w (hm.eff0 hw) h)))) ?_
      refine effStep 6 [] (by kernel_rfl) (closedEx fun n7 => (closedEx fun x => closedSt)) (hLeft [] (by kernel_rfl) .n) ?_
      refine .c ?_ .n
      refine effOne rfl (opEx fun n7 => (opEx fun x => (gNone rfl (fV (yCall rfl (.c rfl (.c rfl .n)) C65 (fun w hw => starW_any x.1.1 x.1.2 k y p w (hw.blkAt 5 rfl) (hw.blkAt 6 rfl) (hm.eff0 hw) hp hk)) rfl)))) ?_
      refine effStep 8 [] (by kernel_rfl) (closedEx fun n7 => (closedEx fun x => closedSt)) (hLeft [] (by kernel_rfl) .n) ?_
      refine .c ?_ .n
      refine effOne rfl (opEx fun n7 => (opEx fun x => (gNone rfl (fStoreL 0 rfl rfl rfl rfl K96 rfl (rfl))))) ?_
      refine effDone (closedEx fun n7 => (closedEx fun x => closedSt)) (hLeft [] (by kernel_rfl) .n) (by kernel_rfl) ?_
      refine trEx fun n7 => ?_
      refine trEx fun x => ?_
      refine kThen ?_
      refine kSeq ?_
      refine kDrawE [(1, none), (2, none), (4, none), (5, none)] [] [0, 1, 2, 3, 4, 5] 3 hMix (by kernel_rfl) ?_
      refine .run rfl (yIndexAr rfl rfl R96 (by omega) (by omega)) rfl rfl ?_
      refine .run rfl (yLoadA (vs := [_, _, _]) rfl A86 (cOwn 0 rfl rfl)) rfl rfl ?_
      refine .run rfl (yCall rfl (.c rfl .n) C56 (fun w hw => span_any _ w)) rfl rfl ?_
      refine .run rfl (yIndexAr rfl rfl R96 (by omega) (by omega)) rfl rfl ?_
      refine .run rfl (yLoadA (vs := [_, _, _]) rfl A86 (cOwn 0 rfl rfl)) rfl rfl ?_
      refine .run rfl (yCall rfl (.c rfl .n) C56 (fun w hw => span_any _ w)) rfl rfl ?_
      refine .done ?_
      refine effStep 6 [] (by kernel_rfl) closedSt (hLeft [1, 2, 4, 5] (by kernel_rfl) (.c (fun _ _ hs => hs.ef) (.c (fun _ _ hs => hs.ef) (.c (fun _ _ hs => hs.ef) (.c (fun _ _ hs => hs.ef) .n))))) ?_
      refine .c ?_ .n
      refine effOne rfl (gNone rfl (fStoreL 3 rfl rfl rfl rfl K23 rfl (rfl))) ?_
      refine effStep 7 [] (by kernel_rfl) closedSt (hLeft [] (by kernel_rfl) .n) ?_
      refine .c ?_ .n
      refine effOne rfl (gNone rfl (fStoreL 2 rfl rfl rfl rfl K23 rfl (rfl))) ?_
      refine effStep 8 [] (by kernel_rfl) closedSt (hLeft [] (by kernel_rfl) .n) ?_
      refine .c ?_ .n
      refine effOne rfl (gNone rfl (fStoreL 1 rfl rfl rfl rfl K29 rfl (rfl))) ?_
      refine effDone closedSt (hLeft [] (by kernel_rfl) .n) (by kernel_rfl) ?_
      refine kThen ?_
      refine kRet ?_
      refine fRetC DStar C63 rfl (.cA (us := [_, _]) rfl A23 (cOwn 3 rfl rfl) (.cA (us := [_, _]) rfl A23 (cOwn 2 rfl rfl) (.c1 rfl O29 (cOwn 1 rfl rfl) .n))) (endRet ?_)
      simp only [packV, starE, if_neg (not_not_intro h), Int.toNat_natCast]
  · refine effOne rfl (gNone rfl (fAlloc Z96)) ?_
    refine effStep 4 [5] (by kernel_rfl) (closedEx fun n7 => closedSt) (hLeft [0, 1, 3] (by kernel_rfl) (.c (fun _ _ ⟨n7, hs⟩ => hs.ef.sub (.c 1 rfl (.c 1 rfl (.c 1 rfl (.c 1 rfl .n))))) (.c (fun _ _ ⟨n7, hs⟩ => hs.ef.sub (.c 1 rfl (.c 1 rfl (.c 1 rfl (.c 1 rfl .n))))) (.c (fun _ _ ⟨n7, hs⟩ => hs.ef.sub (.c 1 rfl (.c 1 rfl (.c 1 rfl (.c 1 rfl .n))))) .n)))) ?_
    refine (.c ?_ (.c ?_ .n))
    · refine effOne rfl (opEx fun n7 => (gNone rfl (fCallO rfl (.c rfl (.c rfl .n)) C59 (fun w hw => told_any y p (isStarB p (k : Nat)) w (hm.eff0 hw) h)))) ?_
      refine effStep 5 [] (by kernel_rfl) (closedEx fun n7 => (closedEx fun x => closedSt)) (hLeft [] (by kernel_rfl) .n) ?_
      refine .c ?_ .n
      refine effOne rfl (opEx fun n7 => (opEx fun x => (gNone rfl (fV (yMove rfl) rfl)))) ?_
      refine effStep 6 [] (by kernel_rfl) (closedEx fun n7 => (closedEx fun x => closedSt)) (hLeft [] (by kernel_rfl) .n) ?_
      refine .c ?_ .n
      refine effOne rfl (opEx fun n7 => (opEx fun x => (gNone rfl (fV (yCall rfl (.c rfl (.c rfl .n)) C65 (fun w hw => starW_any x.1.1 x.1.2 k y p w (hw.blkAt 5 rfl) (hw.blkAt 6 rfl) (hm.eff0 hw) hp hk)) rfl)))) ?_
      refine effStep 8 [] (by kernel_rfl) (closedEx fun n7 => (closedEx fun x => closedSt)) (hLeft [] (by kernel_rfl) .n) ?_
      refine .c ?_ .n
      refine effOne rfl (opEx fun n7 => (opEx fun x => (gNone rfl (fStoreL 0 rfl rfl rfl rfl K96 rfl (rfl))))) ?_
      refine effDone (closedEx fun n7 => (closedEx fun x => closedSt)) (hLeft [] (by kernel_rfl) .n) (by kernel_rfl) ?_
      refine trEx fun n7 => ?_
      refine trEx fun x => ?_
      refine kThen ?_
      refine kSeq ?_
      refine kDrawE [(1, none), (2, none), (4, none), (5, none)] [] [0, 1, 2, 3, 4, 5] 3 hMix (by kernel_rfl) ?_
      refine .run rfl (yIndexAr rfl rfl R96 (by omega) (by omega)) rfl rfl ?_
      refine .run rfl (yLoadA (vs := [_, _, _]) rfl A86 (cOwn 0 rfl rfl)) rfl rfl ?_
      refine .run rfl (yCall rfl (.c rfl .n) C56 (fun w hw => span_any _ w)) rfl rfl ?_
      refine .run rfl (yIndexAr rfl rfl R96 (by omega) (by omega)) rfl rfl ?_
      refine .run rfl (yLoadA (vs := [_, _, _]) rfl A86 (cOwn 0 rfl rfl)) rfl rfl ?_
      refine .run rfl (yCall rfl (.c rfl .n) C56 (fun w hw => span_any _ w)) rfl rfl ?_
      refine .done ?_
      refine effStep 6 [] (by kernel_rfl) closedSt (hLeft [1, 2, 4, 5] (by kernel_rfl) (.c (fun _ _ hs => hs.ef) (.c (fun _ _ hs => hs.ef) (.c (fun _ _ hs => hs.ef) (.c (fun _ _ hs => hs.ef) .n))))) ?_
      refine .c ?_ .n
      refine effOne rfl (gNone rfl (fStoreL 3 rfl rfl rfl rfl K23 rfl (rfl))) ?_
      refine effStep 7 [] (by kernel_rfl) closedSt (hLeft [] (by kernel_rfl) .n) ?_
      refine .c ?_ .n
      refine effOne rfl (gNone rfl (fStoreL 2 rfl rfl rfl rfl K23 rfl (rfl))) ?_
      refine effStep 8 [] (by kernel_rfl) closedSt (hLeft [] (by kernel_rfl) .n) ?_
      refine .c ?_ .n
      refine effOne rfl (gNone rfl (fStoreL 1 rfl rfl rfl rfl K29 rfl (rfl))) ?_
      refine effDone closedSt (hLeft [] (by kernel_rfl) .n) (by kernel_rfl) ?_
      refine kThen ?_
      refine kRet ?_
      refine fRetC DStar C63 rfl (.cA (us := [_, _]) rfl A23 (cOwn 3 rfl rfl) (.cA (us := [_, _]) rfl A23 (cOwn 2 rfl rfl) (.c1 rfl O29 (cOwn 1 rfl rfl) .n))) (endRet ?_)
      simp only [packV, starE, if_neg (not_not_intro h), Int.toNat_natCast]
    · refine effOne rfl (opEx fun n7 => (gNone rfl (fV (yMove rfl) rfl))) ?_
      refine effStep 4 [] (by kernel_rfl) (closedEx fun n7 => closedSt) (hLeft [0, 1, 3] (by kernel_rfl) (.c (fun _ _ ⟨n7, hs⟩ => hs.ef.sub (.c 1 rfl (.c 1 rfl (.c 1 rfl (.c 1 rfl .n))))) (.c (fun _ _ ⟨n7, hs⟩ => hs.ef.sub (.c 1 rfl (.c 1 rfl (.c 1 rfl (.c 1 rfl .n))))) (.c (fun _ _ ⟨n7, hs⟩ => hs.ef.sub (.c 1 rfl (.c 1 rfl (.c 1 rfl (.c 1 rfl .n))))) .n)))) ?_
      refine .c ?_ .n
      refine effOne rfl (opEx fun n7 => (gNone rfl (fCallO rfl (.c rfl (.c rfl .n)) C59 (fun w hw => told_any y p (isStarB p (k : Nat)) w (hm.eff0 hw) h)))) ?_
      refine effStep 6 [] (by kernel_rfl) (closedEx fun n7 => (closedEx fun x => closedSt)) (hLeft [] (by kernel_rfl) .n) ?_
      refine .c ?_ .n
      refine effOne rfl (opEx fun n7 => (opEx fun x => (gNone rfl (fV (yCall rfl (.c rfl (.c rfl .n)) C65 (fun w hw => starW_any x.1.1 x.1.2 k y p w (hw.blkAt 5 rfl) (hw.blkAt 6 rfl) (hm.eff0 hw) hp hk)) rfl)))) ?_
      refine effStep 8 [] (by kernel_rfl) (closedEx fun n7 => (closedEx fun x => closedSt)) (hLeft [] (by kernel_rfl) .n) ?_
      refine .c ?_ .n
      refine effOne rfl (opEx fun n7 => (opEx fun x => (gNone rfl (fStoreL 0 rfl rfl rfl rfl K96 rfl (rfl))))) ?_
      refine effDone (closedEx fun n7 => (closedEx fun x => closedSt)) (hLeft [] (by kernel_rfl) .n) (by kernel_rfl) ?_
      refine trEx fun n7 => ?_
      refine trEx fun x => ?_
      refine kThen ?_
      refine kSeq ?_
      refine kDrawE [(1, none), (2, none), (4, none), (5, none)] [] [0, 1, 2, 3, 4, 5] 3 hMix (by kernel_rfl) ?_
      refine .run rfl (yIndexAr rfl rfl R96 (by omega) (by omega)) rfl rfl ?_
      refine .run rfl (yLoadA (vs := [_, _, _]) rfl A86 (cOwn 0 rfl rfl)) rfl rfl ?_
      refine .run rfl (yCall rfl (.c rfl .n) C56 (fun w hw => span_any _ w)) rfl rfl ?_
      refine .run rfl (yIndexAr rfl rfl R96 (by omega) (by omega)) rfl rfl ?_
      refine .run rfl (yLoadA (vs := [_, _, _]) rfl A86 (cOwn 0 rfl rfl)) rfl rfl ?_
      refine .run rfl (yCall rfl (.c rfl .n) C56 (fun w hw => span_any _ w)) rfl rfl ?_
      refine .done ?_
      refine effStep 6 [] (by kernel_rfl) closedSt (hLeft [1, 2, 4, 5] (by kernel_rfl) (.c (fun _ _ hs => hs.ef) (.c (fun _ _ hs => hs.ef) (.c (fun _ _ hs => hs.ef) (.c (fun _ _ hs => hs.ef) .n))))) ?_
      refine .c ?_ .n
      refine effOne rfl (gNone rfl (fStoreL 3 rfl rfl rfl rfl K23 rfl (rfl))) ?_
      refine effStep 7 [] (by kernel_rfl) closedSt (hLeft [] (by kernel_rfl) .n) ?_
      refine .c ?_ .n
      refine effOne rfl (gNone rfl (fStoreL 2 rfl rfl rfl rfl K23 rfl (rfl))) ?_
      refine effStep 8 [] (by kernel_rfl) closedSt (hLeft [] (by kernel_rfl) .n) ?_
      refine .c ?_ .n
      refine effOne rfl (gNone rfl (fStoreL 1 rfl rfl rfl rfl K29 rfl (rfl))) ?_
      refine effDone closedSt (hLeft [] (by kernel_rfl) .n) (by kernel_rfl) ?_
      refine kThen ?_
      refine kRet ?_
      refine fRetC DStar C63 rfl (.cA (us := [_, _]) rfl A23 (cOwn 3 rfl rfl) (.cA (us := [_, _]) rfl A23 (cOwn 2 rfl rfl) (.c1 rfl O29 (cOwn 1 rfl rfl) .n))) (endRet ?_)
      simp only [packV, starE, if_neg (not_not_intro h), Int.toNat_natCast]
theorem star_any (y : Option Addr × Nat) (p : Plt) (n : Int) (w : World) (hm : InP w y p) (hL : p.st.length ≤ 1000000) : Calls Try.prog 19 [.agg (pltC y p).toArray, i64 n].toArray w (Ret w (outC2 (starE p n))) := by
  by_cases h : toldE p (isStarB p n) = 0
  · have h1 := of_decide_eq_true (truthE_ok (toldE_ok h).1).2.1
    obtain ⟨k, rfl⟩ := Int.eq_ofNat_of_zero_le h1.1
    exact star_ok y p k w hm (by omega) h
  · exact star_bad y p n w hm hL h
end Go.Proofs.Ytlcdohhhhlhpmaa
