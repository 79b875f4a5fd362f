/-
  Walks: the plates of the examples.
-/
import Derived.Test.YtlcdohhhhlhpmaaAr
namespace Go.Proofs.Ytlcdohhhhlhpmaa
open ZW

set_option maxRecDepth 100000 in
theorem spanL_any (lo hi : Int) (w : World) : Calls Try.prog 34 [i64 lo, i64 hi].toArray w (Ret w (.agg [i64 lo, i64 hi].toArray)) := by
  refine fEnter Try.func34 rfl Try.ntmps34 rfl ?_
  refine kSeq ?_
  refine kRegion rfl ?_
  refine lE rfl ?_
  refine eAlloc Z23 fun n4 => ?_
  refine lNil ?_
  refine kThen ?_
  refine kSeq ?_
  refine kRegion rfl ?_
  refine lV (yMove rfl) rfl rfl ?_
  refine lV (yMove rfl) rfl rfl ?_
  refine lV (yBuild (.c rfl (.c rfl .n)) (fun w => B23_0_1 w)) rfl rfl ?_
  refine lE rfl ?_
  refine eStoreL 0 rfl rfl rfl rfl K23 rfl (rfl) ?_
  refine lNil ?_
  refine kThen ?_
  refine kRet ?_
  refine fRet rfl (.cA (us := [_, _]) rfl A23 (cOwn 0 rfl rfl) .n) (endRet ?_)
  rfl
set_option maxRecDepth 100000 in
theorem starL_any (a b c d : Int) (w : World) : Calls Try.prog 90 [i64 a, i64 b, i64 c, i64 d].toArray w (Ret w (.agg (rowS ⟨(a, b), (c, d), false, (0, 0), (0, 0)⟩).toArray)) := by
  refine fEnter Try.func90 rfl Try.ntmps90 rfl ?_
  refine kSeq ?_
  refine kRegion rfl ?_
  refine lE rfl ?_
  refine eAlloc Z58 fun n8 => ?_
  refine lNil ?_
  refine kThen ?_
  refine kSeq ?_
  refine kRegion rfl ?_
  refine lV (yMove rfl) rfl rfl ?_
  refine lV (yMove rfl) rfl rfl ?_
  refine lV (yCall rfl (.c rfl (.c rfl .n)) C34 (fun w hw => spanL_any _ _ w)) rfl rfl ?_
  refine lV (yMove rfl) rfl rfl ?_
  refine lV (yMove rfl) rfl rfl ?_
  refine lV (yCall rfl (.c rfl (.c rfl .n)) C34 (fun w hw => spanL_any _ _ w)) rfl rfl ?_
  refine lV (yBuild (.c rfl (.c rfl .n)) (fun w => B58_0_1 w)) rfl rfl ?_
  refine lE rfl ?_
  refine eStoreL 0 rfl rfl rfl rfl K58 rfl (rfl) ?_
  refine lNil ?_
  refine kThen ?_
  refine kRet ?_
  refine fRet rfl (.cA (us := [_, _, _, _, _, _, _, _, _]) rfl A58 (cOwn 0 rfl rfl) .n) (endRet ?_)
  rfl
set_option maxRecDepth 100000 in
theorem knownL_any (s : StarV) (a b c d : Int) (w : World) : Calls Try.prog 89 [.agg (rowS s).toArray, i64 a, i64 b, i64 c, i64 d].toArray w (Ret w (.agg (rowS { s with k := true, e := (a, b), n := (c, d) }).toArray)) := by
  refine fEnter Try.func89 rfl Try.ntmps89 rfl ?_
  refine kSeq ?_
  refine kRegion rfl ?_
  refine lE rfl ?_
  refine eBoxA rfl fun n5 => ?_
  refine lE rfl ?_
  refine eAlloc Z58 fun n10 => ?_
  refine lNil ?_
  refine kThen ?_
  refine kSeq ?_
  refine kRegion rfl ?_
  refine lV (yMove rfl) rfl rfl ?_
  refine lV (yMove rfl) rfl rfl ?_
  refine lV (yCall rfl (.c rfl (.c rfl .n)) C34 (fun w hw => spanL_any _ _ w)) rfl rfl ?_
  refine lV (yMove rfl) rfl rfl ?_
  refine lV (yMove rfl) rfl rfl ?_
  refine lV (yCall rfl (.c rfl (.c rfl .n)) C34 (fun w hw => spanL_any _ _ w)) rfl rfl ?_
  refine lV (yFieldAddr rfl F58_2) rfl rfl ?_
  refine lE rfl ?_
  refine eStoreL 1 rfl rfl rfl rfl K4 rfl (rfl) ?_
  refine lV (yFieldAddr rfl F58_3) rfl rfl ?_
  refine lE rfl ?_
  refine eStoreL 1 rfl rfl rfl rfl K23 rfl (rfl) ?_
  refine lV (yFieldAddr rfl F58_4) rfl rfl ?_
  refine lE rfl ?_
  refine eStoreL 1 rfl rfl rfl rfl K23 rfl (rfl) ?_
  refine lNil ?_
  refine kThen ?_
  refine kSeq ?_
  refine kRegion rfl ?_
  refine lV (yLoadA (vs := [_, _, _, _, _, _, _, _, _]) rfl A58 (cOwn 1 rfl rfl)) rfl rfl ?_
  refine lE rfl ?_
  refine eStoreL 0 rfl rfl rfl rfl K58 rfl (rfl) ?_
  refine lNil ?_
  refine kThen ?_
  refine kRet ?_
  refine fRet rfl (.cA (us := [_, _, _, _, _, _, _, _, _]) rfl A58 (cOwn 0 rfl rfl) .n) (endRet ?_)
  rfl
abbrev smpS : List StarV := [⟨(1000, 1002), (2000, 2001), true, (5600, 5602), (7200, 7203)⟩, ⟨(3000, 3001), (500, 502), true, (6800, 6801), (6300, 6302)⟩, ⟨(2000, 2001), (1500, 1500), false, (0, 0), (0, 0)⟩]
abbrev othS : List StarV := [⟨(1000, 1002), (2000, 2001), true, (5600, 5602), (7200, 7203)⟩, ⟨(3000, 3001), (500, 502), true, (6800, 6801), (6300, 6302)⟩, ⟨(2000, 2001), (1500, 1500), true, (6210, 6211), (6880, 6910)⟩]
abbrev smpP : Plt := ⟨(590, 610), smpS⟩
abbrev othP : Plt := ⟨(590, 610), othS⟩
set_option maxRecDepth 100000 in
set_option maxHeartbeats 2000000 in
theorem sample_any (w : World) : Calls Try.prog 32 [].toArray w (RetX w (fun _ : Nat => True) (fun n => .agg (pltC (some ⟨n, 0, none⟩, 3) smpP).toArray) (fun _ => []) (fun n => [(n, blk (smpS.map rowS).flatten 58)])) := by
  refine fEnter Try.func32 rfl Try.ntmps32 rfl ?_
  refine kSeq ?_
  refine kRegion rfl ?_
  refine lE rfl ?_
  refine eAlloc Z26 fun n0 => ?_
  refine lNil ?_
  refine kThen ?_
  refine kSeq ?_
  refine kRegion rfl ?_
  refine lV (yCall rfl (.c rfl (.c rfl .n)) C34 (fun w hw => spanL_any _ _ w)) rfl rfl ?_
  refine lV (yCall rfl (.c rfl (.c rfl (.c rfl (.c rfl .n)))) C90 (fun w hw => starL_any _ _ _ _ w)) rfl rfl ?_
  refine lV (yCall rfl (.c rfl (.c rfl (.c rfl (.c rfl (.c rfl .n))))) C89 (fun w hw => knownL_any ⟨(1000, 1002), (2000, 2001), false, (0, 0), (0, 0)⟩ _ _ _ _ w)) rfl rfl ?_
  refine lV (yCall rfl (.c rfl (.c rfl (.c rfl (.c rfl .n)))) C90 (fun w hw => starL_any _ _ _ _ w)) rfl rfl ?_
  refine lV (yCall rfl (.c rfl (.c rfl (.c rfl (.c rfl (.c rfl .n))))) C89 (fun w hw => knownL_any ⟨(3000, 3001), (500, 502), false, (0, 0), (0, 0)⟩ _ _ _ _ w)) rfl rfl ?_
  refine lV (yCall rfl (.c rfl (.c rfl (.c rfl (.c rfl .n)))) C90 (fun w hw => starL_any _ _ _ _ w)) rfl rfl ?_
  refine lE rfl ?_
  refine eBuildSlice (.c rfl (.c rfl (.c rfl .n))) (fun w => BS24_3_0_1_2 w) fun n7 => ?_
  refine lV (yBuild (.c rfl (.c rfl .n)) (fun w => B26_0_1 w)) rfl rfl ?_
  refine lE rfl ?_
  refine eStoreL 1 rfl rfl rfl rfl K26 rfl (rfl) ?_
  refine lNil ?_
  refine kThen ?_
  refine kRet ?_
  refine fRet rfl (.cA (us := [_, _, _]) rfl A26 (cOwn 1 rfl rfl) .n) ?_
  exact endX n7 trivial rfl rfl (.c 0 rfl .n)
set_option maxRecDepth 100000 in
set_option maxHeartbeats 2000000 in
theorem other_any (w : World) : Calls Try.prog 33 [].toArray w (RetX w (fun _ : Nat => True) (fun n => .agg (pltC (some ⟨n, 0, none⟩, 3) othP).toArray) (fun _ => []) (fun n => [(n, blk (othS.map rowS).flatten 58)])) := by
  refine fEnter Try.func33 rfl Try.ntmps33 rfl ?_
  refine kSeq ?_
  refine kRegion rfl ?_
  refine lE rfl ?_
  refine eAlloc Z26 fun n0 => ?_
  refine lNil ?_
  refine kThen ?_
  refine kSeq ?_
  refine kRegion rfl ?_
  refine lE rfl ?_
  refine eCallX rfl .n C32 (fun w hw => sample_any w) fun ns _ => ?_
  refine lE rfl ?_
  refine eAlloc Z26 fun n1 => ?_
  refine lE rfl ?_
  refine eStoreL 0 rfl rfl rfl rfl K26 rfl (rfl) ?_
  refine lNil ?_
  refine kThen ?_
  refine kSeq ?_
  refine kDrawE [(1, none), (3, none), (5, none), (6, none)] [] [0, 1, 2, 3, 4, 5, 6, 7] 1 hMix (by kernel_rfl) ?_
  refine .run rfl (yFieldAddr rfl F26_1) rfl rfl ?_
  refine .run rfl (yLoad1 rfl O24 (cOwn 0 rfl rfl)) rfl rfl ?_
  refine .run rfl (yFieldAddr rfl F26_1) rfl rfl ?_
  refine .run rfl (yLoad1 rfl O24 (cOwn 0 rfl rfl)) rfl rfl ?_
  refine .run rfl (yIndexSl rfl rfl S24 (by decide) (by decide)) rfl rfl ?_
  refine .run rfl (yLoadA (vs := [_, _, _, _, _, _, _, _, _]) rfl A58 (cOwn 1 rfl rfl)) rfl rfl ?_
  refine .run rfl (yCall rfl (.c rfl (.c rfl (.c rfl (.c rfl (.c rfl .n))))) C89 (fun w hw => knownL_any ⟨(2000, 2001), (1500, 1500), false, (0, 0), (0, 0)⟩ _ _ _ _ w)) rfl rfl ?_
  refine .run rfl (yIndexSl rfl rfl S24 (by decide) (by decide)) rfl rfl ?_
  refine .done ?_
  refine effStep 8 [] (by kernel_rfl) closedSt (hLeft [1, 3, 5, 6] (by kernel_rfl) (.c (fun _ _ hs => hs.ef) (.c (fun _ _ hs => hs.ef) (.c (fun _ _ hs => hs.ef) (.c (fun _ _ hs => hs.ef) .n))))) ?_
  refine .c ?_ .n
  refine effOne rfl (gNone rfl (fStoreL 1 rfl rfl rfl rfl K58 rfl (rfl))) ?_
  refine effDone closedSt (hLeft [] (by kernel_rfl) .n) (by kernel_rfl) ?_
  refine kThen ?_
  refine kSeq ?_
  refine kRegion rfl ?_
  refine lV (yLoadA (vs := [_, _, _]) rfl A26 (cOwn 0 rfl rfl)) rfl rfl ?_
  refine lE rfl ?_
  refine eStoreL 2 rfl rfl rfl rfl K26 rfl (rfl) ?_
  refine lNil ?_
  refine kThen ?_
  refine kRet ?_
  refine fRet rfl (.cA (us := [_, _, _]) rfl A26 (cOwn 2 rfl rfl) .n) ?_
  exact endX ns trivial rfl rfl (.c 1 rfl .n)
theorem inSmp {w : World} {n : Nat} (h : w.heap[n]? = some (blk (smpS.map rowS).flatten 58)) : InP w (some ⟨n, 0, none⟩, 3) smpP := sleRows (f := rowS) (fun _ => rfl) star0 smpS rfl h
theorem inOth {w : World} {n : Nat} (h : w.heap[n]? = some (blk (othS.map rowS).flatten 58)) : InP w (some ⟨n, 0, none⟩, 3) othP := sleRows (f := rowS) (fun _ => rfl) star0 othS rfl h
theorem ex1 : scaleE smpP = ((599, 601), 0) := by kernel_rfl
theorem ex2 : zeroE smpP = ((4998, 5003), (5999, 6003), 0) := by kernel_rfl
theorem ex3 : starE smpP 2 = ((6200, 6201), (6900, 6902), 0) := by kernel_rfl
theorem ex4 : apartE smpP 0 2 = ((599, 600), (-301, -300), 0) := by kernel_rfl
theorem ex5 : findE smpP 6200 6900 = ((1999, 2001), (1496, 1501), 0) := by kernel_rfl
theorem ex6 : clashE othP = (7, 0) := by kernel_rfl
theorem ex7 : dropE othP = (1, 0) := by kernel_rfl
theorem ex8 : poorE smpP = (0, 5, 0) := by kernel_rfl
theorem ex9 : starE smpP 0 = ((5600, 5602), (7200, 7203), 0) := by kernel_rfl
theorem exA : clashE smpP = (0, 0) := by kernel_rfl
theorem exB : dropE smpP = (0, 0) := by kernel_rfl
theorem exC : scaleE othP = ((0, 0), 10) := by kernel_rfl
end Go.Proofs.Ytlcdohhhhlhpmaa
