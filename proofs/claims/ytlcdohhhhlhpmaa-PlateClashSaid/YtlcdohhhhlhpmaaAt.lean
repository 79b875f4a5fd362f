/-
  Walks: what the document fixes; PlateNames.
-/
import Derived.Test.YtlcdohhhhlhpmaaAs
namespace Go.Proofs.Ytlcdohhhhlhpmaa
open ZW

set_option maxRecDepth 100000 in
set_option maxHeartbeats 4000000 in
theorem alive_any (w : World) : Calls Try.prog 14 [].toArray w (Ret w (.bool true)) := by
  refine fEnter Try.func14 rfl Try.ntmps14 rfl ?_
  refine kSeq ?_
  refine kRegion rfl ?_
  refine lV (yAssign rfl) rfl rfl ?_
  refine lNil ?_
  refine kThen ?_
  refine kSeq ?_
  refine kRegion rfl ?_
  refine lE rfl ?_
  refine eCallX rfl .n C32 (fun w hw => sample_any w) fun na _ => ?_
  refine lV (yCall rfl (.c rfl .n) C15 (fun w hw => scale_any (some ⟨na, 0, none⟩, 3) smpP w (inSmp (hw.blkAt 0 rfl)))) rfl rfl ?_
  refine same (t := 24) (u := outC ((599, 601), 0)) rfl (by rw [ex1]) ?_
  refine lV (yMove rfl) rfl rfl ?_
  refine lV (yExtract rfl rfl) rfl rfl ?_
  refine lV (yExtract rfl rfl) rfl rfl ?_
  refine lE rfl ?_
  refine eAlloc Z23 fun n1 => ?_
  refine lE rfl ?_
  refine eStoreL 0 rfl rfl rfl rfl K23 rfl (rfl) ?_
  refine lV (yAssign rfl) rfl rfl ?_
  refine lNil ?_
  refine kThen ?_
  refine kSeq ?_
  refine forgetP [(n1, _)] (.c 0 rfl .n) ?_
  refine kRegion rfl ?_
  refine lE rfl ?_
  refine eCallX rfl .n C32 (fun w hw => sample_any w) fun na _ => ?_
  refine lV (yCall rfl (.c rfl .n) C17 (fun w hw => zero_any (some ⟨na, 0, none⟩, 3) smpP w (inSmp (hw.blkAt 0 rfl)))) rfl rfl ?_
  refine same (t := 29) (u := outC2 ((4998, 5003), (5999, 6003), 0)) rfl (by rw [ex2]) ?_
  refine lV (yMove rfl) rfl rfl ?_
  refine lV (yExtract rfl rfl) rfl rfl ?_
  refine lV (yExtract rfl rfl) rfl rfl ?_
  refine lV (yExtract rfl rfl) rfl rfl ?_
  refine lE rfl ?_
  refine eAlloc Z23 fun n3 => ?_
  refine lE rfl ?_
  refine eAlloc Z23 fun n4 => ?_
  refine lE rfl ?_
  refine eStoreL 1 rfl rfl rfl rfl K23 rfl (rfl) ?_
  refine lE rfl ?_
  refine eStoreL 0 rfl rfl rfl rfl K23 rfl (rfl) ?_
  refine lV (yAssign rfl) rfl rfl ?_
  refine lNil ?_
  refine kThen ?_
  refine kSeq ?_
  refine forgetP [(n4, _), (n3, _), (n1, _)] (.c 0 rfl (.c 0 rfl (.c 1 rfl .n))) ?_
  refine kRegion rfl ?_
  refine lE rfl ?_
  refine eCallX rfl .n C32 (fun w hw => sample_any w) fun na _ => ?_
  refine lV (yCall rfl (.c rfl (.c rfl .n)) C19 (fun w hw => star_any (some ⟨na, 0, none⟩, 3) smpP 2 w (inSmp (hw.blkAt 0 rfl)) (by decide))) rfl rfl ?_
  refine same (t := 35) (u := outC2 ((6200, 6201), (6900, 6902), 0)) rfl (by rw [ex3]) ?_
  refine lV (yMove rfl) rfl rfl ?_
  refine lV (yExtract rfl rfl) rfl rfl ?_
  refine lV (yExtract rfl rfl) rfl rfl ?_
  refine lV (yExtract rfl rfl) rfl rfl ?_
  refine lE rfl ?_
  refine eAlloc Z23 fun n6 => ?_
  refine lE rfl ?_
  refine eAlloc Z23 fun n7 => ?_
  refine lE rfl ?_
  refine eStoreL 1 rfl rfl rfl rfl K23 rfl (rfl) ?_
  refine lE rfl ?_
  refine eStoreL 0 rfl rfl rfl rfl K23 rfl (rfl) ?_
  refine lV (yAssign rfl) rfl rfl ?_
  refine lNil ?_
  refine kThen ?_
  refine kSeq ?_
  refine forgetP [(n7, _), (n6, _), (n4, _), (n3, _), (n1, _)] (.c 0 rfl (.c 0 rfl (.c 1 rfl (.c 1 rfl (.c 1 rfl .n))))) ?_
  refine kRegion rfl ?_
  refine lE rfl ?_
  refine eCallX rfl .n C32 (fun w hw => sample_any w) fun na _ => ?_
  refine lV (yCall rfl (.c rfl (.c rfl (.c rfl .n))) C21 (fun w hw => apart_any (some ⟨na, 0, none⟩, 3) smpP 0 2 w (inSmp (hw.blkAt 0 rfl)) (by decide))) rfl rfl ?_
  refine same (t := 41) (u := outC2 ((599, 600), (-301, -300), 0)) rfl (by rw [ex4]) ?_
  refine lV (yMove rfl) rfl rfl ?_
  refine lV (yExtract rfl rfl) rfl rfl ?_
  refine lV (yExtract rfl rfl) rfl rfl ?_
  refine lV (yExtract rfl rfl) rfl rfl ?_
  refine lE rfl ?_
  refine eAlloc Z23 fun n9 => ?_
  refine lE rfl ?_
  refine eAlloc Z23 fun n10 => ?_
  refine lE rfl ?_
  refine eStoreL 1 rfl rfl rfl rfl K23 rfl (rfl) ?_
  refine lE rfl ?_
  refine eStoreL 0 rfl rfl rfl rfl K23 rfl (rfl) ?_
  refine lV (yAssign rfl) rfl rfl ?_
  refine lNil ?_
  refine kThen ?_
  refine kSeq ?_
  refine forgetP [(n10, _), (n9, _), (n7, _), (n6, _), (n4, _), (n3, _), (n1, _)] (.c 0 rfl (.c 0 rfl (.c 1 rfl (.c 1 rfl (.c 1 rfl (.c 1 rfl (.c 1 rfl .n))))))) ?_
  refine kRegion rfl ?_
  refine lE rfl ?_
  refine eCallX rfl .n C32 (fun w hw => sample_any w) fun na _ => ?_
  refine lV (yCall rfl (.c rfl (.c rfl (.c rfl .n))) C24 (fun w hw => find_any (some ⟨na, 0, none⟩, 3) smpP 6200 6900 w (inSmp (hw.blkAt 0 rfl)))) rfl rfl ?_
  refine same (t := 47) (u := outC2 ((1999, 2001), (1496, 1501), 0)) rfl (by rw [ex5]) ?_
  refine lV (yMove rfl) rfl rfl ?_
  refine lV (yExtract rfl rfl) rfl rfl ?_
  refine lV (yExtract rfl rfl) rfl rfl ?_
  refine lV (yExtract rfl rfl) rfl rfl ?_
  refine lE rfl ?_
  refine eAlloc Z23 fun n12 => ?_
  refine lE rfl ?_
  refine eAlloc Z23 fun n13 => ?_
  refine lE rfl ?_
  refine eStoreL 1 rfl rfl rfl rfl K23 rfl (rfl) ?_
  refine lE rfl ?_
  refine eStoreL 0 rfl rfl rfl rfl K23 rfl (rfl) ?_
  refine lV (yAssign rfl) rfl rfl ?_
  refine lNil ?_
  refine kThen ?_
  refine kSeq ?_
  refine forgetP [(n13, _), (n12, _), (n10, _), (n9, _), (n7, _), (n6, _), (n4, _), (n3, _), (n1, _)] (.c 0 rfl (.c 0 rfl (.c 1 rfl (.c 1 rfl (.c 1 rfl (.c 1 rfl (.c 1 rfl (.c 1 rfl (.c 1 rfl .n))))))))) ?_
  refine kRegion rfl ?_
  refine lE rfl ?_
  refine eCallX rfl .n C33 (fun w hw => other_any w) fun na _ => ?_
  refine lV (yCall rfl (.c rfl .n) C26 (fun w hw => clash_any (some ⟨na, 0, none⟩, 3) othP w (inOth (hw.blkAt 0 rfl)))) rfl rfl ?_
  refine same (t := 53) (u := outI (7, 0)) rfl (by rw [ex6]) ?_
  refine lV (yMove rfl) rfl rfl ?_
  refine lV (yExtract rfl rfl) rfl rfl ?_
  refine lV (yExtract rfl rfl) rfl rfl ?_
  refine lV (yAssign rfl) rfl rfl ?_
  refine lV (yAssign rfl) rfl rfl ?_
  refine lNil ?_
  refine kThen ?_
  refine kSeq ?_
  refine forgetP [(n13, _), (n12, _), (n10, _), (n9, _), (n7, _), (n6, _), (n4, _), (n3, _), (n1, _)] (.c 1 rfl (.c 1 rfl (.c 1 rfl (.c 1 rfl (.c 1 rfl (.c 1 rfl (.c 1 rfl (.c 1 rfl (.c 1 rfl .n))))))))) ?_
  refine kRegion rfl ?_
  refine lE rfl ?_
  refine eCallX rfl .n C33 (fun w hw => other_any w) fun na _ => ?_
  refine lV (yCall rfl (.c rfl .n) C28 (fun w hw => drop_any (some ⟨na, 0, none⟩, 3) othP w (inOth (hw.blkAt 0 rfl)))) rfl rfl ?_
  refine same (t := 58) (u := outI (1, 0)) rfl (by rw [ex7]) ?_
  refine lV (yMove rfl) rfl rfl ?_
  refine lV (yExtract rfl rfl) rfl rfl ?_
  refine lV (yExtract rfl rfl) rfl rfl ?_
  refine lV (yAssign rfl) rfl rfl ?_
  refine lV (yAssign rfl) rfl rfl ?_
  refine lNil ?_
  refine kThen ?_
  refine kSeq ?_
  refine forgetP [(n13, _), (n12, _), (n10, _), (n9, _), (n7, _), (n6, _), (n4, _), (n3, _), (n1, _)] (.c 1 rfl (.c 1 rfl (.c 1 rfl (.c 1 rfl (.c 1 rfl (.c 1 rfl (.c 1 rfl (.c 1 rfl (.c 1 rfl .n))))))))) ?_
  refine kRegion rfl ?_
  refine lE rfl ?_
  refine eCallX rfl .n C32 (fun w hw => sample_any w) fun na _ => ?_
  refine lV (yCall rfl (.c rfl .n) C30 (fun w hw => poor_any (some ⟨na, 0, none⟩, 3) smpP w (inSmp (hw.blkAt 0 rfl)))) rfl rfl ?_
  refine same (t := 63) (u := outI2 (0, 5, 0)) rfl (by rw [ex8]) ?_
  refine lV (yMove rfl) rfl rfl ?_
  refine lV (yExtract rfl rfl) rfl rfl ?_
  refine lV (yExtract rfl rfl) rfl rfl ?_
  refine lV (yExtract rfl rfl) rfl rfl ?_
  refine lV (yAssign rfl) rfl rfl ?_
  refine lV (yAssign rfl) rfl rfl ?_
  refine lV (yAssign rfl) rfl rfl ?_
  refine lNil ?_
  refine kThen ?_
  refine kSeq ?_
  refine kSeq ?_
  refine forgetP [(n13, _), (n12, _), (n10, _), (n9, _), (n7, _), (n6, _), (n4, _), (n3, _), (n1, _)] (.c 1 rfl (.c 1 rfl (.c 1 rfl (.c 1 rfl (.c 1 rfl (.c 1 rfl (.c 1 rfl (.c 1 rfl (.c 1 rfl .n))))))))) ?_
  refine kDrawE [(0, none), (1, none), (8, none), (9, none), (13, none), (14, none), (22, none), (23, none), (27, none), (28, none), (36, none), (37, none), (41, none), (42, none)] [] [0, 1, 2, 3, 4, 5, 6, 7, 8, 9, 10, 11, 12, 13, 14, 15, 16, 17, 18, 19, 20, 21, 22, 23, 24, 25, 26, 27, 28, 29, 30, 31, 32, 33, 34, 35, 36, 37, 38, 39, 40, 41, 42, 43, 44, 45, 46, 47, 48] 0 hMix (by kernel_rfl) ?_
  refine .run rfl (yLoadA (vs := [_, _]) rfl A23 (cOwn 8 rfl rfl)) rfl rfl ?_
  refine .run rfl (yCall rfl (.c rfl (.c rfl .n)) C34 (fun w hw => spanL_any _ _ w)) rfl rfl ?_
  refine .run rfl (yvIs (c := false) (yNeAgg rfl rfl G23 (fun w => Q23 w)) (by decide)) rfl rfl ?_
  refine .run rfl (yMove rfl) rfl rfl ?_
  refine .runG rfl (yMove rfl) rfl rfl rfl rfl ?_
  refine .runG rfl (yvFalse (yNeq rfl rfl) (by decide)) rfl rfl rfl rfl ?_
  refine .run rfl (yPickF rfl rfl) rfl rfl ?_
  refine .run rfl (yMove rfl) rfl rfl ?_
  refine .runG rfl (yLoadA (vs := [_, _]) rfl A23 (cOwn 7 rfl rfl)) rfl rfl rfl rfl ?_
  refine .runG rfl (yCall rfl (.c rfl (.c rfl .n)) C34 (fun w hw => spanL_any _ _ w)) rfl rfl rfl rfl ?_
  refine .runG rfl (yvIs (c := false) (yNeAgg rfl rfl G23 (fun w => Q23 w)) (by decide)) rfl rfl rfl rfl ?_
  refine .run rfl (yPickF rfl rfl) rfl rfl ?_
  refine .run rfl (yMove rfl) rfl rfl ?_
  refine .runG rfl (yLoadA (vs := [_, _]) rfl A23 (cOwn 6 rfl rfl)) rfl rfl rfl rfl ?_
  refine .runG rfl (yCall rfl (.c rfl (.c rfl .n)) C34 (fun w hw => spanL_any _ _ w)) rfl rfl rfl rfl ?_
  refine .runG rfl (yvIs (c := false) (yNeAgg rfl rfl G23 (fun w => Q23 w)) (by decide)) rfl rfl rfl rfl ?_
  refine .run rfl (yPickF rfl rfl) rfl rfl ?_
  refine .run rfl (yMove rfl) rfl rfl ?_
  refine .runG rfl (yMove rfl) rfl rfl rfl rfl ?_
  refine .runG rfl (yvFalse (yNeq rfl rfl) (by decide)) rfl rfl rfl rfl ?_
  refine .run rfl (yPickF rfl rfl) rfl rfl ?_
  refine .run rfl (yMove rfl) rfl rfl ?_
  refine .runG rfl (yLoadA (vs := [_, _]) rfl A23 (cOwn 5 rfl rfl)) rfl rfl rfl rfl ?_
  refine .runG rfl (yCall rfl (.c rfl (.c rfl .n)) C34 (fun w hw => spanL_any _ _ w)) rfl rfl rfl rfl ?_
  refine .runG rfl (yvIs (c := false) (yNeAgg rfl rfl G23 (fun w => Q23 w)) (by decide)) rfl rfl rfl rfl ?_
  refine .run rfl (yPickF rfl rfl) rfl rfl ?_
  refine .run rfl (yMove rfl) rfl rfl ?_
  refine .runG rfl (yLoadA (vs := [_, _]) rfl A23 (cOwn 4 rfl rfl)) rfl rfl rfl rfl ?_
  refine .runG rfl (yCall rfl (.c rfl (.c rfl .n)) C34 (fun w hw => spanL_any _ _ w)) rfl rfl rfl rfl ?_
  refine .runG rfl (yvIs (c := false) (yNeAgg rfl rfl G23 (fun w => Q23 w)) (by decide)) rfl rfl rfl rfl ?_
  refine .run rfl (yPickF rfl rfl) rfl rfl ?_
  refine .run rfl (yMove rfl) rfl rfl ?_
  refine .runG rfl (yMove rfl) rfl rfl rfl rfl ?_
  refine .runG rfl (yvFalse (yNeq rfl rfl) (by decide)) rfl rfl rfl rfl ?_
  refine .run rfl (yPickF rfl rfl) rfl rfl ?_
  refine .run rfl (yMove rfl) rfl rfl ?_
  refine .runG rfl (yLoadA (vs := [_, _]) rfl A23 (cOwn 3 rfl rfl)) rfl rfl rfl rfl ?_
  refine .runG rfl (yCall rfl (.c rfl (.c rfl .n)) C34 (fun w hw => spanL_any _ _ w)) rfl rfl rfl rfl ?_
  refine .runG rfl (yvIs (c := false) (yNeAgg rfl rfl G23 (fun w => Q23 w)) (by decide)) rfl rfl rfl rfl ?_
  refine .run rfl (yPickF rfl rfl) rfl rfl ?_
  refine .run rfl (yMove rfl) rfl rfl ?_
  refine .runG rfl (yLoadA (vs := [_, _]) rfl A23 (cOwn 2 rfl rfl)) rfl rfl rfl rfl ?_
  refine .runG rfl (yCall rfl (.c rfl (.c rfl .n)) C34 (fun w hw => spanL_any _ _ w)) rfl rfl rfl rfl ?_
  refine .runG rfl (yvIs (c := false) (yNeAgg rfl rfl G23 (fun w => Q23 w)) (by decide)) rfl rfl rfl rfl ?_
  refine .run rfl (yPickF rfl rfl) rfl rfl ?_
  refine .run rfl (yMove rfl) rfl rfl ?_
  refine .runG rfl (yMove rfl) rfl rfl rfl rfl ?_
  refine .runG rfl (yvFalse (yNeq rfl rfl) (by decide)) rfl rfl rfl rfl ?_
  refine .run rfl (yPickF rfl rfl) rfl rfl ?_
  refine .done ?_
  refine effDone closedSt (hLeft [0, 1, 8, 9, 13, 14, 22, 23, 27, 28, 36, 37, 41, 42] (by kernel_rfl) (.c (fun _ _ hs => hs.ef) (.c (fun _ _ hs => hs.ef) (.c (fun _ _ hs => hs.ef) (.c (fun _ _ hs => hs.ef) (.c (fun _ _ hs => hs.ef) (.c (fun _ _ hs => hs.ef) (.c (fun _ _ hs => hs.ef) (.c (fun _ _ hs => hs.ef) (.c (fun _ _ hs => hs.ef) (.c (fun _ _ hs => hs.ef) (.c (fun _ _ hs => hs.ef) (.c (fun _ _ hs => hs.ef) (.c (fun _ _ hs => hs.ef) (.c (fun _ _ hs => hs.ef) .n))))))))))))))) (by kernel_rfl) ?_
  refine kThen ?_
  refine kIfF rfl ?_
  refine kSkip ?_
  refine kThen ?_
  refine kSeq ?_
  refine kDrawE [(0, none), (1, none), (4, none), (5, none)] [] [0, 1, 2, 3, 4, 5, 6, 7, 8, 9, 10, 11, 12, 13, 14, 15, 16, 17, 18, 19, 20, 21, 22, 23, 24, 25, 26, 27, 28, 29, 30, 31, 32, 33, 34, 35, 36, 37, 38, 39, 40] 0 hMix (by kernel_rfl) ?_
  refine .run rfl (yLoadA (vs := [_, _]) rfl A23 (cOwn 1 rfl rfl)) rfl rfl ?_
  refine .run rfl (yCall rfl (.c rfl (.c rfl .n)) C34 (fun w hw => spanL_any _ _ w)) rfl rfl ?_
  refine .run rfl (yvTrue (yEqAgg rfl rfl G23 (fun w => Q23 w)) (by decide)) rfl rfl ?_
  refine .run rfl (yMove rfl) rfl rfl ?_
  refine .runG rfl (yLoadA (vs := [_, _]) rfl A23 (cOwn 0 rfl rfl)) rfl rfl rfl rfl ?_
  refine .runG rfl (yCall rfl (.c rfl (.c rfl .n)) C34 (fun w hw => spanL_any _ _ w)) rfl rfl rfl rfl ?_
  refine .runG rfl (yvTrue (yEqAgg rfl rfl G23 (fun w => Q23 w)) (by decide)) rfl rfl rfl rfl ?_
  refine .run rfl (yPickT rfl rfl) rfl rfl ?_
  refine .run rfl (yMove rfl) rfl rfl ?_
  refine .runG rfl (yMove rfl) rfl rfl rfl rfl ?_
  refine .runG rfl (yvTrue (yEql rfl rfl) (by decide)) rfl rfl rfl rfl ?_
  refine .run rfl (yPickT rfl rfl) rfl rfl ?_
  refine .run rfl (yMove rfl) rfl rfl ?_
  refine .runG rfl (yMove rfl) rfl rfl rfl rfl ?_
  refine .runG rfl (yvTrue (yEql rfl rfl) (by decide)) rfl rfl rfl rfl ?_
  refine .run rfl (yPickT rfl rfl) rfl rfl ?_
  refine .run rfl (yMove rfl) rfl rfl ?_
  refine .runG rfl (yMove rfl) rfl rfl rfl rfl ?_
  refine .runG rfl (yvTrue (yEql rfl rfl) (by decide)) rfl rfl rfl rfl ?_
  refine .run rfl (yPickT rfl rfl) rfl rfl ?_
  refine .run rfl (yMove rfl) rfl rfl ?_
  refine .runG rfl (yMove rfl) rfl rfl rfl rfl ?_
  refine .runG rfl (yvTrue (yEql rfl rfl) (by decide)) rfl rfl rfl rfl ?_
  refine .run rfl (yPickT rfl rfl) rfl rfl ?_
  refine .run rfl (yMove rfl) rfl rfl ?_
  refine .runG rfl (yMove rfl) rfl rfl rfl rfl ?_
  refine .runG rfl (yvTrue (yEql rfl rfl) (by decide)) rfl rfl rfl rfl ?_
  refine .run rfl (yPickT rfl rfl) rfl rfl ?_
  refine .run rfl (yMove rfl) rfl rfl ?_
  refine .runG rfl (yMove rfl) rfl rfl rfl rfl ?_
  refine .runG rfl (yvTrue (yEql rfl rfl) (by decide)) rfl rfl rfl rfl ?_
  refine .run rfl (yPickT rfl rfl) rfl rfl ?_
  refine .run rfl (yMove rfl) rfl rfl ?_
  refine .runG rfl (yMove rfl) rfl rfl rfl rfl ?_
  refine .runG rfl (yvTrue (yEql rfl rfl) (by decide)) rfl rfl rfl rfl ?_
  refine .run rfl (yPickT rfl rfl) rfl rfl ?_
  refine .run rfl (yMove rfl) rfl rfl ?_
  refine .runG rfl (yMove rfl) rfl rfl rfl rfl ?_
  refine .runG rfl (yvTrue (yEql rfl rfl) (by decide)) rfl rfl rfl rfl ?_
  refine .run rfl (yPickT rfl rfl) rfl rfl ?_
  refine .run rfl (yAssign rfl) rfl rfl ?_
  refine .done ?_
  refine effDone closedSt (hLeft [0, 1, 4, 5] (by kernel_rfl) (.c (fun _ _ hs => hs.ef) (.c (fun _ _ hs => hs.ef) (.c (fun _ _ hs => hs.ef) (.c (fun _ _ hs => hs.ef) .n))))) (by kernel_rfl) ?_
  refine kThen ?_
  refine kRet ?_
  refine fRet rfl (.t rfl .n) (endRet ?_)
  first | rfl | (simp [packV, *]; done)
set_option maxRecDepth 100000 in
set_option maxHeartbeats 4000000 in
theorem names_any (w : World) : Calls Try.prog 5 [].toArray w (Ret w (.bool true)) := by
  refine fEnter Try.func5 rfl Try.ntmps5 rfl ?_
  refine kSeq ?_
  refine kRegion rfl ?_
  refine lV (yAssign rfl) rfl rfl ?_
  refine lNil ?_
  refine kThen ?_
  refine kSeq ?_
  refine kRegion rfl ?_
  refine lE rfl ?_
  refine eCallX rfl .n C32 (fun w hw => sample_any w) fun na _ => ?_
  refine lV (yCall rfl (.c rfl (.c rfl .n)) C19 (fun w hw => star_any (some ⟨na, 0, none⟩, 3) smpP 0 w (inSmp (hw.blkAt 0 rfl)) (by decide))) rfl rfl ?_
  refine same (t := 12) (u := outC2 ((5600, 5602), (7200, 7203), 0)) rfl (by rw [ex9]) ?_
  refine lV (yMove rfl) rfl rfl ?_
  refine lV (yExtract rfl rfl) rfl rfl ?_
  refine lV (yExtract rfl rfl) rfl rfl ?_
  refine lV (yExtract rfl rfl) rfl rfl ?_
  refine lE rfl ?_
  refine eAlloc Z23 fun n1 => ?_
  refine lE rfl ?_
  refine eAlloc Z23 fun n2 => ?_
  refine lE rfl ?_
  refine eStoreL 1 rfl rfl rfl rfl K23 rfl (rfl) ?_
  refine lE rfl ?_
  refine eStoreL 0 rfl rfl rfl rfl K23 rfl (rfl) ?_
  refine lV (yAssign rfl) rfl rfl ?_
  refine lNil ?_
  refine kThen ?_
  refine kSeq ?_
  refine forgetP [(n2, _), (n1, _)] (.c 0 rfl (.c 0 rfl .n)) ?_
  refine kRegion rfl ?_
  refine lE rfl ?_
  refine eCallX rfl .n C32 (fun w hw => sample_any w) fun na _ => ?_
  refine lV (yCall rfl (.c rfl .n) C26 (fun w hw => clash_any (some ⟨na, 0, none⟩, 3) smpP w (inSmp (hw.blkAt 0 rfl)))) rfl rfl ?_
  refine same (t := 18) (u := outI (0, 0)) rfl (by rw [exA]) ?_
  refine lV (yMove rfl) rfl rfl ?_
  refine lV (yExtract rfl rfl) rfl rfl ?_
  refine lV (yExtract rfl rfl) rfl rfl ?_
  refine lV (yAssign rfl) rfl rfl ?_
  refine lV (yAssign rfl) rfl rfl ?_
  refine lNil ?_
  refine kThen ?_
  refine kSeq ?_
  refine forgetP [(n2, _), (n1, _)] (.c 1 rfl (.c 1 rfl .n)) ?_
  refine kRegion rfl ?_
  refine lE rfl ?_
  refine eCallX rfl .n C32 (fun w hw => sample_any w) fun na _ => ?_
  refine lV (yCall rfl (.c rfl .n) C28 (fun w hw => drop_any (some ⟨na, 0, none⟩, 3) smpP w (inSmp (hw.blkAt 0 rfl)))) rfl rfl ?_
  refine same (t := 23) (u := outI (0, 0)) rfl (by rw [exB]) ?_
  refine lV (yMove rfl) rfl rfl ?_
  refine lV (yExtract rfl rfl) rfl rfl ?_
  refine lV (yExtract rfl rfl) rfl rfl ?_
  refine lV (yAssign rfl) rfl rfl ?_
  refine lV (yAssign rfl) rfl rfl ?_
  refine lNil ?_
  refine kThen ?_
  refine kSeq ?_
  refine forgetP [(n2, _), (n1, _)] (.c 1 rfl (.c 1 rfl .n)) ?_
  refine kRegion rfl ?_
  refine lE rfl ?_
  refine eCallX rfl .n C33 (fun w hw => other_any w) fun na _ => ?_
  refine lV (yCall rfl (.c rfl .n) C15 (fun w hw => scale_any (some ⟨na, 0, none⟩, 3) othP w (inOth (hw.blkAt 0 rfl)))) rfl rfl ?_
  refine same (t := 28) (u := outC ((0, 0), 10)) rfl (by rw [exC]) ?_
  refine lV (yMove rfl) rfl rfl ?_
  refine lV (yExtract rfl rfl) rfl rfl ?_
  refine lV (yExtract rfl rfl) rfl rfl ?_
  refine lE rfl ?_
  refine eAlloc Z23 fun n8 => ?_
  refine lE rfl ?_
  refine eStoreL 0 rfl rfl rfl rfl K23 rfl (rfl) ?_
  refine lV (yAssign rfl) rfl rfl ?_
  refine lNil ?_
  refine kThen ?_
  refine kSeq ?_
  refine forgetP [(n8, _), (n2, _), (n1, _)] (.c 0 rfl (.c 1 rfl (.c 1 rfl .n))) ?_
  refine kDrawE [(1, none), (4, none), (5, none), (9, none), (10, none)] [] [0, 1, 2, 3, 4, 5, 6, 7, 8, 9, 10, 11, 12, 13, 14, 15, 16, 17, 18, 19, 20, 21, 22, 23, 24, 25, 26, 27, 28, 29, 30, 31, 32, 33, 34, 35, 36, 37] 0 hMix (by kernel_rfl) ?_
  refine .run rfl (yMove rfl) rfl rfl ?_
  refine .runG rfl (yCall rfl .n C14 (fun w hw => alive_any w)) rfl rfl rfl rfl ?_
  refine .run rfl (yPickT rfl rfl) rfl rfl ?_
  refine .run rfl (yMove rfl) rfl rfl ?_
  refine .runG rfl (yLoadA (vs := [_, _]) rfl A23 (cOwn 2 rfl rfl)) rfl rfl rfl rfl ?_
  refine .runG rfl (yCall rfl (.c rfl (.c rfl .n)) C34 (fun w hw => spanL_any _ _ w)) rfl rfl rfl rfl ?_
  refine .runG rfl (yvTrue (yEqAgg rfl rfl G23 (fun w => Q23 w)) (by decide)) rfl rfl rfl rfl ?_
  refine .run rfl (yPickT rfl rfl) rfl rfl ?_
  refine .run rfl (yMove rfl) rfl rfl ?_
  refine .runG rfl (yLoadA (vs := [_, _]) rfl A23 (cOwn 1 rfl rfl)) rfl rfl rfl rfl ?_
  refine .runG rfl (yCall rfl (.c rfl (.c rfl .n)) C34 (fun w hw => spanL_any _ _ w)) rfl rfl rfl rfl ?_
  refine .runG rfl (yvTrue (yEqAgg rfl rfl G23 (fun w => Q23 w)) (by decide)) rfl rfl rfl rfl ?_
  refine .run rfl (yPickT rfl rfl) rfl rfl ?_
  refine .run rfl (yMove rfl) rfl rfl ?_
  refine .runG rfl (yMove rfl) rfl rfl rfl rfl ?_
  refine .runG rfl (yvTrue (yEql rfl rfl) (by decide)) rfl rfl rfl rfl ?_
  refine .run rfl (yPickT rfl rfl) rfl rfl ?_
  refine .run rfl (yMove rfl) rfl rfl ?_
  refine .runG rfl (yMove rfl) rfl rfl rfl rfl ?_
  refine .runG rfl (yvTrue (yEql rfl rfl) (by decide)) rfl rfl rfl rfl ?_
  refine .run rfl (yPickT rfl rfl) rfl rfl ?_
  refine .run rfl (yMove rfl) rfl rfl ?_
  refine .runG rfl (yMove rfl) rfl rfl rfl rfl ?_
  refine .runG rfl (yvTrue (yEql rfl rfl) (by decide)) rfl rfl rfl rfl ?_
  refine .run rfl (yPickT rfl rfl) rfl rfl ?_
  refine .run rfl (yMove rfl) rfl rfl ?_
  refine .runG rfl (yMove rfl) rfl rfl rfl rfl ?_
  refine .runG rfl (yvTrue (yEql rfl rfl) (by decide)) rfl rfl rfl rfl ?_
  refine .run rfl (yPickT rfl rfl) rfl rfl ?_
  refine .run rfl (yMove rfl) rfl rfl ?_
  refine .runG rfl (yMove rfl) rfl rfl rfl rfl ?_
  refine .runG rfl (yvTrue (yEql rfl rfl) (by decide)) rfl rfl rfl rfl ?_
  refine .run rfl (yPickT rfl rfl) rfl rfl ?_
  refine .run rfl (yMove rfl) rfl rfl ?_
  refine .runG rfl (yMove rfl) rfl rfl rfl rfl ?_
  refine .runG rfl (yvTrue (yEql rfl rfl) (by decide)) rfl rfl rfl rfl ?_
  refine .run rfl (yPickT rfl rfl) rfl rfl ?_
  refine .run rfl (yAssign rfl) rfl rfl ?_
  refine .done ?_
  refine effDone closedSt (hLeft [1, 4, 5, 9, 10] (by kernel_rfl) (.c (fun _ _ hs => hs.ef) (.c (fun _ _ hs => hs.ef) (.c (fun _ _ hs => hs.ef) (.c (fun _ _ hs => hs.ef) (.c (fun _ _ hs => hs.ef) .n)))))) (by kernel_rfl) ?_
  refine kThen ?_
  refine kRet ?_
  refine fRet rfl (.t rfl .n) (endRet ?_)
  first | rfl | (simp [packV, *]; done)
end Go.Proofs.Ytlcdohhhhlhpmaa
