/-
  Walks: PlateFinds.
-/
import Derived.Test.YtlcdohhhhlhpmaaKg
namespace Go.Proofs.Ytlcdohhhhlhpmaa
open ZW

theorem rfind_any (y : Option Addr × Nat) (p : Plt) (e n : Int) (w : World) (hm : InP w y p) (hL : p.st.length ≤ 30) : Calls Try.prog 25 [.agg (pltC y p).toArray, i64 e, i64 n].toArray w (Ret w (outC2 (findE p e n))) := by
  by_cases h : toldE p (isSkyB e && isSkyB n) = 0
  · exact rfind_ok y p e n w hm h
  · exact rfind_bad y p e n w hm hL h
set_option maxRecDepth 100000 in
set_option maxHeartbeats 8000000 in
theorem pfinds_any (y : Option Addr × Nat) (p : Plt) (e n : Int) (w : World) (hm : InP w y p) :
    Calls Try.prog 4 [.agg (pltC y p).toArray, i64 e, i64 n].toArray w (Ret w (.bool true)) := by
  refine fEnter Try.func4 rfl Try.ntmps4 rfl ?_
  refine kSeq ?_
  refine kRegion rfl ?_
  refine lE rfl ?_
  refine eBoxA rfl fun n3 => ?_
  refine lV (yAssign rfl) rfl rfl ?_
  refine lNil ?_
  refine kThen ?_
  refine kSeq ?_
  refine kSeq ?_
  refine kRegion rfl ?_
  refine lV (yLoadA (vs := [_, _, _]) rfl A26 (cOwn 0 rfl rfl)) rfl rfl ?_
  refine lE rfl ?_
  refine eCallX rfl (.c rfl (.c rfl (.c rfl .n))) C13 (fun w hw => heavy_any y p 30 1048576 w (hm.eff0 hw)) fun v hv => ?_
  refine splitB (t := 28) rfl (fun h28 => ?_) (fun h28 => ?_)
  · refine lV (yMove rfl) rfl rfl ?_
    refine lGN rfl rfl rfl rfl rfl ?_
    refine lGN rfl rfl rfl rfl rfl ?_
    refine lGN rfl rfl rfl rfl rfl ?_
    refine lGN rfl rfl rfl rfl rfl ?_
    refine lGN rfl rfl rfl rfl rfl ?_
    refine lGU rfl rfl rfl rfl ?_
    refine lGU rfl rfl rfl rfl ?_
    refine lGN rfl rfl rfl rfl rfl ?_
    refine lV (yPickT rfl rfl) rfl rfl ?_
    refine lNil ?_
    refine kThen ?_
    refine kIfT rfl ?_
    refine kSeq ?_
    refine kRegion rfl ?_
    refine lV (yCall rfl .n C14 (fun w hw => alive_any w)) rfl rfl ?_
    refine lV (yAssign rfl) rfl rfl ?_
    refine lNil ?_
    refine kThen ?_
    refine kRet ?_
    refine kThenR ?_
    refine fRet rfl (.t rfl .n) (endRet ?_)
    rfl
  · refine lV (yMove rfl) rfl rfl ?_
    refine lGY rfl rfl rfl (oV (yFieldAddr rfl F26_1) rfl ?_)
    refine lGY rfl rfl rfl (oV (yLoad1 rfl O24 (cOwn 0 rfl rfl)) rfl ?_)
    refine lGY rfl rfl rfl (oV (yLen rfl S24) rfl ?_)
    refine lGY rfl rfl rfl (oV (yGtr rfl rfl) rfl ?_)
    refine split (t := 33) rfl (fun h33 => ?_) (fun h33 => ?_)
    · refine lGY rfl rfl rfl (oV (yMove rfl) rfl ?_)
      refine lGY rfl rfl rfl (oV (yLoadA (vs := [_, _, _]) rfl A26 (cOwn 0 rfl rfl)) rfl ?_)
      refine lGY rfl rfl rfl (oV (yCall rfl (.c rfl .n) C23 (fun w hw => rplate_any y p w (hm.eff0 hw) (by have := hv h28; omega))) rfl ?_)
      refine splitB (t := 36) rfl (fun h36 => ?_) (fun h36 => ?_)
      · refine lGY rfl rfl rfl (oV (yPickT rfl rfl) rfl ?_)
        refine lV (yPickF rfl rfl) rfl rfl ?_
        refine lNil ?_
        refine kThen ?_
        refine kIfT rfl ?_
        refine kSeq ?_
        refine kRegion rfl ?_
        refine lV (yCall rfl .n C14 (fun w hw => alive_any w)) rfl rfl ?_
        refine lV (yAssign rfl) rfl rfl ?_
        refine lNil ?_
        refine kThen ?_
        refine kRet ?_
        refine kThenR ?_
        refine fRet rfl (.t rfl .n) (endRet ?_)
        rfl
      · refine lGY rfl rfl rfl (oV (yPickT rfl rfl) rfl ?_)
        refine lV (yPickF rfl rfl) rfl rfl ?_
        refine lNil ?_
        refine kThen ?_
        refine kIfF rfl ?_
        refine kSkip ?_
        refine kThen ?_
        refine kSeq ?_
        have hL := hv h28
        refine kRegion rfl ?_
        refine lV (yLoadA (vs := [_, _, _]) rfl A26 (cOwn 0 rfl rfl)) rfl rfl ?_
        refine lV (yMove rfl) rfl rfl ?_
        refine lV (yMove rfl) rfl rfl ?_
        refine lV (yCall rfl (.c rfl (.c rfl (.c rfl .n))) C24 (fun w hw => find_any y p e n w (hm.eff0 hw))) rfl rfl ?_
        refine lV (yMove rfl) rfl rfl ?_
        refine lV (yExtract rfl rfl) rfl rfl ?_
        refine lV (yExtract rfl rfl) rfl rfl ?_
        refine lV (yExtract rfl rfl) rfl rfl ?_
        refine lE rfl ?_
        refine eAlloc Z23 fun n7 => ?_
        refine lE rfl ?_
        refine eAlloc Z23 fun n8 => ?_
        refine lE rfl ?_
        refine eStoreL 1 rfl rfl rfl rfl K23 rfl (rfl) ?_
        refine lE rfl ?_
        refine eStoreL 0 rfl rfl rfl rfl K23 rfl (rfl) ?_
        refine lV (yAssign rfl) rfl rfl ?_
        refine lNil ?_
        refine kThen ?_
        refine kSeq ?_
        refine kRegion rfl ?_
        refine lV (yLoadA (vs := [_, _, _]) rfl A26 (cOwn 2 rfl rfl)) rfl rfl ?_
        refine lV (yMove rfl) rfl rfl ?_
        refine lV (yMove rfl) rfl rfl ?_
        refine lV (yCall rfl (.c rfl (.c rfl (.c rfl .n))) C25 (fun w hw => rfind_any y p e n w (hm.eff0 hw) hL)) rfl rfl ?_
        refine lV (yMove rfl) rfl rfl ?_
        refine lV (yExtract rfl rfl) rfl rfl ?_
        refine lV (yExtract rfl rfl) rfl rfl ?_
        refine lV (yExtract rfl rfl) rfl rfl ?_
        refine lE rfl ?_
        refine eAlloc Z23 fun n10 => ?_
        refine lE rfl ?_
        refine eAlloc Z23 fun n11 => ?_
        refine lE rfl ?_
        refine eStoreL 1 rfl rfl rfl rfl K23 rfl (rfl) ?_
        refine lE rfl ?_
        refine eStoreL 0 rfl rfl rfl rfl K23 rfl (rfl) ?_
        refine lV (yAssign rfl) rfl rfl ?_
        refine lNil ?_
        refine kThen ?_
        refine kSeq ?_
        refine kRegion rfl ?_
        refine lV (yLoadA (vs := [_, _, _]) rfl A26 (cOwn 4 rfl rfl)) rfl rfl ?_
        refine lV (yCall rfl (.c rfl .n) C26 (fun w hw => clash_any y p w (hm.eff0 hw))) rfl rfl ?_
        refine lV (yMove rfl) rfl rfl ?_
        refine lV (yExtract rfl rfl) rfl rfl ?_
        refine lV (yExtract rfl rfl) rfl rfl ?_
        refine lV (yAssign rfl) rfl rfl ?_
        refine lV (yAssign rfl) rfl rfl ?_
        refine lNil ?_
        refine kThen ?_
        refine kSeq ?_
        refine kRegion rfl ?_
        refine lV (yLoadA (vs := [_, _, _]) rfl A26 (cOwn 4 rfl rfl)) rfl rfl ?_
        refine lV (yCall rfl (.c rfl .n) C27 (fun w hw => rclash_any y p w (hm.eff0 hw) hL)) rfl rfl ?_
        refine lV (yMove rfl) rfl rfl ?_
        refine lV (yExtract rfl rfl) rfl rfl ?_
        refine lV (yExtract rfl rfl) rfl rfl ?_
        refine lV (yAssign rfl) rfl rfl ?_
        refine lV (yAssign rfl) rfl rfl ?_
        refine lNil ?_
        refine kThen ?_
        refine kSeq ?_
        refine kRegion rfl ?_
        refine lV (yLoadA (vs := [_, _, _]) rfl A26 (cOwn 4 rfl rfl)) rfl rfl ?_
        refine lV (yCall rfl (.c rfl .n) C28 (fun w hw => drop_any y p w (hm.eff0 hw))) rfl rfl ?_
        refine lV (yMove rfl) rfl rfl ?_
        refine lV (yExtract rfl rfl) rfl rfl ?_
        refine lV (yExtract rfl rfl) rfl rfl ?_
        refine lV (yAssign rfl) rfl rfl ?_
        refine lV (yAssign rfl) rfl rfl ?_
        refine lNil ?_
        refine kThen ?_
        refine kSeq ?_
        refine kRegion rfl ?_
        refine lV (yLoadA (vs := [_, _, _]) rfl A26 (cOwn 4 rfl rfl)) rfl rfl ?_
        refine lV (yCall rfl (.c rfl .n) C29 (fun w hw => rdrop_any y p w (hm.eff0 hw) hL)) rfl rfl ?_
        refine lV (yMove rfl) rfl rfl ?_
        refine lV (yExtract rfl rfl) rfl rfl ?_
        refine lV (yExtract rfl rfl) rfl rfl ?_
        refine lV (yAssign rfl) rfl rfl ?_
        refine lV (yAssign rfl) rfl rfl ?_
        refine lNil ?_
        refine kThen ?_
        refine kSeq ?_
        refine kRegion rfl ?_
        refine lV (yLoadA (vs := [_, _, _]) rfl A26 (cOwn 4 rfl rfl)) rfl rfl ?_
        refine lV (yCall rfl (.c rfl .n) C30 (fun w hw => poor_any y p w (hm.eff0 hw))) rfl rfl ?_
        refine lV (yMove rfl) rfl rfl ?_
        refine lV (yExtract rfl rfl) rfl rfl ?_
        refine lV (yExtract rfl rfl) rfl rfl ?_
        refine lV (yExtract rfl rfl) rfl rfl ?_
        refine lV (yAssign rfl) rfl rfl ?_
        refine lV (yAssign rfl) rfl rfl ?_
        refine lV (yAssign rfl) rfl rfl ?_
        refine lNil ?_
        refine kThen ?_
        refine kSeq ?_
        refine kRegion rfl ?_
        refine lV (yLoadA (vs := [_, _, _]) rfl A26 (cOwn 4 rfl rfl)) rfl rfl ?_
        refine lV (yCall rfl (.c rfl .n) C31 (fun w hw => rpoor_any y p w (hm.eff0 hw) hL)) rfl rfl ?_
        refine lV (yMove rfl) rfl rfl ?_
        refine lV (yExtract rfl rfl) rfl rfl ?_
        refine lV (yExtract rfl rfl) rfl rfl ?_
        refine lV (yExtract rfl rfl) rfl rfl ?_
        refine lV (yAssign rfl) rfl rfl ?_
        refine lV (yAssign rfl) rfl rfl ?_
        refine lV (yAssign rfl) rfl rfl ?_
        refine lNil ?_
        refine kThen ?_
        refine kSeq ?_
        refine kRegion rfl ?_
        refine lV (yLoadA (vs := [_, _]) rfl A23 (cOwn 3 rfl rfl)) rfl rfl ?_
        refine lV (yLoadA (vs := [_, _]) rfl A23 (cOwn 1 rfl rfl)) rfl rfl ?_
        refine lV (yEqAgg rfl rfl G23 (fun w => Q23 w)) rfl rfl ?_
        refine knownB (t := 90) (c := true) rfl (by simp) ?_
        refine lV (yMove rfl) rfl rfl ?_
        refine lGY rfl rfl rfl (oV (yLoadA (vs := [_, _]) rfl A23 (cOwn 2 rfl rfl)) rfl ?_)
        refine lGY rfl rfl rfl (oV (yLoadA (vs := [_, _]) rfl A23 (cOwn 0 rfl rfl)) rfl ?_)
        refine lGY rfl rfl rfl (oV (yEqAgg rfl rfl G23 (fun w => Q23 w)) rfl ?_)
        refine knownB (t := 94) (c := true) rfl (by simp) ?_
        refine lV (yPickT rfl rfl) rfl rfl ?_
        refine lV (yMove rfl) rfl rfl ?_
        refine lGY rfl rfl rfl (oV (yMove rfl) rfl ?_)
        refine lGY rfl rfl rfl (oV (yMove rfl) rfl ?_)
        refine lGY rfl rfl rfl (oV (yEql rfl rfl) rfl ?_)
        refine knownB (t := 99) (c := true) rfl (by simp) ?_
        refine lV (yPickT rfl rfl) rfl rfl ?_
        refine lV (yMove rfl) rfl rfl ?_
        refine lGY rfl rfl rfl (oV (yMove rfl) rfl ?_)
        refine lGY rfl rfl rfl (oV (yMove rfl) rfl ?_)
        refine lGY rfl rfl rfl (oV (yEql rfl rfl) rfl ?_)
        refine knownB (t := 104) (c := true) rfl (by simp) ?_
        refine lV (yPickT rfl rfl) rfl rfl ?_
        refine lV (yMove rfl) rfl rfl ?_
        refine lGY rfl rfl rfl (oV (yMove rfl) rfl ?_)
        refine lGY rfl rfl rfl (oV (yMove rfl) rfl ?_)
        refine lGY rfl rfl rfl (oV (yEql rfl rfl) rfl ?_)
        refine knownB (t := 109) (c := true) rfl (by simp) ?_
        refine lV (yPickT rfl rfl) rfl rfl ?_
        refine lV (yMove rfl) rfl rfl ?_
        refine lGY rfl rfl rfl (oV (yMove rfl) rfl ?_)
        refine lGY rfl rfl rfl (oV (yMove rfl) rfl ?_)
        refine lGY rfl rfl rfl (oV (yEql rfl rfl) rfl ?_)
        refine knownB (t := 114) (c := true) rfl (by simp) ?_
        refine lV (yPickT rfl rfl) rfl rfl ?_
        refine lV (yMove rfl) rfl rfl ?_
        refine lGY rfl rfl rfl (oV (yMove rfl) rfl ?_)
        refine lGY rfl rfl rfl (oV (yMove rfl) rfl ?_)
        refine lGY rfl rfl rfl (oV (yEql rfl rfl) rfl ?_)
        refine knownB (t := 119) (c := true) rfl (by simp) ?_
        refine lV (yPickT rfl rfl) rfl rfl ?_
        refine lV (yMove rfl) rfl rfl ?_
        refine lGY rfl rfl rfl (oV (yMove rfl) rfl ?_)
        refine lGY rfl rfl rfl (oV (yMove rfl) rfl ?_)
        refine lGY rfl rfl rfl (oV (yEql rfl rfl) rfl ?_)
        refine knownB (t := 124) (c := true) rfl (by simp) ?_
        refine lV (yPickT rfl rfl) rfl rfl ?_
        refine lV (yMove rfl) rfl rfl ?_
        refine lGY rfl rfl rfl (oV (yMove rfl) rfl ?_)
        refine lGY rfl rfl rfl (oV (yMove rfl) rfl ?_)
        refine lGY rfl rfl rfl (oV (yEql rfl rfl) rfl ?_)
        refine knownB (t := 129) (c := true) rfl (by simp) ?_
        refine lV (yPickT rfl rfl) rfl rfl ?_
        refine lV (yMove rfl) rfl rfl ?_
        refine lGY rfl rfl rfl (oV (yMove rfl) rfl ?_)
        refine lGY rfl rfl rfl (oV (yMove rfl) rfl ?_)
        refine lGY rfl rfl rfl (oV (yEql rfl rfl) rfl ?_)
        refine knownB (t := 134) (c := true) rfl (by simp) ?_
        refine lV (yPickT rfl rfl) rfl rfl ?_
        refine lV (yMove rfl) rfl rfl ?_
        refine lGY rfl rfl rfl (oV (yCall rfl .n C14 (fun w hw => alive_any w)) rfl ?_)
        refine lV (yPickT rfl rfl) rfl rfl ?_
        refine lV (yAssign rfl) rfl rfl ?_
        refine lNil ?_
        refine kThen ?_
        refine kRet ?_
        refine fRet rfl (.t rfl .n) (endRet ?_)
        rfl
    · refine lGY rfl rfl rfl (oV (yMove rfl) rfl ?_)
      refine lGN rfl rfl rfl rfl rfl ?_
      refine lGN rfl rfl rfl rfl rfl ?_
      refine lGY rfl rfl rfl (oV (yPickF rfl rfl) rfl ?_)
      refine lV (yPickF rfl rfl) rfl rfl ?_
      refine lNil ?_
      refine kThen ?_
      refine kIfF rfl ?_
      refine kSkip ?_
      refine kThen ?_
      refine kSeq ?_
      have hL := hv h28
      refine kRegion rfl ?_
      refine lV (yLoadA (vs := [_, _, _]) rfl A26 (cOwn 0 rfl rfl)) rfl rfl ?_
      refine lV (yMove rfl) rfl rfl ?_
      refine lV (yMove rfl) rfl rfl ?_
      refine lV (yCall rfl (.c rfl (.c rfl (.c rfl .n))) C24 (fun w hw => find_any y p e n w (hm.eff0 hw))) rfl rfl ?_
      refine lV (yMove rfl) rfl rfl ?_
      refine lV (yExtract rfl rfl) rfl rfl ?_
      refine lV (yExtract rfl rfl) rfl rfl ?_
      refine lV (yExtract rfl rfl) rfl rfl ?_
      refine lE rfl ?_
      refine eAlloc Z23 fun n7 => ?_
      refine lE rfl ?_
      refine eAlloc Z23 fun n8 => ?_
      refine lE rfl ?_
      refine eStoreL 1 rfl rfl rfl rfl K23 rfl (rfl) ?_
      refine lE rfl ?_
      refine eStoreL 0 rfl rfl rfl rfl K23 rfl (rfl) ?_
      refine lV (yAssign rfl) rfl rfl ?_
      refine lNil ?_
      refine kThen ?_
      refine kSeq ?_
      refine kRegion rfl ?_
      refine lV (yLoadA (vs := [_, _, _]) rfl A26 (cOwn 2 rfl rfl)) rfl rfl ?_
      refine lV (yMove rfl) rfl rfl ?_
      refine lV (yMove rfl) rfl rfl ?_
      refine lV (yCall rfl (.c rfl (.c rfl (.c rfl .n))) C25 (fun w hw => rfind_any y p e n w (hm.eff0 hw) hL)) rfl rfl ?_
      refine lV (yMove rfl) rfl rfl ?_
      refine lV (yExtract rfl rfl) rfl rfl ?_
      refine lV (yExtract rfl rfl) rfl rfl ?_
      refine lV (yExtract rfl rfl) rfl rfl ?_
      refine lE rfl ?_
      refine eAlloc Z23 fun n10 => ?_
      refine lE rfl ?_
      refine eAlloc Z23 fun n11 => ?_
      refine lE rfl ?_
      refine eStoreL 1 rfl rfl rfl rfl K23 rfl (rfl) ?_
      refine lE rfl ?_
      refine eStoreL 0 rfl rfl rfl rfl K23 rfl (rfl) ?_
      refine lV (yAssign rfl) rfl rfl ?_
      refine lNil ?_
      refine kThen ?_
      refine kSeq ?_
      refine kRegion rfl ?_
      refine lV (yLoadA (vs := [_, _, _]) rfl A26 (cOwn 4 rfl rfl)) rfl rfl ?_
      refine lV (yCall rfl (.c rfl .n) C26 (fun w hw => clash_any y p w (hm.eff0 hw))) rfl rfl ?_
      refine lV (yMove rfl) rfl rfl ?_
      refine lV (yExtract rfl rfl) rfl rfl ?_
      refine lV (yExtract rfl rfl) rfl rfl ?_
      refine lV (yAssign rfl) rfl rfl ?_
      refine lV (yAssign rfl) rfl rfl ?_
      refine lNil ?_
      refine kThen ?_
      refine kSeq ?_
      refine kRegion rfl ?_
      refine lV (yLoadA (vs := [_, _, _]) rfl A26 (cOwn 4 rfl rfl)) rfl rfl ?_
      refine lV (yCall rfl (.c rfl .n) C27 (fun w hw => rclash_any y p w (hm.eff0 hw) hL)) rfl rfl ?_
      refine lV (yMove rfl) rfl rfl ?_
      refine lV (yExtract rfl rfl) rfl rfl ?_
      refine lV (yExtract rfl rfl) rfl rfl ?_
      refine lV (yAssign rfl) rfl rfl ?_
      refine lV (yAssign rfl) rfl rfl ?_
      refine lNil ?_
      refine kThen ?_
      refine kSeq ?_
      refine kRegion rfl ?_
      refine lV (yLoadA (vs := [_, _, _]) rfl A26 (cOwn 4 rfl rfl)) rfl rfl ?_
      refine lV (yCall rfl (.c rfl .n) C28 (fun w hw => drop_any y p w (hm.eff0 hw))) rfl rfl ?_
      refine lV (yMove rfl) rfl rfl ?_
      refine lV (yExtract rfl rfl) rfl rfl ?_
      refine lV (yExtract rfl rfl) rfl rfl ?_
      refine lV (yAssign rfl) rfl rfl ?_
      refine lV (yAssign rfl) rfl rfl ?_
      refine lNil ?_
      refine kThen ?_
      refine kSeq ?_
      refine kRegion rfl ?_
      refine lV (yLoadA (vs := [_, _, _]) rfl A26 (cOwn 4 rfl rfl)) rfl rfl ?_
      refine lV (yCall rfl (.c rfl .n) C29 (fun w hw => rdrop_any y p w (hm.eff0 hw) hL)) rfl rfl ?_
      refine lV (yMove rfl) rfl rfl ?_
      refine lV (yExtract rfl rfl) rfl rfl ?_
      refine lV (yExtract rfl rfl) rfl rfl ?_
      refine lV (yAssign rfl) rfl rfl ?_
      refine lV (yAssign rfl) rfl rfl ?_
      refine lNil ?_
      refine kThen ?_
      refine kSeq ?_
      refine kRegion rfl ?_
      refine lV (yLoadA (vs := [_, _, _]) rfl A26 (cOwn 4 rfl rfl)) rfl rfl ?_
      refine lV (yCall rfl (.c rfl .n) C30 (fun w hw => poor_any y p w (hm.eff0 hw))) rfl rfl ?_
      refine lV (yMove rfl) rfl rfl ?_
      refine lV (yExtract rfl rfl) rfl rfl ?_
      refine lV (yExtract rfl rfl) rfl rfl ?_
      refine lV (yExtract rfl rfl) rfl rfl ?_
      refine lV (yAssign rfl) rfl rfl ?_
      refine lV (yAssign rfl) rfl rfl ?_
      refine lV (yAssign rfl) rfl rfl ?_
      refine lNil ?_
      refine kThen ?_
      refine kSeq ?_
      refine kRegion rfl ?_
      refine lV (yLoadA (vs := [_, _, _]) rfl A26 (cOwn 4 rfl rfl)) rfl rfl ?_
      refine lV (yCall rfl (.c rfl .n) C31 (fun w hw => rpoor_any y p w (hm.eff0 hw) hL)) rfl rfl ?_
      refine lV (yMove rfl) rfl rfl ?_
      refine lV (yExtract rfl rfl) rfl rfl ?_
      refine lV (yExtract rfl rfl) rfl rfl ?_
      refine lV (yExtract rfl rfl) rfl rfl ?_
      refine lV (yAssign rfl) rfl rfl ?_
      refine lV (yAssign rfl) rfl rfl ?_
      refine lV (yAssign rfl) rfl rfl ?_
      refine lNil ?_
      refine kThen ?_
      refine kSeq ?_
      refine kRegion rfl ?_
      refine lV (yLoadA (vs := [_, _]) rfl A23 (cOwn 3 rfl rfl)) rfl rfl ?_
      refine lV (yLoadA (vs := [_, _]) rfl A23 (cOwn 1 rfl rfl)) rfl rfl ?_
      refine lV (yEqAgg rfl rfl G23 (fun w => Q23 w)) rfl rfl ?_
      refine knownB (t := 90) (c := true) rfl (by simp) ?_
      refine lV (yMove rfl) rfl rfl ?_
      refine lGY rfl rfl rfl (oV (yLoadA (vs := [_, _]) rfl A23 (cOwn 2 rfl rfl)) rfl ?_)
      refine lGY rfl rfl rfl (oV (yLoadA (vs := [_, _]) rfl A23 (cOwn 0 rfl rfl)) rfl ?_)
      refine lGY rfl rfl rfl (oV (yEqAgg rfl rfl G23 (fun w => Q23 w)) rfl ?_)
      refine knownB (t := 94) (c := true) rfl (by simp) ?_
      refine lV (yPickT rfl rfl) rfl rfl ?_
      refine lV (yMove rfl) rfl rfl ?_
      refine lGY rfl rfl rfl (oV (yMove rfl) rfl ?_)
      refine lGY rfl rfl rfl (oV (yMove rfl) rfl ?_)
      refine lGY rfl rfl rfl (oV (yEql rfl rfl) rfl ?_)
      refine knownB (t := 99) (c := true) rfl (by simp) ?_
      refine lV (yPickT rfl rfl) rfl rfl ?_
      refine lV (yMove rfl) rfl rfl ?_
      refine lGY rfl rfl rfl (oV (yMove rfl) rfl ?_)
      refine lGY rfl rfl rfl (oV (yMove rfl) rfl ?_)
      refine lGY rfl rfl rfl (oV (yEql rfl rfl) rfl ?_)
      refine knownB (t := 104) (c := true) rfl (by simp) ?_
      refine lV (yPickT rfl rfl) rfl rfl ?_
      refine lV (yMove rfl) rfl rfl ?_
      refine lGY rfl rfl rfl (oV (yMove rfl) rfl ?_)
      refine lGY rfl rfl rfl (oV (yMove rfl) rfl ?_)
      refine lGY rfl rfl rfl (oV (yEql rfl rfl) rfl ?_)
      refine knownB (t := 109) (c := true) rfl (by simp) ?_
      refine lV (yPickT rfl rfl) rfl rfl ?_
      refine lV (yMove rfl) rfl rfl ?_
      refine lGY rfl rfl rfl (oV (yMove rfl) rfl ?_)
      refine lGY rfl rfl rfl (oV (yMove rfl) rfl ?_)
      refine lGY rfl rfl rfl (oV (yEql rfl rfl) rfl ?_)
      refine knownB (t := 114) (c := true) rfl (by simp) ?_
      refine lV (yPickT rfl rfl) rfl rfl ?_
      refine lV (yMove rfl) rfl rfl ?_
      refine lGY rfl rfl rfl (oV (yMove rfl) rfl ?_)
      refine lGY rfl rfl rfl (oV (yMove rfl) rfl ?_)
      refine lGY rfl rfl rfl (oV (yEql rfl rfl) rfl ?_)
      refine knownB (t := 119) (c := true) rfl (by simp) ?_
      refine lV (yPickT rfl rfl) rfl rfl ?_
      refine lV (yMove rfl) rfl rfl ?_
      refine lGY rfl rfl rfl (oV (yMove rfl) rfl ?_)
      refine lGY rfl rfl rfl (oV (yMove rfl) rfl ?_)
      refine lGY rfl rfl rfl (oV (yEql rfl rfl) rfl ?_)
      refine knownB (t := 124) (c := true) rfl (by simp) ?_
      refine lV (yPickT rfl rfl) rfl rfl ?_
      refine lV (yMove rfl) rfl rfl ?_
      refine lGY rfl rfl rfl (oV (yMove rfl) rfl ?_)
      refine lGY rfl rfl rfl (oV (yMove rfl) rfl ?_)
      refine lGY rfl rfl rfl (oV (yEql rfl rfl) rfl ?_)
      refine knownB (t := 129) (c := true) rfl (by simp) ?_
      refine lV (yPickT rfl rfl) rfl rfl ?_
      refine lV (yMove rfl) rfl rfl ?_
      refine lGY rfl rfl rfl (oV (yMove rfl) rfl ?_)
      refine lGY rfl rfl rfl (oV (yMove rfl) rfl ?_)
      refine lGY rfl rfl rfl (oV (yEql rfl rfl) rfl ?_)
      refine knownB (t := 134) (c := true) rfl (by simp) ?_
      refine lV (yPickT rfl rfl) rfl rfl ?_
      refine lV (yMove rfl) rfl rfl ?_
      refine lGY rfl rfl rfl (oV (yCall rfl .n C14 (fun w hw => alive_any w)) rfl ?_)
      refine lV (yPickT rfl rfl) rfl rfl ?_
      refine lV (yAssign rfl) rfl rfl ?_
      refine lNil ?_
      refine kThen ?_
      refine kRet ?_
      refine fRet rfl (.t rfl .n) (endRet ?_)
      rfl
end Go.Proofs.Ytlcdohhhhlhpmaa
