/-
  Walk: the example.
-/
import Derived.Test.YtdpeifbejeflhaaVv
namespace Go.Proofs.Ytdpeifbejeflhaa
open ZW

def shA : Shl := ⟨5, [3, 0, 3, 4, 0], (2, 4), [⟨0, 1, true⟩, ⟨1, 2, false⟩, ⟨3, 4, false⟩]⟩
def fA : Fld := ⟨[⟨(0, 1), (0, 0), 5, 0⟩, ⟨(1, 2), (0, 0), 9, 0⟩], (0, 2), (0, 0), (0, 9), 0, 1, 0⟩
theorem shA_ok : ShlOk shA := by
  have h : decide (ShlOk shA) = true := by kernel_rfl
  exact of_decide_eq_true h
theorem fA_ok : FldOk fA := by
  have h : decide (FldOk fA) = true := by kernel_rfl
  exact of_decide_eq_true h
theorem shA_can : canB shA = true := by kernel_rfl
theorem shA_fst : fstL shA = [0, 0, 2, 3, 0] := by kernel_rfl
theorem fA_short : shortE fA = (3, 0) := by kernel_rfl
set_option maxRecDepth 100000 in
set_option maxHeartbeats 2000000 in
theorem awake_any (w : World) : Calls Try.prog 5 [].toArray w (Ret w (.bool true)) := by
  refine fEnter Try.func5 rfl Try.ntmps5 rfl ?_
  refine kSeq ?_
  refine kRegion rfl ?_
  refine lV (yAssign rfl) rfl rfl ?_
  refine lNil ?_
  refine kThen ?_
  refine kSeq ?_
  refine kRegion rfl ?_
  refine lE rfl ?_
  refine eBuildSlice (.c rfl (.c rfl (.c rfl (.c rfl (.c rfl .n))))) (fun w => BS22_5_0_1_2_3_4 w) fun n7 => ?_
  refine lV (yBuild (.c rfl (.c rfl .n)) (fun w => B24_0_1 w)) rfl rfl ?_
  refine lV (yBuild (.c rfl (.c rfl (.c rfl .n))) (fun w => B47_0_1_2 w)) rfl rfl ?_
  refine lV (yBuild (.c rfl (.c rfl .n)) (fun w => B47_0_1 w)) rfl rfl ?_
  refine lV (yBuild (.c rfl (.c rfl .n)) (fun w => B47_0_1 w)) rfl rfl ?_
  refine lE rfl ?_
  refine eBuildSlice (.c rfl (.c rfl (.c rfl .n))) (fun w => BS25_3_0_1_2 w) fun n12 => ?_
  refine lV (yBuild (.c rfl (.c rfl (.c rfl (.c rfl .n)))) (fun w => B27_0_1_2_3 w)) rfl rfl ?_
  refine lE rfl ?_
  refine eAlloc Z27 fun n1 => ?_
  refine lE rfl ?_
  refine eStoreL 0 rfl rfl rfl rfl K27 rfl (rfl) ?_
  refine lNil ?_
  refine kThen ?_
  refine kSeq ?_
  refine kRegion rfl ?_
  refine lV (yLoadA (vs := [_, _, _, _, _]) rfl A27 (cOwn 0 rfl rfl)) rfl rfl ?_
  refine lE rfl ?_
  refine eCallO rfl (.c rfl .n) C6 (fun w hw => first_ok (some ⟨n7, 0, none⟩, 5) (some ⟨n12, 0, none⟩, 3) shA w ⟨sleRows (f := rowI) (fun _ => rfl) 0 [3, 0, 3, 4, 0] rfl (hw.blkAt 2 rfl), sleRows (f := rowNo) (fun _ => rfl) note0 [⟨0, 1, true⟩, ⟨1, 2, false⟩, ⟨3, 4, false⟩] rfl (hw.blkAt 1 rfl)⟩ shA_ok shA_can) fun g hg => ?_
  rw [shA_fst] at hg ⊢
  refine lV (yMove rfl) rfl rfl ?_
  refine lV (yExtract rfl rfl) rfl rfl ?_
  refine lV (yExtract rfl rfl) rfl rfl ?_
  refine lV (yAssign rfl) rfl rfl ?_
  refine lV (yAssign rfl) rfl rfl ?_
  refine lNil ?_
  refine kThen ?_
  refine kSeq ?_
  refine kRegion rfl ?_
  refine lV (yBuild (.c rfl .n) (fun w => B24_1 w)) rfl rfl ?_
  refine lV (yBuild (.c rfl (.c rfl .n)) (fun w => B37_0_2 w)) rfl rfl ?_
  refine lV (yBuild (.c rfl (.c rfl .n)) (fun w => B24_0_1 w)) rfl rfl ?_
  refine lV (yBuild (.c rfl (.c rfl .n)) (fun w => B37_0_2 w)) rfl rfl ?_
  refine lE rfl ?_
  refine eBuildSlice (.c rfl (.c rfl .n)) (fun w => BS28_2_0_1 w) fun n23 => ?_
  refine lV (yBuild (.c rfl .n) (fun w => B24_1 w)) rfl rfl ?_
  refine lV (yBuild (.c rfl .n) (fun w => B24_1 w)) rfl rfl ?_
  refine lV (yBuild (.c rfl (.c rfl (.c rfl (.c rfl .n)))) (fun w => B30_0_1_3_5 w)) rfl rfl ?_
  refine lE rfl ?_
  refine eAlloc Z30 fun n4 => ?_
  refine lE rfl ?_
  refine eStoreL 0 rfl rfl rfl rfl K30 rfl (rfl) ?_
  refine lNil ?_
  refine kThen ?_
  refine kSeq ?_
  refine kRegion rfl ?_
  refine lV (yLoadA (vs := [_, _, _, _, _, _, _, _, _, _]) rfl A30 (cOwn 0 rfl rfl)) rfl rfl ?_
  refine lV (yCall rfl (.c rfl .n) C8 (fun w hw => shortest_any (some ⟨n23, 0, none⟩, 2) fA w (sleRows (f := rowY) (fun _ => rfl) sky0 [⟨(0, 1), (0, 0), 5, 0⟩, ⟨(1, 2), (0, 0), 9, 0⟩] rfl (hw.blkAt 1 rfl)) fA_ok (.inl rfl))) rfl rfl ?_
  refine same (t := 29) (u := outI (3, 0)) rfl (congrArg outI fA_short) ?_
  refine lV (yMove rfl) rfl rfl ?_
  refine lV (yExtract rfl rfl) rfl rfl ?_
  refine lV (yExtract rfl rfl) rfl rfl ?_
  refine lV (yAssign rfl) rfl rfl ?_
  refine lV (yAssign rfl) rfl rfl ?_
  refine lNil ?_
  refine kThen ?_
  refine kSeq ?_
  refine kRegion rfl ?_
  refine lV (yMove rfl) rfl rfl ?_
  refine lE rfl ?_
  refine eBuildSlice (.c rfl (.c rfl (.c rfl (.c rfl (.c rfl .n))))) (fun w => BS22_5_0_1_2_3_4 w) fun n33 => ?_
  refine lV (yCall rfl (.c rfl (.c rfl .n)) C13 (fun w hw => ints_any (osA g, osC g) (some ⟨n33, 0, none⟩, 5) [0, 0, 2, 3, 0] [0, 0, 2, 3, 0] w (OS.rowsE (f := rowI) (e := 3) 0 hg hw (.d 0 (.d 0 (.d 0 (.d 0 (.d 0 (.d 0 .r))))))) (sleRows (f := rowI) (fun _ => rfl) 0 [0, 0, 2, 3, 0] rfl (hw.blkAt 0 rfl)) (by decide))) rfl rfl ?_
  refine knownB (t := 34) (c := true) rfl (by decide) ?_
  refine lV (yMove rfl) rfl rfl ?_
  refine lGY rfl rfl rfl (oV (yMove rfl) rfl ?_)
  refine lGY rfl rfl rfl (oV (yEql rfl rfl) rfl ?_)
  refine known (t := 37) rfl (rfl) ?_
  refine lV (yPickT rfl rfl) rfl rfl ?_
  refine lV (yMove rfl) rfl rfl ?_
  refine lGY rfl rfl rfl (oV (yMove rfl) rfl ?_)
  refine lGY rfl rfl rfl (oV (yEql rfl rfl) rfl ?_)
  refine known (t := 41) rfl (rfl) ?_
  refine lV (yPickT rfl rfl) rfl rfl ?_
  refine lV (yMove rfl) rfl rfl ?_
  refine lGY rfl rfl rfl (oV (yMove rfl) rfl ?_)
  refine lGY rfl rfl rfl (oV (yEql rfl rfl) rfl ?_)
  refine known (t := 45) rfl (rfl) ?_
  refine lV (yPickT rfl rfl) rfl rfl ?_
  refine lV (yAssign rfl) rfl rfl ?_
  refine lNil ?_
  refine kThen ?_
  refine kRet ?_
  refine fRet rfl (.t rfl .n) (endRet ?_)
  rfl
end Go.Proofs.Ytdpeifbejeflhaa
