/-
  Walks: can the stars of a set be right, as the laws ask.
-/
import Derived.Test.YtlcdohhhhlhpmaaCc
import Derived.Test.YtlcdohhhhlhpmaaBc
namespace Go.Proofs.Ytlcdohhhhlhpmaa
open ZW

set_option maxRecDepth 100000 in
theorem pcan_any (y : Option Addr × Nat) (p : Plt) (bn set : Nat) (w : World) (hbn : w.heap[bn]? = some (blk (pltC y p) 26)) (hm : InP w y p) (hp : PltOk p) (hs : setOk p set) (b : Bool) (hb : b = true ↔ scalesP p set ≠ []) :
    Calls Try.prog 41 [i64 (set : Nat), .pointer (some ⟨bn, 0, none⟩)].toArray w (Ret w (.bool b)) := by
  have hn := hp.n
  have hlt := setOk_lt hs hn
  refine fEnter Try.func41 rfl Try.ntmps41 rfl ?_
  refine kSeq ?_
  refine kRegion rfl ?_
  refine lV (yAssign rfl) rfl rfl ?_
  refine lNil ?_
  refine kThen ?_
  refine kSeq ?_
  refine kRegion rfl ?_
  refine lV (yLoadA (vs := [_, _, _]) rfl A26 (cOldB (hbn) rfl)) rfl rfl ?_
  refine lV (yMove rfl) rfl rfl ?_
  refine lE rfl ?_
  refine eCallO rfl (.c rfl (.c rfl .n)) C42 (fun w hw => part_any y p set w (hm.eff0 hw) (by omega) (by omega)) fun g hg => ?_
  refine lV (yCall rfl (.c rfl .n) C15 (fun w hw => scale_any (osA g, osC g) (partP p set) w (OS.rowsE (f := rowS) star0 hg hw .r))) rfl rfl ?_
  refine lV (yMove rfl) rfl rfl ?_
  refine lV (yExtract rfl rfl) rfl rfl ?_
  refine lV (yExtract rfl rfl) rfl rfl ?_
  refine lE rfl ?_
  refine eAlloc Z23 fun n4 => ?_
  refine lE rfl ?_
  refine eStoreL 0 rfl rfl rfl rfl K23 rfl (rfl) ?_
  refine lV (yAssign rfl) rfl rfl ?_
  refine lNil ?_
  refine kThen ?_
  refine kSeq ?_
  refine kRegion rfl ?_
  refine lV (yMove rfl) rfl rfl ?_
  refine lV (yEql rfl rfl) rfl rfl ?_
  refine knownB (t := 14) (c := b) rfl (by rw [Bool.eq_iff_iff, decide_eq_true_eq, hb]; exact part_scale hp hs) ?_
  refine lV (yAssign rfl) rfl rfl ?_
  refine lNil ?_
  refine kThen ?_
  refine kRet ?_
  refine fRet rfl (.t rfl .n) (endRet ?_)
  rfl
end Go.Proofs.Ytlcdohhhhlhpmaa
