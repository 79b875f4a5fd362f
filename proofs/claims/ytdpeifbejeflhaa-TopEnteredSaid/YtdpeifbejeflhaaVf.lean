/-
  Walks: numbers are sorted, by the library's ways.
-/
import Derived.Test.YtdpeifbejeflhaaVe
namespace Go.Proofs.Ytdpeifbejeflhaa
open ZW

set_option maxRecDepth 100000 in
theorem pdq_any (n c : Nat) (l : List Int) (rest : List Value) (k : Int) (w : World) (hb : w.heap[n]? = some (blk (l.map i64 ++ rest) 3)) (hl : l.length ≤ 12) :
    Calls Try.prog 70 [.slice (some ⟨n, 0, none⟩) l.length c, i64 0, i64 (l.length : Nat), i64 k].toArray w
      (RetX w (fun l' : List Int => l'.length = l.length ∧ (∀ d, d ∈ l' ↔ d ∈ l) ∧ SrtTo l' l.length) (fun _ => .tuple #[]) (fun l' => [(n, blk (l'.map i64 ++ rest) 3)]) (fun _ => [])) := by
  refine fEnterM (Eff.one hb) Try.func70 rfl Try.ntmps70 rfl ?_
  refine kSeq ?_
  refine kRegion rfl ?_
  refine lV (yAssign rfl) rfl rfl ?_
  refine lNil ?_
  refine kThen ?_
  refine kSeq ?_
  refine kRegion rfl ?_
  refine lV (yAssign rfl) rfl rfl ?_
  refine lNil ?_
  refine kThen ?_
  refine kBlock ?_
  refine kLoopX (ι := Unit) (fun _ => True) (fun _ => []) [(0, _), (1, _), (2, _), (3, _)] (fun _ => [(n, blk (l.map i64 ++ rest) 3)]) (fun _ => []) [] (fun _ => 0) () (trivial) rfl .n (.c rfl (.c rfl (.c rfl (.c rfl .n)))) .n ?_
  rintro _ _
  refine kBlock ?_
  refine kSeq ?_
  refine kRegion rfl ?_
  refine lV (yMove rfl) rfl rfl ?_
  refine lV (yMove rfl) rfl rfl ?_
  refine lV (ySub rfl rfl (by omega)) rfl rfl ?_
  refine lV (yAssign rfl) rfl rfl ?_
  refine lNil ?_
  refine kThen ?_
  refine kSeq ?_
  refine kSeq ?_
  refine kRegion rfl ?_
  refine lV (yMove rfl) rfl rfl ?_
  refine lV (yLeq rfl rfl) rfl rfl ?_
  refine known (t := 23) rfl (by omega) ?_
  refine lNil ?_
  refine kThen ?_
  refine kIfT rfl ?_
  refine kSeq ?_
  refine kRegion rfl ?_
  refine lV (yMove rfl) rfl rfl ?_
  refine lV (yMove rfl) rfl rfl ?_
  refine lV (yMove rfl) rfl rfl ?_
  refine lE rfl ?_
  refine eCallM (fun l' => [(n, blk (l'.map i64 ++ rest) 3)]) (fun _ => []) rfl (.c rfl (.c rfl (.c rfl .n))) C75 (fun w hw => isort_any n c l rest w (hw.blkAt 0 rfl) hl) (fun l' w w' _ h k => by simpa [upd] using h.wroteM (i := 0) rfl k) fun l' hl' => ?_
  refine lNil ?_
  refine kThen ?_
  refine kRet ?_
  refine kThenR ?_
  refine kInR ?_
  refine kThenR ?_
  refine kInR ?_
  refine fRet rfl .n ?_
  exact endX l' hl' rfl rfl .n
set_option maxRecDepth 100000 in
theorem sort_any (n c : Nat) (l : List Int) (rest : List Value) (w : World) (hb : w.heap[n]? = some (blk (l.map i64 ++ rest) 3)) (hl : l.length ≤ 12) :
    Calls Try.prog 54 [.slice (some ⟨n, 0, none⟩) l.length c].toArray w
      (RetX w (fun l' : List Int => l'.length = l.length ∧ (∀ d, d ∈ l' ↔ d ∈ l) ∧ SrtTo l' l.length) (fun _ => .tuple #[]) (fun l' => [(n, blk (l'.map i64 ++ rest) 3)]) (fun _ => [])) := by
  refine fEnterM (Eff.one hb) Try.func54 rfl Try.ntmps54 rfl ?_
  refine kSeq ?_
  refine kRegion rfl ?_
  refine lV (yMove rfl) rfl rfl ?_
  refine lV (yLen rfl S22) rfl rfl ?_
  refine lV (yAssign rfl) rfl rfl ?_
  refine lNil ?_
  refine kThen ?_
  refine kRegion rfl ?_
  refine lV (yMove rfl) rfl rfl ?_
  refine lV (yMove rfl) rfl rfl ?_
  refine lV (yMove rfl) rfl rfl ?_
  refine lV (yConvInt rfl U3 U57 (conv_ok (by omega))) rfl rfl ?_
  refine lV (yCall rfl (.c rfl .n) C71 (fun w hw => len_any l.length w (by omega))) rfl rfl ?_
  refine lE rfl ?_
  refine eCallM (fun l' => [(n, blk (l'.map i64 ++ rest) 3)]) (fun _ => []) rfl (.c rfl (.c rfl (.c rfl (.c rfl .n)))) C70 (fun w hw => pdq_any n c l rest _ w (hw.blkAt 0 rfl) hl) (fun l' w w' _ h k => by simpa [upd] using h.wroteM (i := 0) rfl k) fun l' hl' => ?_
  refine lNil ?_
  refine fEnd rfl .n ?_
  exact endX l' hl' rfl rfl .n
set_option maxRecDepth 100000 in
theorem isort_nil (a : Option Addr) (c : Nat) (w : World) : Calls Try.prog 75 [.slice a 0 c, i64 0, i64 0].toArray w (Ret w (.tuple #[])) := by
  refine fEnter Try.func75 rfl Try.ntmps75 rfl ?_
  refine kSeq ?_
  refine kRegion rfl ?_
  refine lV (yMove rfl) rfl rfl ?_
  refine lV (yAdd rfl rfl (by omega)) rfl rfl ?_
  refine lV (yAssign rfl) rfl rfl ?_
  refine lNil ?_
  refine kThen ?_
  refine kBlock ?_
  refine kLoopX (ι := Unit) (fun _ => True) (fun _ => [(6, i64 1)]) [(0, _), (1, _), (2, _), (8, _), (9, _)] (fun _ => []) (fun _ => []) [] (fun _ => 0) () (trivial) rfl (.c rfl .n) (.c rfl (.c rfl (.c rfl (.c rfl (.c rfl .n))))) .n ?_
  rintro _ _
  refine kSeq ?_
  refine kSeq ?_
  refine kRegion rfl ?_
  refine lV (yMove rfl) rfl rfl ?_
  refine lV (yMove rfl) rfl rfl ?_
  refine lV (yLss rfl rfl) rfl rfl ?_
  refine knownN (t := 12) rfl (by omega) ?_
  refine lNil ?_
  refine kThen ?_
  refine kIfF rfl ?_
  refine kExit ?_
  refine kThenX ?_
  refine kThenX ?_
  refine kInX ?_
  refine fEnd rfl .n (endRet ?_)
  rfl
set_option maxRecDepth 100000 in
theorem pdq_nil (a : Option Addr) (c : Nat) (k : Int) (w : World) : Calls Try.prog 70 [.slice a 0 c, i64 0, i64 0, i64 k].toArray w (Ret w (.tuple #[])) := by
  refine fEnter Try.func70 rfl Try.ntmps70 rfl ?_
  refine kSeq ?_
  refine kRegion rfl ?_
  refine lV (yAssign rfl) rfl rfl ?_
  refine lNil ?_
  refine kThen ?_
  refine kSeq ?_
  refine kRegion rfl ?_
  refine lV (yAssign rfl) rfl rfl ?_
  refine lNil ?_
  refine kThen ?_
  refine kBlock ?_
  refine kLoopX (ι := Unit) (fun _ => True) (fun _ => []) [(0, _), (1, _), (2, _), (3, _)] (fun _ => []) (fun _ => []) [] (fun _ => 0) () (trivial) rfl .n (.c rfl (.c rfl (.c rfl (.c rfl .n)))) .n ?_
  rintro _ _
  refine kBlock ?_
  refine kSeq ?_
  refine kRegion rfl ?_
  refine lV (yMove rfl) rfl rfl ?_
  refine lV (yMove rfl) rfl rfl ?_
  refine lV (ySub rfl rfl (by omega)) rfl rfl ?_
  refine lV (yAssign rfl) rfl rfl ?_
  refine lNil ?_
  refine kThen ?_
  refine kSeq ?_
  refine kSeq ?_
  refine kRegion rfl ?_
  refine lV (yMove rfl) rfl rfl ?_
  refine lV (yLeq rfl rfl) rfl rfl ?_
  refine known (t := 23) rfl (by omega) ?_
  refine lNil ?_
  refine kThen ?_
  refine kIfT rfl ?_
  refine kSeq ?_
  refine kRegion rfl ?_
  refine lV (yMove rfl) rfl rfl ?_
  refine lV (yMove rfl) rfl rfl ?_
  refine lV (yMove rfl) rfl rfl ?_
  refine lV (yCall rfl (.c rfl (.c rfl (.c rfl .n))) C75 (fun w hw => isort_nil a c w)) rfl rfl ?_
  refine lNil ?_
  refine kThen ?_
  refine kRet ?_
  refine kThenR ?_
  refine kInR ?_
  refine kThenR ?_
  refine kInR ?_
  refine fRet rfl .n (endRet ?_)
  rfl
set_option maxRecDepth 100000 in
theorem sort_nil (a : Option Addr) (c : Nat) (w : World) : Calls Try.prog 54 [.slice a 0 c].toArray w (Ret w (.tuple #[])) := by
  refine fEnter Try.func54 rfl Try.ntmps54 rfl ?_
  refine kSeq ?_
  refine kRegion rfl ?_
  refine lV (yMove rfl) rfl rfl ?_
  refine lV (yLen rfl S22) rfl rfl ?_
  refine lV (yAssign rfl) rfl rfl ?_
  refine lNil ?_
  refine kThen ?_
  refine kRegion rfl ?_
  refine lV (yMove rfl) rfl rfl ?_
  refine lV (yMove rfl) rfl rfl ?_
  refine lV (yMove rfl) rfl rfl ?_
  refine lV (yConvInt rfl U3 U57 (conv_ok (by omega))) rfl rfl ?_
  refine lV (yCall rfl (.c rfl .n) C71 (fun w hw => len_any 0 w (by omega))) rfl rfl ?_
  refine lV (yCall rfl (.c rfl (.c rfl (.c rfl (.c rfl .n)))) C70 (fun w hw => pdq_nil a c _ w)) rfl rfl ?_
  refine lNil ?_
  refine fEnd rfl .n (endRet ?_)
  rfl
end Go.Proofs.Ytdpeifbejeflhaa
