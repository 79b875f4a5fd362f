/-
  Walks: both directions; where the corner can be.
-/
import Derived.Test.YtlcdohhhhlhpmaaAc
namespace Go.Proofs.Ytlcdohhhhlhpmaa
open ZW

/-- Along a direction: where the image of a star is, where it is said to be. -/
def imgD (d : Bool) (s : StarV) : Int × Int := if d then s.y else s.x
def saidD (d : Bool) (s : StarV) : Int × Int := if d then s.n else s.e
set_option maxRecDepth 100000 in
theorem wx_any (s : StarV) (w : World) : Calls Try.prog 107 [.agg (rowS s).toArray].toArray w (Ret w (.agg (rowE s.x).toArray)) := by
  refine fEnter Try.func107 rfl Try.ntmps107 rfl ?_
  refine kSeq ?_
  refine kRegion rfl ?_
  refine lE rfl ?_
  refine eBoxA rfl fun n1 => ?_
  refine lE rfl ?_
  refine eAlloc Z23 fun n2 => ?_
  refine lNil ?_
  refine kThen ?_
  refine kSeq ?_
  refine kRegion rfl ?_
  refine lV (yFieldAddr rfl F58_0) rfl rfl ?_
  refine lV (yLoadA (vs := [_, _]) rfl A23 (cOwn 1 rfl rfl)) rfl rfl ?_
  refine lE rfl ?_
  refine eStoreL 0 rfl rfl rfl rfl K23 rfl (rfl) ?_
  refine lNil ?_
  refine kThen ?_
  refine kRet ?_
  refine fRet rfl (.cA (us := [_, _]) rfl A23 (cOwn 0 rfl rfl) .n) (endRet ?_)
  rfl
set_option maxRecDepth 100000 in
theorem we_any (s : StarV) (w : World) : Calls Try.prog 108 [.agg (rowS s).toArray].toArray w (Ret w (.agg (rowE s.e).toArray)) := by
  refine fEnter Try.func108 rfl Try.ntmps108 rfl ?_
  refine kSeq ?_
  refine kRegion rfl ?_
  refine lE rfl ?_
  refine eBoxA rfl fun n1 => ?_
  refine lE rfl ?_
  refine eAlloc Z23 fun n2 => ?_
  refine lNil ?_
  refine kThen ?_
  refine kSeq ?_
  refine kRegion rfl ?_
  refine lV (yFieldAddr rfl F58_3) rfl rfl ?_
  refine lV (yLoadA (vs := [_, _]) rfl A23 (cOwn 1 rfl rfl)) rfl rfl ?_
  refine lE rfl ?_
  refine eStoreL 0 rfl rfl rfl rfl K23 rfl (rfl) ?_
  refine lNil ?_
  refine kThen ?_
  refine kRet ?_
  refine fRet rfl (.cA (us := [_, _]) rfl A23 (cOwn 0 rfl rfl) .n) (endRet ?_)
  rfl
set_option maxRecDepth 100000 in
theorem wy_any (s : StarV) (w : World) : Calls Try.prog 109 [.agg (rowS s).toArray].toArray w (Ret w (.agg (rowE s.y).toArray)) := by
  refine fEnter Try.func109 rfl Try.ntmps109 rfl ?_
  refine kSeq ?_
  refine kRegion rfl ?_
  refine lE rfl ?_
  refine eBoxA rfl fun n1 => ?_
  refine lE rfl ?_
  refine eAlloc Z23 fun n2 => ?_
  refine lNil ?_
  refine kThen ?_
  refine kSeq ?_
  refine kRegion rfl ?_
  refine lV (yFieldAddr rfl F58_1) rfl rfl ?_
  refine lV (yLoadA (vs := [_, _]) rfl A23 (cOwn 1 rfl rfl)) rfl rfl ?_
  refine lE rfl ?_
  refine eStoreL 0 rfl rfl rfl rfl K23 rfl (rfl) ?_
  refine lNil ?_
  refine kThen ?_
  refine kRet ?_
  refine fRet rfl (.cA (us := [_, _]) rfl A23 (cOwn 0 rfl rfl) .n) (endRet ?_)
  rfl
set_option maxRecDepth 100000 in
theorem wn_any (s : StarV) (w : World) : Calls Try.prog 110 [.agg (rowS s).toArray].toArray w (Ret w (.agg (rowE s.n).toArray)) := by
  refine fEnter Try.func110 rfl Try.ntmps110 rfl ?_
  refine kSeq ?_
  refine kRegion rfl ?_
  refine lE rfl ?_
  refine eBoxA rfl fun n1 => ?_
  refine lE rfl ?_
  refine eAlloc Z23 fun n2 => ?_
  refine lNil ?_
  refine kThen ?_
  refine kSeq ?_
  refine kRegion rfl ?_
  refine lV (yFieldAddr rfl F58_4) rfl rfl ?_
  refine lV (yLoadA (vs := [_, _]) rfl A23 (cOwn 1 rfl rfl)) rfl rfl ?_
  refine lE rfl ?_
  refine eStoreL 0 rfl rfl rfl rfl K23 rfl (rfl) ?_
  refine lNil ?_
  refine kThen ?_
  refine kRet ?_
  refine fRet rfl (.cA (us := [_, _]) rfl A23 (cOwn 0 rfl rfl) .n) (endRet ?_)
  rfl
def imgF (d : Bool) : FuncId := if d then 109 else 107
def saidF (d : Bool) : FuncId := if d then 110 else 108
theorem img_c : ∀ d, callT Try.prog (imgF d) = true
  | false => C107
  | true => C109
theorem said_c : ∀ d, callT Try.prog (saidF d) = true
  | false => C108
  | true => C110
theorem img_any : ∀ (d : Bool) (s : StarV) (w : World), Calls Try.prog (imgF d) [.agg (rowS s).toArray].toArray w (Ret w (.agg (rowE (imgD d s)).toArray))
  | false, s, w => wx_any s w
  | true, s, w => wy_any s w
theorem said_any : ∀ (d : Bool) (s : StarV) (w : World), Calls Try.prog (saidF d) [.agg (rowS s).toArray].toArray w (Ret w (.agg (rowE (saidD d s)).toArray))
  | false, s, w => we_any s w
  | true, s, w => wn_any s w
/-- A plate along a direction. -/
abbrev wayC (pb : Nat) (d : Bool) : List Value := [.pointer (some ⟨pb, 0, none⟩), .func (.func (imgF d)) [].toArray [].toArray, .func (.func (saidF d)) [].toArray [].toArray]
set_option maxRecDepth 100000 in
theorem ways_any (pb : Nat) (w : World) : Calls Try.prog 69 [.pointer (some ⟨pb, 0, none⟩)].toArray w (Ret w (.agg (wayC pb false ++ wayC pb true).toArray)) := by
  refine fEnter Try.func69 rfl Try.ntmps69 rfl ?_
  refine kSeq ?_
  refine kRegion rfl ?_
  refine lE rfl ?_
  refine eAlloc Z104 fun n2 => ?_
  refine lNil ?_
  refine kThen ?_
  refine kSeq ?_
  refine kRegion rfl ?_
  refine lV (yMove rfl) rfl rfl ?_
  refine lV (yBuild (.c rfl (.c rfl (.c rfl .n))) (fun w => B103_0_1_2 w)) rfl rfl ?_
  refine lV (yMove rfl) rfl rfl ?_
  refine lV (yBuild (.c rfl (.c rfl (.c rfl .n))) (fun w => B103_0_1_2 w)) rfl rfl ?_
  refine lV (yBuild (.c rfl (.c rfl .n)) (fun w => B104_0_1 w)) rfl rfl ?_
  refine lE rfl ?_
  refine eStoreL 0 rfl rfl rfl rfl K104 rfl (rfl) ?_
  refine lNil ?_
  refine kThen ?_
  refine kRet ?_
  refine fRet rfl (.cA (us := [_, _, _, _, _, _]) rfl A104 (cOwn 0 rfl rfl) .n) (endRet ?_)
  rfl
def longP (sc : Int) (x : Int × Int) : Int × Int := (sc * x.1 / 1000, sc * x.2 / 1000)
theorem mul_bd {a b : Int} (ha : 0 ≤ a ∧ a ≤ 1000) (hb : 0 ≤ b ∧ b ≤ 32768) : 0 ≤ a * b ∧ a * b ≤ 32768000 := by
  have h1 := Int.mul_nonneg ha.1 hb.1
  have h2 : a * b ≤ 1000 * 32768 := Int.mul_le_mul ha.2 hb.2 hb.1 (by omega)
  omega
theorem img_ok {d : Bool} {s : StarV} (h : starOk s) : spanOk 0 32768 (imgD d s) := by cases d; (· exact h.1); exact h.2.1
theorem said_ok {d : Bool} {s : StarV} (h : starOk s) (hk : s.k = true) : spanOk (-1048576) 1048576 (saidD d s) := by cases d; (· exact (h.2.2 hk).1); exact (h.2.2 hk).2

set_option maxRecDepth 100000 in
theorem long_any (pb : Nat) (d : Bool) (sc : Int) (s : StarV) (w : World) (hsc : 0 ≤ sc ∧ sc ≤ 1000) (hs : spanOk 0 32768 (imgD d s)) : Calls Try.prog 111 [.agg (wayC pb d).toArray, i64 sc, .agg (rowS s).toArray].toArray w (Ret w (.agg (rowE (longP sc (imgD d s))).toArray)) := by
  have h1 := mul_bd hsc (b := (imgD d s).1) (by unfold spanOk at hs; omega)
  have h2 := mul_bd hsc (b := (imgD d s).2) (by unfold spanOk at hs; omega)
  refine fEnter Try.func111 rfl Try.ntmps111 rfl ?_
  refine kSeq ?_
  refine kRegion rfl ?_
  refine lE rfl ?_
  refine eBoxA rfl fun n3 => ?_
  refine lE rfl ?_
  refine eBoxA rfl fun n5 => ?_
  refine lE rfl ?_
  refine eAlloc Z23 fun n6 => ?_
  refine lNil ?_
  refine kThen ?_
  refine kSeq ?_
  refine kRegion rfl ?_
  refine lV (yFieldAddr rfl F103_1) rfl rfl ?_
  refine lV (yLoad1 rfl O101 (cOwn 2 rfl rfl)) rfl rfl ?_
  refine lV (yLoadA (vs := [_, _, _, _, _, _, _, _, _]) rfl A58 (cOwn 1 rfl rfl)) rfl rfl ?_
  refine lV (yCall rfl (.c rfl .n) (img_c d) (fun w hw => img_any d s w)) rfl rfl ?_
  refine lE rfl ?_
  refine eAlloc Z23 fun n7 => ?_
  refine lE rfl ?_
  refine eStoreL 0 rfl rfl rfl rfl K23 rfl (rfl) ?_
  refine lNil ?_
  refine kThen ?_
  refine kSeq ?_
  refine kRegion rfl ?_
  refine lV (yMove rfl) rfl rfl ?_
  refine lV (yFieldAddr rfl F23_0) rfl rfl ?_
  refine lV (yLoad1 rfl O3 (cOwn 0 rfl rfl)) rfl rfl ?_
  refine lV (yMul rfl rfl (by omega)) rfl rfl ?_
  refine lV (yQuo rfl rfl (by omega) (by omega) (by omega)) rfl rfl ?_
  refine lV (yMove rfl) rfl rfl ?_
  refine lV (yFieldAddr rfl F23_1) rfl rfl ?_
  refine lV (yLoad1 rfl O3 (cOwn 0 rfl rfl)) rfl rfl ?_
  refine lV (yMul rfl rfl (by omega)) rfl rfl ?_
  refine lV (yQuo rfl rfl (by omega) (by omega) (by omega)) rfl rfl ?_
  refine lV (yBuild (.c rfl (.c rfl .n)) (fun w => B23_0_1 w)) rfl rfl ?_
  refine lE rfl ?_
  refine eStoreL 1 rfl rfl rfl rfl K23 rfl (rfl) ?_
  refine lNil ?_
  refine kThen ?_
  refine kRet ?_
  refine fRet rfl (.cA (us := [_, _]) rfl A23 (cOwn 1 rfl rfl) .n) (endRet ?_)
  rfl
end Go.Proofs.Ytlcdohhhhlhpmaa
