/-
  Walks: the document's corners and places.
-/
import Derived.Test.YtlcdohhhhlhpmaaHa
namespace Go.Proofs.Ytlcdohhhhlhpmaa
open ZW

set_option maxRecDepth 100000 in
theorem rlong_any (sc : Int) (x : Int × Int) (w : World) (hsc : 0 ≤ sc ∧ sc ≤ 1000) (hx : spanOk 0 32768 x) : Calls Try.prog 104 [i64 sc, .agg (rowE x).toArray].toArray w (Ret w (.agg (rowE (longP sc x)).toArray)) := by
  unfold spanOk at hx
  have h1 := mul_bd hsc (b := x.1) (by omega)
  have h2 := mul_bd hsc (b := x.2) (by omega)
  refine fEnter Try.func104 rfl Try.ntmps104 rfl ?_
  refine kSeq ?_
  refine kRegion rfl ?_
  refine lE rfl ?_
  refine eBoxA rfl fun n3 => ?_
  refine lE rfl ?_
  refine eAlloc Z23 fun n4 => ?_
  refine lNil ?_
  refine kThen ?_
  refine kSeq ?_
  refine kRegion rfl ?_
  refine lV (yMove rfl) rfl rfl ?_
  refine lV (yFieldAddr rfl F23_0) rfl rfl ?_
  refine lV (yLoad1 rfl O3 (cOwn 1 rfl rfl)) rfl rfl ?_
  refine lV (yMul rfl rfl (by omega)) rfl rfl ?_
  refine lV (yQuo rfl rfl (by omega) (by omega) (by omega)) rfl rfl ?_
  refine lV (yMove rfl) rfl rfl ?_
  refine lV (yFieldAddr rfl F23_1) rfl rfl ?_
  refine lV (yLoad1 rfl O3 (cOwn 1 rfl rfl)) rfl rfl ?_
  refine lV (yMul rfl rfl (by omega)) rfl rfl ?_
  refine lV (yQuo rfl rfl (by omega) (by omega) (by omega)) rfl rfl ?_
  refine lV (yBuild (.c rfl (.c rfl .n)) (fun w => B23_0_1 w)) rfl rfl ?_
  refine lE rfl ?_
  refine eStoreL 0 rfl rfl rfl rfl K23 rfl (rfl) ?_
  refine lNil ?_
  refine kThen ?_
  refine kRet ?_
  refine fRet rfl (.cA (us := [_, _]) rfl A23 (cOwn 0 rfl rfl) .n) (endRet ?_)
  rfl
set_option maxRecDepth 100000 in
theorem rway_any (s : StarV) (d : Bool) (w : World) : Calls Try.prog 103 [.agg (rowS s).toArray, .bool d].toArray w (Ret w (.tuple [.agg (rowE (imgD d s)).toArray, .agg (rowE (saidD d s)).toArray].toArray)) := by
  cases d with
  | true =>
    refine fEnter Try.func103 rfl Try.ntmps103 rfl ?_
    refine kSeq ?_
    refine kRegion rfl ?_
    refine lE rfl ?_
    refine eBoxA rfl fun n2 => ?_
    refine lE rfl ?_
    refine eAlloc Z23 fun n4 => ?_
    refine lE rfl ?_
    refine eAlloc Z23 fun n5 => ?_
    refine lNil ?_
    refine kThen ?_
    refine kSeq ?_
    refine kSeq ?_
    refine kRegion rfl ?_
    refine lV (yMove rfl) rfl rfl ?_
    refine knownB (t := 6) (c := true) rfl (rfl) ?_
    refine lNil ?_
    refine kThen ?_
    refine kIfT rfl ?_
    refine kSeq ?_
    refine kDrawE [(1, none), (3, some [0, 2])] [] [0, 1, 2, 3] 2 hMix (by kernel_rfl) ?_
    refine .run rfl (yFieldAddr rfl F58_1) rfl rfl ?_
    refine .run rfl (yLoadA (vs := [_, _]) rfl A23 (cOwn 2 rfl rfl)) rfl rfl ?_
    refine .run rfl (yFieldAddr rfl F58_4) rfl rfl ?_
    refine .run rfl (yLoadA (vs := [_, _]) rfl A23 (cOwn 1 rfl rfl)) rfl rfl ?_
    refine .done ?_
    refine effStep 4 [] (by kernel_rfl) closedSt (hLeft [1, 3] (by kernel_rfl) (.c (fun _ _ hs => hs.ef) (.c (fun _ _ hs => hs.ef.sub (.c 0 rfl (.c 1 rfl .n))) .n))) ?_
    refine .c ?_ .n
    refine effOne rfl (gNone rfl (fStoreL 1 rfl rfl rfl rfl K23 rfl (rfl))) ?_
    refine effStep 5 [] (by kernel_rfl) closedSt (hLeft [3] (by kernel_rfl) (.c (fun _ _ hs => hs.ef.sub (.c 0 rfl (.c 1 rfl .n))) .n)) ?_
    refine .c ?_ .n
    refine effOne rfl (gNone rfl (fStoreL 0 rfl rfl rfl rfl K23 rfl (rfl))) ?_
    refine effDone closedSt (hLeft [] (by kernel_rfl) .n) (by kernel_rfl) ?_
    refine kThen ?_
    refine kRet ?_
    refine kThenR ?_
    refine fRet rfl (.cA (us := [_, _]) rfl A23 (cOwn 1 rfl rfl) (.cA (us := [_, _]) rfl A23 (cOwn 0 rfl rfl) .n)) (endRet ?_)
    rfl
  | false =>
    refine fEnter Try.func103 rfl Try.ntmps103 rfl ?_
    refine kSeq ?_
    refine kRegion rfl ?_
    refine lE rfl ?_
    refine eBoxA rfl fun n2 => ?_
    refine lE rfl ?_
    refine eAlloc Z23 fun n4 => ?_
    refine lE rfl ?_
    refine eAlloc Z23 fun n5 => ?_
    refine lNil ?_
    refine kThen ?_
    refine kSeq ?_
    refine kSeq ?_
    refine kRegion rfl ?_
    refine lV (yMove rfl) rfl rfl ?_
    refine knownB (t := 6) (c := false) rfl (rfl) ?_
    refine lNil ?_
    refine kThen ?_
    refine kIfF rfl ?_
    refine kSkip ?_
    refine kThen ?_
    refine kSeq ?_
    refine kDrawE [(1, none), (3, some [0, 2])] [] [0, 1, 2, 3] 2 hMix (by kernel_rfl) ?_
    refine .run rfl (yFieldAddr rfl F58_0) rfl rfl ?_
    refine .run rfl (yLoadA (vs := [_, _]) rfl A23 (cOwn 2 rfl rfl)) rfl rfl ?_
    refine .run rfl (yFieldAddr rfl F58_3) rfl rfl ?_
    refine .run rfl (yLoadA (vs := [_, _]) rfl A23 (cOwn 1 rfl rfl)) rfl rfl ?_
    refine .done ?_
    refine effStep 4 [] (by kernel_rfl) closedSt (hLeft [1, 3] (by kernel_rfl) (.c (fun _ _ hs => hs.ef) (.c (fun _ _ hs => hs.ef.sub (.c 0 rfl (.c 1 rfl .n))) .n))) ?_
    refine .c ?_ .n
    refine effOne rfl (gNone rfl (fStoreL 1 rfl rfl rfl rfl K23 rfl (rfl))) ?_
    refine effStep 5 [] (by kernel_rfl) closedSt (hLeft [3] (by kernel_rfl) (.c (fun _ _ hs => hs.ef.sub (.c 0 rfl (.c 1 rfl .n))) .n)) ?_
    refine .c ?_ .n
    refine effOne rfl (gNone rfl (fStoreL 0 rfl rfl rfl rfl K23 rfl (rfl))) ?_
    refine effDone closedSt (hLeft [] (by kernel_rfl) .n) (by kernel_rfl) ?_
    refine kThen ?_
    refine kRet ?_
    refine fRet rfl (.cA (us := [_, _]) rfl A23 (cOwn 1 rfl rfl) (.cA (us := [_, _]) rfl A23 (cOwn 0 rfl rfl) .n)) (endRet ?_)
    rfl
def hullV (a b : Int × Int) (first : Bool) : Int × Int := if first then b else (min a.1 b.1, max a.2 b.2)
set_option maxRecDepth 100000 in
theorem rhull_any (a b : Int × Int) (f : Bool) (w : World) : Calls Try.prog 61 [.agg (rowE a).toArray, .agg (rowE b).toArray, .bool f].toArray w (Ret w (.agg (rowE (hullV a b f)).toArray)) := by
  refine fEnter Try.func61 rfl Try.ntmps61 rfl ?_
  refine kSeq ?_
  refine kRegion rfl ?_
  refine lE rfl ?_
  refine eBoxA rfl fun n3 => ?_
  refine lE rfl ?_
  refine eBoxA rfl fun n4 => ?_
  refine lE rfl ?_
  refine eAlloc Z23 fun n6 => ?_
  refine lNil ?_
  refine kThen ?_
  refine kSeq ?_
  refine kSeq ?_
  refine kRegion rfl ?_
  refine lV (yMove rfl) rfl rfl ?_
  refine splitB (t := 7) rfl (fun h7 => ?_) (fun h7 => ?_)
  · refine lNil ?_
    refine kThen ?_
    refine kIfT rfl ?_
    refine kSeq ?_
    refine kRegion rfl ?_
    refine lV (yLoadA (vs := [_, _]) rfl A23 (cOwn 1 rfl rfl)) rfl rfl ?_
    refine lE rfl ?_
    refine eStoreL 0 rfl rfl rfl rfl K23 rfl (rfl) ?_
    refine lNil ?_
    refine kThen ?_
    refine kRet ?_
    refine kThenR ?_
    refine fRet rfl (.cA (us := [_, _]) rfl A23 (cOwn 0 rfl rfl) .n) (endRet ?_)
    rw [h7]; rfl
  · refine lNil ?_
    refine kThen ?_
    refine kIfF rfl ?_
    refine kSkip ?_
    refine kThen ?_
    refine kSeq ?_
    refine kRegion rfl ?_
    refine lV (yFieldAddr rfl F23_0) rfl rfl ?_
    refine lV (yLoad1 rfl O3 (cOwn 2 rfl rfl)) rfl rfl ?_
    refine lV (yFieldAddr rfl F23_0) rfl rfl ?_
    refine lV (yLoad1 rfl O3 (cOwn 1 rfl rfl)) rfl rfl ?_
    refine lV (yMin rfl rfl) rfl rfl ?_
    refine lV (yFieldAddr rfl F23_1) rfl rfl ?_
    refine lV (yLoad1 rfl O3 (cOwn 2 rfl rfl)) rfl rfl ?_
    refine lV (yFieldAddr rfl F23_1) rfl rfl ?_
    refine lV (yLoad1 rfl O3 (cOwn 1 rfl rfl)) rfl rfl ?_
    refine lV (yMax rfl rfl) rfl rfl ?_
    refine lV (yBuild (.c rfl (.c rfl .n)) (fun w => B23_0_1 w)) rfl rfl ?_
    refine lE rfl ?_
    refine eStoreL 0 rfl rfl rfl rfl K23 rfl (rfl) ?_
    refine lNil ?_
    refine kThen ?_
    refine kRet ?_
    refine fRet rfl (.cA (us := [_, _]) rfl A23 (cOwn 0 rfl rfl) .n) (endRet ?_)
    rw [h7]; rfl
set_option maxRecDepth 100000 in
theorem rplace_any (s : StarV) (sc c : Int) (d : Bool) (w : World) (hs : starOk s) (hsc : 0 ≤ sc ∧ sc ≤ 1000) (hc : -10000000000000 ≤ c ∧ c ≤ 10000000000000) : Calls Try.prog 106 [.agg (rowS s).toArray, i64 sc, i64 c, .bool d].toArray w (Ret w (.agg (rowE (placeP d s sc c)).toArray)) := by
  have hl := long_bd (d := d) hs hsc
  refine fEnter Try.func106 rfl Try.ntmps106 rfl ?_
  refine kSeq ?_
  refine kRegion rfl ?_
  refine lE rfl ?_
  refine eBoxA rfl fun n4 => ?_
  refine lE rfl ?_
  refine eAlloc Z23 fun n8 => ?_
  refine lNil ?_
  refine kThen ?_
  refine kSeq ?_
  refine kRegion rfl ?_
  refine lV (yLoadA (vs := [_, _, _, _, _, _, _, _, _]) rfl A58 (cOwn 1 rfl rfl)) rfl rfl ?_
  refine lV (yMove rfl) rfl rfl ?_
  refine lV (yCall rfl (.c rfl (.c rfl .n)) C103 (fun w hw => rway_any s d w)) rfl rfl ?_
  refine lV (yMove rfl) rfl rfl ?_
  refine lV (yExtract rfl rfl) rfl rfl ?_
  refine lV (yExtract rfl rfl) rfl rfl ?_
  refine lE rfl ?_
  refine eAlloc Z23 fun n9 => ?_
  refine lE rfl ?_
  refine eAlloc Z23 fun n10 => ?_
  refine lE rfl ?_
  refine eStoreL 1 rfl rfl rfl rfl K23 rfl (rfl) ?_
  refine lE rfl ?_
  refine eStoreL 0 rfl rfl rfl rfl K23 rfl (rfl) ?_
  refine lNil ?_
  refine kThen ?_
  refine kSeq ?_
  refine kRegion rfl ?_
  refine lV (yMove rfl) rfl rfl ?_
  refine lV (yLoadA (vs := [_, _]) rfl A23 (cOwn 1 rfl rfl)) rfl rfl ?_
  refine lV (yCall rfl (.c rfl (.c rfl .n)) C104 (fun w hw => rlong_any sc (imgD d s) w hsc (img_ok hs))) rfl rfl ?_
  refine lE rfl ?_
  refine eAlloc Z23 fun n11 => ?_
  refine lE rfl ?_
  refine eStoreL 0 rfl rfl rfl rfl K23 rfl (rfl) ?_
  refine lNil ?_
  refine kThen ?_
  refine kSeq ?_
  refine kRegion rfl ?_
  refine lV (yMove rfl) rfl rfl ?_
  refine lV (yFieldAddr rfl F23_0) rfl rfl ?_
  refine lV (yLoad1 rfl O3 (cOwn 0 rfl rfl)) rfl rfl ?_
  refine lV (yAdd rfl rfl (by omega)) rfl rfl ?_
  refine lV (yMove rfl) rfl rfl ?_
  refine lV (yFieldAddr rfl F23_1) rfl rfl ?_
  refine lV (yLoad1 rfl O3 (cOwn 0 rfl rfl)) rfl rfl ?_
  refine lV (yAdd rfl rfl (by omega)) rfl rfl ?_
  refine lV (yBuild (.c rfl (.c rfl .n)) (fun w => B23_0_1 w)) rfl rfl ?_
  refine lE rfl ?_
  refine eAlloc Z23 fun n12 => ?_
  refine lE rfl ?_
  refine eStoreL 0 rfl rfl rfl rfl K23 rfl (rfl) ?_
  refine lNil ?_
  refine kThen ?_
  refine kSeq ?_
  refine kSeq ?_
  refine kRegion rfl ?_
  refine lV (yFieldAddr rfl F58_2) rfl rfl ?_
  refine lV (yLoad1 rfl O4 (cOwn 5 rfl rfl)) rfl rfl ?_
  refine splitB (t := 32) rfl (fun h32 => ?_) (fun h32 => ?_)
  · refine lNil ?_
    refine kThen ?_
    refine kIfT rfl ?_
    refine kRegion rfl ?_
    refine lV (yFieldAddr rfl F23_0) rfl rfl ?_
    refine lV (yLoad1 rfl O3 (cOwn 0 rfl rfl)) rfl rfl ?_
    refine lV (yFieldAddr rfl F23_0) rfl rfl ?_
    refine lV (yLoad1 rfl O3 (cOwn 2 rfl rfl)) rfl rfl ?_
    refine lV (yMax rfl rfl) rfl rfl ?_
    refine lV (yFieldAddr rfl F23_1) rfl rfl ?_
    refine lV (yLoad1 rfl O3 (cOwn 0 rfl rfl)) rfl rfl ?_
    refine lV (yFieldAddr rfl F23_1) rfl rfl ?_
    refine lV (yLoad1 rfl O3 (cOwn 2 rfl rfl)) rfl rfl ?_
    refine lV (yMin rfl rfl) rfl rfl ?_
    refine lV (yBuild (.c rfl (.c rfl .n)) (fun w => B23_0_1 w)) rfl rfl ?_
    refine lE rfl ?_
    refine eStoreL 0 rfl rfl rfl rfl K23 rfl (rfl) ?_
    refine lNil ?_
    refine kThen ?_
    refine kSeq ?_
    refine kRegion rfl ?_
    refine lV (yLoadA (vs := [_, _]) rfl A23 (cOwn 0 rfl rfl)) rfl rfl ?_
    refine lE rfl ?_
    refine eStoreL 4 rfl rfl rfl rfl K23 rfl (rfl) ?_
    refine lNil ?_
    refine kThen ?_
    refine kRet ?_
    refine fRet rfl (.cA (us := [_, _]) rfl A23 (cOwn 4 rfl rfl) .n) (endRet ?_)
    rw [place_known h32]; rfl
  · refine lNil ?_
    refine kThen ?_
    refine kIfF rfl ?_
    refine kSkip ?_
    refine kThen ?_
    refine kSeq ?_
    refine kRegion rfl ?_
    refine lV (yLoadA (vs := [_, _]) rfl A23 (cOwn 0 rfl rfl)) rfl rfl ?_
    refine lE rfl ?_
    refine eStoreL 4 rfl rfl rfl rfl K23 rfl (rfl) ?_
    refine lNil ?_
    refine kThen ?_
    refine kRet ?_
    refine fRet rfl (.cA (us := [_, _]) rfl A23 (cOwn 4 rfl rfl) .n) (endRet ?_)
    rw [place_not h32]; rfl
set_option maxRecDepth 100000 in
set_option maxHeartbeats 4000000 in
theorem rcorner_any (y : Option Addr × Nat) (p : Plt) (d : Bool) (sc : Int) (set : Nat) (w : World) (hst : InP w y p) (hp : PltOk p) (hsc : 0 ≤ sc ∧ sc ≤ 1000) (hset : setOk p set) :
    Calls Try.prog 62 [.agg (pltC y p).toArray, i64 (set : Nat), i64 sc, .bool d].toArray w (Ret w (.agg (rowE (cornP p d sc set)).toArray)) := by
  have hn := hp.n
  have hlt := setOk_lt hset hn
  have hbd : ∀ i, set.testBit i = true → i < p.st.length → (-1048576 ≤ (saidD d (p.st.getD i star0)).1 ∧ (saidD d (p.st.getD i star0)).1 ≤ 1048576 ∧ -1048576 ≤ (saidD d (p.st.getD i star0)).2 ∧ (saidD d (p.st.getD i star0)).2 ≤ 1048576) ∧
      (0 ≤ (longP sc (imgD d (p.st.getD i star0))).1 ∧ (longP sc (imgD d (p.st.getD i star0))).1 ≤ 32768) ∧ 0 ≤ (longP sc (imgD d (p.st.getD i star0))).2 ∧ (longP sc (imgD d (p.st.getD i star0))).2 ≤ 32768 := fun i h hl => by
    have h1 := hp.s _ (getD_mem hl star0)
    have h2 := said_ok (d := d) h1 (hset i h).2
    have h3 := long_bd (d := d) h1 hsc
    unfold spanOk at h2
    omega
  refine fEnter Try.func62 rfl Try.ntmps62 rfl ?_
  refine kSeq ?_
  refine kRegion rfl ?_
  refine lE rfl ?_
  refine eBoxA rfl fun n4 => ?_
  refine lE rfl ?_
  refine eAlloc Z23 fun n8 => ?_
  refine lNil ?_
  refine kThen ?_
  refine kSeq ?_
  refine kRegion rfl ?_
  refine lV (yBuild (.c rfl (.c rfl .n)) (fun w => B23_0_1 w)) rfl rfl ?_
  refine lE rfl ?_
  refine eAlloc Z23 fun n9 => ?_
  refine lE rfl ?_
  refine eStoreL 0 rfl rfl rfl rfl K23 rfl (rfl) ?_
  refine lNil ?_
  refine kThen ?_
  refine kSeq ?_
  refine kSeq ?_
  refine kRegion rfl ?_
  refine lV (yAssign rfl) rfl rfl ?_
  refine lNil ?_
  refine kThen ?_
  refine kBlock ?_
  refine kLoopX (ι := Nat × Int × Int) (fun x => x.1 ≤ p.st.length ∧ x.2 = cornT p d sc set x.1) (fun x => [(10, i64 (x.1 : Nat))]) [(0, _), (1, _), (2, _), (3, _), (4, _), (8, _), (14, _), (9, _)] (fun x => []) (fun x => [(n9, blk (rowE x.2) 23)]) [(n8, _), (n4, _)] (fun x => p.st.length - x.1) (0, (-1099511627776, 1099511627776)) (⟨Nat.zero_le _, rfl⟩) rfl (.c rfl .n) (.c rfl (.c rfl (.c rfl (.c rfl (.c rfl (.c rfl (.c rfl (.c rfl .n)))))))) (.c 1 rfl (.c 1 rfl (.c 0 rfl .n))) ?_
  rintro ⟨i, c⟩ ⟨hi, hc⟩
  dsimp only at hi hc ⊢
  refine kSeq ?_
  refine kSeq ?_
  refine kRegion rfl ?_
  refine lV (yMove rfl) rfl rfl ?_
  refine lV (yFieldAddr rfl F26_1) rfl rfl ?_
  refine lV (yLoad1 rfl O24 (cOwn 1 rfl rfl)) rfl rfl ?_
  refine lV (yLen rfl S24) rfl rfl ?_
  refine lV (yLss rfl rfl) rfl rfl ?_
  refine lNil ?_
  refine kThen ?_
  refine split (t := 19) rfl (fun h19 => ?_) (fun h19 => ?_)
  · refine kIfT rfl ?_
    refine kSkip ?_
    refine kThen ?_
    refine kSeq ?_
    refine kBlock ?_
    refine kSeq ?_
    refine kRegion rfl ?_
    refine lV (yMove rfl) rfl rfl ?_
    refine lV (yMove rfl) rfl rfl ?_
    refine lV (yCall rfl (.c rfl (.c rfl .n)) C102 (fun w hw => has_any set i w (by omega) (by omega))) rfl rfl ?_
    refine splitB (t := 24) rfl (fun h24 => ?_) (fun h24 => ?_)
    · refine lNil ?_
      refine kThen ?_
      refine kIfT rfl ?_
      refine kSeq ?_
      refine kRegion rfl ?_
      refine lV (yFieldAddr rfl F26_1) rfl rfl ?_
      refine lV (yLoad1 rfl O24 (cOwn 1 rfl rfl)) rfl rfl ?_
      refine lV (yMove rfl) rfl rfl ?_
      refine lV (yIndexS  rfl rfl S24 (hst.r) ((by omega))) rfl rfl ?_
      refine lV (yLoadA (vs := [_, _, _, _, _, _, _, _, _]) rfl A58 (cSl0 (hst.r) ((by omega)) rfl)) rfl rfl ?_
      refine lV (yMove rfl) rfl rfl ?_
      refine lV (yCall rfl (.c rfl (.c rfl .n)) C103 (fun w hw => rway_any (p.st.getD i star0) d w)) rfl rfl ?_
      refine lV (yMove rfl) rfl rfl ?_
      refine lV (yExtract rfl rfl) rfl rfl ?_
      refine lV (yExtract rfl rfl) rfl rfl ?_
      refine lE rfl ?_
      refine eAlloc Z23 fun n11 => ?_
      refine lE rfl ?_
      refine eAlloc Z23 fun n12 => ?_
      refine lE rfl ?_
      refine eStoreL 1 rfl rfl rfl rfl K23 rfl (rfl) ?_
      refine lE rfl ?_
      refine eStoreL 0 rfl rfl rfl rfl K23 rfl (rfl) ?_
      refine lNil ?_
      refine kThen ?_
      refine kSeq ?_
      refine kRegion rfl ?_
      refine lV (yMove rfl) rfl rfl ?_
      refine lV (yLoadA (vs := [_, _]) rfl A23 (cOwn 1 rfl rfl)) rfl rfl ?_
      refine lV (yCall rfl (.c rfl (.c rfl .n)) C104 (fun w hw => rlong_any sc (imgD d (p.st.getD i star0)) w hsc (img_ok (hp.s _ (getD_mem (i := i) (by omega) star0))))) rfl rfl ?_
      refine lE rfl ?_
      refine eAlloc Z23 fun n13 => ?_
      refine lE rfl ?_
      refine eStoreL 0 rfl rfl rfl rfl K23 rfl (rfl) ?_
      refine lNil ?_
      refine kThen ?_
      refine kRegion rfl ?_
      refine lV (yFieldAddr rfl F23_0) rfl rfl ?_
      refine lV (yLoad1 rfl O3 (cOwn 5 rfl rfl)) rfl rfl ?_
      refine lV (yFieldAddr rfl F23_0) rfl rfl ?_
      refine lV (yLoad1 rfl O3 (cOwn 1 rfl rfl)) rfl rfl ?_
      refine lV (yFieldAddr rfl F23_1) rfl rfl ?_
      refine lV (yLoad1 rfl O3 (cOwn 0 rfl rfl)) rfl rfl ?_
      refine lV (ySub rfl rfl (by have := hbd i h24 (by omega); omega)) rfl rfl ?_
      refine lV (yMax rfl rfl) rfl rfl ?_
      refine lV (yFieldAddr rfl F23_1) rfl rfl ?_
      refine lV (yLoad1 rfl O3 (cOwn 5 rfl rfl)) rfl rfl ?_
      refine lV (yFieldAddr rfl F23_1) rfl rfl ?_
      refine lV (yLoad1 rfl O3 (cOwn 1 rfl rfl)) rfl rfl ?_
      refine lV (yFieldAddr rfl F23_0) rfl rfl ?_
      refine lV (yLoad1 rfl O3 (cOwn 0 rfl rfl)) rfl rfl ?_
      refine lV (ySub rfl rfl (by have := hbd i h24 (by omega); omega)) rfl rfl ?_
      refine lV (yMin rfl rfl) rfl rfl ?_
      refine lV (yBuild (.c rfl (.c rfl .n)) (fun w => B23_0_1 w)) rfl rfl ?_
      refine lE rfl ?_
      refine eStoreL 5 rfl rfl rfl rfl K23 rfl (rfl) ?_
      refine lNil ?_
      refine kInN ?_
      refine kThen ?_
      refine kRegion rfl ?_
      refine lV (yMove rfl) rfl rfl ?_
      refine lV (yAdd rfl rfl (by omega)) rfl rfl ?_
      refine lV (yAssign rfl) rfl rfl ?_
      refine lNil ?_
      exact kRoundX (i + 1, cornS d sc c (p.st.getD i star0)) (⟨by dsimp only; omega, by dsimp only; rw [cornT_succ, if_pos h24, hc]⟩) (by dsimp only; omega) rfl (.c rfl .n) (.c rfl (.c rfl (.c rfl (.c rfl (.c rfl (.c rfl (.c rfl (.c rfl .n)))))))) (.c 3 rfl (.c 3 rfl (.c 3 rfl .n)))
    · refine lNil ?_
      refine kThen ?_
      refine kIfF rfl ?_
      refine kSkip ?_
      refine kInN ?_
      refine kThen ?_
      refine kRegion rfl ?_
      refine lV (yMove rfl) rfl rfl ?_
      refine lV (yAdd rfl rfl (by omega)) rfl rfl ?_
      refine lV (yAssign rfl) rfl rfl ?_
      refine lNil ?_
      exact kRoundX (i + 1, c) (⟨by dsimp only; omega, by dsimp only; rw [cornT_succ, if_neg (by rw [h24]; decide)]; exact hc⟩) (by dsimp only; omega) rfl (.c rfl .n) (.c rfl (.c rfl (.c rfl (.c rfl (.c rfl (.c rfl (.c rfl (.c rfl .n)))))))) (.c 0 rfl (.c 0 rfl (.c 0 rfl .n)))
  · refine kIfF rfl ?_
    refine kExit ?_
    refine kThenX ?_
    refine kThenX ?_
    refine kInX ?_
    refine kThen ?_
    refine kSeq ?_
    refine kRegion rfl ?_
    refine lV (yLoadA (vs := [_, _]) rfl A23 (cOwn 2 rfl rfl)) rfl rfl ?_
    refine lE rfl ?_
    refine eStoreL 0 rfl rfl rfl rfl K23 rfl (rfl) ?_
    refine lNil ?_
    refine kThen ?_
    refine kRet ?_
    refine fRet rfl (.cA (us := [_, _]) rfl A23 (cOwn 0 rfl rfl) .n) (endRet ?_)
    obtain rfl : i = p.st.length := by omega
    rw [show cornP p d sc set = c from hc.symm]
    rfl
end Go.Proofs.Ytlcdohhhhlhpmaa
