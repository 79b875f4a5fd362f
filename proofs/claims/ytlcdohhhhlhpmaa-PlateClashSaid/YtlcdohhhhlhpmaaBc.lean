/-
  Walks: a plate with a star that is known to be at one place.
-/
import Derived.Test.YtlcdohhhhlhpmaaBb
namespace Go.Proofs.Ytlcdohhhhlhpmaa
open ZW

def asS (s : StarV) (e n : Int × Int) : StarV := { s with k := true, e := e, n := n }
def asP (p : Plt) (i : Nat) (e n : Int × Int) : Plt := ⟨p.sc, p.st.set i (asS (p.st.getD i star0) e n)⟩
set_option maxRecDepth 100000 in
set_option maxHeartbeats 2000000 in
theorem as_any (y : Option Addr × Nat) (p : Plt) (i : Nat) (e n : Int × Int) (w : World) (hm : InP w y p) (hL : p.st.length ≤ 30) (hi : i < p.st.length) : Calls Try.prog 40 [.agg (pltC y p).toArray, i64 (i : Nat), .agg (rowE e).toArray, .agg (rowE n).toArray].toArray w
    (RetX w (fun g : Own => OS 9 g ((asP p i e n).st.map rowS)) (fun g => .agg (pltC (osA g, osC g) (asP p i e n)).toArray) (fun _ => []) (fun g => osL 58 g)) := by
  refine fEnter Try.func40 rfl Try.ntmps40 rfl ?_
  refine kSeq ?_
  refine kRegion rfl ?_
  refine lE rfl ?_
  refine eBoxA rfl fun n4 => ?_
  refine lE rfl ?_
  refine eBoxA rfl fun n6 => ?_
  refine lE rfl ?_
  refine eBoxA rfl fun n7 => ?_
  refine lE rfl ?_
  refine eAlloc Z26 fun n8 => ?_
  refine lNil ?_
  refine kThen ?_
  refine kSeq ?_
  refine kRegion rfl ?_
  refine lE rfl ?_
  refine eBuildSlice .n (fun w => BS24_0_ w) fun n9 => ?_
  refine lV (yFieldAddr rfl F26_1) rfl rfl ?_
  refine lV (yLoad1 rfl O24 (cOwn 4 rfl rfl)) rfl rfl ?_
  refine lE rfl ?_
  skip
  refine eAppend (gs := .b n9 0 []) (es := []) [(n8, _), (n7, _), (n6, _), (n4, _)] (p.st.map rowS) AP24 rfl rfl (.c 1 rfl (.c 1 rfl (.c 1 rfl (.c 1 rfl (.c 0 rfl .n))))) (OS.lit (es := []) (by simp) rfl (by simp)) (by simp) (rowsS_len p.st) (flatten_range (f := rowS) p.st star0 ▸ SlN.sl hm.r) (rowsS_one p.st) (by simp; omega) (by simp; omega) fun g0 hg0 => ?_
  rw [List.nil_append] at hg0
  rw [show (([] : List (List Value)) ++ p.st.map rowS).length = p.st.length from by simp]
  obtain ⟨n0, c0, l0, rfl⟩ : ∃ n c l, g0 = .b n c l := by
    cases g0 with
    | b n c l => exact ⟨n, c, l, rfl⟩
    | e a => have := hg0.at_; simp only [List.map_eq_nil_iff] at this; rw [this] at hi; simp at hi
  have hl0 : i < (p.st.map rowS).length := by rw [List.length_map]; exact hi
  have h1 := hg0.rowSet (k := i) (o := 4) (vs := [.bool true]) hl0 (Nat.le_of_ble_eq_true rfl)
  have h2 := h1.rowSet (k := i) (o := 5) (vs := rowE e) (by rw [List.length_set]; exact hl0) (Nat.le_of_ble_eq_true rfl)
  have h3 := h2.rowSet (k := i) (o := 7) (vs := rowE n) (by rw [List.length_set, List.length_set]; exact hl0) (Nat.le_of_ble_eq_true rfl)
  refine lV (yFieldAddr rfl F26_1) rfl rfl ?_
  refine lE rfl ?_
  refine eStoreL 3 rfl rfl rfl rfl K24 rfl (rfl) ?_
  refine lNil ?_
  refine kThen ?_
  refine kSeq ?_
  refine kDrawE [(1, some [0, 1, 2, 3]), (4, some [0, 1, 2, 3]), (7, some [0, 1, 2, 3]), (9, some [0, 1, 2, 3]), (10, some [0, 1, 2, 3])] [] [0, 1, 2, 3, 4, 5, 6, 7, 8, 9, 10, 11, 12, 14, 15, 17, 18] 3 hMix (by kernel_rfl) ?_
  refine .run rfl (yFieldAddr rfl F26_1) rfl rfl ?_
  refine .run rfl (yLoad1 rfl O24 (cOwn 3 rfl rfl)) rfl rfl ?_
  refine .run rfl (yMove rfl) rfl rfl ?_
  refine .run rfl (yFieldAddr rfl F26_1) rfl rfl ?_
  refine .run rfl (yLoad1 rfl O24 (cOwn 3 rfl rfl)) rfl rfl ?_
  refine .run rfl (yMove rfl) rfl rfl ?_
  refine .run rfl (yFieldAddr rfl F26_1) rfl rfl ?_
  refine .run rfl (yLoad1 rfl O24 (cOwn 3 rfl rfl)) rfl rfl ?_
  refine .run rfl (yMove rfl) rfl rfl ?_
  refine .run rfl (yLoadA (vs := [_, _]) rfl A23 (cOwn 2 rfl rfl)) rfl rfl ?_
  refine .run rfl (yLoadA (vs := [_, _]) rfl A23 (cOwn 1 rfl rfl)) rfl rfl ?_
  refine .run rfl (yIndexSl rfl rfl S24 (by omega) (by omega)) rfl rfl ?_
  refine .run rfl (yFieldAddr rfl F58_2) rfl rfl ?_
  refine .run rfl (yIndexSl rfl rfl S24 (by omega) (by omega)) rfl rfl ?_
  refine .run rfl (yFieldAddr rfl F58_3) rfl rfl ?_
  refine .run rfl (yIndexSl rfl rfl S24 (by omega) (by omega)) rfl rfl ?_
  refine .run rfl (yFieldAddr rfl F58_4) rfl rfl ?_
  refine .done ?_
  refine effStep 13 [] (by kernel_rfl) closedSt (hLeft [1, 4, 7, 9, 10] (by kernel_rfl) (.c (fun _ _ hs => hs.ef.sub (.c 0 rfl (.c 0 rfl (.c 0 rfl (.c 0 rfl .n))))) (.c (fun _ _ hs => hs.ef.sub (.c 0 rfl (.c 0 rfl (.c 0 rfl (.c 0 rfl .n))))) (.c (fun _ _ hs => hs.ef.sub (.c 0 rfl (.c 0 rfl (.c 0 rfl (.c 0 rfl .n))))) (.c (fun _ _ hs => hs.ef.sub (.c 0 rfl (.c 0 rfl (.c 0 rfl (.c 0 rfl .n))))) (.c (fun _ _ hs => hs.ef.sub (.c 0 rfl (.c 0 rfl (.c 0 rfl (.c 0 rfl .n))))) .n)))))) ?_
  refine .c ?_ .n
  refine effOne rfl (gNone rfl (eStoreRow (X := [(n8, _), (n7, _), (n6, _), (n4, _)]) (sz := 9) (k := i) (o := 4) (vs := [.bool true]) rfl rfl rfl rfl K4 rfl hg0 hl0 (Nat.le_of_ble_eq_true rfl) trSelf)) ?_
  refine effStep 16 [] (by kernel_rfl) closedSt (hLeft [4, 7, 9, 10] (by kernel_rfl) (.c (fun _ _ hs => hs.ef.sub (.c 0 rfl (.c 0 rfl (.c 0 rfl (.c 0 rfl .n))))) (.c (fun _ _ hs => hs.ef.sub (.c 0 rfl (.c 0 rfl (.c 0 rfl (.c 0 rfl .n))))) (.c (fun _ _ hs => hs.ef.sub (.c 0 rfl (.c 0 rfl (.c 0 rfl (.c 0 rfl .n))))) (.c (fun _ _ hs => hs.ef.sub (.c 0 rfl (.c 0 rfl (.c 0 rfl (.c 0 rfl .n))))) .n))))) ?_
  refine .c ?_ .n
  refine effOne rfl (gNone rfl (eStoreRow (X := [(n8, _), (n7, _), (n6, _), (n4, _)]) (sz := 9) (k := i) (o := 5) (vs := rowE e) rfl rfl rfl rfl K23 rfl h1 (by rw [List.length_set]; exact hl0) (Nat.le_of_ble_eq_true rfl) trSelf)) ?_
  refine effStep 19 [] (by kernel_rfl) closedSt (hLeft [7, 10] (by kernel_rfl) (.c (fun _ _ hs => hs.ef.sub (.c 0 rfl (.c 0 rfl (.c 0 rfl (.c 0 rfl .n))))) (.c (fun _ _ hs => hs.ef.sub (.c 0 rfl (.c 0 rfl (.c 0 rfl (.c 0 rfl .n))))) .n))) ?_
  refine .c ?_ .n
  refine effOne rfl (gNone rfl (eStoreRow (X := [(n8, _), (n7, _), (n6, _), (n4, _)]) (sz := 9) (k := i) (o := 7) (vs := rowE n) rfl rfl rfl rfl K23 rfl h2 (by rw [List.length_set, List.length_set]; exact hl0) (Nat.le_of_ble_eq_true rfl) trSelf)) ?_
  refine effDone closedSt (hLeft [] (by kernel_rfl) .n) (by kernel_rfl) ?_
  refine kThen ?_
  refine kSeq ?_
  refine kRegion rfl ?_
  refine lV (yLoadA (vs := [_, _, _]) rfl A26 (cOwn 3 rfl rfl)) rfl rfl ?_
  refine lE rfl ?_
  refine eStoreL 0 rfl rfl rfl rfl K26 rfl (rfl) ?_
  refine lNil ?_
  refine kThen ?_
  refine kRet ?_
  refine fRet rfl (.cA (us := [_, _, _]) rfl A26 (cOwn 0 rfl rfl) .n) ?_
  refine endX (rowSet 9 (rowSet 9 (rowSet 9 (.b n0 c0 l0) i 4 [.bool true]) i 5 (rowE e)) i 7 (rowE n)) ?_ ?_ rfl (.d 0 (.d 0 (.d 0 (.d 0 .r))))
  · have hg : ∀ (l : List (List Value)) (x : List Value), i < l.length → (l.set i x).getD i [] = x := fun l x h => by rw [List.getD_eq_getElem?_getD, List.getElem?_set_self h]; rfl
    have hg' : ∀ x : List Value, ((p.st.map rowS).set i x).getD i [] = x := fun x => hg _ x hl0
    have hm0 : (p.st.map rowS).getD i [] = rowS (p.st.getD i star0) := map_getD hi star0
    simp only [List.set_set, hg', hm0] at h3
    show OS 9 _ ((p.st.set i (asS (p.st.getD i star0) e n)).map rowS)
    rw [List.map_set]
    exact h3
  · simp only [packV, asP]
    rw [pltC, List.length_set]
    rfl
end Go.Proofs.Ytlcdohhhhlhpmaa
