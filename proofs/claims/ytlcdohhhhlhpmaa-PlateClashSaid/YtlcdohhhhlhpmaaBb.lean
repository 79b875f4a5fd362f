/-
  Walks: a plate of which the stars of a set alone are known.
-/
import Derived.Test.YtlcdohhhhlhpmaaBa
import Derived.Test.YtlcdohhhhlhpmaaEngZ
namespace Go.Proofs.Ytlcdohhhhlhpmaa
open ZW

def setK (s : StarV) (b : Bool) : StarV := { s with k := b }
def partT (st : List StarV) (set n : Nat) : List StarV := (List.range n).foldl (fun l i => l.set i (setK (l.getD i star0) (set.testBit i))) st
theorem partT_succ (st : List StarV) (set n : Nat) : partT st set (n + 1) = (partT st set n).set n (setK ((partT st set n).getD n star0) (set.testBit n)) := range_foldl_succ _ _ _
theorem partT_len (st : List StarV) (set : Nat) : ∀ n, (partT st set n).length = st.length
  | 0 => rfl
  | n + 1 => by rw [partT_succ, List.length_set]; exact partT_len st set n
def partP (p : Plt) (set : Nat) : Plt := ⟨p.sc, partT p.st set p.st.length⟩
theorem map_set_row (l : List StarV) (i : Nat) (b : Bool) (hi : i < l.length) : (l.map rowS).set i (wr ((l.map rowS).getD i []) 4 [.bool b]) = (l.set i (setK (l.getD i star0) b)).map rowS := by
  rw [List.map_set]
  congr 1
  rw [map_getD hi star0]
  rfl
theorem rowsS_len (l : List StarV) : ∀ x ∈ l.map rowS, x.length = 9 := by
  intro x hx; obtain ⟨y, _, rfl⟩ := List.mem_map.1 hx; rfl
theorem rowsS_one (l : List StarV) : ∀ x ∈ l.map rowS, ∀ u ∈ x, u.oneCell' = true := by
  intro x hx u hu; obtain ⟨y, _, rfl⟩ := List.mem_map.1 hx
  simp only [rowS, List.mem_cons, List.not_mem_nil, or_false] at hu
  rcases hu with rfl | rfl | rfl | rfl | rfl | rfl | rfl | rfl | rfl <;> rfl

set_option maxRecDepth 100000 in
set_option maxHeartbeats 2000000 in
theorem part_any (y : Option Addr × Nat) (p : Plt) (set : Nat) (w : World) (hm : InP w y p) (hL : p.st.length ≤ 30) (hset : set < 2 ^ 62) : Calls Try.prog 42 [.agg (pltC y p).toArray, i64 (set : Nat)].toArray w
    (RetX w (fun g : Own => OS 9 g ((partP p set).st.map rowS)) (fun g => .agg (pltC (osA g, osC g) (partP p set)).toArray) (fun _ => []) (fun g => osL 58 g)) := by
  refine fEnter Try.func42 rfl Try.ntmps42 rfl ?_
  refine kSeq ?_
  refine kRegion rfl ?_
  refine lE rfl ?_
  refine eBoxA rfl fun n2 => ?_
  refine lE rfl ?_
  refine eAlloc Z26 fun n4 => ?_
  refine lNil ?_
  refine kThen ?_
  refine kSeq ?_
  refine kRegion rfl ?_
  refine lE rfl ?_
  refine eBuildSlice .n (fun w => BS24_0_ w) fun n6 => ?_
  refine lV (yFieldAddr rfl F26_1) rfl rfl ?_
  refine lV (yLoad1 rfl O24 (cOwn 2 rfl rfl)) rfl rfl ?_
  refine lE rfl ?_
  skip
  refine eAppend (gs := .b n6 0 []) (es := []) [(n4, _), (n2, _)] (p.st.map rowS) AP24 rfl rfl (.c 1 rfl (.c 1 rfl (.c 0 rfl .n))) (OS.lit (es := []) (by simp) rfl (by simp)) (by simp) (rowsS_len p.st) (flatten_range (f := rowS) p.st star0 ▸ SlN.sl hm.r) (rowsS_one p.st) (by simp; omega) (by simp; omega) fun g0 hg0 => ?_
  rw [List.nil_append] at hg0
  rw [show (([] : List (List Value)) ++ p.st.map rowS).length = p.st.length from by simp]
  refine lV (yFieldAddr rfl F26_1) rfl rfl ?_
  refine lE rfl ?_
  refine eStoreL 1 rfl rfl rfl rfl K24 rfl (rfl) ?_
  refine lNil ?_
  refine kThen ?_
  refine kSeq ?_
  refine kSeq ?_
  refine kRegion rfl ?_
  refine lV (yFieldAddr rfl F26_1) rfl rfl ?_
  refine lV (yLoad1 rfl O24 (cOwn 1 rfl rfl)) rfl rfl ?_
  refine lV (yLen rfl S24) rfl rfl ?_
  refine lV (yMove rfl) rfl rfl ?_
  refine lNil ?_
  refine kThen ?_
  refine kBlock ?_
  refine kLoopX (ι := Nat × Own) (fun x => x.1 ≤ p.st.length ∧ OS 9 x.2 ((partT p.st set x.1).map rowS) ∧ osA x.2 = osA g0 ∧ osC x.2 = osC g0) (fun x => [(14, i64 (x.1 : Nat))]) [(0, _), (1, _), (2, _), (4, _), (6, _), (7, _), (8, _), (9, _), (10, _), (11, _), (12, _), (13, _)] (fun x => []) (fun x => osL 58 x.2) [(n4, _), (n2, _)] (fun x => p.st.length - x.1) (0, g0) (⟨Nat.zero_le _, hg0, rfl, rfl⟩) rfl (.c rfl .n) (.c rfl (.c rfl (.c rfl (.c rfl (.c rfl (.c rfl (.c rfl (.c rfl (.c rfl (.c rfl (.c rfl (.c rfl .n)))))))))))) .r ?_
  rintro ⟨i, g⟩ ⟨hi, hg, hA, hC⟩
  dsimp only at hi hg hA hC ⊢
  refine kSeq ?_
  refine kRegion rfl ?_
  refine lV (yLss rfl rfl) rfl rfl ?_
  refine lNil ?_
  refine kThen ?_
  refine kSeq ?_
  refine split (t := 15) rfl (fun h15 => ?_) (fun h15 => ?_)
  · refine kIfT rfl ?_
    refine kSkip ?_
    refine kThen ?_
    refine kSeq ?_
    refine kBlock ?_
    refine kSeq ?_
    refine kRegion rfl ?_
    refine lV (yMove rfl) rfl rfl ?_
    refine lV (yAssign rfl) rfl rfl ?_
    refine lNil ?_
    refine kThen ?_
    refine kDrawE [(1, none), (8, none)] [] [0, 1, 2, 3, 4, 5, 6, 7, 8, 9] 1 hMix (by kernel_rfl) ?_
    refine .run rfl (yFieldAddr rfl F26_1) rfl rfl ?_
    refine .run rfl (yLoad1 rfl O24 (cOwn 1 rfl rfl)) rfl rfl ?_
    refine .run rfl (yMove rfl) rfl rfl ?_
    refine .run rfl (yMove rfl) rfl rfl ?_
    refine .run rfl (yMove rfl) rfl rfl ?_
    refine .run rfl (yShr rfl rfl rfl (by have := Nat.div_le_self set (2 ^ i); omega)) rfl rfl ?_
    refine .run rfl (yAnd (b := 1) rfl rfl rfl (by have := Nat.div_le_self set (2 ^ i); omega) (by have := Nat.div_le_self set (2 ^ i); omega)) rfl rfl ?_
    refine .run rfl (yvIs (c := set.testBit i) (yEql rfl rfl) (by rw [Bool.eq_iff_iff, decide_eq_true_eq]; exact bit1_iff set i)) rfl rfl ?_
    refine .run rfl (yIndexS  rfl rfl S24 ((fun w hw => (show SlE w (osA g0) p.st.length 9 (starC (partT p.st set i)) from by rw [← hA]; exact (OS.rowsE (f := rowS) star0 hg hw (.d 0 (.d 0 .r))).congr (partT_len _ _ _).symm fun i _ => rfl))) ((by omega))) rfl rfl ?_
    refine .run rfl (yFieldAddr rfl F58_2) rfl rfl ?_
    refine .done ?_
    refine effStep 10 [] (by kernel_rfl) closedSt (hLeft [1, 8] (by kernel_rfl) (.c (fun _ _ hs => hs.ef) (.c (fun _ _ hs => hs.ef) .n))) ?_
    refine .c ?_ .n
    refine effOne rfl (gNone rfl (eStoreRow (X := [(n4, _), (n2, _)]) (gs := g) (sz := 9) (vs := [_]) (by rw [hA]; rfl) rfl rfl rfl K4 rfl hg (by rw [List.length_map, partT_len]; omega) (Nat.le_of_ble_eq_true rfl) trSelf)) ?_
    refine effDone closedSt (hLeft [] (by kernel_rfl) .n) (by kernel_rfl) ?_
    refine kInN ?_
    refine kThen ?_
    refine kRegion rfl ?_
    refine lV (yAdd rfl rfl (by omega)) rfl rfl ?_
    refine lV (yMove rfl) rfl rfl ?_
    refine lNil ?_
    exact kRoundX (i + 1, rowSet 9 g i 4 [.bool (set.testBit i)]) (⟨by dsimp only; omega, by dsimp only; rw [partT_succ, ← map_set_row _ _ _ (by rw [partT_len]; omega)]; exact hg.rowSet (by rw [List.length_map, partT_len]; omega) (Nat.le_of_ble_eq_true rfl), by rw [rowSet_A]; exact hA, by rw [rowSet_C]; exact hC⟩) (by dsimp only; omega) rfl (.c rfl .n) (.c rfl (.c rfl (.c rfl (.c rfl (.c rfl (.c rfl (.c rfl (.c rfl (.c rfl (.c rfl (.c rfl (.c rfl .n)))))))))))) (.c 0 rfl (.c 0 rfl .r))
  · refine kIfF rfl ?_
    refine kExit ?_
    refine kThenX ?_
    refine kThenX ?_
    refine kInX ?_
    refine kThen ?_
    refine kSeq ?_
    refine kRegion rfl ?_
    refine lV (yLoadA (vs := [_, _, _]) rfl A26 (cOwn 1 rfl rfl)) rfl rfl ?_
    refine lE rfl ?_
    refine eStoreL 0 rfl rfl rfl rfl K26 rfl (rfl) ?_
    refine lNil ?_
    refine kThen ?_
    refine kRet ?_
    refine fRet rfl (.cA (us := [_, _, _]) rfl A26 (cOwn 0 rfl rfl) .n) ?_
    obtain rfl : i = p.st.length := by omega
    exact endX g hg (by rw [hA, hC]; simp only [packV, partP]; rw [pltC, partT_len]) rfl (.d 0 (.d 0 .r))
end Go.Proofs.Ytlcdohhhhlhpmaa
