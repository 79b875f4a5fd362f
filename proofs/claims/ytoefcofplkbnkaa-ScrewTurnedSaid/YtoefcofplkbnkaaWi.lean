/-
  Walks: Once, Idle.
-/
import Derived.Test.YtoefcofplkbnkaaWh
namespace Go.Proofs.Ytoefcofplkbnkaa
open ZW

/-! ### Bounds are the same -/
theorem AU77 : Try.prog.underlying 77 = some (.array 8 75) := by kernel_rfl
theorem AU75 : Try.prog.underlying 75 = some (.array 8 3) := by kernel_rfl
theorem CO75 : Try.prog.cellsOf 75 = 8 := by kernel_rfl
theorem CO3 : Try.prog.cellsOf 3 = 1 := by kernel_rfl
def bEqB (b c : BMat) : Bool := (List.range 8).all fun i => (List.range 8).all fun k => decide (b i k = c i k)
theorem bRow_get (b : BMat) {i k : Nat} (hi : i < 8) (hk : k < 8) : ((bCells b).toArray.extract (i * 8) (i * 8 + 8))[k * 1]? = some (i64 (b i k)) := by
  rw [Array.getElem?_extract, if_pos (by simp [bCells_length]; omega), List.getElem?_toArray, bCells_get b (by omega), show (i * 8 + k * 1) / 8 = i from by omega, show (i * 8 + k * 1) % 8 = k from by omega]
theorem bEq (b c : BMat) (w : World) : (Op.equal 77 (.agg (bCells b).toArray) (.agg (bCells c).toArray)).run Try.prog w = .ok (bEqB b c) w := by
  obtain ⟨i75, h75, _⟩ := aggT_spec A75
  have h3 : ∃ i, Try.prog.info? 3 = some i := by
    obtain ⟨_, i, _, h, _⟩ := oneT_spec O3; exact ⟨i, h⟩
  obtain ⟨i3, h3⟩ := h3
  rw [equal_step, run_equalIn_array w 9999 _ _ AU77 h75, CO75]
  refine run_eqItems_all _ fun i hi => ?_
  have hi8 : i < 8 := List.mem_range.1 hi
  refine ⟨_, _, run_part_agg A75 w, run_part_agg A75 w, ?_⟩
  rw [run_equalIn_array w 9998 _ _ AU75 h3, CO3]
  refine run_eqItems_all _ fun k hk => ?_
  have hk8 : k < 8 := List.mem_range.1 hk
  refine ⟨_, _, run_part_one O3 (bRow_get b hi8 hk8) w, run_part_one O3 (bRow_get c hi8 hk8) w, ?_⟩
  rw [run_equalIn_int w 9997 3 .i64 .i64 _ _ U3]
  rfl

abbrev outI (r : Int × Int) : Value := .tuple [i64 r.1, i64 r.2].toArray

/-! ### Once -/
def setAt (m : Meas) (i : Nat) : Int × Int × Bool := m.sets.getD i (0, 0, false)
def seenW (m : Meas) (r : Bool) (i : Nat) : Nat := (List.range i).foldl (fun s j => if (setAt m j).2.2 = r then s ||| 1 * 2 ^ (setAt m j).1.toNat else s) 0
theorem seenW_succ (m : Meas) (r : Bool) (i : Nat) : seenW m r (i + 1) = if (setAt m i).2.2 = r then seenW m r i ||| 1 * 2 ^ (setAt m i).1.toNat else seenW m r i := range_foldl_succ _ _ _
theorem img_lt {m : Meas} (hM : MeasOk m) {i : Nat} (hi : i < m.sets.length) : 0 ≤ (setAt m i).1 ∧ (setAt m i).1.toNat < 6 := by
  have h := (hM.a _ (getD_mem hi (0, 0, false))).1
  have := hM.i
  unfold setAt; omega
theorem pow6 {k : Nat} (h : k < 6) : 1 * 2 ^ k < 64 := by
  have := Nat.pow_le_pow_right (n := 2) (by omega) (show k ≤ 5 from by omega)
  omega
theorem or64 {a b : Nat} (h : a < 64) (h' : b < 64) : a ||| b < 64 := Nat.or_lt_two_pow (n := 6) h h'
def onceE (m : Meas) : Int × Int := if ¬ MeasOk m then (0, 1) else (((seenW m false m.sets.length ^^^ seenW m true m.sets.length : Nat) : Int), 0)

set_option maxRecDepth 100000 in
theorem once_1 (y : Loc) (m : Meas) (w : World) (hm : InM w y m) (hM : ¬ MeasOk m) : Calls Try.prog 39 [.agg (measC y m).toArray].toArray w (Ret w (outI (0, 1))) := by
  refine fEnter Try.func39 rfl Try.ntmps39 rfl ?_
  refine kSeq ?_
  refine kRegion rfl ?_
  refine lE rfl ?_
  refine eBoxA rfl fun n1 => ?_
  refine lV (yAssign rfl) rfl rfl ?_
  refine lE rfl ?_
  refine eAlloc Z33 fun n3 => ?_
  refine lNil ?_
  refine kThen ?_
  refine kSeq ?_
  refine kRegion rfl ?_
  refine lV (yMakeFunc .n (.c rfl .n)) rfl rfl ?_
  refine lE rfl ?_
  refine eDefer rfl .n ?_
  refine lNil ?_
  refine kThen ?_
  refine kSeq ?_
  refine kRegion rfl ?_
  refine lE rfl ?_
  refine eAlloc Z99 fun n4 => ?_
  refine lNil ?_
  refine kThen ?_
  refine kSeq ?_
  refine kSeq ?_
  refine kRegion rfl ?_
  refine lV (yLoadA (vs := [_, _, _, _, _, _, _]) rfl A29 (cOwn 2 rfl rfl)) rfl rfl ?_
  refine lE rfl ?_
  refine eCallP rfl (.c rfl .n) C67 (fun w hw => open_bad y m w (hm.eff hw) hM) ?_
  refine kThenP ?_
  refine kThenP ?_
  refine fPanC 1 D77 C77 rfl rfl (.t rfl (.c1 rfl O33 (cOwn 1 rfl rfl) .n)) (endRet ?_)
  rfl
set_option maxRecDepth 100000 in
theorem once_0 (y : Loc) (m : Meas) (w : World) (hm : InM w y m) (hM : MeasOk m) : Calls Try.prog 39 [.agg (measC y m).toArray].toArray w
    (Ret w (outI (((seenW m false m.sets.length ^^^ seenW m true m.sets.length : Nat) : Int), 0))) := by
  have hN := hM.n
  refine fEnter Try.func39 rfl Try.ntmps39 rfl ?_
  refine kSeq ?_
  refine kRegion rfl ?_
  refine lE rfl ?_
  refine eBoxA rfl fun n1 => ?_
  refine lV (yAssign rfl) rfl rfl ?_
  refine lE rfl ?_
  refine eAlloc Z33 fun n3 => ?_
  refine lNil ?_
  refine kThen ?_
  refine kSeq ?_
  refine kRegion rfl ?_
  refine lV (yMakeFunc .n (.c rfl .n)) rfl rfl ?_
  refine lE rfl ?_
  refine eDefer rfl .n ?_
  refine lNil ?_
  refine kThen ?_
  refine kSeq ?_
  refine kRegion rfl ?_
  refine lE rfl ?_
  refine eAlloc Z99 fun n4 => ?_
  refine lNil ?_
  refine kThen ?_
  refine kSeq ?_
  refine kSeq ?_
  refine kRegion rfl ?_
  refine lV (yLoadA (vs := [_, _, _, _, _, _, _]) rfl A29 (cOwn 2 rfl rfl)) rfl rfl ?_
  refine lE rfl ?_
  refine eCallO rfl (.c rfl .n) C67 (fun w hw => open_any y m w (hm.eff hw) hM) fun x hx => ?_
  obtain ⟨nm, g⟩ := x
  dsimp only at hx ⊢
  refine lV (yNilCheckP rfl) rfl rfl ?_
  refine lV (yFieldAddr rfl F98_0) rfl rfl ?_
  refine lV (yFieldAddr rfl F29_3) rfl rfl ?_
  refine lV (yLoad1 rfl O27 (cOwn 3 rfl rfl)) rfl rfl ?_
  refine lV (yLen rfl S27) rfl rfl ?_
  refine lV (yMove rfl) rfl rfl ?_
  refine lNil ?_
  refine kThen ?_
  refine kBlock ?_
  refine kLoopX (ι := Nat × Nat × Nat) (fun x => x.1 ≤ m.sets.length ∧ x.2.1 = seenW m false x.1 ∧ x.2.2 = seenW m true x.1 ∧ x.2.1 < 64 ∧ x.2.2 < 64) (fun x => [(16, i64 (x.1 : Nat))]) [(0, _), (1, _), (2, _), (3, _), (8, _), (4, _), (9, _), (10, _), (11, _), (12, _), (13, _), (14, _), (15, _)] (fun x => []) (fun x => [(n4, blk [.int .u64 (x.2.1 : Nat), .int .u64 (x.2.2 : Nat)] 99)]) [(n3, _), (n1, _)] (fun x => m.sets.length - x.1) (0, 0, 0) (⟨Nat.zero_le _, rfl, rfl, by decide, by decide⟩) rfl (.c rfl .n) (.c rfl (.c rfl (.c rfl (.c rfl (.c rfl (.c rfl (.c rfl (.c rfl (.c rfl (.c rfl (.c rfl (.c rfl (.c rfl .n))))))))))))) (.c 1 rfl (.c 1 rfl (.c 0 rfl .n))) ?_
  rintro ⟨i, p, q⟩ ⟨hi, hp, hq, hp6, hq6⟩
  dsimp only at hi hp hq hp6 hq6 ⊢
  refine kSeq ?_
  refine kRegion rfl ?_
  refine lV (yLss rfl rfl) rfl rfl ?_
  refine lNil ?_
  refine kThen ?_
  refine kSeq ?_
  refine split (t := 17) rfl (fun h17 => ?_) (fun h17 => ?_)
  · refine kIfT rfl ?_
    refine kSkip ?_
    refine kThen ?_
    refine kSeq ?_
    refine kBlock ?_
    refine kSeq ?_
    refine kRegion rfl ?_
    refine lV (yIndexS  rfl rfl S27 (hm.s.r) ((by omega))) rfl rfl ?_
    refine lV (yLoadA (vs := [_, _, _]) rfl A49 (cSl0 (hm.s.r) ((by omega)) rfl)) rfl rfl ?_
    refine lE rfl ?_
    refine eAlloc Z49 fun n6 => ?_
    refine lE rfl ?_
    refine eStoreL 0 rfl rfl rfl rfl K49 rfl (rfl) ?_
    refine lNil ?_
    refine kThen ?_
    refine kSeq ?_
    refine kRegion rfl ?_
    refine lV (yAssign rfl) rfl rfl ?_
    refine lNil ?_
    refine kThen ?_
    refine kSeq ?_
    refine kSeq ?_
    refine kRegion rfl ?_
    refine lV (yFieldAddr rfl F49_2) rfl rfl ?_
    refine lV (yLoad1 rfl O4 (cOwn 0 rfl rfl)) rfl rfl ?_
    refine lNil ?_
    refine kThen ?_
    refine splitB (t := 21) rfl (fun h21 => ?_) (fun h21 => ?_)
    · refine kIfT rfl ?_
      refine kRegion rfl ?_
      refine lV (yAssign rfl) rfl rfl ?_
      refine lNil ?_
      refine kThen ?_
      have hI := img_lt hM (i := i) (by omega)
      have hk6 := pow6 hI.2
      have h21' := h21
      change (setAt m i).2.2 = _ at h21'
      refine kDrawE [(2, none), (4, none)] [] [0, 1, 2, 3, 4, 5, 6, 7] 1 hMix (by kernel_rfl) ?_
      refine .run rfl (yMove rfl) rfl rfl ?_
      refine .run rfl (yIndexAr rfl rfl R99 (by omega) (by omega)) rfl rfl ?_
      refine .run rfl (yLoad1 rfl O90 (cOwn 3 rfl rfl)) rfl rfl ?_
      refine .run rfl (yFieldAddr rfl F49_0) rfl rfl ?_
      refine .run rfl (yvSame (u := i64 ((setAt m i).1.toNat : Nat)) (yLoad1 rfl O3 (cOwn 0 rfl rfl)) (by rw [Int.toNat_of_nonneg hI.1]; rfl)) rfl rfl ?_
      refine .run rfl (yShl (a := 1) rfl rfl rfl (by omega) (by omega)) rfl rfl ?_
      refine .run rfl (yOr rfl rfl rfl (by omega) (by omega)) rfl rfl ?_
      refine .run rfl (yIndexAr rfl rfl R99 (by omega) (by omega)) rfl rfl ?_
      refine .done ?_
      refine effStep 8 [] (by kernel_rfl) closedSt (hLeft [2, 4] (by kernel_rfl) (.c (fun _ _ hs => hs.ef) (.c (fun _ _ hs => hs.ef) .n))) ?_
      refine .c ?_ .n
      refine effOne rfl (gNone rfl (fStoreL 3 rfl rfl rfl rfl K90 rfl (rfl))) ?_
      refine effDone closedSt (hLeft [] (by kernel_rfl) .n) (by kernel_rfl) ?_
      refine kInN ?_
      refine kThen ?_
      refine kRegion rfl ?_
      refine lV (yAdd rfl rfl (by omega)) rfl rfl ?_
      refine lV (yMove rfl) rfl rfl ?_
      refine lNil ?_
      exact kRoundX (i + 1, p, q ||| 1 * 2 ^ (setAt m i).1.toNat) (⟨by dsimp only; omega, by dsimp only; rw [seenW_succ, ← hp]; first | rw [if_pos h21'] | rw [if_neg (by rw [h21']; decide)], by dsimp only; rw [seenW_succ, ← hq]; first | rw [if_pos h21'] | rw [if_neg (by rw [h21']; decide)], by dsimp only; first | exact or64 hp6 hk6 | exact hp6, by dsimp only; first | exact or64 hq6 hk6 | exact hq6⟩) (by dsimp only; omega) rfl (.c rfl .n) (.c rfl (.c rfl (.c rfl (.c rfl (.c rfl (.c rfl (.c rfl (.c rfl (.c rfl (.c rfl (.c rfl (.c rfl (.c rfl .n))))))))))))) (.c 1 rfl (.c 1 rfl (.c 1 rfl .n)))
    · refine kIfF rfl ?_
      refine kSkip ?_
      refine kThen ?_
      have hI := img_lt hM (i := i) (by omega)
      have hk6 := pow6 hI.2
      have h21' := h21
      change (setAt m i).2.2 = _ at h21'
      refine kDrawE [(2, none), (4, none)] [] [0, 1, 2, 3, 4, 5, 6, 7] 1 hMix (by kernel_rfl) ?_
      refine .run rfl (yMove rfl) rfl rfl ?_
      refine .run rfl (yIndexAr rfl rfl R99 (by omega) (by omega)) rfl rfl ?_
      refine .run rfl (yLoad1 rfl O90 (cOwn 3 rfl rfl)) rfl rfl ?_
      refine .run rfl (yFieldAddr rfl F49_0) rfl rfl ?_
      refine .run rfl (yvSame (u := i64 ((setAt m i).1.toNat : Nat)) (yLoad1 rfl O3 (cOwn 0 rfl rfl)) (by rw [Int.toNat_of_nonneg hI.1]; rfl)) rfl rfl ?_
      refine .run rfl (yShl (a := 1) rfl rfl rfl (by omega) (by omega)) rfl rfl ?_
      refine .run rfl (yOr rfl rfl rfl (by omega) (by omega)) rfl rfl ?_
      refine .run rfl (yIndexAr rfl rfl R99 (by omega) (by omega)) rfl rfl ?_
      refine .done ?_
      refine effStep 8 [] (by kernel_rfl) closedSt (hLeft [2, 4] (by kernel_rfl) (.c (fun _ _ hs => hs.ef) (.c (fun _ _ hs => hs.ef) .n))) ?_
      refine .c ?_ .n
      refine effOne rfl (gNone rfl (fStoreL 3 rfl rfl rfl rfl K90 rfl (rfl))) ?_
      refine effDone closedSt (hLeft [] (by kernel_rfl) .n) (by kernel_rfl) ?_
      refine kInN ?_
      refine kThen ?_
      refine kRegion rfl ?_
      refine lV (yAdd rfl rfl (by omega)) rfl rfl ?_
      refine lV (yMove rfl) rfl rfl ?_
      refine lNil ?_
      exact kRoundX (i + 1, p ||| 1 * 2 ^ (setAt m i).1.toNat, q) (⟨by dsimp only; omega, by dsimp only; rw [seenW_succ, ← hp]; first | rw [if_pos h21'] | rw [if_neg (by rw [h21']; decide)], by dsimp only; rw [seenW_succ, ← hq]; first | rw [if_pos h21'] | rw [if_neg (by rw [h21']; decide)], by dsimp only; first | exact or64 hp6 hk6 | exact hp6, by dsimp only; first | exact or64 hq6 hk6 | exact hq6⟩) (by dsimp only; omega) rfl (.c rfl .n) (.c rfl (.c rfl (.c rfl (.c rfl (.c rfl (.c rfl (.c rfl (.c rfl (.c rfl (.c rfl (.c rfl (.c rfl (.c rfl .n))))))))))))) (.c 1 rfl (.c 1 rfl (.c 1 rfl .n)))
  · refine kIfF rfl ?_
    refine kExit ?_
    refine kThenX ?_
    refine kThenX ?_
    refine kInX ?_
    refine kThen ?_
    refine kSeq ?_
    have hx6 : p ^^^ q < 64 := Nat.xor_lt_two_pow (n := 6) hp6 hq6
    refine kRegion rfl ?_
    refine lV (yIndexAr rfl rfl R99 (by omega) (by omega)) rfl rfl ?_
    refine lV (yLoad1 rfl O90 (cOwn 2 rfl rfl)) rfl rfl ?_
    refine lV (yIndexAr rfl rfl R99 (by omega) (by omega)) rfl rfl ?_
    refine lV (yLoad1 rfl O90 (cOwn 2 rfl rfl)) rfl rfl ?_
    refine lV (yXor rfl rfl rfl (by omega) (by omega)) rfl rfl ?_
    refine lV (yConvInt rfl U90 U3 (conv_ok (by omega))) rfl rfl ?_
    refine lV (yAssign rfl) rfl rfl ?_
    refine lE rfl ?_
    refine eStoreL 0 rfl rfl rfl rfl K33 rfl (rfl) ?_
    refine lNil ?_
    refine kThen ?_
    refine kRet ?_
    refine fRetC D77 C77 rfl (.t rfl (.c1 rfl O33 (cOwn 0 rfl rfl) .n)) (endRet ?_)
    obtain rfl : i = m.sets.length := by omega
    simp only [packV, hp, hq]
theorem once_any (y : Loc) (m : Meas) (w : World) (hm : InM w y m) : Calls Try.prog 39 [.agg (measC y m).toArray].toArray w (Ret w (outI (onceE m))) := by
  unfold onceE
  by_cases hM : MeasOk m
  · rw [if_neg (not_not_intro hM)]; exact once_0 y m w hm hM
  · rw [if_pos hM]; exact once_1 y m w hm hM

/-! ### Idle -/
def idleW (m : Meas) (i : Nat) : Nat := (List.range i).foldl (fun s j => if bEqB (tightB m (less (fullS m) (1 * 2 ^ j))) (tightB m (fullS m)) = true then s ||| 1 * 2 ^ j else s) 0
theorem idleW_succ (m : Meas) (i : Nat) : idleW m (i + 1) = if bEqB (tightB m (less (fullS m) (1 * 2 ^ i))) (tightB m (fullS m)) = true then idleW m i ||| 1 * 2 ^ i else idleW m i := range_foldl_succ _ _ _
theorem idleW_lt (m : Meas) : ∀ i, idleW m i < 2 ^ i
  | 0 => by simp [idleW]
  | i + 1 => by
    have ih := idleW_lt m i
    have h2 : 2 ^ i < 2 ^ (i + 1) := Nat.pow_lt_pow_right (by omega) (by omega)
    rw [idleW_succ]
    split
    · rw [Nat.one_mul]; exact Nat.or_lt_two_pow (by omega) h2
    · omega
def idleE (m : Meas) : Int × Int := if ¬ MeasOk m then (0, 1) else if ¬ diagOk (tightB m (fullS m)) then (0, 10) else ((idleW m m.sets.length : Nat), 0)

set_option maxRecDepth 100000 in
theorem idle_1 (y : Loc) (m : Meas) (w : World) (hm : InM w y m) (hM : ¬ MeasOk m) : Calls Try.prog 35 [.agg (measC y m).toArray].toArray w (Ret w (outI (0, 1))) := by
  refine fEnter Try.func35 rfl Try.ntmps35 rfl ?_
  refine kSeq ?_
  refine kRegion rfl ?_
  refine lE rfl ?_
  refine eBoxA rfl fun n1 => ?_
  refine lV (yAssign rfl) rfl rfl ?_
  refine lE rfl ?_
  refine eAlloc Z33 fun n3 => ?_
  refine lNil ?_
  refine kThen ?_
  refine kSeq ?_
  refine kRegion rfl ?_
  refine lV (yMakeFunc .n (.c rfl .n)) rfl rfl ?_
  refine lE rfl ?_
  refine eDefer rfl .n ?_
  refine lNil ?_
  refine kThen ?_
  refine kSeq ?_
  refine kRegion rfl ?_
  refine lV (yLoadA (vs := [_, _, _, _, _, _, _]) rfl A29 (cOwn 1 rfl rfl)) rfl rfl ?_
  refine lE rfl ?_
  refine eCallP rfl (.c rfl (.c rfl .n)) C55 (fun w hw => truth_bad y m none 0 0 w (hm.eff hw) hM) ?_
  refine kThenP ?_
  refine fPanC 0 D73 C73 rfl rfl (.t rfl (.c1 rfl O33 (cOwn 0 rfl rfl) .n)) (endRet ?_)
  rfl
set_option maxRecDepth 100000 in
theorem idle_10 (y : Loc) (m : Meas) (w : World) (hm : InM w y m) (hM : MeasOk m) (hd : ¬ diagOk (tightB m (fullS m))) : Calls Try.prog 35 [.agg (measC y m).toArray].toArray w (Ret w (outI (0, 10))) := by
  refine fEnter Try.func35 rfl Try.ntmps35 rfl ?_
  refine kSeq ?_
  refine kRegion rfl ?_
  refine lE rfl ?_
  refine eBoxA rfl fun n1 => ?_
  refine lV (yAssign rfl) rfl rfl ?_
  refine lE rfl ?_
  refine eAlloc Z33 fun n3 => ?_
  refine lNil ?_
  refine kThen ?_
  refine kSeq ?_
  refine kRegion rfl ?_
  refine lV (yMakeFunc .n (.c rfl .n)) rfl rfl ?_
  refine lE rfl ?_
  refine eDefer rfl .n ?_
  refine lNil ?_
  refine kThen ?_
  refine kSeq ?_
  refine kRegion rfl ?_
  refine lV (yLoadA (vs := [_, _, _, _, _, _, _]) rfl A29 (cOwn 1 rfl rfl)) rfl rfl ?_
  refine lE rfl ?_
  refine eCallP rfl (.c rfl (.c rfl .n)) C55 (fun w hw => truth_10 y m none 0 [] 0 w (hm.eff hw) hM rfl SlE.nil (by simp) (by simp [imgsOk]) hd) ?_
  refine kThenP ?_
  refine fPanC 0 D73 C73 rfl rfl (.t rfl (.c1 rfl O33 (cOwn 0 rfl rfl) .n)) (endRet ?_)
  rfl
set_option maxRecDepth 100000 in
theorem idle_0 (y : Loc) (m : Meas) (w : World) (hm : InM w y m) (hM : MeasOk m) (hd : diagOk (tightB m (fullS m))) : Calls Try.prog 35 [.agg (measC y m).toArray].toArray w (Ret w (outI ((idleW m m.sets.length : Nat), 0))) := by
  have hN := hM.n
  have hF := fullS_lt hM
  refine fEnter Try.func35 rfl Try.ntmps35 rfl ?_
  refine kSeq ?_
  refine kRegion rfl ?_
  refine lE rfl ?_
  refine eBoxA rfl fun n1 => ?_
  refine lV (yAssign rfl) rfl rfl ?_
  refine lE rfl ?_
  refine eAlloc Z33 fun n3 => ?_
  refine lNil ?_
  refine kThen ?_
  refine kSeq ?_
  refine kRegion rfl ?_
  refine lV (yMakeFunc .n (.c rfl .n)) rfl rfl ?_
  refine lE rfl ?_
  refine eDefer rfl .n ?_
  refine lNil ?_
  refine kThen ?_
  refine kSeq ?_
  refine kRegion rfl ?_
  refine lV (yLoadA (vs := [_, _, _, _, _, _, _]) rfl A29 (cOwn 1 rfl rfl)) rfl rfl ?_
  refine lE rfl ?_
  refine eCallO rfl (.c rfl (.c rfl .n)) C55 (fun w hw => truth_0 y m none 0 [] 0 w (hm.eff hw) hM rfl SlE.nil (by simp) (by simp [imgsOk]) hd) fun x hx => ?_
  obtain ⟨nm, g⟩ := x
  dsimp only at hx ⊢
  refine lV (yMove rfl) rfl rfl ?_
  refine lV (yExtract rfl rfl) rfl rfl ?_
  refine lV (yExtract rfl rfl) rfl rfl ?_
  refine lE rfl ?_
  refine eAlloc Z77 fun n5 => ?_
  refine lV (yAssign rfl) rfl rfl ?_
  refine lE rfl ?_
  refine eStoreL 0 rfl rfl rfl rfl K77 rfl (rfl) ?_
  refine lNil ?_
  rw [bWrAll _ (tightB m (fullS m)) rfl]
  refine kThen ?_
  refine kSeq ?_
  refine kSeq ?_
  refine kRegion rfl ?_
  refine lV (yMove rfl) rfl rfl ?_
  refine lV (yNilCheckP rfl) rfl rfl ?_
  refine lV (yFieldAddr rfl F98_1) rfl rfl ?_
  refine lV (yLoad1 rfl O96 (cOwn 3 rfl rfl)) rfl rfl ?_
  refine lV (yLen rfl S96) rfl rfl ?_
  refine lV (yMove rfl) rfl rfl ?_
  refine lNil ?_
  refine kThen ?_
  refine kBlock ?_
  refine kLoopX (ι := Nat × Nat) (fun x => x.1 ≤ m.sets.length ∧ x.2 = idleW m x.1) (fun x => [(20, i64 (x.1 : Nat)), (2, i64 (x.2 : Nat))]) [(0, _), (1, _), (3, _), (9, _), (11, _), (12, _), (10, _), (13, _), (14, _), (5, _), (4, _), (15, _), (16, _), (17, _), (18, _), (19, _)] (fun x => []) (fun x => osL 117 g) [(n5, _), (n3, _), (n1, _), (nm, _)] (fun x => m.sets.length - x.1) (0, 0) (⟨Nat.zero_le _, rfl⟩) rfl (.c rfl (.c rfl .n)) (.c rfl (.c rfl (.c rfl (.c rfl (.c rfl (.c rfl (.c rfl (.c rfl (.c rfl (.c rfl (.c rfl (.c rfl (.c rfl (.c rfl (.c rfl (.c rfl .n)))))))))))))))) (.c 0 rfl (.c 0 rfl (.c 0 rfl (.c 0 rfl .r)))) ?_
  rintro ⟨i, s⟩ ⟨hi, hs⟩
  dsimp only at hi hs ⊢
  have hlt := idleW_lt m i
  rw [← hs] at hlt
  have hpi : 2 ^ i ≤ 2 ^ 12 := Nat.pow_le_pow_right (by omega) (by omega)
  refine kSeq ?_
  refine kRegion rfl ?_
  refine lV (yLss rfl rfl) rfl rfl ?_
  refine lNil ?_
  refine kThen ?_
  refine kSeq ?_
  refine split (t := 21) rfl (fun h21 => ?_) (fun h21 => ?_)
  · refine kIfT rfl ?_
    refine kSkip ?_
    refine kThen ?_
    refine kSeq ?_
    refine kBlock ?_
    refine kSeq ?_
    refine kRegion rfl ?_
    refine lV (yMove rfl) rfl rfl ?_
    refine lV (yAssign rfl) rfl rfl ?_
    refine lNil ?_
    refine kThen ?_
    refine kSeq ?_
    refine kDrawE [(2, none), (6, none)] [] [0, 1, 2, 3, 4, 5, 6, 7, 8, 9, 12] 2 hMix (by kernel_rfl) ?_
    refine .run rfl (yMove rfl) rfl rfl ?_
    refine .run rfl (yMove rfl) rfl rfl ?_
    refine .run rfl (yvSame (u := .int .u64 ((fullS m : Nat) : Int)) (yCall rfl (.c rfl .n) C69 (fun w hw => every_any nm y m g w (hw.blkAt 3 rfl) hM.n)) (rfl)) rfl rfl ?_
    refine .run rfl (yMove rfl) rfl rfl ?_
    refine .run rfl (yShl (a := 1) rfl rfl rfl (by omega) (by omega)) rfl rfl ?_
    refine .run rfl (yAndNot rfl rfl rfl (by omega) (by omega)) rfl rfl ?_
    refine .run rfl (yCall rfl (.c rfl (.c rfl .n)) C68 (fun w hw => tight_any nm y m g (less (fullS m) (1 * 2 ^ i)) w (by have := less_lt (a := fullS m) (b := 1 * 2 ^ i) (n := 12) (by omega); omega) (InMs.mk' hx hm hw (.d 0 (.d 0 (.d 0 (.d 0 .r)))) (hw.blkAt 3 rfl)) hM)) rfl rfl ?_
    refine .run rfl (yMove rfl) rfl rfl ?_
    refine .run rfl (yExtract rfl rfl) rfl rfl ?_
    refine .run rfl (yExtract rfl rfl) rfl rfl ?_
    refine .run rfl (yAssign rfl) rfl rfl ?_
    refine .done ?_
    refine effStep 10 [] (by kernel_rfl) closedSt (hLeft [2, 6] (by kernel_rfl) (.c (fun _ _ hs => hs.ef) (.c (fun _ _ hs => hs.ef) .n))) ?_
    refine .c ?_ .n
    refine effOne rfl (gNone rfl (fAlloc Z77)) ?_
    refine effStep 11 [] (by kernel_rfl) (closedEx fun n7 => closedSt) (hLeft [2, 6] (by kernel_rfl) (.c (fun _ _ ⟨n7, hs⟩ => hs.ef.sub (.c 1 rfl (.c 1 rfl (.c 1 rfl (.c 1 rfl (.d 0 .r)))))) (.c (fun _ _ ⟨n7, hs⟩ => hs.ef.sub (.c 1 rfl (.c 1 rfl (.c 1 rfl (.c 1 rfl (.d 0 .r)))))) .n))) ?_
    refine .c ?_ .n
    refine effOne rfl (opEx fun n7 => (gNone rfl (fStoreL 0 rfl rfl rfl rfl K77 rfl (rfl)))) ?_
    refine effDone (closedEx fun n7 => closedSt) (hLeft [] (by kernel_rfl) .n) (by kernel_rfl) ?_
    refine trEx fun n7 => ?_
    rw [bWrAll _ (tightB m (less (fullS m) (1 * 2 ^ i))) rfl]
    refine kThen ?_
    refine kSeq ?_
    refine kRegion rfl ?_
    refine lV (yLoadA (vs := (bCells _)) rfl A77 (cOwn 0 rfl (bSubAll _))) rfl rfl ?_
    refine lV (yLoadA (vs := (bCells _)) rfl A77 (cOwn 1 rfl (bSubAll _))) rfl rfl ?_
    refine lV (yEqAgg rfl rfl G77 (fun w => bEq _ _ w)) rfl rfl ?_
    refine splitB (t := 35) rfl (fun h35 => ?_) (fun h35 => ?_)
    · refine lNil ?_
      refine kThen ?_
      refine kIfT rfl ?_
      refine kRegion rfl ?_
      refine lV (yMove rfl) rfl rfl ?_
      refine lV (yMove rfl) rfl rfl ?_
      refine lV (yShl (a := 1) rfl rfl rfl (by omega) (by omega)) rfl rfl ?_
      refine lV (yOr rfl rfl rfl (by omega) (by omega)) rfl rfl ?_
      refine lV (yAssign rfl) rfl rfl ?_
      refine lNil ?_
      refine kInN ?_
      refine kThen ?_
      refine kRegion rfl ?_
      refine lV (yAdd rfl rfl (by omega)) rfl rfl ?_
      refine lV (yMove rfl) rfl rfl ?_
      refine lNil ?_
      exact kRoundX (i + 1, s ||| 1 * 2 ^ i) (⟨by dsimp only; omega, by dsimp only; rw [idleW_succ, ← hs]; first | rw [if_pos h35] | rw [if_neg (by rw [h35]; decide)]⟩) (by dsimp only; omega) rfl (.c rfl (.c rfl .n)) (.c rfl (.c rfl (.c rfl (.c rfl (.c rfl (.c rfl (.c rfl (.c rfl (.c rfl (.c rfl (.c rfl (.c rfl (.c rfl (.c rfl (.c rfl (.c rfl .n)))))))))))))))) (.c 1 rfl (.c 1 rfl (.c 1 rfl (.c 1 rfl (.d 0 .r)))))
    · refine lNil ?_
      refine kThen ?_
      refine kIfF rfl ?_
      refine kSkip ?_
      refine kInN ?_
      refine kThen ?_
      refine kRegion rfl ?_
      refine lV (yAdd rfl rfl (by omega)) rfl rfl ?_
      refine lV (yMove rfl) rfl rfl ?_
      refine lNil ?_
      exact kRoundX (i + 1, s) (⟨by dsimp only; omega, by dsimp only; rw [idleW_succ, ← hs]; first | rw [if_pos h35] | rw [if_neg (by rw [h35]; decide)]⟩) (by dsimp only; omega) rfl (.c rfl (.c rfl .n)) (.c rfl (.c rfl (.c rfl (.c rfl (.c rfl (.c rfl (.c rfl (.c rfl (.c rfl (.c rfl (.c rfl (.c rfl (.c rfl (.c rfl (.c rfl (.c rfl .n)))))))))))))))) (.c 1 rfl (.c 1 rfl (.c 1 rfl (.c 1 rfl (.d 0 .r)))))
  · refine kIfF rfl ?_
    refine kExit ?_
    refine kThenX ?_
    refine kThenX ?_
    refine kInX ?_
    refine kThen ?_
    refine kSeq ?_
    refine kRegion rfl ?_
    refine lV (yMove rfl) rfl rfl ?_
    refine lV (yAssign rfl) rfl rfl ?_
    refine lE rfl ?_
    refine eStoreL 1 rfl rfl rfl rfl K33 rfl (rfl) ?_
    refine lNil ?_
    refine kThen ?_
    refine kRet ?_
    refine fRetC D73 C73 rfl (.t rfl (.c1 rfl O33 (cOwn 1 rfl rfl) .n)) (endRet ?_)
    obtain rfl : i = m.sets.length := by omega
    simp only [packV, hs]
theorem idle_any (y : Loc) (m : Meas) (w : World) (hm : InM w y m) : Calls Try.prog 35 [.agg (measC y m).toArray].toArray w (Ret w (outI (idleE m))) := by
  unfold idleE
  by_cases hM : MeasOk m
  · rw [if_neg (not_not_intro hM)]
    by_cases hd : diagOk (tightB m (fullS m))
    · rw [if_neg (not_not_intro hd)]; exact idle_0 y m w hm hM hd
    · rw [if_pos hd]; exact idle_10 y m w hm hM hd
  · rw [if_pos hM]; exact idle_1 y m w hm hM
end Go.Proofs.Ytoefcofplkbnkaa
