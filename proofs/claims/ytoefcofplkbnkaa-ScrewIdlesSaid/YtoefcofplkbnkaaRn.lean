/-
  Walks: what a bound tells more; ScrewIdles.
-/
import Derived.Test.YtoefcofplkbnkaaEngS
import Derived.Test.YtoefcofplkbnkaaRi
import Derived.Test.YtoefcofplkbnkaaRg
import Derived.Test.YtoefcofplkbnkaaLm
namespace Go.Proofs.Ytoefcofplkbnkaa
open ZW

theorem two_at' {x y : Int} {i : Nat} (h : i < 2) : sub [i64 x, i64 y] (0 + ((i : Nat) : Int).toNat * 1) 1 = some [i64 (if i = 0 then x else y)] := by
  have : i = 0 ∨ i = 1 := by omega
  rcases this with rfl | rfl <;> rfl
theorem bound_1 {m x : Meas} (h : ¬ sumsF m (fullS m) = sumsF x (fullS x)) : boundB m x = true := by
  unfold boundB; rw [decide_eq_false h]; rfl
theorem bound_2 {m x : Meas} {j i : Nat} (hj : j < 2) (hi : i < m.images.toNat) (h : ¬ placeE (withS m (endN m j)) (i : Nat) = placeE (withS x (endN m j)) (i : Nat)) : boundB m x = true := by
  cases hb : boundB m x with
  | true => rfl
  | false =>
    unfold boundB at hb
    simp only [Bool.not_eq_false', Bool.and_eq_true, decide_eq_true_eq, List.all_eq_true, List.mem_range] at hb
    exact absurd (hb.2 j hj i hi) h
theorem bound_0 {m x : Meas} (hs : sumsF m (fullS m) = sumsF x (fullS x)) (h : ∀ j, j < 2 → ∀ i, i < m.images.toNat → placeE (withS m (endN m j)) (i : Nat) = placeE (withS x (endN m j)) (i : Nat)) : boundB m x = false := by
  unfold boundB
  simp only [Bool.not_eq_false', Bool.and_eq_true, decide_eq_true_eq, List.all_eq_true, List.mem_range]
  exact ⟨hs, h⟩
set_option maxHeartbeats 2000000 in
set_option maxRecDepth 100000 in
theorem bound_any (y : Loc) (m : Meas) (yx : Loc) (x : Meas) (w : World) (hm : InM w y m) (hx : InM w yx x) (hM : MeasOk m) (hX : MeasOk x) : Calls Try.prog 43 [.agg (measC y m).toArray, .agg (measC yx x).toArray].toArray w (Ret w (.bool (boundB m x))) := by
  have hN := hM.n
  have hNx := hX.n
  have hI := hM.i
  have hp1 : 1 * 2 ^ m.sets.length ≤ 2 ^ 12 := by rw [Nat.one_mul]; exact Nat.pow_le_pow_right (by omega) hN
  have hp2 : 1 * 2 ^ x.sets.length ≤ 2 ^ 12 := by rw [Nat.one_mul]; exact Nat.pow_le_pow_right (by omega) hNx
  have hq1 := Nat.two_pow_pos m.sets.length
  have hq2 := Nat.two_pow_pos x.sets.length
  refine fEnter Try.func43 rfl Try.ntmps43 rfl ?_
  refine kSeq ?_
  refine kRegion rfl ?_
  refine lE rfl ?_
  refine eBoxA rfl fun n2 => ?_
  refine lE rfl ?_
  refine eBoxA rfl fun n3 => ?_
  refine lV (yAssign rfl) rfl rfl ?_
  refine lNil ?_
  refine kThen ?_
  refine kSeq ?_
  refine kCutX (ι := Nat × Nat) (fun z => True) (fun z => [(5, .pointer (some ⟨z.1, 0, none⟩)), (6, .pointer (some ⟨z.2, 0, none⟩))]) [(2, _), (3, _), (4, _)] (fun z => []) (fun z => [(z.1, blk [i64 (sumsF m (fullS m)).1, i64 (sumsF m (fullS m)).2] 24), (z.2, blk [i64 (sumsF x (fullS x)).1, i64 (sumsF x (fullS x)).2] 24)]) [(n2, _), (n3, _)] (.c rfl (.c rfl (.c rfl .n))) (.c 1 rfl (.c 0 rfl .n)) ?_ (fun z _ => ?_)
  · refine kDrawE [(0, none), (2, none), (6, none), (7, none), (9, none), (13, none)] [] [0, 1, 2, 3, 4, 5, 6, 7, 8, 9, 10, 11, 12, 13] 4 hMix (by kernel_rfl) ?_
    refine .run rfl (yLoadA (vs := [_, _, _, _, _, _, _]) rfl A29 (cOwn 1 rfl rfl)) rfl rfl ?_
    refine .run rfl (yFieldAddr rfl F29_3) rfl rfl ?_
    refine .run rfl (yLoad1 rfl O27 (cOwn 1 rfl rfl)) rfl rfl ?_
    refine .run rfl (yLen rfl S27) rfl rfl ?_
    refine .run rfl (yShl (a := 1) rfl rfl rfl (by omega) (by omega)) rfl rfl ?_
    refine .run rfl (yvSame (u := i64 ((fullS m : Nat) : Int)) (ySub rfl rfl (by omega)) (by unfold fullS; congr 1; omega)) rfl rfl ?_
    refine .run rfl (yCall rfl (.c rfl (.c rfl .n)) C46 (fun w hw => rsums_any y m (fullS m) w (hm.eff hw) hM (fullS_62 hM))) rfl rfl ?_
    refine .run rfl (yLoadA (vs := [_, _, _, _, _, _, _]) rfl A29 (cOwn 0 rfl rfl)) rfl rfl ?_
    refine .run rfl (yFieldAddr rfl F29_3) rfl rfl ?_
    refine .run rfl (yLoad1 rfl O27 (cOwn 0 rfl rfl)) rfl rfl ?_
    refine .run rfl (yLen rfl S27) rfl rfl ?_
    refine .run rfl (yShl (a := 1) rfl rfl rfl (by omega) (by omega)) rfl rfl ?_
    refine .run rfl (yvSame (u := i64 ((fullS x : Nat) : Int)) (ySub rfl rfl (by omega)) (by unfold fullS; congr 1; omega)) rfl rfl ?_
    refine .run rfl (yCall rfl (.c rfl (.c rfl .n)) C46 (fun w hw => rsums_any yx x (fullS x) w (hx.eff hw) hX (fullS_62 hX))) rfl rfl ?_
    refine .done ?_
    refine effStep 14 [15] (by kernel_rfl) closedSt (hLeft [0, 2, 6, 7, 9, 13] (by kernel_rfl) (.c (fun _ _ hs => hs.ef) (.c (fun _ _ hs => hs.ef) (.c (fun _ _ hs => hs.ef) (.c (fun _ _ hs => hs.ef) (.c (fun _ _ hs => hs.ef) (.c (fun _ _ hs => hs.ef) .n))))))) ?_
    refine (.c ?_ (.c ?_ .n))
    · refine effOne rfl (gNone rfl (fAlloc Z24)) ?_
      refine effStep 15 [] (by kernel_rfl) (closedEx fun n5 => closedSt) (hLeft [0, 2, 6, 7, 9, 13] (by kernel_rfl) (.c (fun _ _ ⟨n5, hs⟩ => hs.ef.sub (.c 1 rfl (.c 1 rfl .n))) (.c (fun _ _ ⟨n5, hs⟩ => hs.ef.sub (.c 1 rfl (.c 1 rfl .n))) (.c (fun _ _ ⟨n5, hs⟩ => hs.ef.sub (.c 1 rfl (.c 1 rfl .n))) (.c (fun _ _ ⟨n5, hs⟩ => hs.ef.sub (.c 1 rfl (.c 1 rfl .n))) (.c (fun _ _ ⟨n5, hs⟩ => hs.ef.sub (.c 1 rfl (.c 1 rfl .n))) (.c (fun _ _ ⟨n5, hs⟩ => hs.ef.sub (.c 1 rfl (.c 1 rfl .n))) .n))))))) ?_
      refine .c ?_ .n
      refine effOne rfl (opEx fun n5 => (gNone rfl (fAlloc Z24))) ?_
      refine effStep 16 [] (by kernel_rfl) (closedEx fun n5 => (closedEx fun n6 => closedSt)) (hLeft [0, 2, 6, 7, 9, 13] (by kernel_rfl) (.c (fun _ _ ⟨n5, ⟨n6, hs⟩⟩ => hs.ef.sub (.c 2 rfl (.c 2 rfl .n))) (.c (fun _ _ ⟨n5, ⟨n6, hs⟩⟩ => hs.ef.sub (.c 2 rfl (.c 2 rfl .n))) (.c (fun _ _ ⟨n5, ⟨n6, hs⟩⟩ => hs.ef.sub (.c 2 rfl (.c 2 rfl .n))) (.c (fun _ _ ⟨n5, ⟨n6, hs⟩⟩ => hs.ef.sub (.c 2 rfl (.c 2 rfl .n))) (.c (fun _ _ ⟨n5, ⟨n6, hs⟩⟩ => hs.ef.sub (.c 2 rfl (.c 2 rfl .n))) (.c (fun _ _ ⟨n5, ⟨n6, hs⟩⟩ => hs.ef.sub (.c 2 rfl (.c 2 rfl .n))) .n))))))) ?_
      refine .c ?_ .n
      refine effOne rfl (opEx fun n5 => (opEx fun n6 => (gNone rfl (fStoreL 1 rfl rfl rfl rfl K24 rfl (rfl))))) ?_
      refine effStep 17 [] (by kernel_rfl) (closedEx fun n5 => (closedEx fun n6 => closedSt)) (hLeft [9] (by kernel_rfl) (.c (fun _ _ ⟨n5, ⟨n6, hs⟩⟩ => hs.ef.sub (.c 2 rfl (.c 2 rfl .n))) .n)) ?_
      refine .c ?_ .n
      refine effOne rfl (opEx fun n5 => (opEx fun n6 => (gNone rfl (fStoreL 0 rfl rfl rfl rfl K24 rfl (rfl))))) ?_
      refine effDone (closedEx fun n5 => (closedEx fun n6 => closedSt)) (hLeft [] (by kernel_rfl) .n) (by kernel_rfl) ?_
      refine trEx fun n5 => ?_
      refine trEx fun n6 => ?_
      exact kMeetX ((n5, n6)) (trivial) rfl (.c rfl (.c rfl .n)) (.c rfl (.c rfl (.c rfl .n))) (.c 3 rfl (.c 2 rfl (.c 1 rfl (.c 0 rfl .n))))
    · refine effOne rfl (gNone rfl (fAlloc Z24)) ?_
      refine effStep 14 [] (by kernel_rfl) (closedEx fun n6 => closedSt) (hLeft [0, 2, 6, 7, 9, 13] (by kernel_rfl) (.c (fun _ _ ⟨n6, hs⟩ => hs.ef.sub (.c 1 rfl (.c 1 rfl .n))) (.c (fun _ _ ⟨n6, hs⟩ => hs.ef.sub (.c 1 rfl (.c 1 rfl .n))) (.c (fun _ _ ⟨n6, hs⟩ => hs.ef.sub (.c 1 rfl (.c 1 rfl .n))) (.c (fun _ _ ⟨n6, hs⟩ => hs.ef.sub (.c 1 rfl (.c 1 rfl .n))) (.c (fun _ _ ⟨n6, hs⟩ => hs.ef.sub (.c 1 rfl (.c 1 rfl .n))) (.c (fun _ _ ⟨n6, hs⟩ => hs.ef.sub (.c 1 rfl (.c 1 rfl .n))) .n))))))) ?_
      refine .c ?_ .n
      refine effOne rfl (opEx fun n6 => (gNone rfl (fAlloc Z24))) ?_
      refine effStep 16 [] (by kernel_rfl) (closedEx fun n6 => (closedEx fun n5 => closedSt)) (hLeft [0, 2, 6, 7, 9, 13] (by kernel_rfl) (.c (fun _ _ ⟨n6, ⟨n5, hs⟩⟩ => hs.ef.sub (.c 2 rfl (.c 2 rfl .n))) (.c (fun _ _ ⟨n6, ⟨n5, hs⟩⟩ => hs.ef.sub (.c 2 rfl (.c 2 rfl .n))) (.c (fun _ _ ⟨n6, ⟨n5, hs⟩⟩ => hs.ef.sub (.c 2 rfl (.c 2 rfl .n))) (.c (fun _ _ ⟨n6, ⟨n5, hs⟩⟩ => hs.ef.sub (.c 2 rfl (.c 2 rfl .n))) (.c (fun _ _ ⟨n6, ⟨n5, hs⟩⟩ => hs.ef.sub (.c 2 rfl (.c 2 rfl .n))) (.c (fun _ _ ⟨n6, ⟨n5, hs⟩⟩ => hs.ef.sub (.c 2 rfl (.c 2 rfl .n))) .n))))))) ?_
      refine .c ?_ .n
      refine effOne rfl (opEx fun n6 => (opEx fun n5 => (gNone rfl (fStoreL 0 rfl rfl rfl rfl K24 rfl (rfl))))) ?_
      refine effStep 17 [] (by kernel_rfl) (closedEx fun n6 => (closedEx fun n5 => closedSt)) (hLeft [9] (by kernel_rfl) (.c (fun _ _ ⟨n6, ⟨n5, hs⟩⟩ => hs.ef.sub (.c 2 rfl (.c 2 rfl .n))) .n)) ?_
      refine .c ?_ .n
      refine effOne rfl (opEx fun n6 => (opEx fun n5 => (gNone rfl (fStoreL 1 rfl rfl rfl rfl K24 rfl (rfl))))) ?_
      refine effDone (closedEx fun n6 => (closedEx fun n5 => closedSt)) (hLeft [] (by kernel_rfl) .n) (by kernel_rfl) ?_
      refine trEx fun n6 => ?_
      refine trEx fun n5 => ?_
      exact kMeetX ((n5, n6)) (trivial) rfl (.c rfl (.c rfl .n)) (.c rfl (.c rfl (.c rfl .n))) (.c 3 rfl (.c 2 rfl (.c 0 rfl (.c 0 rfl .n))))
  · obtain ⟨n5, n6⟩ := z
    dsimp only
    refine kSeq ?_
    refine kSeq ?_
    refine kRegion rfl ?_
    refine lV (yLoadA (vs := [_, _]) rfl A24 (cOwn 2 rfl rfl)) rfl rfl ?_
    refine lV (yLoadA (vs := [_, _]) rfl A24 (cOwn 3 rfl rfl)) rfl rfl ?_
    refine lV (yNeAgg rfl rfl G24 (fun w => Q24 w)) rfl rfl ?_
    refine lNil ?_
    refine kThen ?_
    refine splitB (t := 32) rfl (fun h32 => ?_) (fun h32 => ?_)
    · refine kIfT rfl ?_
      refine kSeq ?_
      refine kRegion rfl ?_
      refine lV (yAssign rfl) rfl rfl ?_
      refine lNil ?_
      refine kThen ?_
      refine kRet ?_
      refine kThenR ?_
      refine fRet rfl (.t rfl .n) (endRet ?_)
      rw [bound_1 fun h => notT h32 (by rw [h]; exact ⟨rfl, rfl⟩)]
      rfl
    · refine kIfF rfl ?_
      refine kSkip ?_
      refine kThen ?_
      refine kSeq ?_
      refine kSeq ?_
      have hss : sumsF m (fullS m) = sumsF x (fullS x) := Prod.ext (notF h32).1 (notF h32).2
      refine kRegion rfl ?_
      refine lV (yFieldAddr rfl F24_0) rfl rfl ?_
      refine lV (yLoad1 rfl O3 (cOwn 2 rfl rfl)) rfl rfl ?_
      refine lV (yFieldAddr rfl F24_1) rfl rfl ?_
      refine lV (yLoad1 rfl O3 (cOwn 2 rfl rfl)) rfl rfl ?_
      refine lE rfl ?_
      refine eBuildSlice (.c rfl (.c rfl .n)) (fun w => BS41_2_0_1 w) fun n37 => ?_
      refine lV (yLen rfl S41) rfl rfl ?_
      refine lV (yMove rfl) rfl rfl ?_
      refine lNil ?_
      refine kThen ?_
      refine kBlock ?_
      refine kLoopX (ι := Nat) (fun i => i ≤ 2 ∧ ∀ j, j < i → ∀ k, k < m.images.toNat → placeE (withS m (endN m j)) (k : Nat) = placeE (withS x (endN m j)) (k : Nat)) (fun i => [(39, i64 (i : Nat))]) [(2, _), (3, _), (5, _), (6, _), (30, _), (31, _), (32, _), (33, _), (34, _), (35, _), (36, _), (37, _), (38, _)] (fun i => []) (fun i => []) [(n37, _), (n2, _), (n3, _), (n5, _), (n6, _)] (fun i => 2 - i) 0 (⟨by omega, fun j hj => absurd hj (by omega)⟩) rfl (.c rfl .n) (.c rfl (.c rfl (.c rfl (.c rfl (.c rfl (.c rfl (.c rfl (.c rfl (.c rfl (.c rfl (.c rfl (.c rfl (.c rfl .n))))))))))))) (.c 0 rfl (.c 0 rfl (.c 0 rfl (.c 0 rfl (.c 0 rfl .n))))) ?_
      rintro i ⟨hi, hok⟩
      refine kSeq ?_
      refine kRegion rfl ?_
      refine lV (yLss rfl rfl) rfl rfl ?_
      refine lNil ?_
      refine kThen ?_
      refine kSeq ?_
      refine split (t := 40) rfl (fun h40 => ?_) (fun h40 => ?_)
      · refine kIfT rfl ?_
        refine kSkip ?_
        refine kThen ?_
        refine kSeq ?_
        refine kBlock ?_
        refine kSeq ?_
        refine kRegion rfl ?_
        refine lV (yIndexSl rfl rfl S41 (by omega) (by omega)) rfl rfl ?_
        refine lV (yLoad1 rfl O3 (cOwn 0 rfl (two_at' (by omega)))) rfl rfl ?_
        refine same (t := 42) (u := i64 (endN m i)) rfl (rfl) ?_
        refine lV (yAssign rfl) rfl rfl ?_
        refine lNil ?_
        refine kThen ?_
        refine kSeq ?_
        refine kCutX (ι := Nat × Nat) (fun z => True) (fun z => [(9, .pointer (some ⟨z.1, 0, none⟩)), (10, .pointer (some ⟨z.2, 0, none⟩))]) [(2, _), (3, _), (5, _), (6, _), (30, _), (31, _), (32, _), (33, _), (34, _), (35, _), (36, _), (37, _), (38, _), (39, _), (40, _), (41, _), (42, _), (8, _)] (fun z => []) (fun z => [(z.1, blk (measC y m) 29), (z.2, blk (measC yx x) 29)]) [(n2, _), (n3, _), (n5, _), (n6, _), (n37, _)] (.c rfl (.c rfl (.c rfl (.c rfl (.c rfl (.c rfl (.c rfl (.c rfl (.c rfl (.c rfl (.c rfl (.c rfl (.c rfl (.c rfl (.c rfl (.c rfl (.c rfl (.c rfl .n)))))))))))))))))) (.c 1 rfl (.c 1 rfl (.c 1 rfl (.c 1 rfl (.c 0 rfl .n))))) ?_ (fun z _ => ?_)
        · refine kDrawE [(0, none), (1, none)] [] [0, 1] 4 hMix (by kernel_rfl) ?_
          refine .run rfl (yLoadA (vs := [_, _, _, _, _, _, _]) rfl A29 (cOwn 1 rfl rfl)) rfl rfl ?_
          refine .run rfl (yLoadA (vs := [_, _, _, _, _, _, _]) rfl A29 (cOwn 2 rfl rfl)) rfl rfl ?_
          refine .done ?_
          refine effStep 2 [3] (by kernel_rfl) closedSt (hLeft [0, 1] (by kernel_rfl) (.c (fun _ _ hs => hs.ef) (.c (fun _ _ hs => hs.ef) .n))) ?_
          refine (.c ?_ (.c ?_ .n))
          · refine effOne rfl (gNone rfl (fAlloc Z29)) ?_
            refine effStep 3 [] (by kernel_rfl) (closedEx fun n9 => closedSt) (hLeft [0, 1] (by kernel_rfl) (.c (fun _ _ ⟨n9, hs⟩ => hs.ef.sub (.c 1 rfl (.c 1 rfl (.c 1 rfl (.c 1 rfl (.c 1 rfl .n)))))) (.c (fun _ _ ⟨n9, hs⟩ => hs.ef.sub (.c 1 rfl (.c 1 rfl (.c 1 rfl (.c 1 rfl (.c 1 rfl .n)))))) .n))) ?_
            refine .c ?_ .n
            refine effOne rfl (opEx fun n9 => (gNone rfl (fAlloc Z29))) ?_
            refine effStep 4 [] (by kernel_rfl) (closedEx fun n9 => (closedEx fun n10 => closedSt)) (hLeft [0, 1] (by kernel_rfl) (.c (fun _ _ ⟨n9, ⟨n10, hs⟩⟩ => hs.ef.sub (.c 2 rfl (.c 2 rfl (.c 2 rfl (.c 2 rfl (.c 2 rfl .n)))))) (.c (fun _ _ ⟨n9, ⟨n10, hs⟩⟩ => hs.ef.sub (.c 2 rfl (.c 2 rfl (.c 2 rfl (.c 2 rfl (.c 2 rfl .n)))))) .n))) ?_
            refine .c ?_ .n
            refine effOne rfl (opEx fun n9 => (opEx fun n10 => (gNone rfl (fStoreL 1 rfl rfl rfl rfl K29 rfl (rfl))))) ?_
            refine effStep 5 [] (by kernel_rfl) (closedEx fun n9 => (closedEx fun n10 => closedSt)) (hLeft [1] (by kernel_rfl) (.c (fun _ _ ⟨n9, ⟨n10, hs⟩⟩ => hs.ef.sub (.c 2 rfl (.c 2 rfl (.c 2 rfl (.c 2 rfl (.c 2 rfl .n)))))) .n)) ?_
            refine .c ?_ .n
            refine effOne rfl (opEx fun n9 => (opEx fun n10 => (gNone rfl (fStoreL 0 rfl rfl rfl rfl K29 rfl (rfl))))) ?_
            refine effDone (closedEx fun n9 => (closedEx fun n10 => closedSt)) (hLeft [] (by kernel_rfl) .n) (by kernel_rfl) ?_
            refine trEx fun n9 => ?_
            refine trEx fun n10 => ?_
            exact kMeetX ((n9, n10)) (trivial) rfl (.c rfl (.c rfl .n)) (.c rfl (.c rfl (.c rfl (.c rfl (.c rfl (.c rfl (.c rfl (.c rfl (.c rfl (.c rfl (.c rfl (.c rfl (.c rfl (.c rfl (.c rfl (.c rfl (.c rfl (.c rfl .n)))))))))))))))))) (.c 3 rfl (.c 3 rfl (.c 3 rfl (.c 3 rfl (.c 2 rfl (.c 1 rfl (.c 0 rfl .n)))))))
          · refine effOne rfl (gNone rfl (fAlloc Z29)) ?_
            refine effStep 2 [] (by kernel_rfl) (closedEx fun n10 => closedSt) (hLeft [0, 1] (by kernel_rfl) (.c (fun _ _ ⟨n10, hs⟩ => hs.ef.sub (.c 1 rfl (.c 1 rfl (.c 1 rfl (.c 1 rfl (.c 1 rfl .n)))))) (.c (fun _ _ ⟨n10, hs⟩ => hs.ef.sub (.c 1 rfl (.c 1 rfl (.c 1 rfl (.c 1 rfl (.c 1 rfl .n)))))) .n))) ?_
            refine .c ?_ .n
            refine effOne rfl (opEx fun n10 => (gNone rfl (fAlloc Z29))) ?_
            refine effStep 4 [] (by kernel_rfl) (closedEx fun n10 => (closedEx fun n9 => closedSt)) (hLeft [0, 1] (by kernel_rfl) (.c (fun _ _ ⟨n10, ⟨n9, hs⟩⟩ => hs.ef.sub (.c 2 rfl (.c 2 rfl (.c 2 rfl (.c 2 rfl (.c 2 rfl .n)))))) (.c (fun _ _ ⟨n10, ⟨n9, hs⟩⟩ => hs.ef.sub (.c 2 rfl (.c 2 rfl (.c 2 rfl (.c 2 rfl (.c 2 rfl .n)))))) .n))) ?_
            refine .c ?_ .n
            refine effOne rfl (opEx fun n10 => (opEx fun n9 => (gNone rfl (fStoreL 0 rfl rfl rfl rfl K29 rfl (rfl))))) ?_
            refine effStep 5 [] (by kernel_rfl) (closedEx fun n10 => (closedEx fun n9 => closedSt)) (hLeft [1] (by kernel_rfl) (.c (fun _ _ ⟨n10, ⟨n9, hs⟩⟩ => hs.ef.sub (.c 2 rfl (.c 2 rfl (.c 2 rfl (.c 2 rfl (.c 2 rfl .n)))))) .n)) ?_
            refine .c ?_ .n
            refine effOne rfl (opEx fun n10 => (opEx fun n9 => (gNone rfl (fStoreL 1 rfl rfl rfl rfl K29 rfl (rfl))))) ?_
            refine effDone (closedEx fun n10 => (closedEx fun n9 => closedSt)) (hLeft [] (by kernel_rfl) .n) (by kernel_rfl) ?_
            refine trEx fun n10 => ?_
            refine trEx fun n9 => ?_
            exact kMeetX ((n9, n10)) (trivial) rfl (.c rfl (.c rfl .n)) (.c rfl (.c rfl (.c rfl (.c rfl (.c rfl (.c rfl (.c rfl (.c rfl (.c rfl (.c rfl (.c rfl (.c rfl (.c rfl (.c rfl (.c rfl (.c rfl (.c rfl (.c rfl .n)))))))))))))))))) (.c 3 rfl (.c 3 rfl (.c 3 rfl (.c 3 rfl (.c 2 rfl (.c 0 rfl (.c 0 rfl .n)))))))
        · obtain ⟨n9, n10⟩ := z
          dsimp only
          refine kSeq ?_
          refine kRegion rfl ?_
          refine lV (yMove rfl) rfl rfl ?_
          refine lV (yMove rfl) rfl rfl ?_
          refine lV (yCall rfl (.c rfl (.c rfl .n)) C30 (fun w hw => spanL_any _ _ w)) rfl rfl ?_
          refine lV (yMove rfl) rfl rfl ?_
          refine lV (yMove rfl) rfl rfl ?_
          refine lV (yCall rfl (.c rfl (.c rfl .n)) C30 (fun w hw => spanL_any _ _ w)) rfl rfl ?_
          refine lV (yFieldAddr rfl F29_2) rfl rfl ?_
          refine lE rfl ?_
          refine eStoreL 5 rfl rfl rfl rfl K24 rfl (rfl) ?_
          refine lV (yFieldAddr rfl F29_2) rfl rfl ?_
          refine lE rfl ?_
          refine eStoreL 6 rfl rfl rfl rfl K24 rfl (rfl) ?_
          refine lNil ?_
          refine kThen ?_
          refine kSeq ?_
          refine kRegion rfl ?_
          refine lV (yFieldAddr rfl F29_1) rfl rfl ?_
          refine lV (yLoad1 rfl O3 (cOwn 0 rfl rfl)) rfl rfl ?_
          refine lV (yMove rfl) rfl rfl ?_
          refine lNil ?_
          refine kThen ?_
          refine kBlock ?_
          refine kLoopX (ι := Nat) (fun k => k ≤ m.images.toNat ∧ ∀ k', k' < k → placeE (withS m (endN m i)) (k' : Nat) = placeE (withS x (endN m i)) (k' : Nat)) (fun k => [(55, i64 (k : Nat))]) [(2, _), (3, _), (5, _), (6, _), (30, _), (31, _), (32, _), (33, _), (34, _), (35, _), (36, _), (37, _), (38, _), (39, _), (40, _), (41, _), (42, _), (8, _), (9, _), (10, _), (45, _), (46, _), (47, _), (48, _), (49, _), (50, _), (51, _), (52, _), (53, _), (54, _)] (fun k => []) (fun k => []) [(n2, _), (n3, _), (n5, _), (n6, _), (n37, _), (n9, _), (n10, _)] (fun k => m.images.toNat - k) 0 (⟨Nat.zero_le _, fun j hj => absurd hj (by omega)⟩) rfl (.c rfl .n) (.c rfl (.c rfl (.c rfl (.c rfl (.c rfl (.c rfl (.c rfl (.c rfl (.c rfl (.c rfl (.c rfl (.c rfl (.c rfl (.c rfl (.c rfl (.c rfl (.c rfl (.c rfl (.c rfl (.c rfl (.c rfl (.c rfl (.c rfl (.c rfl (.c rfl (.c rfl (.c rfl (.c rfl (.c rfl (.c rfl .n)))))))))))))))))))))))))))))) (.c 0 rfl (.c 0 rfl (.c 0 rfl (.c 0 rfl (.c 0 rfl (.c 0 rfl (.c 0 rfl .n))))))) ?_
          rintro k ⟨hk, hok2⟩
          refine kSeq ?_
          refine kRegion rfl ?_
          refine lV (yLss rfl rfl) rfl rfl ?_
          refine lNil ?_
          refine kThen ?_
          refine kSeq ?_
          refine split (t := 56) rfl (fun h56 => ?_) (fun h56 => ?_)
          · refine kIfT rfl ?_
            refine kSkip ?_
            refine kThen ?_
            refine kSeq ?_
            refine kBlock ?_
            refine kSeq ?_
            refine kRegion rfl ?_
            refine lV (yMove rfl) rfl rfl ?_
            refine lV (yAssign rfl) rfl rfl ?_
            refine lNil ?_
            refine kThen ?_
            refine kSeq ?_
            refine kRegion rfl ?_
            refine lV (yLoadA (vs := [_, _, _, _, _, _, _]) rfl A29 (cOwn 5 rfl rfl)) rfl rfl ?_
            refine lV (yMove rfl) rfl rfl ?_
            refine lV (yCall rfl (.c rfl (.c rfl .n)) C20 (fun w hw => place_any y (withS m (endN m i)) (k : Nat) w ⟨(hm.eff hw).e, (hm.eff hw).s⟩)) rfl rfl ?_
            refine lV (yMove rfl) rfl rfl ?_
            refine lV (yExtract rfl rfl) rfl rfl ?_
            refine lV (yExtract rfl rfl) rfl rfl ?_
            refine lE rfl ?_
            refine eAlloc Z24 fun n12 => ?_
            refine lE rfl ?_
            refine eStoreL 0 rfl rfl rfl rfl K24 rfl (rfl) ?_
            refine lV (yAssign rfl) rfl rfl ?_
            refine lNil ?_
            refine kThen ?_
            refine kSeq ?_
            refine kRegion rfl ?_
            refine lV (yLoadA (vs := [_, _, _, _, _, _, _]) rfl A29 (cOwn 7 rfl rfl)) rfl rfl ?_
            refine lV (yMove rfl) rfl rfl ?_
            refine lV (yCall rfl (.c rfl (.c rfl .n)) C20 (fun w hw => place_any yx (withS x (endN m i)) (k : Nat) w ⟨(hx.eff hw).e, (hx.eff hw).s⟩)) rfl rfl ?_
            refine lV (yMove rfl) rfl rfl ?_
            refine lV (yExtract rfl rfl) rfl rfl ?_
            refine lV (yExtract rfl rfl) rfl rfl ?_
            refine lE rfl ?_
            refine eAlloc Z24 fun n14 => ?_
            refine lE rfl ?_
            refine eStoreL 0 rfl rfl rfl rfl K24 rfl (rfl) ?_
            refine lV (yAssign rfl) rfl rfl ?_
            refine lNil ?_
            refine kThen ?_
            refine kSeq ?_
            refine kRegion rfl ?_
            refine lV (yLoadA (vs := [_, _]) rfl A24 (cOwn 1 rfl rfl)) rfl rfl ?_
            refine lV (yLoadA (vs := [_, _]) rfl A24 (cOwn 0 rfl rfl)) rfl rfl ?_
            refine lV (yNeAgg rfl rfl G24 (fun w => Q24 w)) rfl rfl ?_
            refine lV (yMove rfl) rfl rfl ?_
            refine splitB (t := 73) rfl (fun h73 => ?_) (fun h73 => ?_)
            · refine lGN rfl rfl rfl rfl rfl ?_
              refine lGN rfl rfl rfl rfl rfl ?_
              refine lGN rfl rfl rfl rfl rfl ?_
              refine lV (yPickT rfl rfl) rfl rfl ?_
              refine lNil ?_
              refine kThen ?_
              refine kIfT rfl ?_
              refine kSeq ?_
              refine kRegion rfl ?_
              refine lV (yAssign rfl) rfl rfl ?_
              refine lNil ?_
              refine kThen ?_
              refine kRet ?_
              refine kInR ?_
              refine kThenR ?_
              refine kThenR ?_
              refine kInR ?_
              refine kInR ?_
              refine kThenR ?_
              refine kThenR ?_
              refine kInR ?_
              refine kThenR ?_
              refine fRet rfl (.t rfl .n) (endRet ?_)
              rw [bound_2 (j := i) (i := k) (by omega) (by omega) fun h => notT h73 (by rw [h]; exact ⟨rfl, rfl⟩)]
              rfl
            · refine lGY rfl rfl rfl (oV (yMove rfl) rfl ?_)
              refine lGY rfl rfl rfl (oV (yMove rfl) rfl ?_)
              refine lGY rfl rfl rfl (oV (yNeq rfl rfl) rfl ?_)
              refine lV (yPickF rfl rfl) rfl rfl ?_
              refine lNil ?_
              refine kThen ?_
              refine split (t := 77) rfl (fun h77 => ?_) (fun h77 => ?_)
              · refine kIfT rfl ?_
                refine kSeq ?_
                refine kRegion rfl ?_
                refine lV (yAssign rfl) rfl rfl ?_
                refine lNil ?_
                refine kThen ?_
                refine kRet ?_
                refine kInR ?_
                refine kThenR ?_
                refine kThenR ?_
                refine kInR ?_
                refine kInR ?_
                refine kThenR ?_
                refine kThenR ?_
                refine kInR ?_
                refine kThenR ?_
                refine fRet rfl (.t rfl .n) (endRet ?_)
                rw [bound_2 (j := i) (i := k) (by omega) (by omega) fun h => h77 (by rw [h])]
                rfl
              · refine kIfF rfl ?_
                refine kSkip ?_
                refine kInN ?_
                refine kThen ?_
                refine kRegion rfl ?_
                refine lV (yAdd rfl rfl (by omega)) rfl rfl ?_
                refine lV (yMove rfl) rfl rfl ?_
                refine lNil ?_
                exact kRoundX (k + 1) (⟨by omega, fun k' hk' => by rcases Nat.lt_or_ge k' k with h | h; (· exact hok2 k' h); (obtain rfl : k' = k := (by omega)); exact Prod.ext (Prod.ext (notF h73).1 (notF h73).2) (Decidable.not_not.1 h77)⟩) (by omega) rfl (.c rfl .n) (.c rfl (.c rfl (.c rfl (.c rfl (.c rfl (.c rfl (.c rfl (.c rfl (.c rfl (.c rfl (.c rfl (.c rfl (.c rfl (.c rfl (.c rfl (.c rfl (.c rfl (.c rfl (.c rfl (.c rfl (.c rfl (.c rfl (.c rfl (.c rfl (.c rfl (.c rfl (.c rfl (.c rfl (.c rfl (.c rfl .n)))))))))))))))))))))))))))))) (.c 2 rfl (.c 2 rfl (.c 2 rfl (.c 2 rfl (.c 2 rfl (.c 2 rfl (.c 2 rfl .n)))))))
          · refine kIfF rfl ?_
            refine kExit ?_
            refine kThenX ?_
            refine kThenX ?_
            refine kInX ?_
            refine kInN ?_
            refine kThen ?_
            refine kRegion rfl ?_
            refine lV (yAdd rfl rfl (by omega)) rfl rfl ?_
            refine lV (yMove rfl) rfl rfl ?_
            refine lNil ?_
            exact kRoundX (i + 1) (⟨by omega, fun j hj k hk => by rcases Nat.lt_or_ge j i with h | h; (· exact hok j h k hk); (obtain rfl : j = i := (by omega)); exact hok2 k (by omega)⟩) (by omega) rfl (.c rfl .n) (.c rfl (.c rfl (.c rfl (.c rfl (.c rfl (.c rfl (.c rfl (.c rfl (.c rfl (.c rfl (.c rfl (.c rfl (.c rfl .n))))))))))))) (.c 4 rfl (.c 0 rfl (.c 0 rfl (.c 0 rfl (.c 0 rfl .n)))))
      · refine kIfF rfl ?_
        refine kExit ?_
        refine kThenX ?_
        refine kThenX ?_
        refine kInX ?_
        refine kThen ?_
        refine kSeq ?_
        refine kRegion rfl ?_
        refine lV (yAssign rfl) rfl rfl ?_
        refine lNil ?_
        refine kThen ?_
        refine kRet ?_
        refine fRet rfl (.t rfl .n) (endRet ?_)
        rw [bound_0 hss fun j hj k hk => hok j (by omega) k hk]
        rfl
end Go.Proofs.Ytoefcofplkbnkaa
