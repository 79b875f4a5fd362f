/-
  Walks: the small functions of the screw.
-/
import Derived.Test.YtoefcofplkbnkaaFacts
import Derived.Test.YtoefcofplkbnkaaPure
namespace Go.Proofs.Ytoefcofplkbnkaa
open ZW

set_option maxRecDepth 100000 in
theorem within_any (n a b : Int) (w : World) : Calls Try.prog 81 [.int .i64 n, .int .i64 a, .int .i64 b].toArray w (Ret w (.bool (decide (a ≤ n ∧ n ≤ b)))) := by
  refine fEnter Try.func81 rfl Try.ntmps81 rfl ?_
  refine kSeq ?_
  refine kRegion rfl ?_
  refine lV (yAssign rfl) rfl rfl ?_
  refine lNil ?_
  refine kThen ?_
  refine kSeq ?_
  refine kRegion rfl ?_
  refine lV (yMove rfl) rfl rfl ?_
  refine lV (yMove rfl) rfl rfl ?_
  refine lV (yLeq rfl rfl) rfl rfl ?_
  refine lV (yMove rfl) rfl rfl ?_
  refine split (t := 10) rfl (fun h10 => ?_) (fun h10 => ?_)
  · refine lGY rfl rfl rfl (oV (yMove rfl) rfl ?_)
    refine lGY rfl rfl rfl (oV (yMove rfl) rfl ?_)
    refine lGY rfl rfl rfl (oV (yLeq rfl rfl) rfl ?_)
    refine lV (yPickT rfl rfl) rfl rfl ?_
    refine lV (yAssign rfl) rfl rfl ?_
    refine lNil ?_
    refine kThen ?_
    refine kRet ?_
    refine fRet rfl (.t rfl .n) (endRet ?_)
    simp [packV, *]
  · refine lGN rfl rfl rfl rfl rfl ?_
    refine lGN rfl rfl rfl rfl rfl ?_
    refine lGN rfl rfl rfl rfl rfl ?_
    refine lV (yPickF rfl rfl) rfl rfl ?_
    refine lV (yAssign rfl) rfl rfl ?_
    refine lNil ?_
    refine kThen ?_
    refine kRet ?_
    refine fRet rfl (.t rfl .n) (endRet ?_)
    simp [packV, *]

set_option maxRecDepth 100000 in
theorem isSpan_any (lo hi a b : Int) (w : World) : Calls Try.prog 80 [.agg [.int .i64 lo, .int .i64 hi].toArray, .int .i64 a, .int .i64 b].toArray w (Ret w (.bool (decide (a ≤ lo ∧ lo ≤ hi ∧ hi ≤ b)))) := by
  refine fEnter Try.func80 rfl Try.ntmps80 rfl ?_
  refine kSeq ?_
  refine kRegion rfl ?_
  refine lE rfl ?_
  refine eBoxA rfl fun n3 => ?_
  refine lV (yAssign rfl) rfl rfl ?_
  refine lNil ?_
  refine kThen ?_
  refine kSeq ?_
  refine kRegion rfl ?_
  refine lV (yMove rfl) rfl rfl ?_
  refine lV (yFieldAddr rfl F24_0) rfl rfl ?_
  refine lV (yLoad1 rfl O3 (cOwn 0 rfl rfl)) rfl rfl ?_
  refine lV (yLeq rfl rfl) rfl rfl ?_
  refine lV (yMove rfl) rfl rfl ?_
  refine split (t := 11) rfl (fun h11 => ?_) (fun h11 => ?_)
  · refine lGY rfl rfl rfl (oV (yFieldAddr rfl F24_0) rfl ?_)
    refine lGY rfl rfl rfl (oV (yLoad1 rfl O3 (cOwn 0 rfl rfl)) rfl ?_)
    refine lGY rfl rfl rfl (oV (yFieldAddr rfl F24_1) rfl ?_)
    refine lGY rfl rfl rfl (oV (yLoad1 rfl O3 (cOwn 0 rfl rfl)) rfl ?_)
    refine lGY rfl rfl rfl (oV (yLeq rfl rfl) rfl ?_)
    refine lV (yPickT rfl rfl) rfl rfl ?_
    refine lV (yMove rfl) rfl rfl ?_
    refine split (t := 18) rfl (fun h18 => ?_) (fun h18 => ?_)
    · refine lGY rfl rfl rfl (oV (yFieldAddr rfl F24_1) rfl ?_)
      refine lGY rfl rfl rfl (oV (yLoad1 rfl O3 (cOwn 0 rfl rfl)) rfl ?_)
      refine lGY rfl rfl rfl (oV (yMove rfl) rfl ?_)
      refine lGY rfl rfl rfl (oV (yLeq rfl rfl) rfl ?_)
      refine lV (yPickT rfl rfl) rfl rfl ?_
      refine lV (yAssign rfl) rfl rfl ?_
      refine lNil ?_
      refine kThen ?_
      refine kRet ?_
      refine fRet rfl (.t rfl .n) (endRet ?_)
      simp [packV, *]
    · refine lGN rfl rfl rfl rfl rfl ?_
      refine lGN rfl rfl rfl rfl rfl ?_
      refine lGN rfl rfl rfl rfl rfl ?_
      refine lGN rfl rfl rfl rfl rfl ?_
      refine lV (yPickF rfl rfl) rfl rfl ?_
      refine lV (yAssign rfl) rfl rfl ?_
      refine lNil ?_
      refine kThen ?_
      refine kRet ?_
      refine fRet rfl (.t rfl .n) (endRet ?_)
      simp [packV, *]
  · refine lGN rfl rfl rfl rfl rfl ?_
    refine lGN rfl rfl rfl rfl rfl ?_
    refine lGN rfl rfl rfl rfl rfl ?_
    refine lGN rfl rfl rfl rfl rfl ?_
    refine lGN rfl rfl rfl rfl rfl ?_
    refine lV (yPickF rfl rfl) rfl rfl ?_
    refine lV (yMove rfl) rfl rfl ?_
    refine lGN rfl rfl rfl rfl rfl ?_
    refine lGN rfl rfl rfl rfl rfl ?_
    refine lGN rfl rfl rfl rfl rfl ?_
    refine lGN rfl rfl rfl rfl rfl ?_
    refine lV (yPickF rfl rfl) rfl rfl ?_
    refine lV (yAssign rfl) rfl rfl ?_
    refine lNil ?_
    refine kThen ?_
    refine kRet ?_
    refine fRet rfl (.t rfl .n) (endRet ?_)
    simp [packV, *]

/-- The sum of some spans. -/
def sumTo (l : List (Int × Int)) (n : Nat) : Int × Int := (List.range n).foldl (fun s i => (s.1 + (l.getD i (0, 0)).1, s.2 + (l.getD i (0, 0)).2)) (0, 0)
theorem sumTo_succ (l : List (Int × Int)) (n : Nat) : sumTo l (n + 1) = ((sumTo l n).1 + (l.getD n (0, 0)).1, (sumTo l n).2 + (l.getD n (0, 0)).2) := range_foldl_succ _ _ _
def small (x : Int) : Prop := -1000000000000 ≤ x ∧ x ≤ 1000000000000
theorem getD_mem {α : Type} {l : List α} {i : Nat} (h : i < l.length) (d : α) : l.getD i d ∈ l := by
  rw [← List.getElem_eq_getD (h := h)]; exact List.getElem_mem h
theorem sumTo_small {l : List (Int × Int)} (h : ∀ x ∈ l, small x.1 ∧ small x.2) : ∀ n, n ≤ l.length → -1000000000000 * n ≤ (sumTo l n).1 ∧ (sumTo l n).1 ≤ 1000000000000 * n ∧ -1000000000000 * n ≤ (sumTo l n).2 ∧ (sumTo l n).2 ≤ 1000000000000 * n
  | 0, _ => by simp [sumTo]
  | n + 1, hn => by
    have ih := sumTo_small h n (by omega)
    have hx := h _ (getD_mem (l := l) (i := n) (by omega) (0, 0))
    rw [sumTo_succ]
    unfold small at hx
    simp only
    omega

set_option maxRecDepth 100000 in
theorem total_any (a : Option Addr) (c : Nat) (l : List (Int × Int)) (w : World) (hs : SlE w a l.length 2 (errC l)) (hl : ∀ x ∈ l, small x.1 ∧ small x.2) (hn : l.length ≤ 100) :
    Calls Try.prog 84 [.slice a l.length c].toArray w (Ret w (.agg [i64 (sumTo l l.length).1, i64 (sumTo l l.length).2].toArray)) := by
  refine fEnter Try.func84 rfl Try.ntmps84 rfl ?_
  refine kSeq ?_
  refine kRegion rfl ?_
  refine lE rfl ?_
  refine eAlloc Z69 fun n2 => ?_
  refine lNil ?_
  refine kThen ?_
  refine kSeq ?_
  refine kSeq ?_
  refine kRegion rfl ?_
  refine lV (yMove rfl) rfl rfl ?_
  refine lV (yLen rfl S22) rfl rfl ?_
  refine lV (yMove rfl) rfl rfl ?_
  refine lNil ?_
  refine kThen ?_
  refine kBlock ?_
  refine kLoopX (ι := Nat × Int × Int) (fun x => x.1 ≤ l.length ∧ x.2 = sumTo l x.1) (fun x => [(7, i64 (x.1 : Nat))]) [(0, _), (2, _), (5, _), (6, _)] (fun x => []) (fun x => [(n2, blk [i64 x.2.1, i64 x.2.2] 69)]) [] (fun x => l.length - x.1) (0, 0, 0) (⟨Nat.zero_le _, rfl⟩) rfl (.c rfl .n) (.c rfl (.c rfl (.c rfl (.c rfl .n)))) (.c 0 rfl .n) ?_
  rintro ⟨i, s1, s2⟩ ⟨hi, hs2⟩
  dsimp only at hi hs2 ⊢
  refine kSeq ?_
  refine kRegion rfl ?_
  refine lV (yLss rfl rfl) rfl rfl ?_
  refine lNil ?_
  refine kThen ?_
  refine kSeq ?_
  refine split (t := 8) rfl (fun h8 => ?_) (fun h8 => ?_)
  · refine kIfT rfl ?_
    refine kSkip ?_
    refine kThen ?_
    refine kSeq ?_
    refine kBlock ?_
    refine kSeq ?_
    refine kRegion rfl ?_
    refine lV (yIndexS  rfl rfl S22 (hs.r) ((by omega))) rfl rfl ?_
    refine lV (yLoadA (vs := [_, _]) rfl A24 (cSl0 (hs.r) ((by omega)) rfl)) rfl rfl ?_
    refine lE rfl ?_
    refine eAlloc Z24 fun n4 => ?_
    refine lE rfl ?_
    refine eStoreL 0 rfl rfl rfl rfl K24 rfl (rfl) ?_
    refine lNil ?_
    refine kThen ?_
    refine kDrawE [(1, none), (3, none), (6, none), (8, some [0])] [] [0, 1, 2, 3, 4, 5, 6, 7, 8, 9, 10, 12] 2 hMix (by kernel_rfl) ?_
    refine .run rfl (yFieldAddr rfl F69_0) rfl rfl ?_
    refine .run rfl (yLoad1 rfl O3 (cOwn 1 rfl rfl)) rfl rfl ?_
    refine .run rfl (yFieldAddr rfl F24_0) rfl rfl ?_
    refine .run rfl (yLoad1 rfl O3 (cOwn 0 rfl rfl)) rfl rfl ?_
    refine .run rfl (yAdd rfl rfl (by have := sumTo_small hl (i + 1) (by omega); rw [sumTo_succ, ← hs2] at this; dsimp only at this; omega)) rfl rfl ?_
    refine .run rfl (yFieldAddr rfl F69_1) rfl rfl ?_
    refine .run rfl (yLoad1 rfl O3 (cOwn 1 rfl rfl)) rfl rfl ?_
    refine .run rfl (yFieldAddr rfl F24_1) rfl rfl ?_
    refine .run rfl (yLoad1 rfl O3 (cOwn 0 rfl rfl)) rfl rfl ?_
    refine .run rfl (yAdd rfl rfl (by have := sumTo_small hl (i + 1) (by omega); rw [sumTo_succ, ← hs2] at this; dsimp only at this; omega)) rfl rfl ?_
    refine .run rfl (yFieldAddr rfl F69_0) rfl rfl ?_
    refine .run rfl (yFieldAddr rfl F69_1) rfl rfl ?_
    refine .done ?_
    refine effStep 11 [] (by kernel_rfl) closedSt (hLeft [1, 3, 6, 8] (by kernel_rfl) (.c (fun _ _ hs => hs.ef) (.c (fun _ _ hs => hs.ef) (.c (fun _ _ hs => hs.ef) (.c (fun _ _ hs => hs.ef.sub (.c 0 rfl .n)) .n))))) ?_
    refine .c ?_ .n
    refine effOne rfl (gNone rfl (fStoreL 1 rfl rfl rfl rfl K3 rfl (rfl))) ?_
    refine effStep 13 [] (by kernel_rfl) closedSt (hLeft [8] (by kernel_rfl) (.c (fun _ _ hs => hs.ef.sub (.c 0 rfl .n)) .n)) ?_
    refine .c ?_ .n
    refine effOne rfl (gNone rfl (fStoreL 1 rfl rfl rfl rfl K3 rfl (rfl))) ?_
    refine effDone closedSt (hLeft [] (by kernel_rfl) .n) (by kernel_rfl) ?_
    refine kInN ?_
    refine kThen ?_
    refine kRegion rfl ?_
    refine lV (yAdd rfl rfl (by omega)) rfl rfl ?_
    refine lV (yMove rfl) rfl rfl ?_
    refine lNil ?_
    exact kRoundX (i + 1, _, _) (⟨by dsimp only; omega, by rw [sumTo_succ, ← hs2]⟩) (by dsimp only; omega) rfl (.c rfl .n) (.c rfl (.c rfl (.c rfl (.c rfl .n)))) (.c 1 rfl .n)
  · refine kIfF rfl ?_
    refine kExit ?_
    refine kThenX ?_
    refine kThenX ?_
    refine kInX ?_
    refine kThen ?_
    refine kSeq ?_
    refine kRegion rfl ?_
    refine lV (yLoadA (vs := [_, _]) rfl A69 (cOwn 0 rfl rfl)) rfl rfl ?_
    refine lE rfl ?_
    refine eStoreL 0 rfl rfl rfl rfl K69 rfl (rfl) ?_
    refine lNil ?_
    refine kThen ?_
    refine kRet ?_
    refine fRet rfl (.cA (us := [_, _]) rfl A69 (cOwn 0 rfl rfl) .n) (endRet ?_)
    obtain rfl : i = l.length := by omega
    rw [← hs2]; rfl

theorem small_100 {s : Int × Int} (h : spanOk (-100) 100 s) : small s.1 ∧ small s.2 := by unfold spanOk at h; unfold small; omega
theorem readOk_lt {m : Meas} {n : Int} (h : readOk m n) : (n / 1000).toNat < m.errs.length ∧ n / 1000 = ((n / 1000).toNat : Int) := by unfold readOk at h; omega
theorem sum3 (n : Int) (x y : Int × Int) : sumTo [(n, n), x, y] 3 = (n + x.1 + y.1, n + x.2 + y.2) := by simp [sumTo, List.range, List.range.loop]

set_option maxRecDepth 100000 in
theorem travel_any (y : Loc) (m : Meas) (n : Int) (w : World) (hm : InM w y m) (hs : ScrewOk m) (hn : readOk m n) :
    Calls Try.prog 49 [.agg (screwC y m).toArray, i64 n].toArray w (Ret w (.agg [i64 (travelP m n).1, i64 (travelP m n).2].toArray)) := by
  have hk := readOk_lt hn
  have hn0 : 0 ≤ n ∧ n ≤ 9223372036854775807 := by unfold readOk at hn; have := hs.n; omega
  refine fEnter Try.func49 rfl Try.ntmps49 rfl ?_
  refine kSeq ?_
  refine kRegion rfl ?_
  refine lE rfl ?_
  refine eBoxA rfl fun n2 => ?_
  refine lE rfl ?_
  refine eAlloc Z69 fun n4 => ?_
  refine lNil ?_
  refine kThen ?_
  refine kSeq ?_
  refine kDrawE [(4, none), (7, none), (8, none), (10, none)] [] [0, 1, 2, 3, 4, 5, 6, 7, 8, 9, 10] 3 hMix (by kernel_rfl) ?_
  refine .run rfl (yMove rfl) rfl rfl ?_
  refine .run rfl (yMove rfl) rfl rfl ?_
  refine .run rfl (yBuild (.c rfl (.c rfl .n)) (fun w => B24_0_1 w)) rfl rfl ?_
  refine .run rfl (yFieldAddr rfl F26_0) rfl rfl ?_
  refine .run rfl (yLoad1 rfl O22 (cOwn 1 rfl rfl)) rfl rfl ?_
  refine .run rfl (yMove rfl) rfl rfl ?_
  refine .run rfl (yvSame (u := i64 ((n / 1000).toNat : Nat)) (yQuo rfl rfl (by omega) (by omega) (by omega)) (by rw [← hk.2])) rfl rfl ?_
  refine .run rfl (yIndexS  rfl rfl S22 (hm.e.r) (hk.1)) rfl rfl ?_
  refine .run rfl (yLoadA (vs := [_, _]) rfl A24 (cSl0 (hm.e.r) (hk.1) rfl)) rfl rfl ?_
  refine .run rfl (yFieldAddr rfl F26_1) rfl rfl ?_
  refine .run rfl (yLoadA (vs := [_, _]) rfl A24 (cOwn 1 rfl rfl)) rfl rfl ?_
  refine .done ?_
  refine effStep 11 [] (by kernel_rfl) closedSt (hLeft [4, 7, 8, 10] (by kernel_rfl) (.c (fun _ _ hs => hs.ef) (.c (fun _ _ hs => hs.ef) (.c (fun _ _ hs => hs.ef) (.c (fun _ _ hs => hs.ef) .n))))) ?_
  refine .c ?_ .n
  refine effOne rfl (gNone rfl (fBuildSlice (.c rfl (.c rfl (.c rfl .n))) (fun w => BS22_3_0_1_2 w))) ?_
  refine effStep 12 [] (by kernel_rfl) (closedEx fun n16 => closedSt) (hLeft [] (by kernel_rfl) .n) ?_
  refine .c ?_ .n
  refine effOne rfl (opEx fun n16 => (gNone rfl (fV (yCall rfl (.c rfl .n) C84 (fun w hw => total_any _ 3 [(n, n), m.errs.getD (n / 1000).toNat (0, 0), m.eye] w (sleRows (f := fun x => [i64 x.1, i64 x.2]) (fun _ => rfl) (0, 0) _ rfl (hw.blkAt 0 rfl)) (by
  intro x hx
  simp only [List.mem_cons, List.not_mem_nil, or_false] at hx
  rcases hx with rfl | rfl | rfl
  · unfold readOk at hn; have := hs.n; unfold small; omega
  · exact small_100 (hs.e _ (getD_mem hk.1 _))
  · exact small_100 hs.y) (by simp))) rfl))) ?_
  refine effStep 13 [] (by kernel_rfl) (closedEx fun n16 => closedSt) (hLeft [] (by kernel_rfl) .n) ?_
  refine .c ?_ .n
  refine effOne rfl (opEx fun n16 => (gNone rfl (fStoreL 1 rfl rfl rfl rfl K69 rfl (rfl)))) ?_
  refine effDone (closedEx fun n16 => closedSt) (hLeft [] (by kernel_rfl) .n) (by kernel_rfl) ?_
  refine trEx fun n16 => ?_
  refine kThen ?_
  refine kRet ?_
  refine fRet rfl (.cA (us := [_, _]) rfl A69 (cOwn 1 rfl rfl) .n) (endRet ?_)
  simp only [packV]
  rw [show ([(n, n), m.errs.getD (n / 1000).toNat (0, 0), m.eye] : List (Int × Int)).length = 3 from rfl, sum3]
  rfl

end Go.Proofs.Ytoefcofplkbnkaa
