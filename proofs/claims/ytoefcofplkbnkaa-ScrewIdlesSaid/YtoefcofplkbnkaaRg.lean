/-
  Walks: the document's Idle; ScrewIdle.
-/
import Derived.Test.YtoefcofplkbnkaaRe
import Derived.Test.YtoefcofplkbnkaaLg
namespace Go.Proofs.Ytoefcofplkbnkaa
open ZW

set_option maxRecDepth 100000 in
theorem rsame_any (y : Loc) (m : Meas) (S : Nat) (w : World) (hm : InM w y m) (hM : MeasOk m) (hS : S < 2 ^ 62) (ho : okF m) :
    Calls Try.prog 74 [.agg (measC y m).toArray, i64 (S : Nat)].toArray w (Ret w (.bool (decide (sameF m S)))) := by
  have hF := fullS_62 hM
  have hI := hM.i
  unfold okF at ho
  have hb : ∀ j : Nat, (sumsF m (fullS m)).1 + j ≤ (sumsF m (fullS m)).2 → 0 ≤ (sumsF m (fullS m)).1 + j ∧ (sumsF m (fullS m)).1 + j ≤ 131072 := fun j hj => sums_in (S := fullS m) hM ⟨by omega, hj⟩
  have hb0 := sums_in (S := fullS m) hM ⟨Int.le_refl _, ho⟩
  have hb1 := sums_in (S := fullS m) hM ⟨ho, Int.le_refl _⟩
  have hnN : sumsN m (fullS m) = ((sumsF m (fullS m)).2 - (sumsF m (fullS m)).1 + 1).toNat := rfl
  refine fEnter Try.func74 rfl Try.ntmps74 rfl ?_
  refine kSeq ?_
  refine kRegion rfl ?_
  refine lE rfl ?_
  refine eBoxA rfl fun n2 => ?_
  refine lV (yAssign rfl) rfl rfl ?_
  refine lNil ?_
  refine kThen ?_
  refine kSeq ?_
  refine kDrawE [(0, none), (1, none), (2, none), (3, none)] [] [0, 1, 2, 3] 2 hMix (by kernel_rfl) ?_
  refine .run rfl (yLoadA (vs := [_, _, _, _, _, _, _]) rfl A29 (cOwn 0 rfl rfl)) rfl rfl ?_
  refine .run rfl (yLoadA (vs := [_, _, _, _, _, _, _]) rfl A29 (cOwn 0 rfl rfl)) rfl rfl ?_
  refine .run rfl (yCall rfl (.c rfl .n) C63 (fun w hw => revery_any y m w hM)) rfl rfl ?_
  refine .run rfl (yCall rfl (.c rfl (.c rfl .n)) C46 (fun w hw => rsums_any y m (fullS m) w (hm.eff hw) hM hF)) rfl rfl ?_
  refine .done ?_
  refine effStep 4 [] (by kernel_rfl) closedSt (hLeft [0, 1, 2, 3] (by kernel_rfl) (.c (fun _ _ hs => hs.ef) (.c (fun _ _ hs => hs.ef) (.c (fun _ _ hs => hs.ef) (.c (fun _ _ hs => hs.ef) .n))))) ?_
  refine .c ?_ .n
  refine effOne rfl (gNone rfl (fAlloc Z24)) ?_
  refine effStep 5 [] (by kernel_rfl) (closedEx fun n5 => closedSt) (hLeft [0, 1, 2, 3] (by kernel_rfl) (.c (fun _ _ ⟨n5, hs⟩ => hs.ef.sub (.c 1 rfl .n)) (.c (fun _ _ ⟨n5, hs⟩ => hs.ef.sub (.c 1 rfl .n)) (.c (fun _ _ ⟨n5, hs⟩ => hs.ef.sub (.c 1 rfl .n)) (.c (fun _ _ ⟨n5, hs⟩ => hs.ef.sub (.c 1 rfl .n)) .n))))) ?_
  refine .c ?_ .n
  refine effOne rfl (opEx fun n5 => (gNone rfl (fStoreL 0 rfl rfl rfl rfl K24 rfl (rfl)))) ?_
  refine effDone (closedEx fun n5 => closedSt) (hLeft [] (by kernel_rfl) .n) (by kernel_rfl) ?_
  refine trEx fun n5 => ?_
  refine kThen ?_
  refine kSeq ?_
  refine kSeq ?_
  refine kDrawE [(0, none), (2, none), (3, none)] [] [0, 1, 2, 3, 4] 0 hMix (by kernel_rfl) ?_
  refine .run rfl (yLoadA (vs := [_, _, _, _, _, _, _]) rfl A29 (cOwn 1 rfl rfl)) rfl rfl ?_
  refine .run rfl (yMove rfl) rfl rfl ?_
  refine .run rfl (yCall rfl (.c rfl (.c rfl .n)) C46 (fun w hw => rsums_any y m S w (hm.eff hw) hM hS)) rfl rfl ?_
  refine .run rfl (yLoadA (vs := [_, _]) rfl A24 (cOwn 0 rfl rfl)) rfl rfl ?_
  refine .run rfl (yNeAgg rfl rfl G24 (fun w => Q24 w)) rfl rfl ?_
  refine .done ?_
  refine effDone closedSt (hLeft [0, 2, 3] (by kernel_rfl) (.c (fun _ _ hs => hs.ef) (.c (fun _ _ hs => hs.ef) (.c (fun _ _ hs => hs.ef) .n)))) (by kernel_rfl) ?_
  refine kThen ?_
  refine splitB (t := 16) rfl (fun h16 => ?_) (fun h16 => ?_)
  · refine kIfT rfl ?_
    refine kSeq ?_
    refine kRegion rfl ?_
    refine lV (yAssign rfl) rfl rfl ?_
    refine lNil ?_
    refine kThen ?_
    refine kRet ?_
    refine kThenR ?_
    refine fRet rfl (.t rfl .n) (endRet ?_)
    rw [decide_eq_false fun h : sameF m S => notT h16 (by rw [h.1]; exact ⟨rfl, rfl⟩)]
    rfl
  · refine kIfF rfl ?_
    refine kSkip ?_
    refine kThen ?_
    refine kSeq ?_
    refine kSeq ?_
    refine kRegion rfl ?_
    refine lV (yAssign rfl) rfl rfl ?_
    refine lNil ?_
    refine kThen ?_
    refine kBlock ?_
    refine kLoopX (ι := Nat) (fun g => g ≤ m.images.toNat ∧ ∀ g', g' < g → ∀ j, j < sumsN m (fullS m) → placesF m S (g' : Nat) ((sumsF m (fullS m)).1 + (j : Nat)) = placesF m (fullS m) (g' : Nat) ((sumsF m (fullS m)).1 + (j : Nat))) (fun g => [(6, i64 (g : Nat))]) [(0, _), (1, _), (2, _), (8, _), (9, _), (10, _), (11, _), (5, _), (12, _), (13, _), (14, _), (15, _), (16, _)] (fun g => []) (fun g => []) [(n5, _), (n2, _)] (fun g => m.images.toNat - g) 0 (⟨Nat.zero_le _, fun g hg => absurd hg (by omega)⟩) rfl (.c rfl .n) (.c rfl (.c rfl (.c rfl (.c rfl (.c rfl (.c rfl (.c rfl (.c rfl (.c rfl (.c rfl (.c rfl (.c rfl (.c rfl .n))))))))))))) (.c 0 rfl (.c 0 rfl .n)) ?_
    rintro g ⟨hg, hok⟩
    refine kSeq ?_
    refine kSeq ?_
    refine kRegion rfl ?_
    refine lV (yMove rfl) rfl rfl ?_
    refine lV (yFieldAddr rfl F29_1) rfl rfl ?_
    refine lV (yLoad1 rfl O3 (cOwn 1 rfl rfl)) rfl rfl ?_
    refine lV (yLss rfl rfl) rfl rfl ?_
    refine lNil ?_
    refine kThen ?_
    refine split (t := 20) rfl (fun h20 => ?_) (fun h20 => ?_)
    · refine kIfT rfl ?_
      refine kSkip ?_
      refine kThen ?_
      refine kSeq ?_
      refine kBlock ?_
      refine kSeq ?_
      refine kRegion rfl ?_
      refine lV (yFieldAddr rfl F24_0) rfl rfl ?_
      refine lV (yLoad1 rfl O3 (cOwn 0 rfl rfl)) rfl rfl ?_
      refine same (t := 24) (u := i64 ((sumsF m (fullS m)).1 + ((0 : Nat) : Int))) rfl (by simp) ?_
      refine lV (yAssign rfl) rfl rfl ?_
      refine lNil ?_
      refine kThen ?_
      refine kBlock ?_
      refine kLoopX (ι := Nat) (fun j => j ≤ sumsN m (fullS m) ∧ ∀ j', j' < j → placesF m S (g : Nat) ((sumsF m (fullS m)).1 + (j' : Nat)) = placesF m (fullS m) (g : Nat) ((sumsF m (fullS m)).1 + (j' : Nat))) (fun j => [(7, i64 ((sumsF m (fullS m)).1 + (j : Nat)))]) [(0, _), (1, _), (2, _), (8, _), (9, _), (10, _), (11, _), (5, _), (12, _), (13, _), (14, _), (15, _), (16, _), (6, _), (17, _), (18, _), (19, _), (20, _), (23, _), (24, _)] (fun j => []) (fun j => []) [(n5, _), (n2, _)] (fun j => sumsN m (fullS m) - j) 0 (⟨Nat.zero_le _, fun j hj => absurd hj (by omega)⟩) rfl (.c rfl .n) (.c rfl (.c rfl (.c rfl (.c rfl (.c rfl (.c rfl (.c rfl (.c rfl (.c rfl (.c rfl (.c rfl (.c rfl (.c rfl (.c rfl (.c rfl (.c rfl (.c rfl (.c rfl (.c rfl (.c rfl .n)))))))))))))))))))) (.c 0 rfl (.c 0 rfl .n)) ?_
      rintro j ⟨hj, hok2⟩
      refine kSeq ?_
      refine kSeq ?_
      refine kRegion rfl ?_
      refine lV (yMove rfl) rfl rfl ?_
      refine lV (yFieldAddr rfl F24_1) rfl rfl ?_
      refine lV (yLoad1 rfl O3 (cOwn 0 rfl rfl)) rfl rfl ?_
      refine lV (yLeq rfl rfl) rfl rfl ?_
      refine lNil ?_
      refine kThen ?_
      refine split (t := 28) rfl (fun h28 => ?_) (fun h28 => ?_)
      · refine kIfT rfl ?_
        refine kSkip ?_
        refine kThen ?_
        refine kSeq ?_
        refine kBlock ?_
        refine kSeq ?_
        refine kDrawE [(0, none), (4, none), (5, none), (6, none), (7, none), (10, none)] [] [0, 1, 2, 3, 4, 5, 6, 7, 8, 9, 10, 11] 0 hMix (by kernel_rfl) ?_
        refine .run rfl (yLoadA (vs := [_, _, _, _, _, _, _]) rfl A29 (cOwn 1 rfl rfl)) rfl rfl ?_
        refine .run rfl (yMove rfl) rfl rfl ?_
        refine .run rfl (yMove rfl) rfl rfl ?_
        refine .run rfl (yMove rfl) rfl rfl ?_
        refine .run rfl (yCall rfl (.c rfl (.c rfl (.c rfl (.c rfl .n)))) C62 (fun w hw => rplaces_any y m S (g : Nat) ((sumsF m (fullS m)).1 + (j : Nat)) w (hm.eff hw) hM hS (hb j (by omega)))) rfl rfl ?_
        refine .run rfl (yLoadA (vs := [_, _, _, _, _, _, _]) rfl A29 (cOwn 1 rfl rfl)) rfl rfl ?_
        refine .run rfl (yLoadA (vs := [_, _, _, _, _, _, _]) rfl A29 (cOwn 1 rfl rfl)) rfl rfl ?_
        refine .run rfl (yCall rfl (.c rfl .n) C63 (fun w hw => revery_any y m w hM)) rfl rfl ?_
        refine .run rfl (yMove rfl) rfl rfl ?_
        refine .run rfl (yMove rfl) rfl rfl ?_
        refine .run rfl (yCall rfl (.c rfl (.c rfl (.c rfl (.c rfl .n)))) C62 (fun w hw => rplaces_any y m (fullS m) (g : Nat) ((sumsF m (fullS m)).1 + (j : Nat)) w (hm.eff hw) hM hF (hb j (by omega)))) rfl rfl ?_
        refine .run rfl (yNeAgg rfl rfl G24 (fun w => Q24 w)) rfl rfl ?_
        refine .done ?_
        refine effDone closedSt (hLeft [0, 4, 5, 6, 7, 10] (by kernel_rfl) (.c (fun _ _ hs => hs.ef) (.c (fun _ _ hs => hs.ef) (.c (fun _ _ hs => hs.ef) (.c (fun _ _ hs => hs.ef) (.c (fun _ _ hs => hs.ef) (.c (fun _ _ hs => hs.ef) .n))))))) (by kernel_rfl) ?_
        refine kThen ?_
        refine splitB (t := 42) rfl (fun h42 => ?_) (fun h42 => ?_)
        · refine kIfT rfl ?_
          refine kSeq ?_
          refine kRegion rfl ?_
          refine lV (yAssign rfl) rfl rfl ?_
          refine lNil ?_
          refine kThen ?_
          refine kRet ?_
          refine kInR ?_
          refine kThenR ?_
          refine kThenR ?_
          refine kInR ?_
          refine kInR ?_
          refine kThenR ?_
          refine kThenR ?_
          refine kInR ?_
          refine kThenR ?_
          refine fRet rfl (.t rfl .n) (endRet ?_)
          rw [decide_eq_false fun h : sameF m S => notT h42 (by rw [h.2 g (by omega) j (by omega)]; exact ⟨rfl, rfl⟩)]
          rfl
        · refine kIfF rfl ?_
          refine kSkip ?_
          refine kInN ?_
          refine kThen ?_
          refine kRegion rfl ?_
          refine lV (yMove rfl) rfl rfl ?_
          refine lV (yAdd rfl rfl (by omega)) rfl rfl ?_
          refine same (t := 30) (u := i64 ((sumsF m (fullS m)).1 + ((j + 1 : Nat) : Int))) rfl (by congr 1; omega) ?_
          refine lV (yAssign rfl) rfl rfl ?_
          refine lNil ?_
          exact kRoundX (j + 1) (⟨by omega, fun j' hj' => by rcases Nat.lt_or_ge j' j with h | h; (· exact hok2 j' h); (obtain rfl : j' = j := (by omega)); exact Prod.ext (notF h42).1 (notF h42).2⟩) (by omega) rfl (.c rfl .n) (.c rfl (.c rfl (.c rfl (.c rfl (.c rfl (.c rfl (.c rfl (.c rfl (.c rfl (.c rfl (.c rfl (.c rfl (.c rfl (.c rfl (.c rfl (.c rfl (.c rfl (.c rfl (.c rfl (.c rfl .n)))))))))))))))))))) (.c 0 rfl (.c 0 rfl .n))
      · refine kIfF rfl ?_
        refine kExit ?_
        refine kThenX ?_
        refine kThenX ?_
        refine kInX ?_
        refine kInN ?_
        refine kThen ?_
        refine kRegion rfl ?_
        refine lV (yMove rfl) rfl rfl ?_
        refine lV (yAdd rfl rfl (by omega)) rfl rfl ?_
        refine lV (yAssign rfl) rfl rfl ?_
        refine lNil ?_
        exact kRoundX (g + 1) (⟨by omega, fun g' hg' j' hj' => by rcases Nat.lt_or_ge g' g with h | h; (· exact hok g' h j' hj'); (obtain rfl : g' = g := (by omega)); exact hok2 j' (by omega)⟩) (by omega) rfl (.c rfl .n) (.c rfl (.c rfl (.c rfl (.c rfl (.c rfl (.c rfl (.c rfl (.c rfl (.c rfl (.c rfl (.c rfl (.c rfl (.c rfl .n))))))))))))) (.c 0 rfl (.c 0 rfl .n))
    · refine kIfF rfl ?_
      refine kExit ?_
      refine kThenX ?_
      refine kThenX ?_
      refine kInX ?_
      refine kThen ?_
      refine kSeq ?_
      refine kRegion rfl ?_
      refine lV (yAssign rfl) rfl rfl ?_
      refine lNil ?_
      refine kThen ?_
      refine kRet ?_
      refine fRet rfl (.t rfl .n) (endRet ?_)
      rw [show decide (sameF m S) = true from decide_eq_true ⟨Prod.ext (notF h16).1 (notF h16).2, fun g' hg' => hok g' (by omega)⟩]
      rfl
theorem or_add {s i : Nat} (h : s < 2 ^ i) : s ||| 2 ^ i = s + 2 ^ i := by
  have := Nat.two_pow_add_eq_or_of_lt h 1
  rw [Nat.mul_one] at this
  rw [Nat.or_comm, ← this, Nat.add_comm]
theorem idleE_ok {m : Meas} (hM : MeasOk m) (ho : okF m) : idleE m = (((idleW m m.sets.length : Nat) : Int), 0) :=
  (if_neg (not_not_intro hM)).trans (if_neg (not_not_intro ((can_eq hM _).2 ho)))
theorem idleE_bad {m : Meas} (h : (openR m true).2 ≠ 0) : idleE m = (0, (openR m true).2) := by
  by_cases hM : MeasOk m
  · by_cases ho : okF m
    · rw [openR_good hM ho] at h; exact absurd rfl h
    · rw [openR_clash hM ho]
      exact (if_neg (not_not_intro hM)).trans (if_pos fun h => ho ((can_eq hM _).1 h))
  · rw [openR_bad _ hM]; exact if_pos hM
set_option maxRecDepth 100000 in
theorem ridle_any (y : Loc) (m : Meas) (w : World) (hm : InM w y m) (hn : m.errs.length ≤ 1000000) : Calls Try.prog 36 [.agg (measC y m).toArray].toArray w (Ret w (outI (idleE m))) := by
  refine fEnter Try.func36 rfl Try.ntmps36 rfl ?_
  refine kSeq ?_
  refine kRegion rfl ?_
  refine lE rfl ?_
  refine eBoxA rfl fun n1 => ?_
  refine lV (yAssign rfl) rfl rfl ?_
  refine lV (yAssign rfl) rfl rfl ?_
  refine lNil ?_
  refine kThen ?_
  refine kSeq ?_
  refine kRegion rfl ?_
  refine lV (yLoadA (vs := [_, _, _, _, _, _, _]) rfl A29 (cOwn 0 rfl rfl)) rfl rfl ?_
  refine lV (yCall rfl (.c rfl (.c rfl .n)) C57 (fun w hw => ropen_any y m true w (hm.eff hw) hn)) rfl rfl ?_
  refine lV (yMove rfl) rfl rfl ?_
  refine lV (yExtract rfl rfl) rfl rfl ?_
  refine lV (yExtract rfl rfl) rfl rfl ?_
  refine lE rfl ?_
  refine eAlloc Z24 fun n4 => ?_
  refine lE rfl ?_
  refine eStoreL 0 rfl rfl rfl rfl K24 rfl (rfl) ?_
  refine lV (yAssign rfl) rfl rfl ?_
  refine lNil ?_
  refine kThen ?_
  refine kSeq ?_
  refine kSeq ?_
  refine kRegion rfl ?_
  refine lV (yMove rfl) rfl rfl ?_
  refine lV (yNeq rfl rfl) rfl rfl ?_
  refine lNil ?_
  refine kThen ?_
  refine split (t := 14) rfl (fun h14 => ?_) (fun h14 => ?_)
  · refine kIfT rfl ?_
    refine kSeq ?_
    refine kRegion rfl ?_
    refine lV (yMove rfl) rfl rfl ?_
    refine lV (yAssign rfl) rfl rfl ?_
    refine lV (yAssign rfl) rfl rfl ?_
    refine lNil ?_
    refine kThen ?_
    refine kRet ?_
    refine kThenR ?_
    refine fRet rfl (.t rfl (.t rfl .n)) (endRet ?_)
    rw [idleE_bad h14]
    rfl
  · have h14' := Decidable.not_not.1 h14
    obtain ⟨hM, _, ho, e⟩ := openR_ok h14'
    have hN := hM.n
    have hF := fullS_lt hM
    have hc : canF m (fullS m) = true := decide_eq_true ho
    refine kIfF rfl ?_
    refine kSkip ?_
    refine kThen ?_
    refine kSeq ?_
    refine kRegion rfl ?_
    refine lV (yAssign rfl) rfl rfl ?_
    refine lNil ?_
    refine kThen ?_
    refine kSeq ?_
    refine kSeq ?_
    refine kRegion rfl ?_
    refine lV (yAssign rfl) rfl rfl ?_
    refine lNil ?_
    refine kThen ?_
    refine kBlock ?_
    refine kLoopX (ι := Nat × Nat) (fun x => x.1 ≤ m.sets.length ∧ x.2 = idleW m x.1) (fun x => [(7, i64 (x.1 : Nat)), (6, i64 (x.2 : Nat))]) [(0, _), (1, _), (2, _), (3, _), (9, _), (10, _), (8, _), (11, _), (12, _), (4, _), (5, _), (13, _), (14, _)] (fun x => []) (fun x => []) [(n4, _), (n1, _)] (fun x => m.sets.length - x.1) (0, 0) (⟨Nat.zero_le _, rfl⟩) rfl (.c rfl (.c rfl .n)) (.c rfl (.c rfl (.c rfl (.c rfl (.c rfl (.c rfl (.c rfl (.c rfl (.c rfl (.c rfl (.c rfl (.c rfl (.c rfl .n))))))))))))) (.c 0 rfl (.c 0 rfl .n)) ?_
    rintro ⟨i, s⟩ ⟨hi, hs⟩
    dsimp only at hi hs ⊢
    have hlt := idleW_lt m i
    rw [← hs] at hlt
    have hpi : 2 ^ i ≤ 2 ^ 12 := Nat.pow_le_pow_right (by omega) (by omega)
    refine kSeq ?_
    refine kSeq ?_
    refine kRegion rfl ?_
    refine lV (yMove rfl) rfl rfl ?_
    refine lV (yFieldAddr rfl F29_3) rfl rfl ?_
    refine lV (yLoad1 rfl O27 (cOwn 1 rfl rfl)) rfl rfl ?_
    refine lV (yLen rfl S27) rfl rfl ?_
    refine lV (yLss rfl rfl) rfl rfl ?_
    refine lNil ?_
    refine kThen ?_
    refine split (t := 20) rfl (fun h20 => ?_) (fun h20 => ?_)
    · refine kIfT rfl ?_
      refine kSkip ?_
      refine kThen ?_
      refine kSeq ?_
      refine kBlock ?_
      refine kSeq ?_
      have hpf : 2 ^ i ≤ fullS m := by
        have : 2 ^ (i + 1) ≤ 2 ^ m.sets.length := Nat.pow_le_pow_right (by omega) (by omega)
        have := Nat.two_pow_pos i
        unfold fullS
        rw [Nat.pow_succ] at *; omega
      have hls : less (fullS m) (1 * 2 ^ i) = fullS m - 2 ^ i := by rw [Nat.one_mul]; exact less_sub hM hpf
      refine kDrawE [(0, none), (1, none), (2, none), (4, none), (6, none)] [] [0, 1, 2, 3, 4, 5, 6] 0 hMix (by kernel_rfl) ?_
      refine .run rfl (yLoadA (vs := [_, _, _, _, _, _, _]) rfl A29 (cOwn 1 rfl rfl)) rfl rfl ?_
      refine .run rfl (yLoadA (vs := [_, _, _, _, _, _, _]) rfl A29 (cOwn 1 rfl rfl)) rfl rfl ?_
      refine .run rfl (yCall rfl (.c rfl .n) C63 (fun w hw => revery_any y m w hM)) rfl rfl ?_
      refine .run rfl (yMove rfl) rfl rfl ?_
      refine .run rfl (yCall rfl (.c rfl .n) C75 (fun w hw => power_any i w (by omega))) rfl rfl ?_
      refine .run rfl (yvSame (u := i64 ((fullS m - 2 ^ i : Nat) : Int)) (ySub rfl rfl (by omega)) (by congr 1; omega)) rfl rfl ?_
      refine .run rfl (yCall rfl (.c rfl (.c rfl .n)) C74 (fun w hw => rsame_any y m (fullS m - 2 ^ i) w (hm.eff hw) hM (by omega) ho)) rfl rfl ?_
      refine .done ?_
      refine effDone closedSt (hLeft [0, 1, 2, 4, 6] (by kernel_rfl) (.c (fun _ _ hs => hs.ef) (.c (fun _ _ hs => hs.ef) (.c (fun _ _ hs => hs.ef) (.c (fun _ _ hs => hs.ef) (.c (fun _ _ hs => hs.ef) .n)))))) (by kernel_rfl) ?_
      refine kThen ?_
      refine splitB (t := 29) rfl (fun h29 => ?_) (fun h29 => ?_)
      · refine kIfT rfl ?_
        refine kRegion rfl ?_
        refine lV (yMove rfl) rfl rfl ?_
        refine lV (yMove rfl) rfl rfl ?_
        refine lV (yCall rfl (.c rfl .n) C75 (fun w hw => power_any i w (by omega))) rfl rfl ?_
        refine lV (yAdd rfl rfl (by omega)) rfl rfl ?_
        refine same (t := 33) (u := i64 ((s + 2 ^ i : Nat) : Int)) rfl (by congr 1) ?_
        refine lV (yAssign rfl) rfl rfl ?_
        refine lNil ?_
        refine kInN ?_
        refine kThen ?_
        refine kRegion rfl ?_
        refine lV (yMove rfl) rfl rfl ?_
        refine lV (yAdd rfl rfl (by omega)) rfl rfl ?_
        refine lV (yAssign rfl) rfl rfl ?_
        refine lNil ?_
        exact kRoundX (i + 1, s + 2 ^ i) (⟨by dsimp only; omega, by dsimp only; rw [idleW_succ, if_pos ((idle_same hM hc).2 (hls ▸ of_decide_eq_true h29)), ← hs, Nat.one_mul, or_add hlt]⟩) (by dsimp only; omega) rfl (.c rfl (.c rfl .n)) (.c rfl (.c rfl (.c rfl (.c rfl (.c rfl (.c rfl (.c rfl (.c rfl (.c rfl (.c rfl (.c rfl (.c rfl (.c rfl .n))))))))))))) (.c 0 rfl (.c 0 rfl .n))
      · refine kIfF rfl ?_
        refine kSkip ?_
        refine kInN ?_
        refine kThen ?_
        refine kRegion rfl ?_
        refine lV (yMove rfl) rfl rfl ?_
        refine lV (yAdd rfl rfl (by omega)) rfl rfl ?_
        refine lV (yAssign rfl) rfl rfl ?_
        refine lNil ?_
        exact kRoundX (i + 1, s) (⟨by dsimp only; omega, by dsimp only; rw [idleW_succ, if_neg fun h => of_decide_eq_false h29 (hls ▸ (idle_same hM hc).1 h), ← hs]⟩) (by dsimp only; omega) rfl (.c rfl (.c rfl .n)) (.c rfl (.c rfl (.c rfl (.c rfl (.c rfl (.c rfl (.c rfl (.c rfl (.c rfl (.c rfl (.c rfl (.c rfl (.c rfl .n))))))))))))) (.c 0 rfl (.c 0 rfl .n))
    · refine kIfF rfl ?_
      refine kExit ?_
      refine kThenX ?_
      refine kThenX ?_
      refine kInX ?_
      refine kThen ?_
      refine kSeq ?_
      refine kRegion rfl ?_
      refine lV (yMove rfl) rfl rfl ?_
      refine lV (yAssign rfl) rfl rfl ?_
      refine lV (yAssign rfl) rfl rfl ?_
      refine lNil ?_
      refine kThen ?_
      refine kRet ?_
      refine fRet rfl (.t rfl (.t rfl .n)) (endRet ?_)
      obtain rfl : i = m.sets.length := by omega
      rw [idleE_ok hM ho, ← hs]
      rfl
set_option maxRecDepth 100000 in
theorem idleS_any (y : Loc) (m : Meas) (w : World) (hm : InM w y m) : Calls Try.prog 8 [.agg (measC y m).toArray].toArray w (Ret w (.bool true)) := by
  refine fEnter Try.func8 rfl Try.ntmps8 rfl ?_
  refine kSeq ?_
  refine kRegion rfl ?_
  refine lE rfl ?_
  refine eBoxA rfl fun n1 => ?_
  refine lV (yAssign rfl) rfl rfl ?_
  refine lNil ?_
  refine kThen ?_
  refine kSeq ?_
  refine kSeq ?_
  refine kRegion rfl ?_
  refine lV (yLoadA (vs := [_, _, _, _, _, _, _]) rfl A29 (cOwn 0 rfl rfl)) rfl rfl ?_
  refine lV (yCall rfl (.c rfl .n) C13 (fun w hw => great_any y m w)) rfl rfl ?_
  refine lV (yMove rfl) rfl rfl ?_
  refine splitB (t := 9) rfl (fun h9 => ?_) (fun h9 => ?_)
  · refine lGN rfl rfl rfl rfl rfl ?_
    refine lGN rfl rfl rfl rfl rfl ?_
    refine lV (yPickT rfl rfl) rfl rfl ?_
    refine lNil ?_
    refine kThen ?_
    refine kIfT rfl ?_
    refine kSeq ?_
    refine kRegion rfl ?_
    refine lV (yCall rfl .n C15 (fun w hw => alive_any w)) rfl rfl ?_
    refine lV (yAssign rfl) rfl rfl ?_
    refine lNil ?_
    refine kThen ?_
    refine kRet ?_
    refine kThenR ?_
    refine fRet rfl (.t rfl .n) (endRet ?_)
    first | rfl | (simp [packV, *]; done)
  · have hG := of_decide_eq_false h9
    have hn : m.errs.length ≤ 1000000 := by unfold greatP at hG; omega
    refine lGY rfl rfl rfl (oV (yLoadA (vs := [_, _, _, _, _, _, _]) rfl A29 (cOwn 0 rfl rfl)) rfl ?_)
    refine lGY rfl rfl rfl (oV (yCall rfl (.c rfl (.c rfl (.c rfl .n))) C14 (fun w hw => heavy_any y m 8 600 w (hm.eff hw) hn)) rfl ?_)
    refine lV (yPickF rfl rfl) rfl rfl ?_
    refine lNil ?_
    refine kThen ?_
    refine splitB (t := 12) rfl (fun h12 => ?_) (fun h12 => ?_)
    · refine kIfT rfl ?_
      refine kSeq ?_
      refine kRegion rfl ?_
      refine lV (yCall rfl .n C15 (fun w hw => alive_any w)) rfl rfl ?_
      refine lV (yAssign rfl) rfl rfl ?_
      refine lNil ?_
      refine kThen ?_
      refine kRet ?_
      refine kThenR ?_
      refine fRet rfl (.t rfl .n) (endRet ?_)
      first | rfl | (simp [packV, *]; done)
    · refine kIfF rfl ?_
      refine kSkip ?_
      refine kThen ?_
      refine kSeq ?_
      refine kRegion rfl ?_
      refine lV (yLoadA (vs := [_, _, _, _, _, _, _]) rfl A29 (cOwn 0 rfl rfl)) rfl rfl ?_
      refine lV (yCall rfl (.c rfl .n) C35 (fun w hw => idle_any y m w (hm.eff hw))) rfl rfl ?_
      refine lV (yMove rfl) rfl rfl ?_
      refine lV (yExtract rfl rfl) rfl rfl ?_
      refine lV (yExtract rfl rfl) rfl rfl ?_
      refine lV (yAssign rfl) rfl rfl ?_
      refine lV (yAssign rfl) rfl rfl ?_
      refine lNil ?_
      refine kThen ?_
      refine kSeq ?_
      refine kRegion rfl ?_
      refine lV (yLoadA (vs := [_, _, _, _, _, _, _]) rfl A29 (cOwn 0 rfl rfl)) rfl rfl ?_
      refine lV (yCall rfl (.c rfl .n) C36 (fun w hw => ridle_any y m w (hm.eff hw) hn)) rfl rfl ?_
      refine lV (yMove rfl) rfl rfl ?_
      refine lV (yExtract rfl rfl) rfl rfl ?_
      refine lV (yExtract rfl rfl) rfl rfl ?_
      refine lV (yAssign rfl) rfl rfl ?_
      refine lV (yAssign rfl) rfl rfl ?_
      refine lNil ?_
      refine kThen ?_
      refine kSeq ?_
      refine kRegion rfl ?_
      refine lV (yMove rfl) rfl rfl ?_
      refine lV (yMove rfl) rfl rfl ?_
      refine lV (yEql rfl rfl) rfl rfl ?_
      refine known (t := 26) rfl (rfl) ?_
      refine lV (yMove rfl) rfl rfl ?_
      refine lGY rfl rfl rfl (oV (yMove rfl) rfl ?_)
      refine lGY rfl rfl rfl (oV (yMove rfl) rfl ?_)
      refine lGY rfl rfl rfl (oV (yEql rfl rfl) rfl ?_)
      refine known (t := 30) rfl (rfl) ?_
      refine lV (yPickT rfl rfl) rfl rfl ?_
      refine lV (yMove rfl) rfl rfl ?_
      refine lGY rfl rfl rfl (oV (yCall rfl .n C15 (fun w hw => alive_any w)) rfl ?_)
      refine lV (yPickT rfl rfl) rfl rfl ?_
      refine lV (yAssign rfl) rfl rfl ?_
      refine lNil ?_
      refine kThen ?_
      refine kRet ?_
      refine fRet rfl (.t rfl .n) (endRet ?_)
      first | rfl | (simp [packV, *]; done)
end Go.Proofs.Ytoefcofplkbnkaa
