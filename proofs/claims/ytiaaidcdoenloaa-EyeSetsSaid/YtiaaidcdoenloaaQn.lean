/-
  Walks: the document's habits, places, and who surely has a habit.
-/
import Derived.Test.YtiaaidcdoenloaaTh
namespace Go.Proofs.Ytiaaidcdoenloaa
open ZW

theorem refA_le {X : Wat} (hM : WatOk X) {i k : Nat} (hi : i < cntN X) (hk : k < cntN X) : -100000000000000 ≤ refA X i k ∧ refA X i k ≤ 1073741824 := ref_le hM _ _ hi hk
def codeR (X : Wat) (b : Bool) : Int := if ¬ WatOk X then 1 else if b = false then 2 else 10
set_option maxRecDepth 100000 in
set_option maxHeartbeats 1000000 in
theorem ropen_no (y : WLoc) (X : Wat) (b : Bool) (w : World) (hm : InW w y X) (hL : X.looks.length ≤ 1000000) (hE : X.errs.length ≤ 1000000) (h : ¬ WatOk X ∨ b = false ∨ ¬ okW X) :
    Calls Try.prog 51 [.agg (watC y X).toArray, .bool b].toArray w (Ret w (.tuple [.slice none 0 0, i64 (codeR X b)].toArray)) := by
  refine fEnter Try.func51 rfl Try.ntmps51 rfl ?_
  refine kSeq ?_
  refine kRegion rfl ?_
  refine lE rfl ?_
  refine eBoxA rfl fun n2 => ?_
  refine lV (yAssign rfl) rfl rfl ?_
  refine lV (yAssign rfl) rfl rfl ?_
  refine lNil ?_
  refine kThen ?_
  refine kSeq ?_
  refine kSeq ?_
  refine kRegion rfl ?_
  refine lV (yLoadA (vs := [_, _, _, _, _, _, _, _]) rfl A29 (cOwn 0 rfl rfl)) rfl rfl ?_
  refine lV (yCall rfl (.c rfl .n) C34 (fun w hw => watch_any y X w (hm.eff hw) hL hE)) rfl rfl ?_
  refine lV (yNot rfl) rfl rfl ?_
  refine lNil ?_
  refine kThen ?_
  refine splitB (t := 12) rfl (fun h12 => ?_) (fun h12 => ?_)
  · refine kIfT rfl ?_
    refine kSeq ?_
    refine kRegion rfl ?_
    refine lV (yAssign rfl) rfl rfl ?_
    refine lV (yAssign rfl) rfl rfl ?_
    refine lNil ?_
    refine kThen ?_
    refine kRet ?_
    refine kThenR ?_
    refine fRet rfl (.t rfl (.t rfl .n)) (endRet ?_)
    simp only [packV]; rw [show codeR X b = 1 from if_pos (notT h12)]
  · refine kIfF rfl ?_
    refine kSkip ?_
    refine kThen ?_
    refine kSeq ?_
    refine kSeq ?_
    have hM := notF h12
    have hN := hM.n
    have hlt := allE_lt hM
    have hls := allS_lt hM
    refine kRegion rfl ?_
    refine lV (yMove rfl) rfl rfl ?_
    refine lV (yNot rfl) rfl rfl ?_
    refine lNil ?_
    refine kThen ?_
    refine splitB (t := 14) rfl (fun h14 => ?_) (fun h14 => ?_)
    · refine kIfT rfl ?_
      refine kSeq ?_
      refine kRegion rfl ?_
      refine lV (yAssign rfl) rfl rfl ?_
      refine lV (yAssign rfl) rfl rfl ?_
      refine lNil ?_
      refine kThen ?_
      refine kRet ?_
      refine kThenR ?_
      refine fRet rfl (.t rfl (.t rfl .n)) (endRet ?_)
      simp only [packV]; rw [show codeR X b = 2 from by unfold codeR; rw [if_neg (not_not_intro hM), if_pos (by simpa using h14)]]
    · have hb : b = true := by simpa using h14
      have ho : ¬ okW X := by rcases h with h | h | h; (· exact absurd hM h); (· rw [hb] at h; cases h); exact h
      refine kIfF rfl ?_
      refine kSkip ?_
      refine kThen ?_
      refine kSeq ?_
      refine kRegion rfl ?_
      refine lV (yLoadA (vs := [_, _, _, _, _, _, _, _]) rfl A29 (cOwn 0 rfl rfl)) rfl rfl ?_
      refine lV (yCall rfl (.c rfl .n) C59 (fun w hw => rall_any y X w (by omega) hM.e)) rfl rfl ?_
      refine lV (yMove rfl) rfl rfl ?_
      refine lV (yExtract rfl rfl) rfl rfl ?_
      refine lV (yExtract rfl rfl) rfl rfl ?_
      refine lV (yAssign rfl) rfl rfl ?_
      refine lV (yAssign rfl) rfl rfl ?_
      refine lNil ?_
      refine kThen ?_
      refine kSeq ?_
      refine kRegion rfl ?_
      refine lV (yLoadA (vs := [_, _, _, _, _, _, _, _]) rfl A29 (cOwn 0 rfl rfl)) rfl rfl ?_
      refine lV (yMove rfl) rfl rfl ?_
      refine lV (yMove rfl) rfl rfl ?_
      refine lE rfl ?_
      refine eCallX (ι := Unit) (φ := fun _ => True) (v := fun _ => .tuple [.slice none 0 0, .bool false].toArray) (Lx := fun _ => []) rfl (.c rfl (.c rfl (.c rfl .n))) C63 (fun w hw => (of_any y X (allS X) (allE X) w (hm.eff hw) hM (by omega) (by omega)).mono fun _ _ h => h.elim (fun h => absurd ((ref_diag hM).1 h.1) ho) fun h => ⟨(), trivial, h.2.1, h.2.2⟩) fun _ _ => ?_
      refine lV (yMove rfl) rfl rfl ?_
      refine lV (yExtract rfl rfl) rfl rfl ?_
      refine lV (yExtract rfl rfl) rfl rfl ?_
      refine lV (yAssign rfl) rfl rfl ?_
      refine lV (yAssign rfl) rfl rfl ?_
      refine lNil ?_
      refine kThen ?_
      refine kSeq ?_
      refine kSeq ?_
      refine kRegion rfl ?_
      refine lV (yMove rfl) rfl rfl ?_
      refine lV (yNot rfl) rfl rfl ?_
      refine lNil ?_
      refine kThen ?_
      refine kIfT rfl ?_
      refine kSeq ?_
      refine kRegion rfl ?_
      refine lV (yAssign rfl) rfl rfl ?_
      refine lV (yAssign rfl) rfl rfl ?_
      refine lNil ?_
      refine kThen ?_
      refine kRet ?_
      refine kThenR ?_
      refine fRet rfl (.t rfl (.t rfl .n)) (endRet ?_)
      simp only [packV]; rw [show codeR X b = 10 from by unfold codeR; rw [if_neg (not_not_intro hM), if_neg (by rw [hb]; decide)]]
set_option maxRecDepth 100000 in
set_option maxHeartbeats 1000000 in
theorem ropen_yes (y : WLoc) (X : Wat) (w : World) (hm : InW w y X) (hM : WatOk X) (ho : okW X) :
    Calls Try.prog 51 [.agg (watC y X).toArray, .bool true].toArray w (RetX w (fun x : Own × MRows => MatP (cntN X) x.1 x.2 (refA X)) (fun x => .tuple [osV x.1 (cntN X), i64 0].toArray) (fun _ => []) (fun x => osL 41 x.1 ++ x.2.H)) := by
  have hN := hM.n
  have hlt := allE_lt hM
  have hls := allS_lt hM
  have hsn := hM.s.n
  have hsn : 1 ≤ X.errs.length ∧ X.errs.length ≤ 40 := hsn
  refine fEnter Try.func51 rfl Try.ntmps51 rfl ?_
  refine kSeq ?_
  refine kRegion rfl ?_
  refine lE rfl ?_
  refine eBoxA rfl fun n2 => ?_
  refine lV (yAssign rfl) rfl rfl ?_
  refine lV (yAssign rfl) rfl rfl ?_
  refine lNil ?_
  refine kThen ?_
  refine kSeq ?_
  refine kSeq ?_
  refine kRegion rfl ?_
  refine lV (yLoadA (vs := [_, _, _, _, _, _, _, _]) rfl A29 (cOwn 0 rfl rfl)) rfl rfl ?_
  refine lV (yCall rfl (.c rfl .n) C34 (fun w hw => watch_any y X w (hm.eff hw) (by omega) (by omega))) rfl rfl ?_
  refine knownB (t := 11) (c := true) rfl (decide_eq_true hM) ?_
  refine lV (yNot rfl) rfl rfl ?_
  refine lNil ?_
  refine kThen ?_
  refine kIfF rfl ?_
  refine kSkip ?_
  refine kThen ?_
  refine kSeq ?_
  refine kSeq ?_
  refine kRegion rfl ?_
  refine lV (yMove rfl) rfl rfl ?_
  refine lV (yNot rfl) rfl rfl ?_
  refine lNil ?_
  refine kThen ?_
  refine kIfF rfl ?_
  refine kSkip ?_
  refine kThen ?_
  refine kSeq ?_
  refine kRegion rfl ?_
  refine lV (yLoadA (vs := [_, _, _, _, _, _, _, _]) rfl A29 (cOwn 0 rfl rfl)) rfl rfl ?_
  refine lV (yCall rfl (.c rfl .n) C59 (fun w hw => rall_any y X w (by omega) hM.e)) rfl rfl ?_
  refine lV (yMove rfl) rfl rfl ?_
  refine lV (yExtract rfl rfl) rfl rfl ?_
  refine lV (yExtract rfl rfl) rfl rfl ?_
  refine lV (yAssign rfl) rfl rfl ?_
  refine lV (yAssign rfl) rfl rfl ?_
  refine lNil ?_
  refine kThen ?_
  refine kSeq ?_
  refine kRegion rfl ?_
  refine lV (yLoadA (vs := [_, _, _, _, _, _, _, _]) rfl A29 (cOwn 0 rfl rfl)) rfl rfl ?_
  refine lV (yMove rfl) rfl rfl ?_
  refine lV (yMove rfl) rfl rfl ?_
  refine lE rfl ?_
  refine eCallO rfl (.c rfl (.c rfl (.c rfl .n))) C63 (fun w hw => (of_any y X (allS X) (allE X) w (hm.eff hw) hM (by omega) (by omega)).mono fun _ _ h => h.elim (fun h => h.2) fun h => absurd ((ref_diag hM).2 ho) h.1) fun x hx => ?_
  obtain ⟨gb, rs⟩ := x
  dsimp only at hx ⊢
  refine lV (yMove rfl) rfl rfl ?_
  refine lV (yExtract rfl rfl) rfl rfl ?_
  refine lV (yExtract rfl rfl) rfl rfl ?_
  refine lV (yAssign rfl) rfl rfl ?_
  refine lV (yAssign rfl) rfl rfl ?_
  refine lNil ?_
  refine kThen ?_
  refine kSeq ?_
  refine kSeq ?_
  refine kRegion rfl ?_
  refine lV (yMove rfl) rfl rfl ?_
  refine lV (yNot rfl) rfl rfl ?_
  refine lNil ?_
  refine kThen ?_
  refine kIfF rfl ?_
  refine kSkip ?_
  refine kThen ?_
  refine kSeq ?_
  refine kRegion rfl ?_
  refine lV (yMove rfl) rfl rfl ?_
  refine lV (yAssign rfl) rfl rfl ?_
  refine lV (yAssign rfl) rfl rfl ?_
  refine lNil ?_
  refine kThen ?_
  refine kRet ?_
  refine fRet rfl (.t rfl (.t rfl .n)) ?_
  exact endX (gb, rs) hx rfl rfl (.d 0 .r)

theorem codeR_ne (X : Wat) (b : Bool) : codeR X b ≠ 0 := by unfold codeR; split; (· decide); split <;> decide
theorem habitE_no {X : Wat} {a : Int} (hk : ¬ (WatOk X ∧ (0 ≤ a ∧ a ≤ X.eyes - 1) ∧ okW X)) : habitE X a = ((0, 0), codeR X (decide (0 ≤ a ∧ a ≤ X.eyes - 1))) := by
  unfold codeR
  by_cases hM : WatOk X
  · rw [if_neg (not_not_intro hM)]
    by_cases hr : 0 ≤ a ∧ a ≤ X.eyes - 1
    · rw [if_neg (by rw [decide_eq_true hr]; decide), habitE_clash hM (fun ho => hk ⟨hM, hr, ho⟩) hr]
    · rw [if_pos (decide_eq_false hr)]
      unfold habitE
      rw [if_neg (not_not_intro hM), if_pos hr]
  · rw [if_pos hM]
    exact if_pos hM
theorem betwE_no {X : Wat} {a b : Int} (hk : ¬ (WatOk X ∧ ((0 ≤ a ∧ a ≤ X.eyes - 1) ∧ (0 ≤ b ∧ b ≤ X.eyes - 1)) ∧ okW X)) : betwE X a b = ((0, 0), codeR X (decide ((0 ≤ a ∧ a ≤ X.eyes - 1) ∧ (0 ≤ b ∧ b ≤ X.eyes - 1)))) := by
  unfold codeR
  by_cases hM : WatOk X
  · rw [if_neg (not_not_intro hM)]
    by_cases hr : (0 ≤ a ∧ a ≤ X.eyes - 1) ∧ (0 ≤ b ∧ b ≤ X.eyes - 1)
    · rw [if_neg (by rw [decide_eq_true hr]; decide), betwE_clash hM (fun ho => hk ⟨hM, hr, ho⟩) hr.1 hr.2]
    · rw [if_pos (decide_eq_false hr)]
      unfold betwE
      rw [if_neg (not_not_intro hM), if_pos hr]
  · rw [if_pos hM]
    exact if_pos hM
theorem placeE_no {X : Wat} {a : Int} (hk : ¬ (WatOk X ∧ (0 ≤ a ∧ a ≤ X.images - 1) ∧ okW X)) : placeE X a = ((0, 0), codeR X (decide (0 ≤ a ∧ a ≤ X.images - 1))) := by
  unfold codeR
  by_cases hM : WatOk X
  · rw [if_neg (not_not_intro hM)]
    by_cases hr : 0 ≤ a ∧ a ≤ X.images - 1
    · rw [if_neg (by rw [decide_eq_true hr]; decide), placeE_clash hM (fun ho => hk ⟨hM, hr, ho⟩) hr]
    · rw [if_pos (decide_eq_false hr)]
      unfold placeE
      rw [if_neg (not_not_intro hM), if_pos hr]
  · rw [if_pos hM]
    exact if_pos hM
theorem open_no {X : Wat} {p : Prop} [Decidable p] (hk : ¬ (WatOk X ∧ p ∧ okW X)) : ¬ WatOk X ∨ decide p = false ∨ ¬ okW X := by
  by_cases hM : WatOk X
  · by_cases hp : p
    · exact .inr (.inr fun ho => hk ⟨hM, hp, ho⟩)
    · exact .inr (.inl (decide_eq_false hp))
  · exact .inl hM

set_option maxRecDepth 100000 in
set_option maxHeartbeats 2000000 in
theorem rhabit_any (y : WLoc) (X : Wat) (a : Int) (w : World) (hm : InW w y X) (hL : X.looks.length ≤ 1000000) (hE : X.errs.length ≤ 1000000) : Calls Try.prog 16 [.agg (watC y X).toArray, i64 a].toArray w (Ret w (outC (habitE X a))) := by
  refine fEnter Try.func16 rfl Try.ntmps16 rfl ?_
  refine kSeq ?_
  by_cases hM : WatOk X
  · refine kRegion rfl ?_
    refine lE rfl ?_
    refine eBoxA rfl fun n2 => ?_
    refine lE rfl ?_
    refine eAlloc Z24 fun n4 => ?_
    refine lV (yAssign rfl) rfl rfl ?_
    refine lNil ?_
    refine kThen ?_
    refine kSeq ?_
    by_cases hk : (0 ≤ a ∧ a ≤ X.eyes - 1) ∧ okW X
    · obtain ⟨hr, ho⟩ := hk
      obtain ⟨n, hn⟩ : ∃ n : Nat, a = (n : Nat) := ⟨a.toNat, by omega⟩
      subst hn
      have hEy := hM.e
      have hne : n < X.eyes.toNat := by omega
      have hcn := cnt_hab hne
      have hc0 := cnt_0 X
      have hb1 := refA_le hM hcn hc0
      refine kDrawE [(0, none), (3, none), (5, none)] [] [0, 1, 2, 3, 4, 5] 6 hMix (by kernel_rfl) ?_
      refine .run rfl (yLoadA (vs := [_, _, _, _, _, _, _, _]) rfl A29 (cOwn 1 rfl rfl)) rfl rfl ?_
      refine .run rfl (yMove rfl) rfl rfl ?_
      refine .run rfl (yFieldAddr rfl F29_2) rfl rfl ?_
      refine .run rfl (yLoad1 rfl O3 (cOwn 1 rfl rfl)) rfl rfl ?_
      refine .run rfl (ySub rfl rfl (by omega)) rfl rfl ?_
      refine .run rfl (yvIs (c := true) (yCall rfl (.c rfl (.c rfl (.c rfl .n))) C52 (fun w hw => ein_any _ _ _ w)) (decide_eq_true hr)) rfl rfl ?_
      refine .done ?_
      refine effStep 6 [] (by kernel_rfl) closedSt (hLeft [0, 3, 5] (by kernel_rfl) (.c (fun _ _ hs => hs.ef) (.c (fun _ _ hs => hs.ef) (.c (fun _ _ hs => hs.ef) .n)))) ?_
      refine .c ?_ .n
      refine effOne rfl (gNone rfl (fCallO rfl (.c rfl (.c rfl .n)) C51 (fun w hw => ropen_yes y X w (hm.eff hw) hM ho))) ?_
      refine effStep 7 [] (by kernel_rfl) (closedEx fun gx => closedSt) (hLeft [] (by kernel_rfl) .n) ?_
      refine .c ?_ .n
      refine effOne rfl (opEx fun gx => (gNone rfl (fV (yMove rfl) rfl))) ?_
      refine effStep 8 [9] (by kernel_rfl) (closedEx fun gx => closedSt) (hLeft [] (by kernel_rfl) .n) ?_
      refine (.c ?_ (.c ?_ .n))
      · refine effOne rfl (opEx fun gx => (gNone rfl (fV (yExtract rfl rfl) rfl))) ?_
        refine effStep 9 [10] (by kernel_rfl) (closedEx fun gx => closedSt) (hLeft [] (by kernel_rfl) .n) ?_
        refine (.c ?_ (.c ?_ .n))
        · refine effOne rfl (opEx fun gx => (gNone rfl (fV (yExtract rfl rfl) rfl))) ?_
          refine effStep 10 [] (by kernel_rfl) (closedEx fun gx => closedSt) (hLeft [] (by kernel_rfl) .n) ?_
          refine .c ?_ .n
          refine effOne rfl (opEx fun gx => (gNone rfl (fV (yAssign rfl) rfl))) ?_
          refine effStep 11 [] (by kernel_rfl) (closedEx fun gx => closedSt) (hLeft [] (by kernel_rfl) .n) ?_
          refine .c ?_ .n
          refine effOne rfl (opEx fun gx => (gNone rfl (fV (yAssign rfl) rfl))) ?_
          refine effDone (closedEx fun gx => closedSt) (hLeft [] (by kernel_rfl) .n) (by kernel_rfl) ?_
          refine trEx fun gx => ?_
          refine kThen ?_
          refine kSeq ?_
          refine kSeq ?_
          refine kRegion rfl ?_
          refine lV (yMove rfl) rfl rfl ?_
          refine lV (yNeq rfl rfl) rfl rfl ?_
          refine knownN (t := 19) rfl (fun h => h rfl) ?_
          refine lNil ?_
          refine kThen ?_
          refine kIfF rfl ?_
          refine kSkip ?_
          refine kThen ?_
          refine kSeq ?_
          refine kDrawE [(3, none), (4, none), (5, none), (6, none), (9, none), (10, none), (13, none), (14, none)] [] [0, 1, 2, 3, 4, 5, 6, 7, 8, 9, 10, 11, 12, 13, 14, 15, 17] 1 hMix (by kernel_rfl) ?_
          refine .run rfl (yMove rfl) rfl rfl ?_
          refine .run rfl (yMove rfl) rfl rfl ?_
          refine .run rfl (yvSame (u := i64 ((1 + n : Nat) : Int)) (yAdd rfl rfl (by omega)) (congrArg i64 (by omega))) rfl rfl ?_
          refine .run rfl (yIndexS  rfl rfl S86 (fun w hw => matB gx.2 (hw.sub (.d 0 (.d 0 .r))) (SubP.leftA _ _)) (hcn)) rfl rfl ?_
          refine .run rfl (yLoad1 rfl O41 (cSl0 (fun w hw => matB gx.2 (hw.sub (.d 0 (.d 0 .r))) (SubP.leftA _ _)) (hcn) rfl)) rfl rfl ?_
          refine .run rfl (yIndexS (k := 0) rfl rfl S41 (fun w hw => matR gx.2 (hw.sub (.d 0 (.d 0 .r))) SubP.tail hcn) (hc0)) rfl rfl ?_
          refine .run rfl (yLoad1 rfl O3 (cSl0 (fun w hw => matR gx.2 (hw.sub (.d 0 (.d 0 .r))) SubP.tail hcn) (hc0) rfl)) rfl rfl ?_
          refine .run rfl (yNeg rfl (by omega)) rfl rfl ?_
          refine .run rfl (yMove rfl) rfl rfl ?_
          refine .run rfl (yIndexS (k := 0) rfl rfl S86 (fun w hw => matB gx.2 (hw.sub (.d 0 (.d 0 .r))) (SubP.leftA _ _)) (hc0)) rfl rfl ?_
          refine .run rfl (yLoad1 rfl O41 (cSl0 (fun w hw => matB gx.2 (hw.sub (.d 0 (.d 0 .r))) (SubP.leftA _ _)) (hc0) rfl)) rfl rfl ?_
          refine .run rfl (yMove rfl) rfl rfl ?_
          refine .run rfl (yvSame (u := i64 ((1 + n : Nat) : Int)) (yAdd rfl rfl (by omega)) (congrArg i64 (by omega))) rfl rfl ?_
          refine .run rfl (yIndexS  rfl rfl S41 (fun w hw => matR gx.2 (hw.sub (.d 0 (.d 0 .r))) SubP.tail hc0) (hcn)) rfl rfl ?_
          refine .run rfl (yLoad1 rfl O3 (cSl0 (fun w hw => matR gx.2 (hw.sub (.d 0 (.d 0 .r))) SubP.tail hc0) (hcn) rfl)) rfl rfl ?_
          refine .run rfl (yBuild (.c rfl (.c rfl .n)) (fun w => B24_0_1 w)) rfl rfl ?_
          refine .run rfl (yAssign rfl) rfl rfl ?_
          refine .done ?_
          refine effStep 16 [] (by kernel_rfl) closedSt (hLeft [3, 4, 5, 6, 9, 10, 13, 14] (by kernel_rfl) (.c (fun _ _ hs => hs.ef) (.c (fun _ _ hs => hs.ef) (.c (fun _ _ hs => hs.ef) (.c (fun _ _ hs => hs.ef) (.c (fun _ _ hs => hs.ef) (.c (fun _ _ hs => hs.ef) (.c (fun _ _ hs => hs.ef) (.c (fun _ _ hs => hs.ef) .n))))))))) ?_
          refine .c ?_ .n
          refine effOne rfl (gNone rfl (fStoreL 0 rfl rfl rfl rfl K24 rfl (rfl))) ?_
          refine effDone closedSt (hLeft [] (by kernel_rfl) .n) (by kernel_rfl) ?_
          refine kThen ?_
          refine kRet ?_
          refine fRet rfl (.cA (us := [_, _]) rfl A24 (cOwn 0 rfl rfl) (.t rfl .n)) (endRet ?_)
          simp only [packV]
          rw [habitE_ok hM ho hr, Int.toNat_natCast, ref_hab hM ho hne]
        · refine effOne rfl (opEx fun gx => (gNone rfl (fV (yAssign rfl) rfl))) ?_
          refine effStep 9 [] (by kernel_rfl) (closedEx fun gx => closedSt) (hLeft [] (by kernel_rfl) .n) ?_
          refine .c ?_ .n
          refine effOne rfl (opEx fun gx => (gNone rfl (fV (yExtract rfl rfl) rfl))) ?_
          refine effStep 11 [] (by kernel_rfl) (closedEx fun gx => closedSt) (hLeft [] (by kernel_rfl) .n) ?_
          refine .c ?_ .n
          refine effOne rfl (opEx fun gx => (gNone rfl (fV (yAssign rfl) rfl))) ?_
          refine effDone (closedEx fun gx => closedSt) (hLeft [] (by kernel_rfl) .n) (by kernel_rfl) ?_
          refine trEx fun gx => ?_
          refine kThen ?_
          refine kSeq ?_
          refine kSeq ?_
          refine kRegion rfl ?_
          refine lV (yMove rfl) rfl rfl ?_
          refine lV (yNeq rfl rfl) rfl rfl ?_
          refine knownN (t := 19) rfl (fun h => h rfl) ?_
          refine lNil ?_
          refine kThen ?_
          refine kIfF rfl ?_
          refine kSkip ?_
          refine kThen ?_
          refine kSeq ?_
          refine kDrawE [(3, none), (4, none), (5, none), (6, none), (9, none), (10, none), (13, none), (14, none)] [] [0, 1, 2, 3, 4, 5, 6, 7, 8, 9, 10, 11, 12, 13, 14, 15, 17] 1 hMix (by kernel_rfl) ?_
          refine .run rfl (yMove rfl) rfl rfl ?_
          refine .run rfl (yMove rfl) rfl rfl ?_
          refine .run rfl (yvSame (u := i64 ((1 + n : Nat) : Int)) (yAdd rfl rfl (by omega)) (congrArg i64 (by omega))) rfl rfl ?_
          refine .run rfl (yIndexS  rfl rfl S86 (fun w hw => matB gx.2 (hw.sub (.d 0 (.d 0 .r))) (SubP.leftA _ _)) (hcn)) rfl rfl ?_
          refine .run rfl (yLoad1 rfl O41 (cSl0 (fun w hw => matB gx.2 (hw.sub (.d 0 (.d 0 .r))) (SubP.leftA _ _)) (hcn) rfl)) rfl rfl ?_
          refine .run rfl (yIndexS (k := 0) rfl rfl S41 (fun w hw => matR gx.2 (hw.sub (.d 0 (.d 0 .r))) SubP.tail hcn) (hc0)) rfl rfl ?_
          refine .run rfl (yLoad1 rfl O3 (cSl0 (fun w hw => matR gx.2 (hw.sub (.d 0 (.d 0 .r))) SubP.tail hcn) (hc0) rfl)) rfl rfl ?_
          refine .run rfl (yNeg rfl (by omega)) rfl rfl ?_
          refine .run rfl (yMove rfl) rfl rfl ?_
          refine .run rfl (yIndexS (k := 0) rfl rfl S86 (fun w hw => matB gx.2 (hw.sub (.d 0 (.d 0 .r))) (SubP.leftA _ _)) (hc0)) rfl rfl ?_
          refine .run rfl (yLoad1 rfl O41 (cSl0 (fun w hw => matB gx.2 (hw.sub (.d 0 (.d 0 .r))) (SubP.leftA _ _)) (hc0) rfl)) rfl rfl ?_
          refine .run rfl (yMove rfl) rfl rfl ?_
          refine .run rfl (yvSame (u := i64 ((1 + n : Nat) : Int)) (yAdd rfl rfl (by omega)) (congrArg i64 (by omega))) rfl rfl ?_
          refine .run rfl (yIndexS  rfl rfl S41 (fun w hw => matR gx.2 (hw.sub (.d 0 (.d 0 .r))) SubP.tail hc0) (hcn)) rfl rfl ?_
          refine .run rfl (yLoad1 rfl O3 (cSl0 (fun w hw => matR gx.2 (hw.sub (.d 0 (.d 0 .r))) SubP.tail hc0) (hcn) rfl)) rfl rfl ?_
          refine .run rfl (yBuild (.c rfl (.c rfl .n)) (fun w => B24_0_1 w)) rfl rfl ?_
          refine .run rfl (yAssign rfl) rfl rfl ?_
          refine .done ?_
          refine effStep 16 [] (by kernel_rfl) closedSt (hLeft [3, 4, 5, 6, 9, 10, 13, 14] (by kernel_rfl) (.c (fun _ _ hs => hs.ef) (.c (fun _ _ hs => hs.ef) (.c (fun _ _ hs => hs.ef) (.c (fun _ _ hs => hs.ef) (.c (fun _ _ hs => hs.ef) (.c (fun _ _ hs => hs.ef) (.c (fun _ _ hs => hs.ef) (.c (fun _ _ hs => hs.ef) .n))))))))) ?_
          refine .c ?_ .n
          refine effOne rfl (gNone rfl (fStoreL 0 rfl rfl rfl rfl K24 rfl (rfl))) ?_
          refine effDone closedSt (hLeft [] (by kernel_rfl) .n) (by kernel_rfl) ?_
          refine kThen ?_
          refine kRet ?_
          refine fRet rfl (.cA (us := [_, _]) rfl A24 (cOwn 0 rfl rfl) (.t rfl .n)) (endRet ?_)
          simp only [packV]
          rw [habitE_ok hM ho hr, Int.toNat_natCast, ref_hab hM ho hne]
      · refine effOne rfl (opEx fun gx => (gNone rfl (fV (yExtract rfl rfl) rfl))) ?_
        refine effStep 8 [] (by kernel_rfl) (closedEx fun gx => closedSt) (hLeft [] (by kernel_rfl) .n) ?_
        refine .c ?_ .n
        refine effOne rfl (opEx fun gx => (gNone rfl (fV (yExtract rfl rfl) rfl))) ?_
        refine effStep 10 [] (by kernel_rfl) (closedEx fun gx => closedSt) (hLeft [] (by kernel_rfl) .n) ?_
        refine .c ?_ .n
        refine effOne rfl (opEx fun gx => (gNone rfl (fV (yAssign rfl) rfl))) ?_
        refine effStep 11 [] (by kernel_rfl) (closedEx fun gx => closedSt) (hLeft [] (by kernel_rfl) .n) ?_
        refine .c ?_ .n
        refine effOne rfl (opEx fun gx => (gNone rfl (fV (yAssign rfl) rfl))) ?_
        refine effDone (closedEx fun gx => closedSt) (hLeft [] (by kernel_rfl) .n) (by kernel_rfl) ?_
        refine trEx fun gx => ?_
        refine kThen ?_
        refine kSeq ?_
        refine kSeq ?_
        refine kRegion rfl ?_
        refine lV (yMove rfl) rfl rfl ?_
        refine lV (yNeq rfl rfl) rfl rfl ?_
        refine knownN (t := 19) rfl (fun h => h rfl) ?_
        refine lNil ?_
        refine kThen ?_
        refine kIfF rfl ?_
        refine kSkip ?_
        refine kThen ?_
        refine kSeq ?_
        refine kDrawE [(3, none), (4, none), (5, none), (6, none), (9, none), (10, none), (13, none), (14, none)] [] [0, 1, 2, 3, 4, 5, 6, 7, 8, 9, 10, 11, 12, 13, 14, 15, 17] 1 hMix (by kernel_rfl) ?_
        refine .run rfl (yMove rfl) rfl rfl ?_
        refine .run rfl (yMove rfl) rfl rfl ?_
        refine .run rfl (yvSame (u := i64 ((1 + n : Nat) : Int)) (yAdd rfl rfl (by omega)) (congrArg i64 (by omega))) rfl rfl ?_
        refine .run rfl (yIndexS  rfl rfl S86 (fun w hw => matB gx.2 (hw.sub (.d 0 (.d 0 .r))) (SubP.leftA _ _)) (hcn)) rfl rfl ?_
        refine .run rfl (yLoad1 rfl O41 (cSl0 (fun w hw => matB gx.2 (hw.sub (.d 0 (.d 0 .r))) (SubP.leftA _ _)) (hcn) rfl)) rfl rfl ?_
        refine .run rfl (yIndexS (k := 0) rfl rfl S41 (fun w hw => matR gx.2 (hw.sub (.d 0 (.d 0 .r))) SubP.tail hcn) (hc0)) rfl rfl ?_
        refine .run rfl (yLoad1 rfl O3 (cSl0 (fun w hw => matR gx.2 (hw.sub (.d 0 (.d 0 .r))) SubP.tail hcn) (hc0) rfl)) rfl rfl ?_
        refine .run rfl (yNeg rfl (by omega)) rfl rfl ?_
        refine .run rfl (yMove rfl) rfl rfl ?_
        refine .run rfl (yIndexS (k := 0) rfl rfl S86 (fun w hw => matB gx.2 (hw.sub (.d 0 (.d 0 .r))) (SubP.leftA _ _)) (hc0)) rfl rfl ?_
        refine .run rfl (yLoad1 rfl O41 (cSl0 (fun w hw => matB gx.2 (hw.sub (.d 0 (.d 0 .r))) (SubP.leftA _ _)) (hc0) rfl)) rfl rfl ?_
        refine .run rfl (yMove rfl) rfl rfl ?_
        refine .run rfl (yvSame (u := i64 ((1 + n : Nat) : Int)) (yAdd rfl rfl (by omega)) (congrArg i64 (by omega))) rfl rfl ?_
        refine .run rfl (yIndexS  rfl rfl S41 (fun w hw => matR gx.2 (hw.sub (.d 0 (.d 0 .r))) SubP.tail hc0) (hcn)) rfl rfl ?_
        refine .run rfl (yLoad1 rfl O3 (cSl0 (fun w hw => matR gx.2 (hw.sub (.d 0 (.d 0 .r))) SubP.tail hc0) (hcn) rfl)) rfl rfl ?_
        refine .run rfl (yBuild (.c rfl (.c rfl .n)) (fun w => B24_0_1 w)) rfl rfl ?_
        refine .run rfl (yAssign rfl) rfl rfl ?_
        refine .done ?_
        refine effStep 16 [] (by kernel_rfl) closedSt (hLeft [3, 4, 5, 6, 9, 10, 13, 14] (by kernel_rfl) (.c (fun _ _ hs => hs.ef) (.c (fun _ _ hs => hs.ef) (.c (fun _ _ hs => hs.ef) (.c (fun _ _ hs => hs.ef) (.c (fun _ _ hs => hs.ef) (.c (fun _ _ hs => hs.ef) (.c (fun _ _ hs => hs.ef) (.c (fun _ _ hs => hs.ef) .n))))))))) ?_
        refine .c ?_ .n
        refine effOne rfl (gNone rfl (fStoreL 0 rfl rfl rfl rfl K24 rfl (rfl))) ?_
        refine effDone closedSt (hLeft [] (by kernel_rfl) .n) (by kernel_rfl) ?_
        refine kThen ?_
        refine kRet ?_
        refine fRet rfl (.cA (us := [_, _]) rfl A24 (cOwn 0 rfl rfl) (.t rfl .n)) (endRet ?_)
        simp only [packV]
        rw [habitE_ok hM ho hr, Int.toNat_natCast, ref_hab hM ho hne]
    · have hEy := hM.e
      have hIm := hM.i
      refine kDrawE [(0, none), (3, none), (5, none)] [] [0, 1, 2, 3, 4, 5] 6 hMix (by kernel_rfl) ?_
      refine .run rfl (yLoadA (vs := [_, _, _, _, _, _, _, _]) rfl A29 (cOwn 1 rfl rfl)) rfl rfl ?_
      refine .run rfl (yMove rfl) rfl rfl ?_
      refine .run rfl (yFieldAddr rfl F29_2) rfl rfl ?_
      refine .run rfl (yLoad1 rfl O3 (cOwn 1 rfl rfl)) rfl rfl ?_
      refine .run rfl (ySub rfl rfl (by omega)) rfl rfl ?_
      refine .run rfl (yCall rfl (.c rfl (.c rfl (.c rfl .n))) C52 (fun w hw => ein_any _ _ _ w)) rfl rfl ?_
      refine .done ?_
      refine effStep 6 [] (by kernel_rfl) closedSt (hLeft [0, 3, 5] (by kernel_rfl) (.c (fun _ _ hs => hs.ef) (.c (fun _ _ hs => hs.ef) (.c (fun _ _ hs => hs.ef) .n)))) ?_
      refine .c ?_ .n
      refine effOne rfl (gNone rfl (fV (yCall rfl (.c rfl (.c rfl .n)) C51 (fun w hw => ropen_no y X _ w (hm.eff hw) hL hE (open_no fun h => hk h.2))) rfl)) ?_
      refine effStep 7 [] (by kernel_rfl) closedSt (hLeft [] (by kernel_rfl) .n) ?_
      refine .c ?_ .n
      refine effOne rfl (gNone rfl (fV (yMove rfl) rfl)) ?_
      refine effStep 8 [9] (by kernel_rfl) closedSt (hLeft [] (by kernel_rfl) .n) ?_
      refine (.c ?_ (.c ?_ .n))
      · refine effOne rfl (gNone rfl (fV (yExtract rfl rfl) rfl)) ?_
        refine effStep 9 [10] (by kernel_rfl) closedSt (hLeft [] (by kernel_rfl) .n) ?_
        refine (.c ?_ (.c ?_ .n))
        · refine effOne rfl (gNone rfl (fV (yExtract rfl rfl) rfl)) ?_
          refine effStep 10 [] (by kernel_rfl) closedSt (hLeft [] (by kernel_rfl) .n) ?_
          refine .c ?_ .n
          refine effOne rfl (gNone rfl (fV (yAssign rfl) rfl)) ?_
          refine effStep 11 [] (by kernel_rfl) closedSt (hLeft [] (by kernel_rfl) .n) ?_
          refine .c ?_ .n
          refine effOne rfl (gNone rfl (fV (yAssign rfl) rfl)) ?_
          refine effDone closedSt (hLeft [] (by kernel_rfl) .n) (by kernel_rfl) ?_
          refine kThen ?_
          refine kSeq ?_
          refine kSeq ?_
          refine kRegion rfl ?_
          refine lV (yMove rfl) rfl rfl ?_
          refine lV (yNeq rfl rfl) rfl rfl ?_
          refine known (t := 19) rfl (codeR_ne X _) ?_
          refine lNil ?_
          refine kThen ?_
          refine kIfT rfl ?_
          refine kSeq ?_
          refine kRegion rfl ?_
          refine lV (yBuild .n (fun w => B24_ w)) rfl rfl ?_
          refine lV (yMove rfl) rfl rfl ?_
          refine lE rfl ?_
          refine eStoreL 0 rfl rfl rfl rfl K24 rfl (rfl) ?_
          refine lV (yAssign rfl) rfl rfl ?_
          refine lNil ?_
          refine kThen ?_
          refine kRet ?_
          refine kThenR ?_
          refine fRet rfl (.cA (us := [_, _]) rfl A24 (cOwn 0 rfl rfl) (.t rfl .n)) (endRet ?_)
          simp only [packV]
          rw [habitE_no fun h => hk h.2]
        · refine effOne rfl (gNone rfl (fV (yAssign rfl) rfl)) ?_
          refine effStep 9 [] (by kernel_rfl) closedSt (hLeft [] (by kernel_rfl) .n) ?_
          refine .c ?_ .n
          refine effOne rfl (gNone rfl (fV (yExtract rfl rfl) rfl)) ?_
          refine effStep 11 [] (by kernel_rfl) closedSt (hLeft [] (by kernel_rfl) .n) ?_
          refine .c ?_ .n
          refine effOne rfl (gNone rfl (fV (yAssign rfl) rfl)) ?_
          refine effDone closedSt (hLeft [] (by kernel_rfl) .n) (by kernel_rfl) ?_
          refine kThen ?_
          refine kSeq ?_
          refine kSeq ?_
          refine kRegion rfl ?_
          refine lV (yMove rfl) rfl rfl ?_
          refine lV (yNeq rfl rfl) rfl rfl ?_
          refine known (t := 19) rfl (codeR_ne X _) ?_
          refine lNil ?_
          refine kThen ?_
          refine kIfT rfl ?_
          refine kSeq ?_
          refine kRegion rfl ?_
          refine lV (yBuild .n (fun w => B24_ w)) rfl rfl ?_
          refine lV (yMove rfl) rfl rfl ?_
          refine lE rfl ?_
          refine eStoreL 0 rfl rfl rfl rfl K24 rfl (rfl) ?_
          refine lV (yAssign rfl) rfl rfl ?_
          refine lNil ?_
          refine kThen ?_
          refine kRet ?_
          refine kThenR ?_
          refine fRet rfl (.cA (us := [_, _]) rfl A24 (cOwn 0 rfl rfl) (.t rfl .n)) (endRet ?_)
          simp only [packV]
          rw [habitE_no fun h => hk h.2]
      · refine effOne rfl (gNone rfl (fV (yExtract rfl rfl) rfl)) ?_
        refine effStep 8 [] (by kernel_rfl) closedSt (hLeft [] (by kernel_rfl) .n) ?_
        refine .c ?_ .n
        refine effOne rfl (gNone rfl (fV (yExtract rfl rfl) rfl)) ?_
        refine effStep 10 [] (by kernel_rfl) closedSt (hLeft [] (by kernel_rfl) .n) ?_
        refine .c ?_ .n
        refine effOne rfl (gNone rfl (fV (yAssign rfl) rfl)) ?_
        refine effStep 11 [] (by kernel_rfl) closedSt (hLeft [] (by kernel_rfl) .n) ?_
        refine .c ?_ .n
        refine effOne rfl (gNone rfl (fV (yAssign rfl) rfl)) ?_
        refine effDone closedSt (hLeft [] (by kernel_rfl) .n) (by kernel_rfl) ?_
        refine kThen ?_
        refine kSeq ?_
        refine kSeq ?_
        refine kRegion rfl ?_
        refine lV (yMove rfl) rfl rfl ?_
        refine lV (yNeq rfl rfl) rfl rfl ?_
        refine known (t := 19) rfl (codeR_ne X _) ?_
        refine lNil ?_
        refine kThen ?_
        refine kIfT rfl ?_
        refine kSeq ?_
        refine kRegion rfl ?_
        refine lV (yBuild .n (fun w => B24_ w)) rfl rfl ?_
        refine lV (yMove rfl) rfl rfl ?_
        refine lE rfl ?_
        refine eStoreL 0 rfl rfl rfl rfl K24 rfl (rfl) ?_
        refine lV (yAssign rfl) rfl rfl ?_
        refine lNil ?_
        refine kThen ?_
        refine kRet ?_
        refine kThenR ?_
        refine fRet rfl (.cA (us := [_, _]) rfl A24 (cOwn 0 rfl rfl) (.t rfl .n)) (endRet ?_)
        simp only [packV]
        rw [habitE_no fun h => hk h.2]
  · refine kRegion rfl ?_
    refine lE rfl ?_
    refine eBoxA rfl fun n2 => ?_
    refine lE rfl ?_
    refine eAlloc Z24 fun n4 => ?_
    refine lV (yAssign rfl) rfl rfl ?_
    refine lNil ?_
    refine kThen ?_
    refine kSeq ?_
    refine kDrawE [(0, none), (3, none), (5, none)] [] [0, 1, 2, 3, 4, 5] 6 hMix (by kernel_rfl) ?_
    refine .run rfl (yLoadA (vs := [_, _, _, _, _, _, _, _]) rfl A29 (cOwn 1 rfl rfl)) rfl rfl ?_
    refine .run rfl (yMove rfl) rfl rfl ?_
    refine .run rfl (yFieldAddr rfl F29_2) rfl rfl ?_
    refine .run rfl (yLoad1 rfl O3 (cOwn 1 rfl rfl)) rfl rfl ?_
    refine .run rfl (yArith rfl rfl (.inr (.inl ⟨rfl, rfl⟩))) rfl rfl ?_
    refine .run rfl (yCall rfl (.c rfl (.c rfl (.c rfl .n))) C52 (fun w hw => ein_any _ _ _ w)) rfl rfl ?_
    refine .done ?_
    refine effStep 6 [] (by kernel_rfl) closedSt (hLeft [0, 3, 5] (by kernel_rfl) (.c (fun _ _ hs => hs.ef) (.c (fun _ _ hs => hs.ef) (.c (fun _ _ hs => hs.ef) .n)))) ?_
    refine .c ?_ .n
    refine effOne rfl (gNone rfl (fV (yCall rfl (.c rfl (.c rfl .n)) C51 (fun w hw => ropen_no y X _ w (hm.eff hw) hL hE (.inl hM))) rfl)) ?_
    refine effStep 7 [] (by kernel_rfl) closedSt (hLeft [] (by kernel_rfl) .n) ?_
    refine .c ?_ .n
    refine effOne rfl (gNone rfl (fV (yMove rfl) rfl)) ?_
    refine effStep 8 [9] (by kernel_rfl) closedSt (hLeft [] (by kernel_rfl) .n) ?_
    refine (.c ?_ (.c ?_ .n))
    · refine effOne rfl (gNone rfl (fV (yExtract rfl rfl) rfl)) ?_
      refine effStep 9 [10] (by kernel_rfl) closedSt (hLeft [] (by kernel_rfl) .n) ?_
      refine (.c ?_ (.c ?_ .n))
      · refine effOne rfl (gNone rfl (fV (yExtract rfl rfl) rfl)) ?_
        refine effStep 10 [] (by kernel_rfl) closedSt (hLeft [] (by kernel_rfl) .n) ?_
        refine .c ?_ .n
        refine effOne rfl (gNone rfl (fV (yAssign rfl) rfl)) ?_
        refine effStep 11 [] (by kernel_rfl) closedSt (hLeft [] (by kernel_rfl) .n) ?_
        refine .c ?_ .n
        refine effOne rfl (gNone rfl (fV (yAssign rfl) rfl)) ?_
        refine effDone closedSt (hLeft [] (by kernel_rfl) .n) (by kernel_rfl) ?_
        refine kThen ?_
        refine kSeq ?_
        refine kSeq ?_
        refine kRegion rfl ?_
        refine lV (yMove rfl) rfl rfl ?_
        refine lV (yNeq rfl rfl) rfl rfl ?_
        refine known (t := 19) rfl (codeR_ne X _) ?_
        refine lNil ?_
        refine kThen ?_
        refine kIfT rfl ?_
        refine kSeq ?_
        refine kRegion rfl ?_
        refine lV (yBuild .n (fun w => B24_ w)) rfl rfl ?_
        refine lV (yMove rfl) rfl rfl ?_
        refine lE rfl ?_
        refine eStoreL 0 rfl rfl rfl rfl K24 rfl (rfl) ?_
        refine lV (yAssign rfl) rfl rfl ?_
        refine lNil ?_
        refine kThen ?_
        refine kRet ?_
        refine kThenR ?_
        refine fRet rfl (.cA (us := [_, _]) rfl A24 (cOwn 0 rfl rfl) (.t rfl .n)) (endRet ?_)
        simp only [packV]
        rw [show habitE X a = ((0, 0), 1) from if_pos hM]
        unfold codeR; rw [if_pos hM]
      · refine effOne rfl (gNone rfl (fV (yAssign rfl) rfl)) ?_
        refine effStep 9 [] (by kernel_rfl) closedSt (hLeft [] (by kernel_rfl) .n) ?_
        refine .c ?_ .n
        refine effOne rfl (gNone rfl (fV (yExtract rfl rfl) rfl)) ?_
        refine effStep 11 [] (by kernel_rfl) closedSt (hLeft [] (by kernel_rfl) .n) ?_
        refine .c ?_ .n
        refine effOne rfl (gNone rfl (fV (yAssign rfl) rfl)) ?_
        refine effDone closedSt (hLeft [] (by kernel_rfl) .n) (by kernel_rfl) ?_
        refine kThen ?_
        refine kSeq ?_
        refine kSeq ?_
        refine kRegion rfl ?_
        refine lV (yMove rfl) rfl rfl ?_
        refine lV (yNeq rfl rfl) rfl rfl ?_
        refine known (t := 19) rfl (codeR_ne X _) ?_
        refine lNil ?_
        refine kThen ?_
        refine kIfT rfl ?_
        refine kSeq ?_
        refine kRegion rfl ?_
        refine lV (yBuild .n (fun w => B24_ w)) rfl rfl ?_
        refine lV (yMove rfl) rfl rfl ?_
        refine lE rfl ?_
        refine eStoreL 0 rfl rfl rfl rfl K24 rfl (rfl) ?_
        refine lV (yAssign rfl) rfl rfl ?_
        refine lNil ?_
        refine kThen ?_
        refine kRet ?_
        refine kThenR ?_
        refine fRet rfl (.cA (us := [_, _]) rfl A24 (cOwn 0 rfl rfl) (.t rfl .n)) (endRet ?_)
        simp only [packV]
        rw [show habitE X a = ((0, 0), 1) from if_pos hM]
        unfold codeR; rw [if_pos hM]
    · refine effOne rfl (gNone rfl (fV (yExtract rfl rfl) rfl)) ?_
      refine effStep 8 [] (by kernel_rfl) closedSt (hLeft [] (by kernel_rfl) .n) ?_
      refine .c ?_ .n
      refine effOne rfl (gNone rfl (fV (yExtract rfl rfl) rfl)) ?_
      refine effStep 10 [] (by kernel_rfl) closedSt (hLeft [] (by kernel_rfl) .n) ?_
      refine .c ?_ .n
      refine effOne rfl (gNone rfl (fV (yAssign rfl) rfl)) ?_
      refine effStep 11 [] (by kernel_rfl) closedSt (hLeft [] (by kernel_rfl) .n) ?_
      refine .c ?_ .n
      refine effOne rfl (gNone rfl (fV (yAssign rfl) rfl)) ?_
      refine effDone closedSt (hLeft [] (by kernel_rfl) .n) (by kernel_rfl) ?_
      refine kThen ?_
      refine kSeq ?_
      refine kSeq ?_
      refine kRegion rfl ?_
      refine lV (yMove rfl) rfl rfl ?_
      refine lV (yNeq rfl rfl) rfl rfl ?_
      refine known (t := 19) rfl (codeR_ne X _) ?_
      refine lNil ?_
      refine kThen ?_
      refine kIfT rfl ?_
      refine kSeq ?_
      refine kRegion rfl ?_
      refine lV (yBuild .n (fun w => B24_ w)) rfl rfl ?_
      refine lV (yMove rfl) rfl rfl ?_
      refine lE rfl ?_
      refine eStoreL 0 rfl rfl rfl rfl K24 rfl (rfl) ?_
      refine lV (yAssign rfl) rfl rfl ?_
      refine lNil ?_
      refine kThen ?_
      refine kRet ?_
      refine kThenR ?_
      refine fRet rfl (.cA (us := [_, _]) rfl A24 (cOwn 0 rfl rfl) (.t rfl .n)) (endRet ?_)
      simp only [packV]
      rw [show habitE X a = ((0, 0), 1) from if_pos hM]
      unfold codeR; rw [if_pos hM]
set_option maxRecDepth 100000 in
set_option maxHeartbeats 2000000 in
theorem rbetween_any (y : WLoc) (X : Wat) (a b : Int) (w : World) (hm : InW w y X) (hL : X.looks.length ≤ 1000000) (hE : X.errs.length ≤ 1000000) : Calls Try.prog 18 [.agg (watC y X).toArray, i64 a, i64 b].toArray w (Ret w (outC (betwE X a b))) := by
  refine fEnter Try.func18 rfl Try.ntmps18 rfl ?_
  refine kSeq ?_
  by_cases hM : WatOk X
  · refine kRegion rfl ?_
    refine lE rfl ?_
    refine eBoxA rfl fun n3 => ?_
    refine lE rfl ?_
    refine eAlloc Z24 fun n6 => ?_
    refine lV (yAssign rfl) rfl rfl ?_
    refine lNil ?_
    refine kThen ?_
    refine kSeq ?_
    by_cases hk : ((0 ≤ a ∧ a ≤ X.eyes - 1) ∧ (0 ≤ b ∧ b ≤ X.eyes - 1)) ∧ okW X
    · obtain ⟨⟨hr, hr2⟩, ho⟩ := hk
      obtain ⟨n, hn⟩ : ∃ n : Nat, a = (n : Nat) := ⟨a.toNat, by omega⟩
      obtain ⟨k, hkn⟩ : ∃ n : Nat, b = (n : Nat) := ⟨b.toNat, by omega⟩
      subst hn
      subst hkn
      have hEy := hM.e
      have hne : n < X.eyes.toNat := by omega
      have hke : k < X.eyes.toNat := by omega
      have hcn := cnt_hab hne
      have hck := cnt_hab hke
      have hb1 := refA_le hM hck hcn
      refine kDrawE [(0, none), (3, none), (5, none), (9, none), (11, none)] [] [0, 1, 2, 3, 4, 5, 6, 7, 8, 9, 10, 11, 12] 6 hMix (by kernel_rfl) ?_
      refine .run rfl (yLoadA (vs := [_, _, _, _, _, _, _, _]) rfl A29 (cOwn 1 rfl rfl)) rfl rfl ?_
      refine .run rfl (yMove rfl) rfl rfl ?_
      refine .run rfl (yFieldAddr rfl F29_2) rfl rfl ?_
      refine .run rfl (yLoad1 rfl O3 (cOwn 1 rfl rfl)) rfl rfl ?_
      refine .run rfl (ySub rfl rfl (by omega)) rfl rfl ?_
      refine .run rfl (yvIs (c := true) (yCall rfl (.c rfl (.c rfl (.c rfl .n))) C52 (fun w hw => ein_any _ _ _ w)) (decide_eq_true hr)) rfl rfl ?_
      refine .run rfl (yMove rfl) rfl rfl ?_
      refine .runG rfl (yMove rfl) rfl rfl rfl rfl ?_
      refine .runG rfl (yFieldAddr rfl F29_2) rfl rfl rfl rfl ?_
      refine .runG rfl (yLoad1 rfl O3 (cOwn 1 rfl rfl)) rfl rfl rfl rfl ?_
      refine .runG rfl (ySub rfl rfl (by omega)) rfl rfl rfl rfl ?_
      refine .runG rfl (yvIs (c := true) (yCall rfl (.c rfl (.c rfl (.c rfl .n))) C52 (fun w hw => ein_any _ _ _ w)) (decide_eq_true hr2)) rfl rfl rfl rfl ?_
      refine .run rfl (yPickT rfl rfl) rfl rfl ?_
      refine .done ?_
      refine effStep 13 [] (by kernel_rfl) closedSt (hLeft [0, 3, 5, 9, 11] (by kernel_rfl) (.c (fun _ _ hs => hs.ef) (.c (fun _ _ hs => hs.ef) (.c (fun _ _ hs => hs.ef) (.c (fun _ _ hs => hs.ef) (.c (fun _ _ hs => hs.ef) .n)))))) ?_
      refine .c ?_ .n
      refine effOne rfl (gNone rfl (fCallO rfl (.c rfl (.c rfl .n)) C51 (fun w hw => ropen_yes y X w (hm.eff hw) hM ho))) ?_
      refine effStep 14 [] (by kernel_rfl) (closedEx fun gx => closedSt) (hLeft [3] (by kernel_rfl) (.c (fun _ _ ⟨gx, hs⟩ => hs.ef.sub (.c 0 rfl (.c 0 rfl .n))) .n)) ?_
      refine .c ?_ .n
      refine effOne rfl (opEx fun gx => (gNone rfl (fV (yMove rfl) rfl))) ?_
      refine effStep 15 [16] (by kernel_rfl) (closedEx fun gx => closedSt) (hLeft [3] (by kernel_rfl) (.c (fun _ _ ⟨gx, hs⟩ => hs.ef.sub (.c 0 rfl (.c 0 rfl .n))) .n)) ?_
      refine (.c ?_ (.c ?_ .n))
      · refine effOne rfl (opEx fun gx => (gNone rfl (fV (yExtract rfl rfl) rfl))) ?_
        refine effStep 16 [17] (by kernel_rfl) (closedEx fun gx => closedSt) (hLeft [3] (by kernel_rfl) (.c (fun _ _ ⟨gx, hs⟩ => hs.ef.sub (.c 0 rfl (.c 0 rfl .n))) .n)) ?_
        refine (.c ?_ (.c ?_ .n))
        · refine effOne rfl (opEx fun gx => (gNone rfl (fV (yExtract rfl rfl) rfl))) ?_
          refine effStep 17 [] (by kernel_rfl) (closedEx fun gx => closedSt) (hLeft [3] (by kernel_rfl) (.c (fun _ _ ⟨gx, hs⟩ => hs.ef.sub (.c 0 rfl (.c 0 rfl .n))) .n)) ?_
          refine .c ?_ .n
          refine effOne rfl (opEx fun gx => (gNone rfl (fV (yAssign rfl) rfl))) ?_
          refine effStep 18 [] (by kernel_rfl) (closedEx fun gx => closedSt) (hLeft [] (by kernel_rfl) .n) ?_
          refine .c ?_ .n
          refine effOne rfl (opEx fun gx => (gNone rfl (fV (yAssign rfl) rfl))) ?_
          refine effDone (closedEx fun gx => closedSt) (hLeft [] (by kernel_rfl) .n) (by kernel_rfl) ?_
          refine trEx fun gx => ?_
          refine kThen ?_
          refine kSeq ?_
          refine kSeq ?_
          refine kRegion rfl ?_
          refine lV (yMove rfl) rfl rfl ?_
          refine lV (yNeq rfl rfl) rfl rfl ?_
          refine knownN (t := 28) rfl (fun h => h rfl) ?_
          refine lNil ?_
          refine kThen ?_
          refine kIfF rfl ?_
          refine kSkip ?_
          refine kThen ?_
          refine kSeq ?_
          refine kDrawE [(3, none), (4, none), (7, none), (8, none), (13, none), (14, none), (17, none), (18, none)] [] [0, 1, 2, 3, 4, 5, 6, 7, 8, 9, 10, 11, 12, 13, 14, 15, 16, 17, 18, 19, 21] 1 hMix (by kernel_rfl) ?_
          refine .run rfl (yMove rfl) rfl rfl ?_
          refine .run rfl (yMove rfl) rfl rfl ?_
          refine .run rfl (yvSame (u := i64 ((1 + k : Nat) : Int)) (yAdd rfl rfl (by omega)) (congrArg i64 (by omega))) rfl rfl ?_
          refine .run rfl (yIndexS  rfl rfl S86 (fun w hw => matB gx.2 (hw.sub (.d 0 (.d 0 .r))) (SubP.leftA _ _)) (hck)) rfl rfl ?_
          refine .run rfl (yLoad1 rfl O41 (cSl0 (fun w hw => matB gx.2 (hw.sub (.d 0 (.d 0 .r))) (SubP.leftA _ _)) (hck) rfl)) rfl rfl ?_
          refine .run rfl (yMove rfl) rfl rfl ?_
          refine .run rfl (yvSame (u := i64 ((1 + n : Nat) : Int)) (yAdd rfl rfl (by omega)) (congrArg i64 (by omega))) rfl rfl ?_
          refine .run rfl (yIndexS  rfl rfl S41 (fun w hw => matR gx.2 (hw.sub (.d 0 (.d 0 .r))) SubP.tail hck) (hcn)) rfl rfl ?_
          refine .run rfl (yLoad1 rfl O3 (cSl0 (fun w hw => matR gx.2 (hw.sub (.d 0 (.d 0 .r))) SubP.tail hck) (hcn) rfl)) rfl rfl ?_
          refine .run rfl (yNeg rfl (by omega)) rfl rfl ?_
          refine .run rfl (yMove rfl) rfl rfl ?_
          refine .run rfl (yMove rfl) rfl rfl ?_
          refine .run rfl (yvSame (u := i64 ((1 + n : Nat) : Int)) (yAdd rfl rfl (by omega)) (congrArg i64 (by omega))) rfl rfl ?_
          refine .run rfl (yIndexS  rfl rfl S86 (fun w hw => matB gx.2 (hw.sub (.d 0 (.d 0 .r))) (SubP.leftA _ _)) (hcn)) rfl rfl ?_
          refine .run rfl (yLoad1 rfl O41 (cSl0 (fun w hw => matB gx.2 (hw.sub (.d 0 (.d 0 .r))) (SubP.leftA _ _)) (hcn) rfl)) rfl rfl ?_
          refine .run rfl (yMove rfl) rfl rfl ?_
          refine .run rfl (yvSame (u := i64 ((1 + k : Nat) : Int)) (yAdd rfl rfl (by omega)) (congrArg i64 (by omega))) rfl rfl ?_
          refine .run rfl (yIndexS  rfl rfl S41 (fun w hw => matR gx.2 (hw.sub (.d 0 (.d 0 .r))) SubP.tail hcn) (hck)) rfl rfl ?_
          refine .run rfl (yLoad1 rfl O3 (cSl0 (fun w hw => matR gx.2 (hw.sub (.d 0 (.d 0 .r))) SubP.tail hcn) (hck) rfl)) rfl rfl ?_
          refine .run rfl (yBuild (.c rfl (.c rfl .n)) (fun w => B24_0_1 w)) rfl rfl ?_
          refine .run rfl (yAssign rfl) rfl rfl ?_
          refine .done ?_
          refine effStep 20 [] (by kernel_rfl) closedSt (hLeft [3, 4, 7, 8, 13, 14, 17, 18] (by kernel_rfl) (.c (fun _ _ hs => hs.ef) (.c (fun _ _ hs => hs.ef) (.c (fun _ _ hs => hs.ef) (.c (fun _ _ hs => hs.ef) (.c (fun _ _ hs => hs.ef) (.c (fun _ _ hs => hs.ef) (.c (fun _ _ hs => hs.ef) (.c (fun _ _ hs => hs.ef) .n))))))))) ?_
          refine .c ?_ .n
          refine effOne rfl (gNone rfl (fStoreL 0 rfl rfl rfl rfl K24 rfl (rfl))) ?_
          refine effDone closedSt (hLeft [] (by kernel_rfl) .n) (by kernel_rfl) ?_
          refine kThen ?_
          refine kRet ?_
          refine fRet rfl (.cA (us := [_, _]) rfl A24 (cOwn 0 rfl rfl) (.t rfl .n)) (endRet ?_)
          simp only [packV]
          rw [betwE_ok hM ho hr hr2, Int.toNat_natCast, Int.toNat_natCast, ref_bet hM ho hne hke]
        · refine effOne rfl (opEx fun gx => (gNone rfl (fV (yAssign rfl) rfl))) ?_
          refine effStep 16 [] (by kernel_rfl) (closedEx fun gx => closedSt) (hLeft [] (by kernel_rfl) .n) ?_
          refine .c ?_ .n
          refine effOne rfl (opEx fun gx => (gNone rfl (fV (yExtract rfl rfl) rfl))) ?_
          refine effStep 18 [] (by kernel_rfl) (closedEx fun gx => closedSt) (hLeft [] (by kernel_rfl) .n) ?_
          refine .c ?_ .n
          refine effOne rfl (opEx fun gx => (gNone rfl (fV (yAssign rfl) rfl))) ?_
          refine effDone (closedEx fun gx => closedSt) (hLeft [] (by kernel_rfl) .n) (by kernel_rfl) ?_
          refine trEx fun gx => ?_
          refine kThen ?_
          refine kSeq ?_
          refine kSeq ?_
          refine kRegion rfl ?_
          refine lV (yMove rfl) rfl rfl ?_
          refine lV (yNeq rfl rfl) rfl rfl ?_
          refine knownN (t := 28) rfl (fun h => h rfl) ?_
          refine lNil ?_
          refine kThen ?_
          refine kIfF rfl ?_
          refine kSkip ?_
          refine kThen ?_
          refine kSeq ?_
          refine kDrawE [(3, none), (4, none), (7, none), (8, none), (13, none), (14, none), (17, none), (18, none)] [] [0, 1, 2, 3, 4, 5, 6, 7, 8, 9, 10, 11, 12, 13, 14, 15, 16, 17, 18, 19, 21] 1 hMix (by kernel_rfl) ?_
          refine .run rfl (yMove rfl) rfl rfl ?_
          refine .run rfl (yMove rfl) rfl rfl ?_
          refine .run rfl (yvSame (u := i64 ((1 + k : Nat) : Int)) (yAdd rfl rfl (by omega)) (congrArg i64 (by omega))) rfl rfl ?_
          refine .run rfl (yIndexS  rfl rfl S86 (fun w hw => matB gx.2 (hw.sub (.d 0 (.d 0 .r))) (SubP.leftA _ _)) (hck)) rfl rfl ?_
          refine .run rfl (yLoad1 rfl O41 (cSl0 (fun w hw => matB gx.2 (hw.sub (.d 0 (.d 0 .r))) (SubP.leftA _ _)) (hck) rfl)) rfl rfl ?_
          refine .run rfl (yMove rfl) rfl rfl ?_
          refine .run rfl (yvSame (u := i64 ((1 + n : Nat) : Int)) (yAdd rfl rfl (by omega)) (congrArg i64 (by omega))) rfl rfl ?_
          refine .run rfl (yIndexS  rfl rfl S41 (fun w hw => matR gx.2 (hw.sub (.d 0 (.d 0 .r))) SubP.tail hck) (hcn)) rfl rfl ?_
          refine .run rfl (yLoad1 rfl O3 (cSl0 (fun w hw => matR gx.2 (hw.sub (.d 0 (.d 0 .r))) SubP.tail hck) (hcn) rfl)) rfl rfl ?_
          refine .run rfl (yNeg rfl (by omega)) rfl rfl ?_
          refine .run rfl (yMove rfl) rfl rfl ?_
          refine .run rfl (yMove rfl) rfl rfl ?_
          refine .run rfl (yvSame (u := i64 ((1 + n : Nat) : Int)) (yAdd rfl rfl (by omega)) (congrArg i64 (by omega))) rfl rfl ?_
          refine .run rfl (yIndexS  rfl rfl S86 (fun w hw => matB gx.2 (hw.sub (.d 0 (.d 0 .r))) (SubP.leftA _ _)) (hcn)) rfl rfl ?_
          refine .run rfl (yLoad1 rfl O41 (cSl0 (fun w hw => matB gx.2 (hw.sub (.d 0 (.d 0 .r))) (SubP.leftA _ _)) (hcn) rfl)) rfl rfl ?_
          refine .run rfl (yMove rfl) rfl rfl ?_
          refine .run rfl (yvSame (u := i64 ((1 + k : Nat) : Int)) (yAdd rfl rfl (by omega)) (congrArg i64 (by omega))) rfl rfl ?_
          refine .run rfl (yIndexS  rfl rfl S41 (fun w hw => matR gx.2 (hw.sub (.d 0 (.d 0 .r))) SubP.tail hcn) (hck)) rfl rfl ?_
          refine .run rfl (yLoad1 rfl O3 (cSl0 (fun w hw => matR gx.2 (hw.sub (.d 0 (.d 0 .r))) SubP.tail hcn) (hck) rfl)) rfl rfl ?_
          refine .run rfl (yBuild (.c rfl (.c rfl .n)) (fun w => B24_0_1 w)) rfl rfl ?_
          refine .run rfl (yAssign rfl) rfl rfl ?_
          refine .done ?_
          refine effStep 20 [] (by kernel_rfl) closedSt (hLeft [3, 4, 7, 8, 13, 14, 17, 18] (by kernel_rfl) (.c (fun _ _ hs => hs.ef) (.c (fun _ _ hs => hs.ef) (.c (fun _ _ hs => hs.ef) (.c (fun _ _ hs => hs.ef) (.c (fun _ _ hs => hs.ef) (.c (fun _ _ hs => hs.ef) (.c (fun _ _ hs => hs.ef) (.c (fun _ _ hs => hs.ef) .n))))))))) ?_
          refine .c ?_ .n
          refine effOne rfl (gNone rfl (fStoreL 0 rfl rfl rfl rfl K24 rfl (rfl))) ?_
          refine effDone closedSt (hLeft [] (by kernel_rfl) .n) (by kernel_rfl) ?_
          refine kThen ?_
          refine kRet ?_
          refine fRet rfl (.cA (us := [_, _]) rfl A24 (cOwn 0 rfl rfl) (.t rfl .n)) (endRet ?_)
          simp only [packV]
          rw [betwE_ok hM ho hr hr2, Int.toNat_natCast, Int.toNat_natCast, ref_bet hM ho hne hke]
      · refine effOne rfl (opEx fun gx => (gNone rfl (fV (yExtract rfl rfl) rfl))) ?_
        refine effStep 15 [] (by kernel_rfl) (closedEx fun gx => closedSt) (hLeft [3] (by kernel_rfl) (.c (fun _ _ ⟨gx, hs⟩ => hs.ef.sub (.c 0 rfl (.c 0 rfl .n))) .n)) ?_
        refine .c ?_ .n
        refine effOne rfl (opEx fun gx => (gNone rfl (fV (yExtract rfl rfl) rfl))) ?_
        refine effStep 17 [] (by kernel_rfl) (closedEx fun gx => closedSt) (hLeft [3] (by kernel_rfl) (.c (fun _ _ ⟨gx, hs⟩ => hs.ef.sub (.c 0 rfl (.c 0 rfl .n))) .n)) ?_
        refine .c ?_ .n
        refine effOne rfl (opEx fun gx => (gNone rfl (fV (yAssign rfl) rfl))) ?_
        refine effStep 18 [] (by kernel_rfl) (closedEx fun gx => closedSt) (hLeft [] (by kernel_rfl) .n) ?_
        refine .c ?_ .n
        refine effOne rfl (opEx fun gx => (gNone rfl (fV (yAssign rfl) rfl))) ?_
        refine effDone (closedEx fun gx => closedSt) (hLeft [] (by kernel_rfl) .n) (by kernel_rfl) ?_
        refine trEx fun gx => ?_
        refine kThen ?_
        refine kSeq ?_
        refine kSeq ?_
        refine kRegion rfl ?_
        refine lV (yMove rfl) rfl rfl ?_
        refine lV (yNeq rfl rfl) rfl rfl ?_
        refine knownN (t := 28) rfl (fun h => h rfl) ?_
        refine lNil ?_
        refine kThen ?_
        refine kIfF rfl ?_
        refine kSkip ?_
        refine kThen ?_
        refine kSeq ?_
        refine kDrawE [(3, none), (4, none), (7, none), (8, none), (13, none), (14, none), (17, none), (18, none)] [] [0, 1, 2, 3, 4, 5, 6, 7, 8, 9, 10, 11, 12, 13, 14, 15, 16, 17, 18, 19, 21] 1 hMix (by kernel_rfl) ?_
        refine .run rfl (yMove rfl) rfl rfl ?_
        refine .run rfl (yMove rfl) rfl rfl ?_
        refine .run rfl (yvSame (u := i64 ((1 + k : Nat) : Int)) (yAdd rfl rfl (by omega)) (congrArg i64 (by omega))) rfl rfl ?_
        refine .run rfl (yIndexS  rfl rfl S86 (fun w hw => matB gx.2 (hw.sub (.d 0 (.d 0 .r))) (SubP.leftA _ _)) (hck)) rfl rfl ?_
        refine .run rfl (yLoad1 rfl O41 (cSl0 (fun w hw => matB gx.2 (hw.sub (.d 0 (.d 0 .r))) (SubP.leftA _ _)) (hck) rfl)) rfl rfl ?_
        refine .run rfl (yMove rfl) rfl rfl ?_
        refine .run rfl (yvSame (u := i64 ((1 + n : Nat) : Int)) (yAdd rfl rfl (by omega)) (congrArg i64 (by omega))) rfl rfl ?_
        refine .run rfl (yIndexS  rfl rfl S41 (fun w hw => matR gx.2 (hw.sub (.d 0 (.d 0 .r))) SubP.tail hck) (hcn)) rfl rfl ?_
        refine .run rfl (yLoad1 rfl O3 (cSl0 (fun w hw => matR gx.2 (hw.sub (.d 0 (.d 0 .r))) SubP.tail hck) (hcn) rfl)) rfl rfl ?_
        refine .run rfl (yNeg rfl (by omega)) rfl rfl ?_
        refine .run rfl (yMove rfl) rfl rfl ?_
        refine .run rfl (yMove rfl) rfl rfl ?_
        refine .run rfl (yvSame (u := i64 ((1 + n : Nat) : Int)) (yAdd rfl rfl (by omega)) (congrArg i64 (by omega))) rfl rfl ?_
        refine .run rfl (yIndexS  rfl rfl S86 (fun w hw => matB gx.2 (hw.sub (.d 0 (.d 0 .r))) (SubP.leftA _ _)) (hcn)) rfl rfl ?_
        refine .run rfl (yLoad1 rfl O41 (cSl0 (fun w hw => matB gx.2 (hw.sub (.d 0 (.d 0 .r))) (SubP.leftA _ _)) (hcn) rfl)) rfl rfl ?_
        refine .run rfl (yMove rfl) rfl rfl ?_
        refine .run rfl (yvSame (u := i64 ((1 + k : Nat) : Int)) (yAdd rfl rfl (by omega)) (congrArg i64 (by omega))) rfl rfl ?_
        refine .run rfl (yIndexS  rfl rfl S41 (fun w hw => matR gx.2 (hw.sub (.d 0 (.d 0 .r))) SubP.tail hcn) (hck)) rfl rfl ?_
        refine .run rfl (yLoad1 rfl O3 (cSl0 (fun w hw => matR gx.2 (hw.sub (.d 0 (.d 0 .r))) SubP.tail hcn) (hck) rfl)) rfl rfl ?_
        refine .run rfl (yBuild (.c rfl (.c rfl .n)) (fun w => B24_0_1 w)) rfl rfl ?_
        refine .run rfl (yAssign rfl) rfl rfl ?_
        refine .done ?_
        refine effStep 20 [] (by kernel_rfl) closedSt (hLeft [3, 4, 7, 8, 13, 14, 17, 18] (by kernel_rfl) (.c (fun _ _ hs => hs.ef) (.c (fun _ _ hs => hs.ef) (.c (fun _ _ hs => hs.ef) (.c (fun _ _ hs => hs.ef) (.c (fun _ _ hs => hs.ef) (.c (fun _ _ hs => hs.ef) (.c (fun _ _ hs => hs.ef) (.c (fun _ _ hs => hs.ef) .n))))))))) ?_
        refine .c ?_ .n
        refine effOne rfl (gNone rfl (fStoreL 0 rfl rfl rfl rfl K24 rfl (rfl))) ?_
        refine effDone closedSt (hLeft [] (by kernel_rfl) .n) (by kernel_rfl) ?_
        refine kThen ?_
        refine kRet ?_
        refine fRet rfl (.cA (us := [_, _]) rfl A24 (cOwn 0 rfl rfl) (.t rfl .n)) (endRet ?_)
        simp only [packV]
        rw [betwE_ok hM ho hr hr2, Int.toNat_natCast, Int.toNat_natCast, ref_bet hM ho hne hke]
    · by_cases h1 : 0 ≤ a ∧ a ≤ X.eyes - 1
      · have hEy := hM.e
        refine kDrawE [(0, none), (3, none), (5, none), (9, none), (11, none)] [] [0, 1, 2, 3, 4, 5, 6, 7, 8, 9, 10, 11, 12] 6 hMix (by kernel_rfl) ?_
        refine .run rfl (yLoadA (vs := [_, _, _, _, _, _, _, _]) rfl A29 (cOwn 1 rfl rfl)) rfl rfl ?_
        refine .run rfl (yMove rfl) rfl rfl ?_
        refine .run rfl (yFieldAddr rfl F29_2) rfl rfl ?_
        refine .run rfl (yLoad1 rfl O3 (cOwn 1 rfl rfl)) rfl rfl ?_
        refine .run rfl (ySub rfl rfl (by omega)) rfl rfl ?_
        refine .run rfl (yvIs (c := true) (yCall rfl (.c rfl (.c rfl (.c rfl .n))) C52 (fun w hw => ein_any _ _ _ w)) (decide_eq_true h1)) rfl rfl ?_
        refine .run rfl (yMove rfl) rfl rfl ?_
        refine .runG rfl (yMove rfl) rfl rfl rfl rfl ?_
        refine .runG rfl (yFieldAddr rfl F29_2) rfl rfl rfl rfl ?_
        refine .runG rfl (yLoad1 rfl O3 (cOwn 1 rfl rfl)) rfl rfl rfl rfl ?_
        refine .runG rfl (ySub rfl rfl (by omega)) rfl rfl rfl rfl ?_
        refine .runG rfl (yCall rfl (.c rfl (.c rfl (.c rfl .n))) C52 (fun w hw => ein_any _ _ _ w)) rfl rfl rfl rfl ?_
        refine .run rfl (yvIs (c := decide ((0 ≤ a ∧ a ≤ X.eyes - 1) ∧ (0 ≤ b ∧ b ≤ X.eyes - 1))) (yPickT rfl rfl) (decide_eq_decide.2 ⟨fun h => ⟨h1, h⟩, fun h => h.2⟩)) rfl rfl ?_
        refine .done ?_
        refine effStep 13 [] (by kernel_rfl) closedSt (hLeft [0, 3, 5, 9, 11] (by kernel_rfl) (.c (fun _ _ hs => hs.ef) (.c (fun _ _ hs => hs.ef) (.c (fun _ _ hs => hs.ef) (.c (fun _ _ hs => hs.ef) (.c (fun _ _ hs => hs.ef) .n)))))) ?_
        refine .c ?_ .n
        refine effOne rfl (gNone rfl (fV (yCall rfl (.c rfl (.c rfl .n)) C51 (fun w hw => ropen_no y X _ w (hm.eff hw) hL hE (open_no fun h => hk h.2))) rfl)) ?_
        refine effStep 14 [] (by kernel_rfl) closedSt (hLeft [3] (by kernel_rfl) (.c (fun _ _ hs => hs.ef) .n)) ?_
        refine .c ?_ .n
        refine effOne rfl (gNone rfl (fV (yMove rfl) rfl)) ?_
        refine effStep 15 [16] (by kernel_rfl) closedSt (hLeft [3] (by kernel_rfl) (.c (fun _ _ hs => hs.ef) .n)) ?_
        refine (.c ?_ (.c ?_ .n))
        · refine effOne rfl (gNone rfl (fV (yExtract rfl rfl) rfl)) ?_
          refine effStep 16 [17] (by kernel_rfl) closedSt (hLeft [3] (by kernel_rfl) (.c (fun _ _ hs => hs.ef) .n)) ?_
          refine (.c ?_ (.c ?_ .n))
          · refine effOne rfl (gNone rfl (fV (yExtract rfl rfl) rfl)) ?_
            refine effStep 17 [] (by kernel_rfl) closedSt (hLeft [3] (by kernel_rfl) (.c (fun _ _ hs => hs.ef) .n)) ?_
            refine .c ?_ .n
            refine effOne rfl (gNone rfl (fV (yAssign rfl) rfl)) ?_
            refine effStep 18 [] (by kernel_rfl) closedSt (hLeft [] (by kernel_rfl) .n) ?_
            refine .c ?_ .n
            refine effOne rfl (gNone rfl (fV (yAssign rfl) rfl)) ?_
            refine effDone closedSt (hLeft [] (by kernel_rfl) .n) (by kernel_rfl) ?_
            refine kThen ?_
            refine kSeq ?_
            refine kSeq ?_
            refine kRegion rfl ?_
            refine lV (yMove rfl) rfl rfl ?_
            refine lV (yNeq rfl rfl) rfl rfl ?_
            refine known (t := 28) rfl (codeR_ne X _) ?_
            refine lNil ?_
            refine kThen ?_
            refine kIfT rfl ?_
            refine kSeq ?_
            refine kRegion rfl ?_
            refine lV (yBuild .n (fun w => B24_ w)) rfl rfl ?_
            refine lV (yMove rfl) rfl rfl ?_
            refine lE rfl ?_
            refine eStoreL 0 rfl rfl rfl rfl K24 rfl (rfl) ?_
            refine lV (yAssign rfl) rfl rfl ?_
            refine lNil ?_
            refine kThen ?_
            refine kRet ?_
            refine kThenR ?_
            refine fRet rfl (.cA (us := [_, _]) rfl A24 (cOwn 0 rfl rfl) (.t rfl .n)) (endRet ?_)
            simp only [packV]
            rw [betwE_no fun h => hk h.2]
          · refine effOne rfl (gNone rfl (fV (yAssign rfl) rfl)) ?_
            refine effStep 16 [] (by kernel_rfl) closedSt (hLeft [] (by kernel_rfl) .n) ?_
            refine .c ?_ .n
            refine effOne rfl (gNone rfl (fV (yExtract rfl rfl) rfl)) ?_
            refine effStep 18 [] (by kernel_rfl) closedSt (hLeft [] (by kernel_rfl) .n) ?_
            refine .c ?_ .n
            refine effOne rfl (gNone rfl (fV (yAssign rfl) rfl)) ?_
            refine effDone closedSt (hLeft [] (by kernel_rfl) .n) (by kernel_rfl) ?_
            refine kThen ?_
            refine kSeq ?_
            refine kSeq ?_
            refine kRegion rfl ?_
            refine lV (yMove rfl) rfl rfl ?_
            refine lV (yNeq rfl rfl) rfl rfl ?_
            refine known (t := 28) rfl (codeR_ne X _) ?_
            refine lNil ?_
            refine kThen ?_
            refine kIfT rfl ?_
            refine kSeq ?_
            refine kRegion rfl ?_
            refine lV (yBuild .n (fun w => B24_ w)) rfl rfl ?_
            refine lV (yMove rfl) rfl rfl ?_
            refine lE rfl ?_
            refine eStoreL 0 rfl rfl rfl rfl K24 rfl (rfl) ?_
            refine lV (yAssign rfl) rfl rfl ?_
            refine lNil ?_
            refine kThen ?_
            refine kRet ?_
            refine kThenR ?_
            refine fRet rfl (.cA (us := [_, _]) rfl A24 (cOwn 0 rfl rfl) (.t rfl .n)) (endRet ?_)
            simp only [packV]
            rw [betwE_no fun h => hk h.2]
        · refine effOne rfl (gNone rfl (fV (yExtract rfl rfl) rfl)) ?_
          refine effStep 15 [] (by kernel_rfl) closedSt (hLeft [3] (by kernel_rfl) (.c (fun _ _ hs => hs.ef) .n)) ?_
          refine .c ?_ .n
          refine effOne rfl (gNone rfl (fV (yExtract rfl rfl) rfl)) ?_
          refine effStep 17 [] (by kernel_rfl) closedSt (hLeft [3] (by kernel_rfl) (.c (fun _ _ hs => hs.ef) .n)) ?_
          refine .c ?_ .n
          refine effOne rfl (gNone rfl (fV (yAssign rfl) rfl)) ?_
          refine effStep 18 [] (by kernel_rfl) closedSt (hLeft [] (by kernel_rfl) .n) ?_
          refine .c ?_ .n
          refine effOne rfl (gNone rfl (fV (yAssign rfl) rfl)) ?_
          refine effDone closedSt (hLeft [] (by kernel_rfl) .n) (by kernel_rfl) ?_
          refine kThen ?_
          refine kSeq ?_
          refine kSeq ?_
          refine kRegion rfl ?_
          refine lV (yMove rfl) rfl rfl ?_
          refine lV (yNeq rfl rfl) rfl rfl ?_
          refine known (t := 28) rfl (codeR_ne X _) ?_
          refine lNil ?_
          refine kThen ?_
          refine kIfT rfl ?_
          refine kSeq ?_
          refine kRegion rfl ?_
          refine lV (yBuild .n (fun w => B24_ w)) rfl rfl ?_
          refine lV (yMove rfl) rfl rfl ?_
          refine lE rfl ?_
          refine eStoreL 0 rfl rfl rfl rfl K24 rfl (rfl) ?_
          refine lV (yAssign rfl) rfl rfl ?_
          refine lNil ?_
          refine kThen ?_
          refine kRet ?_
          refine kThenR ?_
          refine fRet rfl (.cA (us := [_, _]) rfl A24 (cOwn 0 rfl rfl) (.t rfl .n)) (endRet ?_)
          simp only [packV]
          rw [betwE_no fun h => hk h.2]
      · have hEy := hM.e
        refine kDrawE [(0, none), (3, none), (5, none)] [] [0, 1, 2, 3, 4, 5, 6, 7, 8, 9, 10, 11, 12] 6 hMix (by kernel_rfl) ?_
        refine .run rfl (yLoadA (vs := [_, _, _, _, _, _, _, _]) rfl A29 (cOwn 1 rfl rfl)) rfl rfl ?_
        refine .run rfl (yMove rfl) rfl rfl ?_
        refine .run rfl (yFieldAddr rfl F29_2) rfl rfl ?_
        refine .run rfl (yLoad1 rfl O3 (cOwn 1 rfl rfl)) rfl rfl ?_
        refine .run rfl (ySub rfl rfl (by omega)) rfl rfl ?_
        refine .run rfl (yvIs (c := false) (yCall rfl (.c rfl (.c rfl (.c rfl .n))) C52 (fun w hw => ein_any _ _ _ w)) (decide_eq_false h1)) rfl rfl ?_
        refine .run rfl (yMove rfl) rfl rfl ?_
        refine .skip rfl rfl rfl rfl rfl rfl ?_
        refine .skip rfl rfl rfl rfl rfl rfl ?_
        refine .skip rfl rfl rfl rfl rfl rfl ?_
        refine .skip rfl rfl rfl rfl rfl rfl ?_
        refine .skip rfl rfl rfl rfl rfl rfl ?_
        refine .run rfl (yvIs (c := decide ((0 ≤ a ∧ a ≤ X.eyes - 1) ∧ (0 ≤ b ∧ b ≤ X.eyes - 1))) (yPickF rfl rfl) ((decide_eq_false fun h => h1 h.1).symm)) rfl rfl ?_
        refine .done ?_
        refine effStep 13 [] (by kernel_rfl) closedSt (hLeft [0, 3, 5] (by kernel_rfl) (.c (fun _ _ hs => hs.ef) (.c (fun _ _ hs => hs.ef) (.c (fun _ _ hs => hs.ef) .n)))) ?_
        refine .c ?_ .n
        refine effOne rfl (gNone rfl (fV (yCall rfl (.c rfl (.c rfl .n)) C51 (fun w hw => ropen_no y X _ w (hm.eff hw) hL hE (open_no fun h => hk h.2))) rfl)) ?_
        refine effStep 14 [] (by kernel_rfl) closedSt (hLeft [3] (by kernel_rfl) (.c (fun _ _ hs => hs.ef) .n)) ?_
        refine .c ?_ .n
        refine effOne rfl (gNone rfl (fV (yMove rfl) rfl)) ?_
        refine effStep 15 [16] (by kernel_rfl) closedSt (hLeft [3] (by kernel_rfl) (.c (fun _ _ hs => hs.ef) .n)) ?_
        refine (.c ?_ (.c ?_ .n))
        · refine effOne rfl (gNone rfl (fV (yExtract rfl rfl) rfl)) ?_
          refine effStep 16 [17] (by kernel_rfl) closedSt (hLeft [3] (by kernel_rfl) (.c (fun _ _ hs => hs.ef) .n)) ?_
          refine (.c ?_ (.c ?_ .n))
          · refine effOne rfl (gNone rfl (fV (yExtract rfl rfl) rfl)) ?_
            refine effStep 17 [] (by kernel_rfl) closedSt (hLeft [3] (by kernel_rfl) (.c (fun _ _ hs => hs.ef) .n)) ?_
            refine .c ?_ .n
            refine effOne rfl (gNone rfl (fV (yAssign rfl) rfl)) ?_
            refine effStep 18 [] (by kernel_rfl) closedSt (hLeft [] (by kernel_rfl) .n) ?_
            refine .c ?_ .n
            refine effOne rfl (gNone rfl (fV (yAssign rfl) rfl)) ?_
            refine effDone closedSt (hLeft [] (by kernel_rfl) .n) (by kernel_rfl) ?_
            refine kThen ?_
            refine kSeq ?_
            refine kSeq ?_
            refine kRegion rfl ?_
            refine lV (yMove rfl) rfl rfl ?_
            refine lV (yNeq rfl rfl) rfl rfl ?_
            refine known (t := 28) rfl (codeR_ne X _) ?_
            refine lNil ?_
            refine kThen ?_
            refine kIfT rfl ?_
            refine kSeq ?_
            refine kRegion rfl ?_
            refine lV (yBuild .n (fun w => B24_ w)) rfl rfl ?_
            refine lV (yMove rfl) rfl rfl ?_
            refine lE rfl ?_
            refine eStoreL 0 rfl rfl rfl rfl K24 rfl (rfl) ?_
            refine lV (yAssign rfl) rfl rfl ?_
            refine lNil ?_
            refine kThen ?_
            refine kRet ?_
            refine kThenR ?_
            refine fRet rfl (.cA (us := [_, _]) rfl A24 (cOwn 0 rfl rfl) (.t rfl .n)) (endRet ?_)
            simp only [packV]
            rw [betwE_no fun h => hk h.2]
          · refine effOne rfl (gNone rfl (fV (yAssign rfl) rfl)) ?_
            refine effStep 16 [] (by kernel_rfl) closedSt (hLeft [] (by kernel_rfl) .n) ?_
            refine .c ?_ .n
            refine effOne rfl (gNone rfl (fV (yExtract rfl rfl) rfl)) ?_
            refine effStep 18 [] (by kernel_rfl) closedSt (hLeft [] (by kernel_rfl) .n) ?_
            refine .c ?_ .n
            refine effOne rfl (gNone rfl (fV (yAssign rfl) rfl)) ?_
            refine effDone closedSt (hLeft [] (by kernel_rfl) .n) (by kernel_rfl) ?_
            refine kThen ?_
            refine kSeq ?_
            refine kSeq ?_
            refine kRegion rfl ?_
            refine lV (yMove rfl) rfl rfl ?_
            refine lV (yNeq rfl rfl) rfl rfl ?_
            refine known (t := 28) rfl (codeR_ne X _) ?_
            refine lNil ?_
            refine kThen ?_
            refine kIfT rfl ?_
            refine kSeq ?_
            refine kRegion rfl ?_
            refine lV (yBuild .n (fun w => B24_ w)) rfl rfl ?_
            refine lV (yMove rfl) rfl rfl ?_
            refine lE rfl ?_
            refine eStoreL 0 rfl rfl rfl rfl K24 rfl (rfl) ?_
            refine lV (yAssign rfl) rfl rfl ?_
            refine lNil ?_
            refine kThen ?_
            refine kRet ?_
            refine kThenR ?_
            refine fRet rfl (.cA (us := [_, _]) rfl A24 (cOwn 0 rfl rfl) (.t rfl .n)) (endRet ?_)
            simp only [packV]
            rw [betwE_no fun h => hk h.2]
        · refine effOne rfl (gNone rfl (fV (yExtract rfl rfl) rfl)) ?_
          refine effStep 15 [] (by kernel_rfl) closedSt (hLeft [3] (by kernel_rfl) (.c (fun _ _ hs => hs.ef) .n)) ?_
          refine .c ?_ .n
          refine effOne rfl (gNone rfl (fV (yExtract rfl rfl) rfl)) ?_
          refine effStep 17 [] (by kernel_rfl) closedSt (hLeft [3] (by kernel_rfl) (.c (fun _ _ hs => hs.ef) .n)) ?_
          refine .c ?_ .n
          refine effOne rfl (gNone rfl (fV (yAssign rfl) rfl)) ?_
          refine effStep 18 [] (by kernel_rfl) closedSt (hLeft [] (by kernel_rfl) .n) ?_
          refine .c ?_ .n
          refine effOne rfl (gNone rfl (fV (yAssign rfl) rfl)) ?_
          refine effDone closedSt (hLeft [] (by kernel_rfl) .n) (by kernel_rfl) ?_
          refine kThen ?_
          refine kSeq ?_
          refine kSeq ?_
          refine kRegion rfl ?_
          refine lV (yMove rfl) rfl rfl ?_
          refine lV (yNeq rfl rfl) rfl rfl ?_
          refine known (t := 28) rfl (codeR_ne X _) ?_
          refine lNil ?_
          refine kThen ?_
          refine kIfT rfl ?_
          refine kSeq ?_
          refine kRegion rfl ?_
          refine lV (yBuild .n (fun w => B24_ w)) rfl rfl ?_
          refine lV (yMove rfl) rfl rfl ?_
          refine lE rfl ?_
          refine eStoreL 0 rfl rfl rfl rfl K24 rfl (rfl) ?_
          refine lV (yAssign rfl) rfl rfl ?_
          refine lNil ?_
          refine kThen ?_
          refine kRet ?_
          refine kThenR ?_
          refine fRet rfl (.cA (us := [_, _]) rfl A24 (cOwn 0 rfl rfl) (.t rfl .n)) (endRet ?_)
          simp only [packV]
          rw [betwE_no fun h => hk h.2]
  · refine kRegion rfl ?_
    refine lE rfl ?_
    refine eBoxA rfl fun n3 => ?_
    refine lE rfl ?_
    refine eAlloc Z24 fun n6 => ?_
    refine lV (yAssign rfl) rfl rfl ?_
    refine lNil ?_
    refine kThen ?_
    refine kSeq ?_
    by_cases h1 : 0 ≤ a ∧ a ≤ IntKind.i64.wrap (X.eyes - 1)
    · refine kDrawE [(0, none), (3, none), (5, none), (9, none), (11, none)] [] [0, 1, 2, 3, 4, 5, 6, 7, 8, 9, 10, 11, 12] 6 hMix (by kernel_rfl) ?_
      refine .run rfl (yLoadA (vs := [_, _, _, _, _, _, _, _]) rfl A29 (cOwn 1 rfl rfl)) rfl rfl ?_
      refine .run rfl (yMove rfl) rfl rfl ?_
      refine .run rfl (yFieldAddr rfl F29_2) rfl rfl ?_
      refine .run rfl (yLoad1 rfl O3 (cOwn 1 rfl rfl)) rfl rfl ?_
      refine .run rfl (yArith rfl rfl (.inr (.inl ⟨rfl, rfl⟩))) rfl rfl ?_
      refine .run rfl (yvIs (c := true) (yCall rfl (.c rfl (.c rfl (.c rfl .n))) C52 (fun w hw => ein_any _ _ _ w)) (decide_eq_true h1)) rfl rfl ?_
      refine .run rfl (yMove rfl) rfl rfl ?_
      refine .runG rfl (yMove rfl) rfl rfl rfl rfl ?_
      refine .runG rfl (yFieldAddr rfl F29_2) rfl rfl rfl rfl ?_
      refine .runG rfl (yLoad1 rfl O3 (cOwn 1 rfl rfl)) rfl rfl rfl rfl ?_
      refine .runG rfl (yArith rfl rfl (.inr (.inl ⟨rfl, rfl⟩))) rfl rfl rfl rfl ?_
      refine .runG rfl (yCall rfl (.c rfl (.c rfl (.c rfl .n))) C52 (fun w hw => ein_any _ _ _ w)) rfl rfl rfl rfl ?_
      refine .run rfl (yPickT rfl rfl) rfl rfl ?_
      refine .done ?_
      refine effStep 13 [] (by kernel_rfl) closedSt (hLeft [0, 3, 5, 9, 11] (by kernel_rfl) (.c (fun _ _ hs => hs.ef) (.c (fun _ _ hs => hs.ef) (.c (fun _ _ hs => hs.ef) (.c (fun _ _ hs => hs.ef) (.c (fun _ _ hs => hs.ef) .n)))))) ?_
      refine .c ?_ .n
      refine effOne rfl (gNone rfl (fV (yCall rfl (.c rfl (.c rfl .n)) C51 (fun w hw => ropen_no y X _ w (hm.eff hw) hL hE (.inl hM))) rfl)) ?_
      refine effStep 14 [] (by kernel_rfl) closedSt (hLeft [3] (by kernel_rfl) (.c (fun _ _ hs => hs.ef) .n)) ?_
      refine .c ?_ .n
      refine effOne rfl (gNone rfl (fV (yMove rfl) rfl)) ?_
      refine effStep 15 [16] (by kernel_rfl) closedSt (hLeft [3] (by kernel_rfl) (.c (fun _ _ hs => hs.ef) .n)) ?_
      refine (.c ?_ (.c ?_ .n))
      · refine effOne rfl (gNone rfl (fV (yExtract rfl rfl) rfl)) ?_
        refine effStep 16 [17] (by kernel_rfl) closedSt (hLeft [3] (by kernel_rfl) (.c (fun _ _ hs => hs.ef) .n)) ?_
        refine (.c ?_ (.c ?_ .n))
        · refine effOne rfl (gNone rfl (fV (yExtract rfl rfl) rfl)) ?_
          refine effStep 17 [] (by kernel_rfl) closedSt (hLeft [3] (by kernel_rfl) (.c (fun _ _ hs => hs.ef) .n)) ?_
          refine .c ?_ .n
          refine effOne rfl (gNone rfl (fV (yAssign rfl) rfl)) ?_
          refine effStep 18 [] (by kernel_rfl) closedSt (hLeft [] (by kernel_rfl) .n) ?_
          refine .c ?_ .n
          refine effOne rfl (gNone rfl (fV (yAssign rfl) rfl)) ?_
          refine effDone closedSt (hLeft [] (by kernel_rfl) .n) (by kernel_rfl) ?_
          refine kThen ?_
          refine kSeq ?_
          refine kSeq ?_
          refine kRegion rfl ?_
          refine lV (yMove rfl) rfl rfl ?_
          refine lV (yNeq rfl rfl) rfl rfl ?_
          refine known (t := 28) rfl (codeR_ne X _) ?_
          refine lNil ?_
          refine kThen ?_
          refine kIfT rfl ?_
          refine kSeq ?_
          refine kRegion rfl ?_
          refine lV (yBuild .n (fun w => B24_ w)) rfl rfl ?_
          refine lV (yMove rfl) rfl rfl ?_
          refine lE rfl ?_
          refine eStoreL 0 rfl rfl rfl rfl K24 rfl (rfl) ?_
          refine lV (yAssign rfl) rfl rfl ?_
          refine lNil ?_
          refine kThen ?_
          refine kRet ?_
          refine kThenR ?_
          refine fRet rfl (.cA (us := [_, _]) rfl A24 (cOwn 0 rfl rfl) (.t rfl .n)) (endRet ?_)
          simp only [packV]
          rw [show betwE X a b = ((0, 0), 1) from if_pos hM]
          unfold codeR; rw [if_pos hM]
        · refine effOne rfl (gNone rfl (fV (yAssign rfl) rfl)) ?_
          refine effStep 16 [] (by kernel_rfl) closedSt (hLeft [] (by kernel_rfl) .n) ?_
          refine .c ?_ .n
          refine effOne rfl (gNone rfl (fV (yExtract rfl rfl) rfl)) ?_
          refine effStep 18 [] (by kernel_rfl) closedSt (hLeft [] (by kernel_rfl) .n) ?_
          refine .c ?_ .n
          refine effOne rfl (gNone rfl (fV (yAssign rfl) rfl)) ?_
          refine effDone closedSt (hLeft [] (by kernel_rfl) .n) (by kernel_rfl) ?_
          refine kThen ?_
          refine kSeq ?_
          refine kSeq ?_
          refine kRegion rfl ?_
          refine lV (yMove rfl) rfl rfl ?_
          refine lV (yNeq rfl rfl) rfl rfl ?_
          refine known (t := 28) rfl (codeR_ne X _) ?_
          refine lNil ?_
          refine kThen ?_
          refine kIfT rfl ?_
          refine kSeq ?_
          refine kRegion rfl ?_
          refine lV (yBuild .n (fun w => B24_ w)) rfl rfl ?_
          refine lV (yMove rfl) rfl rfl ?_
          refine lE rfl ?_
          refine eStoreL 0 rfl rfl rfl rfl K24 rfl (rfl) ?_
          refine lV (yAssign rfl) rfl rfl ?_
          refine lNil ?_
          refine kThen ?_
          refine kRet ?_
          refine kThenR ?_
          refine fRet rfl (.cA (us := [_, _]) rfl A24 (cOwn 0 rfl rfl) (.t rfl .n)) (endRet ?_)
          simp only [packV]
          rw [show betwE X a b = ((0, 0), 1) from if_pos hM]
          unfold codeR; rw [if_pos hM]
      · refine effOne rfl (gNone rfl (fV (yExtract rfl rfl) rfl)) ?_
        refine effStep 15 [] (by kernel_rfl) closedSt (hLeft [3] (by kernel_rfl) (.c (fun _ _ hs => hs.ef) .n)) ?_
        refine .c ?_ .n
        refine effOne rfl (gNone rfl (fV (yExtract rfl rfl) rfl)) ?_
        refine effStep 17 [] (by kernel_rfl) closedSt (hLeft [3] (by kernel_rfl) (.c (fun _ _ hs => hs.ef) .n)) ?_
        refine .c ?_ .n
        refine effOne rfl (gNone rfl (fV (yAssign rfl) rfl)) ?_
        refine effStep 18 [] (by kernel_rfl) closedSt (hLeft [] (by kernel_rfl) .n) ?_
        refine .c ?_ .n
        refine effOne rfl (gNone rfl (fV (yAssign rfl) rfl)) ?_
        refine effDone closedSt (hLeft [] (by kernel_rfl) .n) (by kernel_rfl) ?_
        refine kThen ?_
        refine kSeq ?_
        refine kSeq ?_
        refine kRegion rfl ?_
        refine lV (yMove rfl) rfl rfl ?_
        refine lV (yNeq rfl rfl) rfl rfl ?_
        refine known (t := 28) rfl (codeR_ne X _) ?_
        refine lNil ?_
        refine kThen ?_
        refine kIfT rfl ?_
        refine kSeq ?_
        refine kRegion rfl ?_
        refine lV (yBuild .n (fun w => B24_ w)) rfl rfl ?_
        refine lV (yMove rfl) rfl rfl ?_
        refine lE rfl ?_
        refine eStoreL 0 rfl rfl rfl rfl K24 rfl (rfl) ?_
        refine lV (yAssign rfl) rfl rfl ?_
        refine lNil ?_
        refine kThen ?_
        refine kRet ?_
        refine kThenR ?_
        refine fRet rfl (.cA (us := [_, _]) rfl A24 (cOwn 0 rfl rfl) (.t rfl .n)) (endRet ?_)
        simp only [packV]
        rw [show betwE X a b = ((0, 0), 1) from if_pos hM]
        unfold codeR; rw [if_pos hM]
    · refine kDrawE [(0, none), (3, none), (5, none)] [] [0, 1, 2, 3, 4, 5, 6, 7, 8, 9, 10, 11, 12] 6 hMix (by kernel_rfl) ?_
      refine .run rfl (yLoadA (vs := [_, _, _, _, _, _, _, _]) rfl A29 (cOwn 1 rfl rfl)) rfl rfl ?_
      refine .run rfl (yMove rfl) rfl rfl ?_
      refine .run rfl (yFieldAddr rfl F29_2) rfl rfl ?_
      refine .run rfl (yLoad1 rfl O3 (cOwn 1 rfl rfl)) rfl rfl ?_
      refine .run rfl (yArith rfl rfl (.inr (.inl ⟨rfl, rfl⟩))) rfl rfl ?_
      refine .run rfl (yvIs (c := false) (yCall rfl (.c rfl (.c rfl (.c rfl .n))) C52 (fun w hw => ein_any _ _ _ w)) (decide_eq_false h1)) rfl rfl ?_
      refine .run rfl (yMove rfl) rfl rfl ?_
      refine .skip rfl rfl rfl rfl rfl rfl ?_
      refine .skip rfl rfl rfl rfl rfl rfl ?_
      refine .skip rfl rfl rfl rfl rfl rfl ?_
      refine .skip rfl rfl rfl rfl rfl rfl ?_
      refine .skip rfl rfl rfl rfl rfl rfl ?_
      refine .run rfl (yPickF rfl rfl) rfl rfl ?_
      refine .done ?_
      refine effStep 13 [] (by kernel_rfl) closedSt (hLeft [0, 3, 5] (by kernel_rfl) (.c (fun _ _ hs => hs.ef) (.c (fun _ _ hs => hs.ef) (.c (fun _ _ hs => hs.ef) .n)))) ?_
      refine .c ?_ .n
      refine effOne rfl (gNone rfl (fV (yCall rfl (.c rfl (.c rfl .n)) C51 (fun w hw => ropen_no y X _ w (hm.eff hw) hL hE (.inl hM))) rfl)) ?_
      refine effStep 14 [] (by kernel_rfl) closedSt (hLeft [3] (by kernel_rfl) (.c (fun _ _ hs => hs.ef) .n)) ?_
      refine .c ?_ .n
      refine effOne rfl (gNone rfl (fV (yMove rfl) rfl)) ?_
      refine effStep 15 [16] (by kernel_rfl) closedSt (hLeft [3] (by kernel_rfl) (.c (fun _ _ hs => hs.ef) .n)) ?_
      refine (.c ?_ (.c ?_ .n))
      · refine effOne rfl (gNone rfl (fV (yExtract rfl rfl) rfl)) ?_
        refine effStep 16 [17] (by kernel_rfl) closedSt (hLeft [3] (by kernel_rfl) (.c (fun _ _ hs => hs.ef) .n)) ?_
        refine (.c ?_ (.c ?_ .n))
        · refine effOne rfl (gNone rfl (fV (yExtract rfl rfl) rfl)) ?_
          refine effStep 17 [] (by kernel_rfl) closedSt (hLeft [3] (by kernel_rfl) (.c (fun _ _ hs => hs.ef) .n)) ?_
          refine .c ?_ .n
          refine effOne rfl (gNone rfl (fV (yAssign rfl) rfl)) ?_
          refine effStep 18 [] (by kernel_rfl) closedSt (hLeft [] (by kernel_rfl) .n) ?_
          refine .c ?_ .n
          refine effOne rfl (gNone rfl (fV (yAssign rfl) rfl)) ?_
          refine effDone closedSt (hLeft [] (by kernel_rfl) .n) (by kernel_rfl) ?_
          refine kThen ?_
          refine kSeq ?_
          refine kSeq ?_
          refine kRegion rfl ?_
          refine lV (yMove rfl) rfl rfl ?_
          refine lV (yNeq rfl rfl) rfl rfl ?_
          refine known (t := 28) rfl (codeR_ne X _) ?_
          refine lNil ?_
          refine kThen ?_
          refine kIfT rfl ?_
          refine kSeq ?_
          refine kRegion rfl ?_
          refine lV (yBuild .n (fun w => B24_ w)) rfl rfl ?_
          refine lV (yMove rfl) rfl rfl ?_
          refine lE rfl ?_
          refine eStoreL 0 rfl rfl rfl rfl K24 rfl (rfl) ?_
          refine lV (yAssign rfl) rfl rfl ?_
          refine lNil ?_
          refine kThen ?_
          refine kRet ?_
          refine kThenR ?_
          refine fRet rfl (.cA (us := [_, _]) rfl A24 (cOwn 0 rfl rfl) (.t rfl .n)) (endRet ?_)
          simp only [packV]
          rw [show betwE X a b = ((0, 0), 1) from if_pos hM]
          unfold codeR; rw [if_pos hM]
        · refine effOne rfl (gNone rfl (fV (yAssign rfl) rfl)) ?_
          refine effStep 16 [] (by kernel_rfl) closedSt (hLeft [] (by kernel_rfl) .n) ?_
          refine .c ?_ .n
          refine effOne rfl (gNone rfl (fV (yExtract rfl rfl) rfl)) ?_
          refine effStep 18 [] (by kernel_rfl) closedSt (hLeft [] (by kernel_rfl) .n) ?_
          refine .c ?_ .n
          refine effOne rfl (gNone rfl (fV (yAssign rfl) rfl)) ?_
          refine effDone closedSt (hLeft [] (by kernel_rfl) .n) (by kernel_rfl) ?_
          refine kThen ?_
          refine kSeq ?_
          refine kSeq ?_
          refine kRegion rfl ?_
          refine lV (yMove rfl) rfl rfl ?_
          refine lV (yNeq rfl rfl) rfl rfl ?_
          refine known (t := 28) rfl (codeR_ne X _) ?_
          refine lNil ?_
          refine kThen ?_
          refine kIfT rfl ?_
          refine kSeq ?_
          refine kRegion rfl ?_
          refine lV (yBuild .n (fun w => B24_ w)) rfl rfl ?_
          refine lV (yMove rfl) rfl rfl ?_
          refine lE rfl ?_
          refine eStoreL 0 rfl rfl rfl rfl K24 rfl (rfl) ?_
          refine lV (yAssign rfl) rfl rfl ?_
          refine lNil ?_
          refine kThen ?_
          refine kRet ?_
          refine kThenR ?_
          refine fRet rfl (.cA (us := [_, _]) rfl A24 (cOwn 0 rfl rfl) (.t rfl .n)) (endRet ?_)
          simp only [packV]
          rw [show betwE X a b = ((0, 0), 1) from if_pos hM]
          unfold codeR; rw [if_pos hM]
      · refine effOne rfl (gNone rfl (fV (yExtract rfl rfl) rfl)) ?_
        refine effStep 15 [] (by kernel_rfl) closedSt (hLeft [3] (by kernel_rfl) (.c (fun _ _ hs => hs.ef) .n)) ?_
        refine .c ?_ .n
        refine effOne rfl (gNone rfl (fV (yExtract rfl rfl) rfl)) ?_
        refine effStep 17 [] (by kernel_rfl) closedSt (hLeft [3] (by kernel_rfl) (.c (fun _ _ hs => hs.ef) .n)) ?_
        refine .c ?_ .n
        refine effOne rfl (gNone rfl (fV (yAssign rfl) rfl)) ?_
        refine effStep 18 [] (by kernel_rfl) closedSt (hLeft [] (by kernel_rfl) .n) ?_
        refine .c ?_ .n
        refine effOne rfl (gNone rfl (fV (yAssign rfl) rfl)) ?_
        refine effDone closedSt (hLeft [] (by kernel_rfl) .n) (by kernel_rfl) ?_
        refine kThen ?_
        refine kSeq ?_
        refine kSeq ?_
        refine kRegion rfl ?_
        refine lV (yMove rfl) rfl rfl ?_
        refine lV (yNeq rfl rfl) rfl rfl ?_
        refine known (t := 28) rfl (codeR_ne X _) ?_
        refine lNil ?_
        refine kThen ?_
        refine kIfT rfl ?_
        refine kSeq ?_
        refine kRegion rfl ?_
        refine lV (yBuild .n (fun w => B24_ w)) rfl rfl ?_
        refine lV (yMove rfl) rfl rfl ?_
        refine lE rfl ?_
        refine eStoreL 0 rfl rfl rfl rfl K24 rfl (rfl) ?_
        refine lV (yAssign rfl) rfl rfl ?_
        refine lNil ?_
        refine kThen ?_
        refine kRet ?_
        refine kThenR ?_
        refine fRet rfl (.cA (us := [_, _]) rfl A24 (cOwn 0 rfl rfl) (.t rfl .n)) (endRet ?_)
        simp only [packV]
        rw [show betwE X a b = ((0, 0), 1) from if_pos hM]
        unfold codeR; rw [if_pos hM]
set_option maxRecDepth 100000 in
set_option maxHeartbeats 2000000 in
theorem rplace_any (y : WLoc) (X : Wat) (a : Int) (w : World) (hm : InW w y X) (hL : X.looks.length ≤ 1000000) (hE : X.errs.length ≤ 1000000) : Calls Try.prog 20 [.agg (watC y X).toArray, i64 a].toArray w (Ret w (outC (placeE X a))) := by
  refine fEnter Try.func20 rfl Try.ntmps20 rfl ?_
  refine kSeq ?_
  by_cases hM : WatOk X
  · refine kRegion rfl ?_
    refine lE rfl ?_
    refine eBoxA rfl fun n2 => ?_
    refine lE rfl ?_
    refine eAlloc Z24 fun n4 => ?_
    refine lV (yAssign rfl) rfl rfl ?_
    refine lNil ?_
    refine kThen ?_
    refine kSeq ?_
    by_cases hk : (0 ≤ a ∧ a ≤ X.images - 1) ∧ okW X
    · obtain ⟨hr, ho⟩ := hk
      obtain ⟨n, hn⟩ : ∃ n : Nat, a = (n : Nat) := ⟨a.toNat, by omega⟩
      subst hn
      have hEy := hM.e
      have hIm := hM.i
      have hne : n < X.images.toNat := by omega
      have hcn := cnt_pla hne
      have hc0 := cnt_0 X
      have hb1 := refA_le hM hcn hc0
      refine kDrawE [(0, none), (3, none), (5, none)] [] [0, 1, 2, 3, 4, 5] 6 hMix (by kernel_rfl) ?_
      refine .run rfl (yLoadA (vs := [_, _, _, _, _, _, _, _]) rfl A29 (cOwn 1 rfl rfl)) rfl rfl ?_
      refine .run rfl (yMove rfl) rfl rfl ?_
      refine .run rfl (yFieldAddr rfl F29_1) rfl rfl ?_
      refine .run rfl (yLoad1 rfl O3 (cOwn 1 rfl rfl)) rfl rfl ?_
      refine .run rfl (ySub rfl rfl (by omega)) rfl rfl ?_
      refine .run rfl (yvIs (c := true) (yCall rfl (.c rfl (.c rfl (.c rfl .n))) C52 (fun w hw => ein_any _ _ _ w)) (decide_eq_true hr)) rfl rfl ?_
      refine .done ?_
      refine effStep 6 [] (by kernel_rfl) closedSt (hLeft [0, 3, 5] (by kernel_rfl) (.c (fun _ _ hs => hs.ef) (.c (fun _ _ hs => hs.ef) (.c (fun _ _ hs => hs.ef) .n)))) ?_
      refine .c ?_ .n
      refine effOne rfl (gNone rfl (fCallO rfl (.c rfl (.c rfl .n)) C51 (fun w hw => ropen_yes y X w (hm.eff hw) hM ho))) ?_
      refine effStep 7 [] (by kernel_rfl) (closedEx fun gx => closedSt) (hLeft [] (by kernel_rfl) .n) ?_
      refine .c ?_ .n
      refine effOne rfl (opEx fun gx => (gNone rfl (fV (yMove rfl) rfl))) ?_
      refine effStep 8 [9] (by kernel_rfl) (closedEx fun gx => closedSt) (hLeft [] (by kernel_rfl) .n) ?_
      refine (.c ?_ (.c ?_ .n))
      · refine effOne rfl (opEx fun gx => (gNone rfl (fV (yExtract rfl rfl) rfl))) ?_
        refine effStep 9 [10] (by kernel_rfl) (closedEx fun gx => closedSt) (hLeft [] (by kernel_rfl) .n) ?_
        refine (.c ?_ (.c ?_ .n))
        · refine effOne rfl (opEx fun gx => (gNone rfl (fV (yExtract rfl rfl) rfl))) ?_
          refine effStep 10 [] (by kernel_rfl) (closedEx fun gx => closedSt) (hLeft [] (by kernel_rfl) .n) ?_
          refine .c ?_ .n
          refine effOne rfl (opEx fun gx => (gNone rfl (fV (yAssign rfl) rfl))) ?_
          refine effStep 11 [] (by kernel_rfl) (closedEx fun gx => closedSt) (hLeft [] (by kernel_rfl) .n) ?_
          refine .c ?_ .n
          refine effOne rfl (opEx fun gx => (gNone rfl (fV (yAssign rfl) rfl))) ?_
          refine effDone (closedEx fun gx => closedSt) (hLeft [] (by kernel_rfl) .n) (by kernel_rfl) ?_
          refine trEx fun gx => ?_
          refine kThen ?_
          refine kSeq ?_
          refine kSeq ?_
          refine kRegion rfl ?_
          refine lV (yMove rfl) rfl rfl ?_
          refine lV (yNeq rfl rfl) rfl rfl ?_
          refine knownN (t := 20) rfl (fun h => h rfl) ?_
          refine lNil ?_
          refine kThen ?_
          refine kIfF rfl ?_
          refine kSkip ?_
          refine kThen ?_
          refine kSeq ?_
          by_cases hsn : seenI X n
          · refine kRegion rfl ?_
            refine lV (yFieldAddr rfl F29_2) rfl rfl ?_
            refine lV (yLoad1 rfl O3 (cOwn 1 rfl rfl)) rfl rfl ?_
            refine lV (yAdd rfl rfl (by omega)) rfl rfl ?_
            refine lV (yMove rfl) rfl rfl ?_
            refine lV (yAdd rfl rfl (by omega)) rfl rfl ?_
            refine same (t := 27) (u := i64 ((1 + X.eyes.toNat + n : Nat) : Int)) rfl (congrArg i64 (by omega)) ?_
            refine lV (yAssign rfl) rfl rfl ?_
            refine lNil ?_
            refine kThen ?_
            refine kSeq ?_
            refine kSeq ?_
            refine kRegion rfl ?_
            refine lV (yMove rfl) rfl rfl ?_
            refine lV (yIndexS (k := 0) rfl rfl S86 (fun w hw => matB gx.2 (hw.sub (.d 0 (.d 0 .r))) (SubP.leftA _ _)) (hc0)) rfl rfl ?_
            refine lV (yLoad1 rfl O41 (cSl0 (fun w hw => matB gx.2 (hw.sub (.d 0 (.d 0 .r))) (SubP.leftA _ _)) (hc0) rfl)) rfl rfl ?_
            refine lV (yMove rfl) rfl rfl ?_
            refine lV (yIndexS  rfl rfl S41 (fun w hw => matR gx.2 (hw.sub (.d 0 (.d 0 .r))) SubP.tail hc0) (hcn)) rfl rfl ?_
            refine lV (yLoad1 rfl O3 (cSl0 (fun w hw => matR gx.2 (hw.sub (.d 0 (.d 0 .r))) SubP.tail hc0) (hcn) rfl)) rfl rfl ?_
            refine lV (yEql rfl rfl) rfl rfl ?_
            refine knownN (t := 34) rfl (fun h => by have := (ref_pla hM ho hne hsn).2; rw [farF_v] at this; omega) ?_
            refine lNil ?_
            refine kThen ?_
            refine kIfF rfl ?_
            refine kSkip ?_
            refine kThen ?_
            refine kSeq ?_
            refine kDrawE [(2, none), (3, none), (4, none), (5, none), (8, none), (9, none), (11, none), (12, none)] [] [0, 1, 2, 3, 4, 5, 6, 7, 8, 9, 10, 11, 12, 13, 15] 1 hMix (by kernel_rfl) ?_
            refine .run rfl (yMove rfl) rfl rfl ?_
            refine .run rfl (yMove rfl) rfl rfl ?_
            refine .run rfl (yIndexS  rfl rfl S86 (fun w hw => matB gx.2 (hw.sub (.d 0 (.d 0 .r))) (SubP.leftA _ _)) (hcn)) rfl rfl ?_
            refine .run rfl (yLoad1 rfl O41 (cSl0 (fun w hw => matB gx.2 (hw.sub (.d 0 (.d 0 .r))) (SubP.leftA _ _)) (hcn) rfl)) rfl rfl ?_
            refine .run rfl (yIndexS (k := 0) rfl rfl S41 (fun w hw => matR gx.2 (hw.sub (.d 0 (.d 0 .r))) SubP.tail hcn) (hc0)) rfl rfl ?_
            refine .run rfl (yLoad1 rfl O3 (cSl0 (fun w hw => matR gx.2 (hw.sub (.d 0 (.d 0 .r))) SubP.tail hcn) (hc0) rfl)) rfl rfl ?_
            refine .run rfl (yNeg rfl (by omega)) rfl rfl ?_
            refine .run rfl (yMove rfl) rfl rfl ?_
            refine .run rfl (yIndexS (k := 0) rfl rfl S86 (fun w hw => matB gx.2 (hw.sub (.d 0 (.d 0 .r))) (SubP.leftA _ _)) (hc0)) rfl rfl ?_
            refine .run rfl (yLoad1 rfl O41 (cSl0 (fun w hw => matB gx.2 (hw.sub (.d 0 (.d 0 .r))) (SubP.leftA _ _)) (hc0) rfl)) rfl rfl ?_
            refine .run rfl (yMove rfl) rfl rfl ?_
            refine .run rfl (yIndexS  rfl rfl S41 (fun w hw => matR gx.2 (hw.sub (.d 0 (.d 0 .r))) SubP.tail hc0) (hcn)) rfl rfl ?_
            refine .run rfl (yLoad1 rfl O3 (cSl0 (fun w hw => matR gx.2 (hw.sub (.d 0 (.d 0 .r))) SubP.tail hc0) (hcn) rfl)) rfl rfl ?_
            refine .run rfl (yBuild (.c rfl (.c rfl .n)) (fun w => B24_0_1 w)) rfl rfl ?_
            refine .run rfl (yAssign rfl) rfl rfl ?_
            refine .done ?_
            refine effStep 14 [] (by kernel_rfl) closedSt (hLeft [2, 3, 4, 5, 8, 9, 11, 12] (by kernel_rfl) (.c (fun _ _ hs => hs.ef) (.c (fun _ _ hs => hs.ef) (.c (fun _ _ hs => hs.ef) (.c (fun _ _ hs => hs.ef) (.c (fun _ _ hs => hs.ef) (.c (fun _ _ hs => hs.ef) (.c (fun _ _ hs => hs.ef) (.c (fun _ _ hs => hs.ef) .n))))))))) ?_
            refine .c ?_ .n
            refine effOne rfl (gNone rfl (fStoreL 0 rfl rfl rfl rfl K24 rfl (rfl))) ?_
            refine effDone closedSt (hLeft [] (by kernel_rfl) .n) (by kernel_rfl) ?_
            refine kThen ?_
            refine kRet ?_
            refine fRet rfl (.cA (us := [_, _]) rfl A24 (cOwn 0 rfl rfl) (.t rfl .n)) (endRet ?_)
            simp only [packV]
            rw [placeE_ok hM ho hr hsn, Int.toNat_natCast, (ref_pla hM ho hne hsn).1]
          · refine kRegion rfl ?_
            refine lV (yFieldAddr rfl F29_2) rfl rfl ?_
            refine lV (yLoad1 rfl O3 (cOwn 1 rfl rfl)) rfl rfl ?_
            refine lV (yAdd rfl rfl (by omega)) rfl rfl ?_
            refine lV (yMove rfl) rfl rfl ?_
            refine lV (yAdd rfl rfl (by omega)) rfl rfl ?_
            refine same (t := 27) (u := i64 ((1 + X.eyes.toNat + n : Nat) : Int)) rfl (congrArg i64 (by omega)) ?_
            refine lV (yAssign rfl) rfl rfl ?_
            refine lNil ?_
            refine kThen ?_
            refine kSeq ?_
            refine kSeq ?_
            refine kRegion rfl ?_
            refine lV (yMove rfl) rfl rfl ?_
            refine lV (yIndexS (k := 0) rfl rfl S86 (fun w hw => matB gx.2 (hw.sub (.d 0 (.d 0 .r))) (SubP.leftA _ _)) (hc0)) rfl rfl ?_
            refine lV (yLoad1 rfl O41 (cSl0 (fun w hw => matB gx.2 (hw.sub (.d 0 (.d 0 .r))) (SubP.leftA _ _)) (hc0) rfl)) rfl rfl ?_
            refine lV (yMove rfl) rfl rfl ?_
            refine lV (yIndexS  rfl rfl S41 (fun w hw => matR gx.2 (hw.sub (.d 0 (.d 0 .r))) SubP.tail hc0) (hcn)) rfl rfl ?_
            refine lV (yLoad1 rfl O3 (cSl0 (fun w hw => matR gx.2 (hw.sub (.d 0 (.d 0 .r))) SubP.tail hc0) (hcn) rfl)) rfl rfl ?_
            refine lV (yEql rfl rfl) rfl rfl ?_
            refine known (t := 34) rfl ((ref_none hM ho hne hsn).trans farF_v) ?_
            refine lNil ?_
            refine kThen ?_
            refine kIfT rfl ?_
            refine kSeq ?_
            refine kRegion rfl ?_
            refine lV (yBuild .n (fun w => B24_ w)) rfl rfl ?_
            refine lE rfl ?_
            refine eStoreL 0 rfl rfl rfl rfl K24 rfl (rfl) ?_
            refine lV (yAssign rfl) rfl rfl ?_
            refine lNil ?_
            refine kThen ?_
            refine kRet ?_
            refine kThenR ?_
            refine fRet rfl (.cA (us := [_, _]) rfl A24 (cOwn 0 rfl rfl) (.t rfl .n)) (endRet ?_)
            simp only [packV]
            rw [placeE_doubt hM ho hr hsn]
        · refine effOne rfl (opEx fun gx => (gNone rfl (fV (yAssign rfl) rfl))) ?_
          refine effStep 9 [] (by kernel_rfl) (closedEx fun gx => closedSt) (hLeft [] (by kernel_rfl) .n) ?_
          refine .c ?_ .n
          refine effOne rfl (opEx fun gx => (gNone rfl (fV (yExtract rfl rfl) rfl))) ?_
          refine effStep 11 [] (by kernel_rfl) (closedEx fun gx => closedSt) (hLeft [] (by kernel_rfl) .n) ?_
          refine .c ?_ .n
          refine effOne rfl (opEx fun gx => (gNone rfl (fV (yAssign rfl) rfl))) ?_
          refine effDone (closedEx fun gx => closedSt) (hLeft [] (by kernel_rfl) .n) (by kernel_rfl) ?_
          refine trEx fun gx => ?_
          refine kThen ?_
          refine kSeq ?_
          refine kSeq ?_
          refine kRegion rfl ?_
          refine lV (yMove rfl) rfl rfl ?_
          refine lV (yNeq rfl rfl) rfl rfl ?_
          refine knownN (t := 20) rfl (fun h => h rfl) ?_
          refine lNil ?_
          refine kThen ?_
          refine kIfF rfl ?_
          refine kSkip ?_
          refine kThen ?_
          refine kSeq ?_
          by_cases hsn : seenI X n
          · refine kRegion rfl ?_
            refine lV (yFieldAddr rfl F29_2) rfl rfl ?_
            refine lV (yLoad1 rfl O3 (cOwn 1 rfl rfl)) rfl rfl ?_
            refine lV (yAdd rfl rfl (by omega)) rfl rfl ?_
            refine lV (yMove rfl) rfl rfl ?_
            refine lV (yAdd rfl rfl (by omega)) rfl rfl ?_
            refine same (t := 27) (u := i64 ((1 + X.eyes.toNat + n : Nat) : Int)) rfl (congrArg i64 (by omega)) ?_
            refine lV (yAssign rfl) rfl rfl ?_
            refine lNil ?_
            refine kThen ?_
            refine kSeq ?_
            refine kSeq ?_
            refine kRegion rfl ?_
            refine lV (yMove rfl) rfl rfl ?_
            refine lV (yIndexS (k := 0) rfl rfl S86 (fun w hw => matB gx.2 (hw.sub (.d 0 (.d 0 .r))) (SubP.leftA _ _)) (hc0)) rfl rfl ?_
            refine lV (yLoad1 rfl O41 (cSl0 (fun w hw => matB gx.2 (hw.sub (.d 0 (.d 0 .r))) (SubP.leftA _ _)) (hc0) rfl)) rfl rfl ?_
            refine lV (yMove rfl) rfl rfl ?_
            refine lV (yIndexS  rfl rfl S41 (fun w hw => matR gx.2 (hw.sub (.d 0 (.d 0 .r))) SubP.tail hc0) (hcn)) rfl rfl ?_
            refine lV (yLoad1 rfl O3 (cSl0 (fun w hw => matR gx.2 (hw.sub (.d 0 (.d 0 .r))) SubP.tail hc0) (hcn) rfl)) rfl rfl ?_
            refine lV (yEql rfl rfl) rfl rfl ?_
            refine knownN (t := 34) rfl (fun h => by have := (ref_pla hM ho hne hsn).2; rw [farF_v] at this; omega) ?_
            refine lNil ?_
            refine kThen ?_
            refine kIfF rfl ?_
            refine kSkip ?_
            refine kThen ?_
            refine kSeq ?_
            refine kDrawE [(2, none), (3, none), (4, none), (5, none), (8, none), (9, none), (11, none), (12, none)] [] [0, 1, 2, 3, 4, 5, 6, 7, 8, 9, 10, 11, 12, 13, 15] 1 hMix (by kernel_rfl) ?_
            refine .run rfl (yMove rfl) rfl rfl ?_
            refine .run rfl (yMove rfl) rfl rfl ?_
            refine .run rfl (yIndexS  rfl rfl S86 (fun w hw => matB gx.2 (hw.sub (.d 0 (.d 0 .r))) (SubP.leftA _ _)) (hcn)) rfl rfl ?_
            refine .run rfl (yLoad1 rfl O41 (cSl0 (fun w hw => matB gx.2 (hw.sub (.d 0 (.d 0 .r))) (SubP.leftA _ _)) (hcn) rfl)) rfl rfl ?_
            refine .run rfl (yIndexS (k := 0) rfl rfl S41 (fun w hw => matR gx.2 (hw.sub (.d 0 (.d 0 .r))) SubP.tail hcn) (hc0)) rfl rfl ?_
            refine .run rfl (yLoad1 rfl O3 (cSl0 (fun w hw => matR gx.2 (hw.sub (.d 0 (.d 0 .r))) SubP.tail hcn) (hc0) rfl)) rfl rfl ?_
            refine .run rfl (yNeg rfl (by omega)) rfl rfl ?_
            refine .run rfl (yMove rfl) rfl rfl ?_
            refine .run rfl (yIndexS (k := 0) rfl rfl S86 (fun w hw => matB gx.2 (hw.sub (.d 0 (.d 0 .r))) (SubP.leftA _ _)) (hc0)) rfl rfl ?_
            refine .run rfl (yLoad1 rfl O41 (cSl0 (fun w hw => matB gx.2 (hw.sub (.d 0 (.d 0 .r))) (SubP.leftA _ _)) (hc0) rfl)) rfl rfl ?_
            refine .run rfl (yMove rfl) rfl rfl ?_
            refine .run rfl (yIndexS  rfl rfl S41 (fun w hw => matR gx.2 (hw.sub (.d 0 (.d 0 .r))) SubP.tail hc0) (hcn)) rfl rfl ?_
            refine .run rfl (yLoad1 rfl O3 (cSl0 (fun w hw => matR gx.2 (hw.sub (.d 0 (.d 0 .r))) SubP.tail hc0) (hcn) rfl)) rfl rfl ?_
            refine .run rfl (yBuild (.c rfl (.c rfl .n)) (fun w => B24_0_1 w)) rfl rfl ?_
            refine .run rfl (yAssign rfl) rfl rfl ?_
            refine .done ?_
            refine effStep 14 [] (by kernel_rfl) closedSt (hLeft [2, 3, 4, 5, 8, 9, 11, 12] (by kernel_rfl) (.c (fun _ _ hs => hs.ef) (.c (fun _ _ hs => hs.ef) (.c (fun _ _ hs => hs.ef) (.c (fun _ _ hs => hs.ef) (.c (fun _ _ hs => hs.ef) (.c (fun _ _ hs => hs.ef) (.c (fun _ _ hs => hs.ef) (.c (fun _ _ hs => hs.ef) .n))))))))) ?_
            refine .c ?_ .n
            refine effOne rfl (gNone rfl (fStoreL 0 rfl rfl rfl rfl K24 rfl (rfl))) ?_
            refine effDone closedSt (hLeft [] (by kernel_rfl) .n) (by kernel_rfl) ?_
            refine kThen ?_
            refine kRet ?_
            refine fRet rfl (.cA (us := [_, _]) rfl A24 (cOwn 0 rfl rfl) (.t rfl .n)) (endRet ?_)
            simp only [packV]
            rw [placeE_ok hM ho hr hsn, Int.toNat_natCast, (ref_pla hM ho hne hsn).1]
          · refine kRegion rfl ?_
            refine lV (yFieldAddr rfl F29_2) rfl rfl ?_
            refine lV (yLoad1 rfl O3 (cOwn 1 rfl rfl)) rfl rfl ?_
            refine lV (yAdd rfl rfl (by omega)) rfl rfl ?_
            refine lV (yMove rfl) rfl rfl ?_
            refine lV (yAdd rfl rfl (by omega)) rfl rfl ?_
            refine same (t := 27) (u := i64 ((1 + X.eyes.toNat + n : Nat) : Int)) rfl (congrArg i64 (by omega)) ?_
            refine lV (yAssign rfl) rfl rfl ?_
            refine lNil ?_
            refine kThen ?_
            refine kSeq ?_
            refine kSeq ?_
            refine kRegion rfl ?_
            refine lV (yMove rfl) rfl rfl ?_
            refine lV (yIndexS (k := 0) rfl rfl S86 (fun w hw => matB gx.2 (hw.sub (.d 0 (.d 0 .r))) (SubP.leftA _ _)) (hc0)) rfl rfl ?_
            refine lV (yLoad1 rfl O41 (cSl0 (fun w hw => matB gx.2 (hw.sub (.d 0 (.d 0 .r))) (SubP.leftA _ _)) (hc0) rfl)) rfl rfl ?_
            refine lV (yMove rfl) rfl rfl ?_
            refine lV (yIndexS  rfl rfl S41 (fun w hw => matR gx.2 (hw.sub (.d 0 (.d 0 .r))) SubP.tail hc0) (hcn)) rfl rfl ?_
            refine lV (yLoad1 rfl O3 (cSl0 (fun w hw => matR gx.2 (hw.sub (.d 0 (.d 0 .r))) SubP.tail hc0) (hcn) rfl)) rfl rfl ?_
            refine lV (yEql rfl rfl) rfl rfl ?_
            refine known (t := 34) rfl ((ref_none hM ho hne hsn).trans farF_v) ?_
            refine lNil ?_
            refine kThen ?_
            refine kIfT rfl ?_
            refine kSeq ?_
            refine kRegion rfl ?_
            refine lV (yBuild .n (fun w => B24_ w)) rfl rfl ?_
            refine lE rfl ?_
            refine eStoreL 0 rfl rfl rfl rfl K24 rfl (rfl) ?_
            refine lV (yAssign rfl) rfl rfl ?_
            refine lNil ?_
            refine kThen ?_
            refine kRet ?_
            refine kThenR ?_
            refine fRet rfl (.cA (us := [_, _]) rfl A24 (cOwn 0 rfl rfl) (.t rfl .n)) (endRet ?_)
            simp only [packV]
            rw [placeE_doubt hM ho hr hsn]
      · refine effOne rfl (opEx fun gx => (gNone rfl (fV (yExtract rfl rfl) rfl))) ?_
        refine effStep 8 [] (by kernel_rfl) (closedEx fun gx => closedSt) (hLeft [] (by kernel_rfl) .n) ?_
        refine .c ?_ .n
        refine effOne rfl (opEx fun gx => (gNone rfl (fV (yExtract rfl rfl) rfl))) ?_
        refine effStep 10 [] (by kernel_rfl) (closedEx fun gx => closedSt) (hLeft [] (by kernel_rfl) .n) ?_
        refine .c ?_ .n
        refine effOne rfl (opEx fun gx => (gNone rfl (fV (yAssign rfl) rfl))) ?_
        refine effStep 11 [] (by kernel_rfl) (closedEx fun gx => closedSt) (hLeft [] (by kernel_rfl) .n) ?_
        refine .c ?_ .n
        refine effOne rfl (opEx fun gx => (gNone rfl (fV (yAssign rfl) rfl))) ?_
        refine effDone (closedEx fun gx => closedSt) (hLeft [] (by kernel_rfl) .n) (by kernel_rfl) ?_
        refine trEx fun gx => ?_
        refine kThen ?_
        refine kSeq ?_
        refine kSeq ?_
        refine kRegion rfl ?_
        refine lV (yMove rfl) rfl rfl ?_
        refine lV (yNeq rfl rfl) rfl rfl ?_
        refine knownN (t := 20) rfl (fun h => h rfl) ?_
        refine lNil ?_
        refine kThen ?_
        refine kIfF rfl ?_
        refine kSkip ?_
        refine kThen ?_
        refine kSeq ?_
        by_cases hsn : seenI X n
        · refine kRegion rfl ?_
          refine lV (yFieldAddr rfl F29_2) rfl rfl ?_
          refine lV (yLoad1 rfl O3 (cOwn 1 rfl rfl)) rfl rfl ?_
          refine lV (yAdd rfl rfl (by omega)) rfl rfl ?_
          refine lV (yMove rfl) rfl rfl ?_
          refine lV (yAdd rfl rfl (by omega)) rfl rfl ?_
          refine same (t := 27) (u := i64 ((1 + X.eyes.toNat + n : Nat) : Int)) rfl (congrArg i64 (by omega)) ?_
          refine lV (yAssign rfl) rfl rfl ?_
          refine lNil ?_
          refine kThen ?_
          refine kSeq ?_
          refine kSeq ?_
          refine kRegion rfl ?_
          refine lV (yMove rfl) rfl rfl ?_
          refine lV (yIndexS (k := 0) rfl rfl S86 (fun w hw => matB gx.2 (hw.sub (.d 0 (.d 0 .r))) (SubP.leftA _ _)) (hc0)) rfl rfl ?_
          refine lV (yLoad1 rfl O41 (cSl0 (fun w hw => matB gx.2 (hw.sub (.d 0 (.d 0 .r))) (SubP.leftA _ _)) (hc0) rfl)) rfl rfl ?_
          refine lV (yMove rfl) rfl rfl ?_
          refine lV (yIndexS  rfl rfl S41 (fun w hw => matR gx.2 (hw.sub (.d 0 (.d 0 .r))) SubP.tail hc0) (hcn)) rfl rfl ?_
          refine lV (yLoad1 rfl O3 (cSl0 (fun w hw => matR gx.2 (hw.sub (.d 0 (.d 0 .r))) SubP.tail hc0) (hcn) rfl)) rfl rfl ?_
          refine lV (yEql rfl rfl) rfl rfl ?_
          refine knownN (t := 34) rfl (fun h => by have := (ref_pla hM ho hne hsn).2; rw [farF_v] at this; omega) ?_
          refine lNil ?_
          refine kThen ?_
          refine kIfF rfl ?_
          refine kSkip ?_
          refine kThen ?_
          refine kSeq ?_
          refine kDrawE [(2, none), (3, none), (4, none), (5, none), (8, none), (9, none), (11, none), (12, none)] [] [0, 1, 2, 3, 4, 5, 6, 7, 8, 9, 10, 11, 12, 13, 15] 1 hMix (by kernel_rfl) ?_
          refine .run rfl (yMove rfl) rfl rfl ?_
          refine .run rfl (yMove rfl) rfl rfl ?_
          refine .run rfl (yIndexS  rfl rfl S86 (fun w hw => matB gx.2 (hw.sub (.d 0 (.d 0 .r))) (SubP.leftA _ _)) (hcn)) rfl rfl ?_
          refine .run rfl (yLoad1 rfl O41 (cSl0 (fun w hw => matB gx.2 (hw.sub (.d 0 (.d 0 .r))) (SubP.leftA _ _)) (hcn) rfl)) rfl rfl ?_
          refine .run rfl (yIndexS (k := 0) rfl rfl S41 (fun w hw => matR gx.2 (hw.sub (.d 0 (.d 0 .r))) SubP.tail hcn) (hc0)) rfl rfl ?_
          refine .run rfl (yLoad1 rfl O3 (cSl0 (fun w hw => matR gx.2 (hw.sub (.d 0 (.d 0 .r))) SubP.tail hcn) (hc0) rfl)) rfl rfl ?_
          refine .run rfl (yNeg rfl (by omega)) rfl rfl ?_
          refine .run rfl (yMove rfl) rfl rfl ?_
          refine .run rfl (yIndexS (k := 0) rfl rfl S86 (fun w hw => matB gx.2 (hw.sub (.d 0 (.d 0 .r))) (SubP.leftA _ _)) (hc0)) rfl rfl ?_
          refine .run rfl (yLoad1 rfl O41 (cSl0 (fun w hw => matB gx.2 (hw.sub (.d 0 (.d 0 .r))) (SubP.leftA _ _)) (hc0) rfl)) rfl rfl ?_
          refine .run rfl (yMove rfl) rfl rfl ?_
          refine .run rfl (yIndexS  rfl rfl S41 (fun w hw => matR gx.2 (hw.sub (.d 0 (.d 0 .r))) SubP.tail hc0) (hcn)) rfl rfl ?_
          refine .run rfl (yLoad1 rfl O3 (cSl0 (fun w hw => matR gx.2 (hw.sub (.d 0 (.d 0 .r))) SubP.tail hc0) (hcn) rfl)) rfl rfl ?_
          refine .run rfl (yBuild (.c rfl (.c rfl .n)) (fun w => B24_0_1 w)) rfl rfl ?_
          refine .run rfl (yAssign rfl) rfl rfl ?_
          refine .done ?_
          refine effStep 14 [] (by kernel_rfl) closedSt (hLeft [2, 3, 4, 5, 8, 9, 11, 12] (by kernel_rfl) (.c (fun _ _ hs => hs.ef) (.c (fun _ _ hs => hs.ef) (.c (fun _ _ hs => hs.ef) (.c (fun _ _ hs => hs.ef) (.c (fun _ _ hs => hs.ef) (.c (fun _ _ hs => hs.ef) (.c (fun _ _ hs => hs.ef) (.c (fun _ _ hs => hs.ef) .n))))))))) ?_
          refine .c ?_ .n
          refine effOne rfl (gNone rfl (fStoreL 0 rfl rfl rfl rfl K24 rfl (rfl))) ?_
          refine effDone closedSt (hLeft [] (by kernel_rfl) .n) (by kernel_rfl) ?_
          refine kThen ?_
          refine kRet ?_
          refine fRet rfl (.cA (us := [_, _]) rfl A24 (cOwn 0 rfl rfl) (.t rfl .n)) (endRet ?_)
          simp only [packV]
          rw [placeE_ok hM ho hr hsn, Int.toNat_natCast, (ref_pla hM ho hne hsn).1]
        · refine kRegion rfl ?_
          refine lV (yFieldAddr rfl F29_2) rfl rfl ?_
          refine lV (yLoad1 rfl O3 (cOwn 1 rfl rfl)) rfl rfl ?_
          refine lV (yAdd rfl rfl (by omega)) rfl rfl ?_
          refine lV (yMove rfl) rfl rfl ?_
          refine lV (yAdd rfl rfl (by omega)) rfl rfl ?_
          refine same (t := 27) (u := i64 ((1 + X.eyes.toNat + n : Nat) : Int)) rfl (congrArg i64 (by omega)) ?_
          refine lV (yAssign rfl) rfl rfl ?_
          refine lNil ?_
          refine kThen ?_
          refine kSeq ?_
          refine kSeq ?_
          refine kRegion rfl ?_
          refine lV (yMove rfl) rfl rfl ?_
          refine lV (yIndexS (k := 0) rfl rfl S86 (fun w hw => matB gx.2 (hw.sub (.d 0 (.d 0 .r))) (SubP.leftA _ _)) (hc0)) rfl rfl ?_
          refine lV (yLoad1 rfl O41 (cSl0 (fun w hw => matB gx.2 (hw.sub (.d 0 (.d 0 .r))) (SubP.leftA _ _)) (hc0) rfl)) rfl rfl ?_
          refine lV (yMove rfl) rfl rfl ?_
          refine lV (yIndexS  rfl rfl S41 (fun w hw => matR gx.2 (hw.sub (.d 0 (.d 0 .r))) SubP.tail hc0) (hcn)) rfl rfl ?_
          refine lV (yLoad1 rfl O3 (cSl0 (fun w hw => matR gx.2 (hw.sub (.d 0 (.d 0 .r))) SubP.tail hc0) (hcn) rfl)) rfl rfl ?_
          refine lV (yEql rfl rfl) rfl rfl ?_
          refine known (t := 34) rfl ((ref_none hM ho hne hsn).trans farF_v) ?_
          refine lNil ?_
          refine kThen ?_
          refine kIfT rfl ?_
          refine kSeq ?_
          refine kRegion rfl ?_
          refine lV (yBuild .n (fun w => B24_ w)) rfl rfl ?_
          refine lE rfl ?_
          refine eStoreL 0 rfl rfl rfl rfl K24 rfl (rfl) ?_
          refine lV (yAssign rfl) rfl rfl ?_
          refine lNil ?_
          refine kThen ?_
          refine kRet ?_
          refine kThenR ?_
          refine fRet rfl (.cA (us := [_, _]) rfl A24 (cOwn 0 rfl rfl) (.t rfl .n)) (endRet ?_)
          simp only [packV]
          rw [placeE_doubt hM ho hr hsn]
    · have hEy := hM.e
      have hIm := hM.i
      refine kDrawE [(0, none), (3, none), (5, none)] [] [0, 1, 2, 3, 4, 5] 6 hMix (by kernel_rfl) ?_
      refine .run rfl (yLoadA (vs := [_, _, _, _, _, _, _, _]) rfl A29 (cOwn 1 rfl rfl)) rfl rfl ?_
      refine .run rfl (yMove rfl) rfl rfl ?_
      refine .run rfl (yFieldAddr rfl F29_1) rfl rfl ?_
      refine .run rfl (yLoad1 rfl O3 (cOwn 1 rfl rfl)) rfl rfl ?_
      refine .run rfl (ySub rfl rfl (by omega)) rfl rfl ?_
      refine .run rfl (yCall rfl (.c rfl (.c rfl (.c rfl .n))) C52 (fun w hw => ein_any _ _ _ w)) rfl rfl ?_
      refine .done ?_
      refine effStep 6 [] (by kernel_rfl) closedSt (hLeft [0, 3, 5] (by kernel_rfl) (.c (fun _ _ hs => hs.ef) (.c (fun _ _ hs => hs.ef) (.c (fun _ _ hs => hs.ef) .n)))) ?_
      refine .c ?_ .n
      refine effOne rfl (gNone rfl (fV (yCall rfl (.c rfl (.c rfl .n)) C51 (fun w hw => ropen_no y X _ w (hm.eff hw) hL hE (open_no fun h => hk h.2))) rfl)) ?_
      refine effStep 7 [] (by kernel_rfl) closedSt (hLeft [] (by kernel_rfl) .n) ?_
      refine .c ?_ .n
      refine effOne rfl (gNone rfl (fV (yMove rfl) rfl)) ?_
      refine effStep 8 [9] (by kernel_rfl) closedSt (hLeft [] (by kernel_rfl) .n) ?_
      refine (.c ?_ (.c ?_ .n))
      · refine effOne rfl (gNone rfl (fV (yExtract rfl rfl) rfl)) ?_
        refine effStep 9 [10] (by kernel_rfl) closedSt (hLeft [] (by kernel_rfl) .n) ?_
        refine (.c ?_ (.c ?_ .n))
        · refine effOne rfl (gNone rfl (fV (yExtract rfl rfl) rfl)) ?_
          refine effStep 10 [] (by kernel_rfl) closedSt (hLeft [] (by kernel_rfl) .n) ?_
          refine .c ?_ .n
          refine effOne rfl (gNone rfl (fV (yAssign rfl) rfl)) ?_
          refine effStep 11 [] (by kernel_rfl) closedSt (hLeft [] (by kernel_rfl) .n) ?_
          refine .c ?_ .n
          refine effOne rfl (gNone rfl (fV (yAssign rfl) rfl)) ?_
          refine effDone closedSt (hLeft [] (by kernel_rfl) .n) (by kernel_rfl) ?_
          refine kThen ?_
          refine kSeq ?_
          refine kSeq ?_
          refine kRegion rfl ?_
          refine lV (yMove rfl) rfl rfl ?_
          refine lV (yNeq rfl rfl) rfl rfl ?_
          refine known (t := 20) rfl (codeR_ne X _) ?_
          refine lNil ?_
          refine kThen ?_
          refine kIfT rfl ?_
          refine kSeq ?_
          refine kRegion rfl ?_
          refine lV (yBuild .n (fun w => B24_ w)) rfl rfl ?_
          refine lV (yMove rfl) rfl rfl ?_
          refine lE rfl ?_
          refine eStoreL 0 rfl rfl rfl rfl K24 rfl (rfl) ?_
          refine lV (yAssign rfl) rfl rfl ?_
          refine lNil ?_
          refine kThen ?_
          refine kRet ?_
          refine kThenR ?_
          refine fRet rfl (.cA (us := [_, _]) rfl A24 (cOwn 0 rfl rfl) (.t rfl .n)) (endRet ?_)
          simp only [packV]
          rw [placeE_no fun h => hk h.2]
        · refine effOne rfl (gNone rfl (fV (yAssign rfl) rfl)) ?_
          refine effStep 9 [] (by kernel_rfl) closedSt (hLeft [] (by kernel_rfl) .n) ?_
          refine .c ?_ .n
          refine effOne rfl (gNone rfl (fV (yExtract rfl rfl) rfl)) ?_
          refine effStep 11 [] (by kernel_rfl) closedSt (hLeft [] (by kernel_rfl) .n) ?_
          refine .c ?_ .n
          refine effOne rfl (gNone rfl (fV (yAssign rfl) rfl)) ?_
          refine effDone closedSt (hLeft [] (by kernel_rfl) .n) (by kernel_rfl) ?_
          refine kThen ?_
          refine kSeq ?_
          refine kSeq ?_
          refine kRegion rfl ?_
          refine lV (yMove rfl) rfl rfl ?_
          refine lV (yNeq rfl rfl) rfl rfl ?_
          refine known (t := 20) rfl (codeR_ne X _) ?_
          refine lNil ?_
          refine kThen ?_
          refine kIfT rfl ?_
          refine kSeq ?_
          refine kRegion rfl ?_
          refine lV (yBuild .n (fun w => B24_ w)) rfl rfl ?_
          refine lV (yMove rfl) rfl rfl ?_
          refine lE rfl ?_
          refine eStoreL 0 rfl rfl rfl rfl K24 rfl (rfl) ?_
          refine lV (yAssign rfl) rfl rfl ?_
          refine lNil ?_
          refine kThen ?_
          refine kRet ?_
          refine kThenR ?_
          refine fRet rfl (.cA (us := [_, _]) rfl A24 (cOwn 0 rfl rfl) (.t rfl .n)) (endRet ?_)
          simp only [packV]
          rw [placeE_no fun h => hk h.2]
      · refine effOne rfl (gNone rfl (fV (yExtract rfl rfl) rfl)) ?_
        refine effStep 8 [] (by kernel_rfl) closedSt (hLeft [] (by kernel_rfl) .n) ?_
        refine .c ?_ .n
        refine effOne rfl (gNone rfl (fV (yExtract rfl rfl) rfl)) ?_
        refine effStep 10 [] (by kernel_rfl) closedSt (hLeft [] (by kernel_rfl) .n) ?_
        refine .c ?_ .n
        refine effOne rfl (gNone rfl (fV (yAssign rfl) rfl)) ?_
        refine effStep 11 [] (by kernel_rfl) closedSt (hLeft [] (by kernel_rfl) .n) ?_
        refine .c ?_ .n
        refine effOne rfl (gNone rfl (fV (yAssign rfl) rfl)) ?_
        refine effDone closedSt (hLeft [] (by kernel_rfl) .n) (by kernel_rfl) ?_
        refine kThen ?_
        refine kSeq ?_
        refine kSeq ?_
        refine kRegion rfl ?_
        refine lV (yMove rfl) rfl rfl ?_
        refine lV (yNeq rfl rfl) rfl rfl ?_
        refine known (t := 20) rfl (codeR_ne X _) ?_
        refine lNil ?_
        refine kThen ?_
        refine kIfT rfl ?_
        refine kSeq ?_
        refine kRegion rfl ?_
        refine lV (yBuild .n (fun w => B24_ w)) rfl rfl ?_
        refine lV (yMove rfl) rfl rfl ?_
        refine lE rfl ?_
        refine eStoreL 0 rfl rfl rfl rfl K24 rfl (rfl) ?_
        refine lV (yAssign rfl) rfl rfl ?_
        refine lNil ?_
        refine kThen ?_
        refine kRet ?_
        refine kThenR ?_
        refine fRet rfl (.cA (us := [_, _]) rfl A24 (cOwn 0 rfl rfl) (.t rfl .n)) (endRet ?_)
        simp only [packV]
        rw [placeE_no fun h => hk h.2]
  · refine kRegion rfl ?_
    refine lE rfl ?_
    refine eBoxA rfl fun n2 => ?_
    refine lE rfl ?_
    refine eAlloc Z24 fun n4 => ?_
    refine lV (yAssign rfl) rfl rfl ?_
    refine lNil ?_
    refine kThen ?_
    refine kSeq ?_
    refine kDrawE [(0, none), (3, none), (5, none)] [] [0, 1, 2, 3, 4, 5] 6 hMix (by kernel_rfl) ?_
    refine .run rfl (yLoadA (vs := [_, _, _, _, _, _, _, _]) rfl A29 (cOwn 1 rfl rfl)) rfl rfl ?_
    refine .run rfl (yMove rfl) rfl rfl ?_
    refine .run rfl (yFieldAddr rfl F29_1) rfl rfl ?_
    refine .run rfl (yLoad1 rfl O3 (cOwn 1 rfl rfl)) rfl rfl ?_
    refine .run rfl (yArith rfl rfl (.inr (.inl ⟨rfl, rfl⟩))) rfl rfl ?_
    refine .run rfl (yCall rfl (.c rfl (.c rfl (.c rfl .n))) C52 (fun w hw => ein_any _ _ _ w)) rfl rfl ?_
    refine .done ?_
    refine effStep 6 [] (by kernel_rfl) closedSt (hLeft [0, 3, 5] (by kernel_rfl) (.c (fun _ _ hs => hs.ef) (.c (fun _ _ hs => hs.ef) (.c (fun _ _ hs => hs.ef) .n)))) ?_
    refine .c ?_ .n
    refine effOne rfl (gNone rfl (fV (yCall rfl (.c rfl (.c rfl .n)) C51 (fun w hw => ropen_no y X _ w (hm.eff hw) hL hE (.inl hM))) rfl)) ?_
    refine effStep 7 [] (by kernel_rfl) closedSt (hLeft [] (by kernel_rfl) .n) ?_
    refine .c ?_ .n
    refine effOne rfl (gNone rfl (fV (yMove rfl) rfl)) ?_
    refine effStep 8 [9] (by kernel_rfl) closedSt (hLeft [] (by kernel_rfl) .n) ?_
    refine (.c ?_ (.c ?_ .n))
    · refine effOne rfl (gNone rfl (fV (yExtract rfl rfl) rfl)) ?_
      refine effStep 9 [10] (by kernel_rfl) closedSt (hLeft [] (by kernel_rfl) .n) ?_
      refine (.c ?_ (.c ?_ .n))
      · refine effOne rfl (gNone rfl (fV (yExtract rfl rfl) rfl)) ?_
        refine effStep 10 [] (by kernel_rfl) closedSt (hLeft [] (by kernel_rfl) .n) ?_
        refine .c ?_ .n
        refine effOne rfl (gNone rfl (fV (yAssign rfl) rfl)) ?_
        refine effStep 11 [] (by kernel_rfl) closedSt (hLeft [] (by kernel_rfl) .n) ?_
        refine .c ?_ .n
        refine effOne rfl (gNone rfl (fV (yAssign rfl) rfl)) ?_
        refine effDone closedSt (hLeft [] (by kernel_rfl) .n) (by kernel_rfl) ?_
        refine kThen ?_
        refine kSeq ?_
        refine kSeq ?_
        refine kRegion rfl ?_
        refine lV (yMove rfl) rfl rfl ?_
        refine lV (yNeq rfl rfl) rfl rfl ?_
        refine known (t := 20) rfl (codeR_ne X _) ?_
        refine lNil ?_
        refine kThen ?_
        refine kIfT rfl ?_
        refine kSeq ?_
        refine kRegion rfl ?_
        refine lV (yBuild .n (fun w => B24_ w)) rfl rfl ?_
        refine lV (yMove rfl) rfl rfl ?_
        refine lE rfl ?_
        refine eStoreL 0 rfl rfl rfl rfl K24 rfl (rfl) ?_
        refine lV (yAssign rfl) rfl rfl ?_
        refine lNil ?_
        refine kThen ?_
        refine kRet ?_
        refine kThenR ?_
        refine fRet rfl (.cA (us := [_, _]) rfl A24 (cOwn 0 rfl rfl) (.t rfl .n)) (endRet ?_)
        simp only [packV]
        rw [show placeE X a = ((0, 0), 1) from if_pos hM]
        unfold codeR; rw [if_pos hM]
      · refine effOne rfl (gNone rfl (fV (yAssign rfl) rfl)) ?_
        refine effStep 9 [] (by kernel_rfl) closedSt (hLeft [] (by kernel_rfl) .n) ?_
        refine .c ?_ .n
        refine effOne rfl (gNone rfl (fV (yExtract rfl rfl) rfl)) ?_
        refine effStep 11 [] (by kernel_rfl) closedSt (hLeft [] (by kernel_rfl) .n) ?_
        refine .c ?_ .n
        refine effOne rfl (gNone rfl (fV (yAssign rfl) rfl)) ?_
        refine effDone closedSt (hLeft [] (by kernel_rfl) .n) (by kernel_rfl) ?_
        refine kThen ?_
        refine kSeq ?_
        refine kSeq ?_
        refine kRegion rfl ?_
        refine lV (yMove rfl) rfl rfl ?_
        refine lV (yNeq rfl rfl) rfl rfl ?_
        refine known (t := 20) rfl (codeR_ne X _) ?_
        refine lNil ?_
        refine kThen ?_
        refine kIfT rfl ?_
        refine kSeq ?_
        refine kRegion rfl ?_
        refine lV (yBuild .n (fun w => B24_ w)) rfl rfl ?_
        refine lV (yMove rfl) rfl rfl ?_
        refine lE rfl ?_
        refine eStoreL 0 rfl rfl rfl rfl K24 rfl (rfl) ?_
        refine lV (yAssign rfl) rfl rfl ?_
        refine lNil ?_
        refine kThen ?_
        refine kRet ?_
        refine kThenR ?_
        refine fRet rfl (.cA (us := [_, _]) rfl A24 (cOwn 0 rfl rfl) (.t rfl .n)) (endRet ?_)
        simp only [packV]
        rw [show placeE X a = ((0, 0), 1) from if_pos hM]
        unfold codeR; rw [if_pos hM]
    · refine effOne rfl (gNone rfl (fV (yExtract rfl rfl) rfl)) ?_
      refine effStep 8 [] (by kernel_rfl) closedSt (hLeft [] (by kernel_rfl) .n) ?_
      refine .c ?_ .n
      refine effOne rfl (gNone rfl (fV (yExtract rfl rfl) rfl)) ?_
      refine effStep 10 [] (by kernel_rfl) closedSt (hLeft [] (by kernel_rfl) .n) ?_
      refine .c ?_ .n
      refine effOne rfl (gNone rfl (fV (yAssign rfl) rfl)) ?_
      refine effStep 11 [] (by kernel_rfl) closedSt (hLeft [] (by kernel_rfl) .n) ?_
      refine .c ?_ .n
      refine effOne rfl (gNone rfl (fV (yAssign rfl) rfl)) ?_
      refine effDone closedSt (hLeft [] (by kernel_rfl) .n) (by kernel_rfl) ?_
      refine kThen ?_
      refine kSeq ?_
      refine kSeq ?_
      refine kRegion rfl ?_
      refine lV (yMove rfl) rfl rfl ?_
      refine lV (yNeq rfl rfl) rfl rfl ?_
      refine known (t := 20) rfl (codeR_ne X _) ?_
      refine lNil ?_
      refine kThen ?_
      refine kIfT rfl ?_
      refine kSeq ?_
      refine kRegion rfl ?_
      refine lV (yBuild .n (fun w => B24_ w)) rfl rfl ?_
      refine lV (yMove rfl) rfl rfl ?_
      refine lE rfl ?_
      refine eStoreL 0 rfl rfl rfl rfl K24 rfl (rfl) ?_
      refine lV (yAssign rfl) rfl rfl ?_
      refine lNil ?_
      refine kThen ?_
      refine kRet ?_
      refine kThenR ?_
      refine fRet rfl (.cA (us := [_, _]) rfl A24 (cOwn 0 rfl rfl) (.t rfl .n)) (endRet ?_)
      simp only [packV]
      rw [show placeE X a = ((0, 0), 1) from if_pos hM]
      unfold codeR; rw [if_pos hM]
theorem or_add {s m : Nat} (h : s < 2 ^ m) : s ||| 1 * 2 ^ m = s + 2 ^ m := by
  have := Nat.two_pow_add_eq_or_of_lt h 1
  rw [Nat.mul_one] at this
  rw [Nat.one_mul, Nat.or_comm]; omega
set_option maxRecDepth 100000 in
set_option maxHeartbeats 2000000 in
theorem rsure_any (y : WLoc) (X : Wat) (w : World) (hm : InW w y X) (hL : X.looks.length ≤ 1000000) (hE : X.errs.length ≤ 1000000) : Calls Try.prog 22 [.agg (watC y X).toArray].toArray w (Ret w (outI (sureE X))) := by
  refine fEnter Try.func22 rfl Try.ntmps22 rfl ?_
  refine kSeq ?_
  refine kRegion rfl ?_
  refine lE rfl ?_
  refine eBoxA rfl fun n1 => ?_
  refine lV (yAssign rfl) rfl rfl ?_
  refine lV (yAssign rfl) rfl rfl ?_
  refine lNil ?_
  refine kThen ?_
  refine kSeq ?_
  by_cases hk : WatOk X ∧ True ∧ okW X
  · obtain ⟨hM, _, ho⟩ := hk
    have hEy := hM.e
    have hc0 := cnt_0 X
    obtain ⟨e, he⟩ : ∃ e : Nat, X.eyes.toNat = e := ⟨_, rfl⟩
    have he' : X.eyes = (e : Nat) := by omega
    refine kRegion rfl ?_
    refine lV (yLoadA (vs := [_, _, _, _, _, _, _, _]) rfl A29 (cOwn 0 rfl rfl)) rfl rfl ?_
    refine lE rfl ?_
    refine eCallO rfl (.c rfl (.c rfl .n)) C51 (fun w hw => ropen_yes y X w (hm.eff hw) hM ho) fun x hx => ?_
    obtain ⟨gb, rs⟩ := x
    dsimp only at hx ⊢
    refine lV (yMove rfl) rfl rfl ?_
    refine lV (yExtract rfl rfl) rfl rfl ?_
    refine lV (yExtract rfl rfl) rfl rfl ?_
    refine lV (yAssign rfl) rfl rfl ?_
    refine lV (yAssign rfl) rfl rfl ?_
    refine lNil ?_
    refine kThen ?_
    refine kSeq ?_
    refine kSeq ?_
    refine kRegion rfl ?_
    refine lV (yMove rfl) rfl rfl ?_
    refine lV (yNeq rfl rfl) rfl rfl ?_
    refine knownN (t := 14) rfl (fun h => h rfl) ?_
    refine lNil ?_
    refine kThen ?_
    refine kIfF rfl ?_
    refine kSkip ?_
    refine kThen ?_
    refine kSeq ?_
    refine kRegion rfl ?_
    refine lV (yAssign rfl) rfl rfl ?_
    refine lNil ?_
    refine kThen ?_
    refine kSeq ?_
    refine kSeq ?_
    refine kRegion rfl ?_
    refine lV (yAssign rfl) rfl rfl ?_
    refine lNil ?_
    refine kThen ?_
    refine kBlock ?_
    refine kLoopX (ι := Nat) (fun m => m ≤ e) (fun m => [(7, i64 (m : Nat)), (6, i64 (sureW X m : Nat))]) [(0, _), (1, _), (2, _), (3, _), (9, _), (10, _), (8, _), (11, _), (12, _), (4, _), (5, _), (13, _), (14, _)] (fun m => []) (fun m => (osL 41 gb ++ rs.H)) [(n1, _)] (fun m => e - m) 0 (Nat.zero_le _) rfl (.c rfl (.c rfl .n)) (.c rfl (.c rfl (.c rfl (.c rfl (.c rfl (.c rfl (.c rfl (.c rfl (.c rfl (.c rfl (.c rfl (.c rfl (.c rfl .n))))))))))))) (.c 0 rfl .r) ?_
    rintro m hml
    have hsl := sureW_lt X m
    have hpm : 2 ^ m ≤ 2 ^ 4 := Nat.pow_le_pow_right (by omega) (by omega)
    refine kSeq ?_
    refine kSeq ?_
    refine kRegion rfl ?_
    refine lV (yMove rfl) rfl rfl ?_
    refine lV (yFieldAddr rfl F29_2) rfl rfl ?_
    refine lV (yLoad1 rfl O3 (cOwn 0 rfl rfl)) rfl rfl ?_
    refine lV (yLss rfl rfl) rfl rfl ?_
    refine lNil ?_
    refine kThen ?_
    refine split (t := 19) rfl (fun h19 => ?_) (fun h19 => ?_)
    · refine kIfT rfl ?_
      refine kSkip ?_
      refine kThen ?_
      refine kSeq ?_
      refine kBlock ?_
      refine kSeq ?_
      have hme : m < X.eyes.toNat := by omega
      have hcm := cnt_hab hme
      have hrh := ref_hab hM ho hme
      obtain ⟨lo, hlo⟩ : ∃ v, refA X (1 + m) 0 = v := ⟨_, rfl⟩
      obtain ⟨hi, hhi⟩ : ∃ v, refA X 0 (1 + m) = v := ⟨_, rfl⟩
      rw [hlo, hhi] at hrh
      refine kRegion rfl ?_
      refine lV (yMove rfl) rfl rfl ?_
      refine lV (yMove rfl) rfl rfl ?_
      refine lV (yAdd rfl rfl (by omega)) rfl rfl ?_
      refine same (t := 24) (u := i64 ((1 + m : Nat) : Int)) rfl (congrArg i64 (by omega)) ?_
      refine lV (yIndexS  rfl rfl S86 (fun w hw => matB hx (hw.sub (.d 0 .r)) (SubP.leftA _ _)) (hcm)) rfl rfl ?_
      refine lV (yLoad1 rfl O41 (cSl0 (fun w hw => matB hx (hw.sub (.d 0 .r)) (SubP.leftA _ _)) (hcm) rfl)) rfl rfl ?_
      refine lV (yIndexS (k := 0) rfl rfl S41 (fun w hw => matR hx (hw.sub (.d 0 .r)) SubP.tail hcm) (hc0)) rfl rfl ?_
      refine lV (yLoad1 rfl O3 (cSl0 (fun w hw => matR hx (hw.sub (.d 0 .r)) SubP.tail hcm) (hc0) rfl)) rfl rfl ?_
      refine same (t := 28) (u := i64 lo) rfl (congrArg i64 hlo) ?_
      refine lV (yLss rfl rfl) rfl rfl ?_
      refine lV (yMove rfl) rfl rfl ?_
      refine split (t := 30) rfl (fun h30 => ?_) (fun h30 => ?_)
      · refine lGN rfl rfl rfl rfl rfl ?_
        refine lGN rfl rfl rfl rfl rfl ?_
        refine lGN rfl rfl rfl rfl rfl ?_
        refine lGN rfl rfl rfl rfl rfl ?_
        refine lGN rfl rfl rfl rfl rfl ?_
        refine lGN rfl rfl rfl rfl rfl ?_
        refine lGN rfl rfl rfl rfl rfl ?_
        refine lGN rfl rfl rfl rfl rfl ?_
        refine lV (yPickT rfl rfl) rfl rfl ?_
        refine lNil ?_
        refine kThen ?_
        refine kIfT rfl ?_
        refine kRegion rfl ?_
        refine lV (yMove rfl) rfl rfl ?_
        refine lV (yMove rfl) rfl rfl ?_
        refine lV (yCall rfl (.c rfl .n) C53 (fun w hw => power_any m w (by omega))) rfl rfl ?_
        refine lV (yAdd rfl rfl (by omega)) rfl rfl ?_
        refine same (t := 43) (u := i64 ((sureW X (m + 1) : Nat) : Int)) rfl (congrArg i64 (by rw [sureW_succ, hrh, if_pos (by simp only; omega), or_add hsl]; omega)) ?_
        refine lV (yAssign rfl) rfl rfl ?_
        refine lNil ?_
        refine kInN ?_
        refine kThen ?_
        refine kRegion rfl ?_
        refine lV (yMove rfl) rfl rfl ?_
        refine lV (yAdd rfl rfl (by omega)) rfl rfl ?_
        refine lV (yAssign rfl) rfl rfl ?_
        refine lNil ?_
        exact kRoundX (m + 1) (by omega) (by omega) rfl (.c rfl (.c rfl .n)) (.c rfl (.c rfl (.c rfl (.c rfl (.c rfl (.c rfl (.c rfl (.c rfl (.c rfl (.c rfl (.c rfl (.c rfl (.c rfl .n))))))))))))) (.c 0 rfl .r)
      · refine lGY rfl rfl rfl (oV (yMove rfl) rfl ?_)
        refine lGY rfl rfl rfl (oV (yIndexS (k := 0) rfl rfl S86 (fun w hw => matB hx (hw.sub (.d 0 .r)) (SubP.leftA _ _)) (hc0)) rfl ?_)
        refine lGY rfl rfl rfl (oV (yLoad1 rfl O41 (cSl0 (fun w hw => matB hx (hw.sub (.d 0 .r)) (SubP.leftA _ _)) (hc0) rfl)) rfl ?_)
        refine lGY rfl rfl rfl (oV (yMove rfl) rfl ?_)
        refine lGY rfl rfl rfl (oV (yAdd rfl rfl (by omega)) rfl ?_)
        refine same (t := 35) (u := i64 ((1 + m : Nat) : Int)) rfl (congrArg i64 (by omega)) ?_
        refine lGY rfl rfl rfl (oV (yIndexS  rfl rfl S41 (fun w hw => matR hx (hw.sub (.d 0 .r)) SubP.tail hc0) (hcm)) rfl ?_)
        refine lGY rfl rfl rfl (oV (yLoad1 rfl O3 (cSl0 (fun w hw => matR hx (hw.sub (.d 0 .r)) SubP.tail hc0) (hcm) rfl)) rfl ?_)
        refine same (t := 37) (u := i64 hi) rfl (congrArg i64 hhi) ?_
        refine lGY rfl rfl rfl (oV (yLss rfl rfl) rfl ?_)
        refine lV (yPickF rfl rfl) rfl rfl ?_
        refine lNil ?_
        refine kThen ?_
        refine split (t := 39) rfl (fun h39 => ?_) (fun h39 => ?_)
        · refine kIfT rfl ?_
          refine kRegion rfl ?_
          refine lV (yMove rfl) rfl rfl ?_
          refine lV (yMove rfl) rfl rfl ?_
          refine lV (yCall rfl (.c rfl .n) C53 (fun w hw => power_any m w (by omega))) rfl rfl ?_
          refine lV (yAdd rfl rfl (by omega)) rfl rfl ?_
          refine same (t := 43) (u := i64 ((sureW X (m + 1) : Nat) : Int)) rfl (congrArg i64 (by rw [sureW_succ, hrh, if_pos (by simp only; omega), or_add hsl]; omega)) ?_
          refine lV (yAssign rfl) rfl rfl ?_
          refine lNil ?_
          refine kInN ?_
          refine kThen ?_
          refine kRegion rfl ?_
          refine lV (yMove rfl) rfl rfl ?_
          refine lV (yAdd rfl rfl (by omega)) rfl rfl ?_
          refine lV (yAssign rfl) rfl rfl ?_
          refine lNil ?_
          exact kRoundX (m + 1) (by omega) (by omega) rfl (.c rfl (.c rfl .n)) (.c rfl (.c rfl (.c rfl (.c rfl (.c rfl (.c rfl (.c rfl (.c rfl (.c rfl (.c rfl (.c rfl (.c rfl (.c rfl .n))))))))))))) (.c 0 rfl .r)
        · rw [show sureW X m = sureW X (m + 1) from by rw [sureW_succ, hrh, if_neg (by simp only; omega)]]
          refine kIfF rfl ?_
          refine kSkip ?_
          refine kInN ?_
          refine kThen ?_
          refine kRegion rfl ?_
          refine lV (yMove rfl) rfl rfl ?_
          refine lV (yAdd rfl rfl (by omega)) rfl rfl ?_
          refine lV (yAssign rfl) rfl rfl ?_
          refine lNil ?_
          exact kRoundX (m + 1) (by omega) (by omega) rfl (.c rfl (.c rfl .n)) (.c rfl (.c rfl (.c rfl (.c rfl (.c rfl (.c rfl (.c rfl (.c rfl (.c rfl (.c rfl (.c rfl (.c rfl (.c rfl .n))))))))))))) (.c 0 rfl .r)
    · refine kIfF rfl ?_
      refine kExit ?_
      refine kThenX ?_
      refine kThenX ?_
      refine kInX ?_
      refine kThen ?_
      refine kSeq ?_
      refine kRegion rfl ?_
      refine lV (yMove rfl) rfl rfl ?_
      refine lV (yAssign rfl) rfl rfl ?_
      refine lV (yAssign rfl) rfl rfl ?_
      refine lNil ?_
      refine kThen ?_
      refine kRet ?_
      refine fRet rfl (.t rfl (.t rfl .n)) (endRet ?_)
      obtain rfl : m = e := by omega
      simp only [packV]
      rw [sureE_ok hM ho]
      unfold sureN
      rw [he]
  · refine kRegion rfl ?_
    refine lV (yLoadA (vs := [_, _, _, _, _, _, _, _]) rfl A29 (cOwn 0 rfl rfl)) rfl rfl ?_
    refine lV (yCall rfl (.c rfl (.c rfl .n)) C51 (fun w hw => ropen_no y X true w (hm.eff hw) hL hE (by have := open_no hk; simpa using this))) rfl rfl ?_
    refine lV (yMove rfl) rfl rfl ?_
    refine lV (yExtract rfl rfl) rfl rfl ?_
    refine lV (yExtract rfl rfl) rfl rfl ?_
    refine lV (yAssign rfl) rfl rfl ?_
    refine lV (yAssign rfl) rfl rfl ?_
    refine lNil ?_
    refine kThen ?_
    refine kSeq ?_
    refine kSeq ?_
    refine kRegion rfl ?_
    refine lV (yMove rfl) rfl rfl ?_
    refine lV (yNeq rfl rfl) rfl rfl ?_
    refine known (t := 14) rfl (codeR_ne X _) ?_
    refine lNil ?_
    refine kThen ?_
    refine kIfT rfl ?_
    refine kSeq ?_
    refine kRegion rfl ?_
    refine lV (yMove rfl) rfl rfl ?_
    refine lV (yAssign rfl) rfl rfl ?_
    refine lV (yAssign rfl) rfl rfl ?_
    refine lNil ?_
    refine kThen ?_
    refine kRet ?_
    refine kThenR ?_
    refine fRet rfl (.t rfl (.t rfl .n)) (endRet ?_)
    simp only [packV]
    have h : codeR X true = (sureE X).2 ∧ (sureE X).1 = 0 := by
      unfold codeR
      by_cases hM : WatOk X
      · rw [if_neg (not_not_intro hM), if_neg (by decide), sureE_clash hM fun ho => hk ⟨hM, trivial, ho⟩]; exact ⟨rfl, rfl⟩
      · rw [if_pos hM, show sureE X = (0, 1) from if_pos hM]; exact ⟨rfl, rfl⟩
    rw [h.1]
    show _ = Value.tuple [i64 (sureE X).1, i64 (sureE X).2].toArray
    rw [h.2]
end Go.Proofs.Ytiaaidcdoenloaa
