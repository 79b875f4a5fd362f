/-
  Walk: EyeDiffer.
-/
import Derived.Test.YtiaaidcdoenloaaTf
import Derived.Test.YtiaaidcdoenloaaQj
namespace Go.Proofs.Ytiaaidcdoenloaa
open ZW

theorem six_at {c : Int} {i : Nat} (h : i < 6) : sub [i64 c, i64 c, i64 c, i64 c, i64 c, i64 c] (0 + ((i : Nat) : Int).toNat * 1) 1 = some [i64 c] := by
  have : i = 0 ∨ i = 1 ∨ i = 2 ∨ i = 3 ∨ i = 4 ∨ i = 5 := by omega
  rcases this with rfl | rfl | rfl | rfl | rfl | rfl <;> rfl
theorem codeC {r : (Int × Int) × Int} {c : Int} (h : r.2 = c) : r = (r.1, c) := Prod.ext rfl h
theorem codeI {r : Int × Int} {c : Int} (h : r.2 = c) : r = (r.1, c) := Prod.ext rfl h
theorem bit_dec (s i : Nat) : decide (((s / 2 ^ i &&& 1 : Nat) : Int) = 1) = s.testBit i := by
  have := bit_iff s i
  by_cases h : s.testBit i = true
  · rw [h]; exact decide_eq_true (this.2 h)
  · have h2 : s.testBit i = false := by simpa using h
    rw [h2]; exact decide_eq_false fun k => h (this.1 k)
set_option maxHeartbeats 4000000 in
set_option maxRecDepth 100000 in
theorem differ_any (y : WLoc) (X : Wat) (a b c : Nat) (w : World) (hm : InW w y X) (ha : a < 256) (hb : b < 256) (hc : c < 256) :
    Calls Try.prog 6 [.agg (watC y X).toArray, .int .u8 (a : Nat), .int .u8 (b : Nat), .int .u8 (c : Nat)].toArray w (Ret w (.bool true)) := by
  refine fEnter Try.func6 rfl Try.ntmps6 rfl ?_
  refine kSeq ?_
  refine kRegion rfl ?_
  refine lE rfl ?_
  refine eBoxA rfl fun n4 => ?_
  refine lV (yAssign rfl) rfl rfl ?_
  refine lNil ?_
  refine kThen ?_
  refine kSeq ?_
  refine kSeq ?_
  refine kRegion rfl ?_
  refine lV (yLoadA (vs := [_, _, _, _, _, _, _, _]) rfl A29 (cOwn 0 rfl rfl)) rfl rfl ?_
  refine lV (yCall rfl (.c rfl (.c rfl .n)) C13 (fun w hw => farw_any y X 12 w (hm.eff hw))) rfl rfl ?_
  refine lV (yMove rfl) rfl rfl ?_
  refine splitB (t := 30) rfl (fun h30 => ?_) (fun h30 => ?_)
  · refine lGN rfl rfl rfl rfl rfl ?_
    refine lGN rfl rfl rfl rfl rfl ?_
    refine lGN rfl rfl rfl rfl rfl ?_
    refine lV (yPickT rfl rfl) rfl rfl ?_
    refine lNil ?_
    refine kThen ?_
    refine kIfT rfl ?_
    refine kSeq ?_
    refine kRegion rfl ?_
    refine lV (yCall rfl .n C14 (fun w hw => awake_any w)) rfl rfl ?_
    refine lV (yAssign rfl) rfl rfl ?_
    refine lNil ?_
    refine kThen ?_
    refine kRet ?_
    refine kThenR ?_
    refine fRet rfl (.t rfl .n) (endRet ?_)
    first | rfl | (simp [packV, *]; done)
  · have hG := of_decide_eq_false h30
    have hn : X.looks.length ≤ 1000000 := by unfold Far at hG; omega
    have hn2 : X.errs.length ≤ 1000000 := by unfold Far at hG; omega
    refine lGY rfl rfl rfl (oV (yLoadA (vs := [_, _, _, _, _, _, _, _]) rfl A29 (cOwn 0 rfl rfl)) rfl ?_)
    refine lGY rfl rfl rfl (oV (yCall rfl (.c rfl .n) C34 (fun w hw => watch_any y X w (hm.eff hw) hn hn2)) rfl ?_)
    refine lGY rfl rfl rfl (oV (yNot rfl) rfl ?_)
    refine lV (yPickF rfl rfl) rfl rfl ?_
    refine lNil ?_
    refine kThen ?_
    refine splitB (t := 34) rfl (fun h34 => ?_) (fun h34 => ?_)
    · refine kIfT rfl ?_
      refine kSeq ?_
      refine kRegion rfl ?_
      refine lV (yCall rfl .n C14 (fun w hw => awake_any w)) rfl rfl ?_
      refine lV (yAssign rfl) rfl rfl ?_
      refine lNil ?_
      refine kThen ?_
      refine kRet ?_
      refine kThenR ?_
      refine fRet rfl (.t rfl .n) (endRet ?_)
      first | rfl | (simp [packV, *]; done)
    · refine kIfF rfl ?_
      refine kSkip ?_
      refine kThen ?_
      refine kSeq ?_
      have hM := notF h34
      obtain ⟨e, he⟩ : ∃ e : Nat, X.eyes.toNat = e := ⟨_, rfl⟩
      have hE := hM.e
      have hE' : X.eyes = (e : Nat) := by omega
      have he0 : 0 < e ∧ e ≤ 4 := by omega
      obtain ⟨i, hi⟩ : ∃ i, a % e = i := ⟨_, rfl⟩
      obtain ⟨k, hk⟩ : ∃ k, b % e = k := ⟨_, rfl⟩
      obtain ⟨m, hmm⟩ : ∃ m, c % e = m := ⟨_, rfl⟩
      have hil : i < e := hi ▸ Nat.mod_lt _ he0.1
      have hkl : k < e := hk ▸ Nat.mod_lt _ he0.1
      have hml : m < e := hmm ▸ Nat.mod_lt _ he0.1
      have hir : 0 ≤ ((i : Nat) : Int) ∧ ((i : Nat) : Int) ≤ X.eyes - 1 := by omega
      have hkr : 0 ≤ ((k : Nat) : Int) ∧ ((k : Nat) : Int) ≤ X.eyes - 1 := by omega
      have hmr : 0 ≤ ((m : Nat) : Int) ∧ ((m : Nat) : Int) ≤ X.eyes - 1 := by omega
      have hsl := sureN_lt X
      rw [he] at hsl
      have hp4 : 2 ^ e ≤ 2 ^ 4 := Nat.pow_le_pow_right (by omega) he0.2
      refine kDrawE [(3, none), (8, none), (13, none)] [] [0, 1, 2, 3, 4, 5, 6, 7, 8, 9, 10, 11, 12, 13, 14, 15, 16, 17] 0 hMix (by kernel_rfl) ?_
      refine .run rfl (yMove rfl) rfl rfl ?_
      refine .run rfl (yConvInt rfl U5 U3 (conv_ok (by omega))) rfl rfl ?_
      refine .run rfl (yFieldAddr rfl F29_2) rfl rfl ?_
      refine .run rfl (yLoad1 rfl O3 (cOwn 0 rfl rfl)) rfl rfl ?_
      refine .run rfl (yvSame (u := i64 ((i : Nat) : Int)) (yRem rfl rfl (by omega) (by omega)) (congrArg i64 (by rw [← hi, Int.natCast_emod, hE']))) rfl rfl ?_
      refine .run rfl (yMove rfl) rfl rfl ?_
      refine .run rfl (yConvInt rfl U5 U3 (conv_ok (by omega))) rfl rfl ?_
      refine .run rfl (yFieldAddr rfl F29_2) rfl rfl ?_
      refine .run rfl (yLoad1 rfl O3 (cOwn 0 rfl rfl)) rfl rfl ?_
      refine .run rfl (yvSame (u := i64 ((k : Nat) : Int)) (yRem rfl rfl (by omega) (by omega)) (congrArg i64 (by rw [← hk, Int.natCast_emod, hE']))) rfl rfl ?_
      refine .run rfl (yMove rfl) rfl rfl ?_
      refine .run rfl (yConvInt rfl U5 U3 (conv_ok (by omega))) rfl rfl ?_
      refine .run rfl (yFieldAddr rfl F29_2) rfl rfl ?_
      refine .run rfl (yLoad1 rfl O3 (cOwn 0 rfl rfl)) rfl rfl ?_
      refine .run rfl (yvSame (u := i64 ((m : Nat) : Int)) (yRem rfl rfl (by omega) (by omega)) (congrArg i64 (by rw [← hmm, Int.natCast_emod, hE']))) rfl rfl ?_
      refine .run rfl (yAssign rfl) rfl rfl ?_
      refine .run rfl (yAssign rfl) rfl rfl ?_
      refine .run rfl (yAssign rfl) rfl rfl ?_
      refine .done ?_
      refine effDone closedSt (hLeft [3, 8, 13] (by kernel_rfl) (.c (fun _ _ hs => hs.ef) (.c (fun _ _ hs => hs.ef) (.c (fun _ _ hs => hs.ef) .n)))) (by kernel_rfl) ?_
      refine kThen ?_
      refine kSeq ?_
      refine kRegion rfl ?_
      refine lV (yLoadA (vs := [_, _, _, _, _, _, _, _]) rfl A29 (cOwn 0 rfl rfl)) rfl rfl ?_
      refine lV (yMove rfl) rfl rfl ?_
      refine lV (yCall rfl (.c rfl (.c rfl .n)) C15 (fun w hw => habit_any y X (i : Nat) w (hm.eff hw) hn)) rfl rfl ?_
      refine same (t := 54) (u := outC ((habitE X (i : Nat)).1, codeW X)) rfl (by rw [← codeC (habitE_code hM hir)]) ?_
      refine lV (yMove rfl) rfl rfl ?_
      refine lV (yExtract rfl rfl) rfl rfl ?_
      refine lV (yExtract rfl rfl) rfl rfl ?_
      refine lE rfl ?_
      refine eAlloc Z24 fun n12 => ?_
      refine lE rfl ?_
      refine eStoreL 0 rfl rfl rfl rfl K24 rfl (rfl) ?_
      refine lV (yAssign rfl) rfl rfl ?_
      refine lNil ?_
      refine kThen ?_
      refine kSeq ?_
      refine kRegion rfl ?_
      refine lV (yLoadA (vs := [_, _, _, _, _, _, _, _]) rfl A29 (cOwn 1 rfl rfl)) rfl rfl ?_
      refine lV (yMove rfl) rfl rfl ?_
      refine lV (yCall rfl (.c rfl (.c rfl .n)) C15 (fun w hw => habit_any y X (k : Nat) w (hm.eff hw) hn)) rfl rfl ?_
      refine same (t := 60) (u := outC ((habitE X (k : Nat)).1, codeW X)) rfl (by rw [← codeC (habitE_code hM hkr)]) ?_
      refine lV (yMove rfl) rfl rfl ?_
      refine lV (yExtract rfl rfl) rfl rfl ?_
      refine lV (yExtract rfl rfl) rfl rfl ?_
      refine lE rfl ?_
      refine eAlloc Z24 fun n14 => ?_
      refine lE rfl ?_
      refine eStoreL 0 rfl rfl rfl rfl K24 rfl (rfl) ?_
      refine lV (yAssign rfl) rfl rfl ?_
      refine lNil ?_
      refine kThen ?_
      refine kSeq ?_
      refine kRegion rfl ?_
      refine lV (yLoadA (vs := [_, _, _, _, _, _, _, _]) rfl A29 (cOwn 2 rfl rfl)) rfl rfl ?_
      refine lV (yMove rfl) rfl rfl ?_
      refine lV (yMove rfl) rfl rfl ?_
      refine lV (yCall rfl (.c rfl (.c rfl (.c rfl .n))) C17 (fun w hw => between_any y X (i : Nat) (k : Nat) w (hm.eff hw) hn)) rfl rfl ?_
      refine same (t := 67) (u := outC ((betwE X (i : Nat) (k : Nat)).1, codeW X)) rfl (by rw [← codeC (betwE_code hM hir hkr)]) ?_
      refine lV (yMove rfl) rfl rfl ?_
      refine lV (yExtract rfl rfl) rfl rfl ?_
      refine lV (yExtract rfl rfl) rfl rfl ?_
      refine lE rfl ?_
      refine eAlloc Z24 fun n16 => ?_
      refine lE rfl ?_
      refine eStoreL 0 rfl rfl rfl rfl K24 rfl (rfl) ?_
      refine lV (yAssign rfl) rfl rfl ?_
      refine lNil ?_
      refine kThen ?_
      refine kSeq ?_
      refine kRegion rfl ?_
      refine lV (yLoadA (vs := [_, _, _, _, _, _, _, _]) rfl A29 (cOwn 3 rfl rfl)) rfl rfl ?_
      refine lV (yMove rfl) rfl rfl ?_
      refine lV (yMove rfl) rfl rfl ?_
      refine lV (yCall rfl (.c rfl (.c rfl (.c rfl .n))) C17 (fun w hw => between_any y X (k : Nat) (i : Nat) w (hm.eff hw) hn)) rfl rfl ?_
      refine same (t := 74) (u := outC ((betwE X (k : Nat) (i : Nat)).1, codeW X)) rfl (by rw [← codeC (betwE_code hM hkr hir)]) ?_
      refine lV (yMove rfl) rfl rfl ?_
      refine lV (yExtract rfl rfl) rfl rfl ?_
      refine lV (yExtract rfl rfl) rfl rfl ?_
      refine lE rfl ?_
      refine eAlloc Z24 fun n18 => ?_
      refine lE rfl ?_
      refine eStoreL 0 rfl rfl rfl rfl K24 rfl (rfl) ?_
      refine lV (yAssign rfl) rfl rfl ?_
      refine lNil ?_
      refine kThen ?_
      refine kSeq ?_
      refine kRegion rfl ?_
      refine lV (yLoadA (vs := [_, _, _, _, _, _, _, _]) rfl A29 (cOwn 4 rfl rfl)) rfl rfl ?_
      refine lV (yMove rfl) rfl rfl ?_
      refine lV (yMove rfl) rfl rfl ?_
      refine lV (yCall rfl (.c rfl (.c rfl (.c rfl .n))) C17 (fun w hw => between_any y X (i : Nat) (m : Nat) w (hm.eff hw) hn)) rfl rfl ?_
      refine same (t := 81) (u := outC ((betwE X (i : Nat) (m : Nat)).1, codeW X)) rfl (by rw [← codeC (betwE_code hM hir hmr)]) ?_
      refine lV (yMove rfl) rfl rfl ?_
      refine lV (yExtract rfl rfl) rfl rfl ?_
      refine lV (yExtract rfl rfl) rfl rfl ?_
      refine lE rfl ?_
      refine eAlloc Z24 fun n20 => ?_
      refine lE rfl ?_
      refine eStoreL 0 rfl rfl rfl rfl K24 rfl (rfl) ?_
      refine lV (yAssign rfl) rfl rfl ?_
      refine lNil ?_
      refine kThen ?_
      refine kSeq ?_
      refine kRegion rfl ?_
      refine lV (yLoadA (vs := [_, _, _, _, _, _, _, _]) rfl A29 (cOwn 5 rfl rfl)) rfl rfl ?_
      refine lV (yMove rfl) rfl rfl ?_
      refine lV (yMove rfl) rfl rfl ?_
      refine lV (yCall rfl (.c rfl (.c rfl (.c rfl .n))) C17 (fun w hw => between_any y X (m : Nat) (k : Nat) w (hm.eff hw) hn)) rfl rfl ?_
      refine same (t := 88) (u := outC ((betwE X (m : Nat) (k : Nat)).1, codeW X)) rfl (by rw [← codeC (betwE_code hM hmr hkr)]) ?_
      refine lV (yMove rfl) rfl rfl ?_
      refine lV (yExtract rfl rfl) rfl rfl ?_
      refine lV (yExtract rfl rfl) rfl rfl ?_
      refine lE rfl ?_
      refine eAlloc Z24 fun n22 => ?_
      refine lE rfl ?_
      refine eStoreL 0 rfl rfl rfl rfl K24 rfl (rfl) ?_
      refine lV (yAssign rfl) rfl rfl ?_
      refine lNil ?_
      refine kThen ?_
      refine kSeq ?_
      refine kRegion rfl ?_
      refine lV (yLoadA (vs := [_, _, _, _, _, _, _, _]) rfl A29 (cOwn 6 rfl rfl)) rfl rfl ?_
      refine lV (yCall rfl (.c rfl .n) C21 (fun w hw => sure_any y X w (hm.eff hw) hn)) rfl rfl ?_
      refine same (t := 93) (u := outI ((sureE X).1, codeW X)) rfl (by rw [← codeI (sureE_code hM)]) ?_
      refine lV (yMove rfl) rfl rfl ?_
      refine lV (yExtract rfl rfl) rfl rfl ?_
      refine lV (yExtract rfl rfl) rfl rfl ?_
      refine lV (yAssign rfl) rfl rfl ?_
      refine lV (yAssign rfl) rfl rfl ?_
      refine lNil ?_
      refine kThen ?_
      refine kSeq ?_
      refine kSeq ?_
      refine kRegion rfl ?_
      refine lV (yMove rfl) rfl rfl ?_
      refine lV (yMove rfl) rfl rfl ?_
      refine lV (yMove rfl) rfl rfl ?_
      refine lV (yMove rfl) rfl rfl ?_
      refine lV (yMove rfl) rfl rfl ?_
      refine lV (yMove rfl) rfl rfl ?_
      refine lE rfl ?_
      refine eBuildSlice (.c rfl (.c rfl (.c rfl (.c rfl (.c rfl (.c rfl .n)))))) (fun w => BS51_6_0_1_2_3_4_5 w) fun n102 => ?_
      refine lV (yLen rfl S51) rfl rfl ?_
      refine lV (yMove rfl) rfl rfl ?_
      refine lNil ?_
      refine kThen ?_
      refine kBlock ?_
      refine kLoopX (ι := Nat) (fun j => j ≤ 6) (fun j => [(104, i64 (j : Nat))]) [(0, _), (1, _), (2, _), (3, _), (4, _), (28, _), (29, _), (30, _), (31, _), (32, _), (33, _), (34, _), (36, _), (37, _), (38, _), (39, _), (40, _), (41, _), (42, _), (43, _), (44, _), (45, _), (46, _), (47, _), (48, _), (49, _), (50, _), (9, _), (10, _), (11, _), (52, _), (53, _), (54, _), (51, _), (55, _), (56, _), (12, _), (13, _), (58, _), (59, _), (60, _), (57, _), (61, _), (62, _), (14, _), (15, _), (64, _), (65, _), (66, _), (67, _), (63, _), (68, _), (69, _), (16, _), (17, _), (71, _), (72, _), (73, _), (74, _), (70, _), (75, _), (76, _), (18, _), (19, _), (78, _), (79, _), (80, _), (81, _), (77, _), (82, _), (83, _), (20, _), (21, _), (85, _), (86, _), (87, _), (88, _), (84, _), (89, _), (90, _), (22, _), (23, _), (92, _), (93, _), (91, _), (94, _), (95, _), (24, _), (25, _), (96, _), (97, _), (98, _), (99, _), (100, _), (101, _), (102, _), (103, _)] (fun j => []) (fun j => []) [(n102, _), (n22, _), (n20, _), (n18, _), (n16, _), (n14, _), (n12, _), (n4, _)] (fun j => 6 - j) 0 (by omega) rfl (.c rfl .n) (.c rfl (.c rfl (.c rfl (.c rfl (.c rfl (.c rfl (.c rfl (.c rfl (.c rfl (.c rfl (.c rfl (.c rfl (.c rfl (.c rfl (.c rfl (.c rfl (.c rfl (.c rfl (.c rfl (.c rfl (.c rfl (.c rfl (.c rfl (.c rfl (.c rfl (.c rfl (.c rfl (.c rfl (.c rfl (.c rfl (.c rfl (.c rfl (.c rfl (.c rfl (.c rfl (.c rfl (.c rfl (.c rfl (.c rfl (.c rfl (.c rfl (.c rfl (.c rfl (.c rfl (.c rfl (.c rfl (.c rfl (.c rfl (.c rfl (.c rfl (.c rfl (.c rfl (.c rfl (.c rfl (.c rfl (.c rfl (.c rfl (.c rfl (.c rfl (.c rfl (.c rfl (.c rfl (.c rfl (.c rfl (.c rfl (.c rfl (.c rfl (.c rfl (.c rfl (.c rfl (.c rfl (.c rfl (.c rfl (.c rfl (.c rfl (.c rfl (.c rfl (.c rfl (.c rfl (.c rfl (.c rfl (.c rfl (.c rfl (.c rfl (.c rfl (.c rfl (.c rfl (.c rfl (.c rfl (.c rfl (.c rfl (.c rfl (.c rfl (.c rfl (.c rfl (.c rfl (.c rfl .n))))))))))))))))))))))))))))))))))))))))))))))))))))))))))))))))))))))))))))))))))))))))))))))))) (.c 0 rfl (.c 0 rfl (.c 0 rfl (.c 0 rfl (.c 0 rfl (.c 0 rfl (.c 0 rfl (.c 0 rfl .n)))))))) ?_
      rintro j hj
      refine kSeq ?_
      refine kRegion rfl ?_
      refine lV (yLss rfl rfl) rfl rfl ?_
      refine lNil ?_
      refine kThen ?_
      refine kSeq ?_
      refine split (t := 105) rfl (fun h105 => ?_) (fun h105 => ?_)
      · refine kIfT rfl ?_
        refine kSkip ?_
        refine kThen ?_
        refine kSeq ?_
        refine kBlock ?_
        refine kSeq ?_
        refine kRegion rfl ?_
        refine lV (yIndexSl rfl rfl S51 (by omega) (by omega)) rfl rfl ?_
        refine lV (yLoad1 rfl O32 (cOwn 0 rfl (six_at (by omega)))) rfl rfl ?_
        refine lV (yAssign rfl) rfl rfl ?_
        refine lNil ?_
        refine kThen ?_
        refine kSeq ?_
        refine kRegion rfl ?_
        refine lV (yMove rfl) rfl rfl ?_
        refine lV (yMove rfl) rfl rfl ?_
        refine lV (yNeq rfl rfl) rfl rfl ?_
        refine knownN (t := 110) rfl (fun h => h rfl) ?_
        refine lNil ?_
        refine kThen ?_
        refine kIfF rfl ?_
        refine kSkip ?_
        refine kInN ?_
        refine kThen ?_
        refine kRegion rfl ?_
        refine lV (yAdd rfl rfl (by omega)) rfl rfl ?_
        refine lV (yMove rfl) rfl rfl ?_
        refine lNil ?_
        exact kRoundX (j + 1) (by omega) (by omega) rfl (.c rfl .n) (.c rfl (.c rfl (.c rfl (.c rfl (.c rfl (.c rfl (.c rfl (.c rfl (.c rfl (.c rfl (.c rfl (.c rfl (.c rfl (.c rfl (.c rfl (.c rfl (.c rfl (.c rfl (.c rfl (.c rfl (.c rfl (.c rfl (.c rfl (.c rfl (.c rfl (.c rfl (.c rfl (.c rfl (.c rfl (.c rfl (.c rfl (.c rfl (.c rfl (.c rfl (.c rfl (.c rfl (.c rfl (.c rfl (.c rfl (.c rfl (.c rfl (.c rfl (.c rfl (.c rfl (.c rfl (.c rfl (.c rfl (.c rfl (.c rfl (.c rfl (.c rfl (.c rfl (.c rfl (.c rfl (.c rfl (.c rfl (.c rfl (.c rfl (.c rfl (.c rfl (.c rfl (.c rfl (.c rfl (.c rfl (.c rfl (.c rfl (.c rfl (.c rfl (.c rfl (.c rfl (.c rfl (.c rfl (.c rfl (.c rfl (.c rfl (.c rfl (.c rfl (.c rfl (.c rfl (.c rfl (.c rfl (.c rfl (.c rfl (.c rfl (.c rfl (.c rfl (.c rfl (.c rfl (.c rfl (.c rfl (.c rfl (.c rfl (.c rfl (.c rfl (.c rfl (.c rfl (.c rfl .n))))))))))))))))))))))))))))))))))))))))))))))))))))))))))))))))))))))))))))))))))))))))))))))))) (.c 0 rfl (.c 0 rfl (.c 0 rfl (.c 0 rfl (.c 0 rfl (.c 0 rfl (.c 0 rfl (.c 0 rfl .n))))))))
      · refine kIfF rfl ?_
        refine kExit ?_
        refine kThenX ?_
        refine kThenX ?_
        refine kInX ?_
        refine kThen ?_
        refine kSeq ?_
        refine kSeq ?_
        by_cases ho : okW X
        · rw [habitE_ok hM ho hir, habitE_ok hM ho hkr, betwE_ok hM ho hir hkr, betwE_ok hM ho hkr hir, betwE_ok hM ho hir hmr, betwE_ok hM ho hmr hkr, sureE_ok hM ho, codeW_ok hM ho]
          simp only [Int.toNat_natCast]
          have F := differ_facts hM ho (i := i) (k := k) (m := m) (by omega) (by omega) (by omega)
          have Fx := F.x
          have Fy := F.y
          have Fs := F.s
          have Ft := F.t
          have Fo := F.o
          have Fh := F.h
          have Fv := F.v
          have Fb := F.b
          have hh := hM.h
          have hk2 := hM.k
          have hbit := sureN_bit (X := X) (m := i) (by omega)
          refine kRegion rfl ?_
          refine lV (yMove rfl) rfl rfl ?_
          refine lV (yNeq rfl rfl) rfl rfl ?_
          refine knownN (t := 113) rfl (fun h => h rfl) ?_
          refine lNil ?_
          refine kThen ?_
          refine kIfF rfl ?_
          refine kSkip ?_
          refine kThen ?_
          refine kSeq ?_
          refine kSeq ?_
          by_cases hik : i = k
          · refine kDrawE [(1, none), (3, none), (7, none), (10, none), (15, none), (18, none), (23, none), (25, none), (29, none), (31, none), (34, none), (36, none), (44, none), (45, none)] [] [0, 1, 2, 3, 4, 5, 6, 7, 8, 9, 10, 11, 12, 13, 14, 15, 16, 17, 18, 19, 20, 21, 22, 23, 24, 25, 26, 27, 28, 29, 30, 31, 32, 33, 34, 35, 36, 37, 38, 39, 40, 41, 42, 43, 44, 45, 46, 47, 48] 0 hMix (by kernel_rfl) ?_
            refine .run rfl (yFieldAddr rfl F24_0) rfl rfl ?_
            refine .run rfl (yLoad1 rfl O3 (cOwn 6 rfl rfl)) rfl rfl ?_
            refine .run rfl (yFieldAddr rfl F24_1) rfl rfl ?_
            refine .run rfl (yLoad1 rfl O3 (cOwn 6 rfl rfl)) rfl rfl ?_
            refine .run rfl (yvFalse (yGtr rfl rfl) (by omega)) rfl rfl ?_
            refine .run rfl (yMove rfl) rfl rfl ?_
            refine .runG rfl (yFieldAddr rfl F24_0) rfl rfl rfl rfl ?_
            refine .runG rfl (yLoad1 rfl O3 (cOwn 6 rfl rfl)) rfl rfl rfl rfl ?_
            refine .runG rfl (yFieldAddr rfl F29_3) rfl rfl rfl rfl ?_
            refine .runG rfl (yFieldAddr rfl F24_0) rfl rfl rfl rfl ?_
            refine .runG rfl (yLoad1 rfl O3 (cOwn 7 rfl rfl)) rfl rfl rfl rfl ?_
            refine .runG rfl (yvFalse (yLss rfl rfl) (by omega)) rfl rfl rfl rfl ?_
            refine .run rfl (yPickF rfl rfl) rfl rfl ?_
            refine .run rfl (yMove rfl) rfl rfl ?_
            refine .runG rfl (yFieldAddr rfl F24_1) rfl rfl rfl rfl ?_
            refine .runG rfl (yLoad1 rfl O3 (cOwn 6 rfl rfl)) rfl rfl rfl rfl ?_
            refine .runG rfl (yFieldAddr rfl F29_3) rfl rfl rfl rfl ?_
            refine .runG rfl (yFieldAddr rfl F24_1) rfl rfl rfl rfl ?_
            refine .runG rfl (yLoad1 rfl O3 (cOwn 7 rfl rfl)) rfl rfl rfl rfl ?_
            refine .runG rfl (yvFalse (yGtr rfl rfl) (by omega)) rfl rfl rfl rfl ?_
            refine .run rfl (yPickF rfl rfl) rfl rfl ?_
            refine .run rfl (yMove rfl) rfl rfl ?_
            refine .runG rfl (yFieldAddr rfl F24_0) rfl rfl rfl rfl ?_
            refine .runG rfl (yLoad1 rfl O3 (cOwn 4 rfl rfl)) rfl rfl rfl rfl ?_
            refine .runG rfl (yFieldAddr rfl F24_1) rfl rfl rfl rfl ?_
            refine .runG rfl (yLoad1 rfl O3 (cOwn 4 rfl rfl)) rfl rfl rfl rfl ?_
            refine .runG rfl (yvFalse (yGtr rfl rfl) (by omega)) rfl rfl rfl rfl ?_
            refine .run rfl (yPickF rfl rfl) rfl rfl ?_
            refine .run rfl (yMove rfl) rfl rfl ?_
            refine .runG rfl (yLoadA (vs := [_, _]) rfl A24 (cOwn 3 rfl rfl)) rfl rfl rfl rfl ?_
            refine .runG rfl (yFieldAddr rfl F24_1) rfl rfl rfl rfl ?_
            refine .runG rfl (yLoad1 rfl O3 (cOwn 4 rfl rfl)) rfl rfl rfl rfl ?_
            refine .runG rfl (yNeg rfl (by omega)) rfl rfl rfl rfl ?_
            refine .runG rfl (yFieldAddr rfl F24_0) rfl rfl rfl rfl ?_
            refine .runG rfl (yLoad1 rfl O3 (cOwn 4 rfl rfl)) rfl rfl rfl rfl ?_
            refine .runG rfl (yNeg rfl (by omega)) rfl rfl rfl rfl ?_
            refine .runG rfl (yCall rfl (.c rfl (.c rfl .n)) C35 (fun w hw => spanL_any _ _ w)) rfl rfl rfl rfl ?_
            refine .runG rfl (yvIs (c := false) (yNeAgg rfl rfl G24 (fun w => Q24 w)) (by rw [Ft]; simp)) rfl rfl rfl rfl ?_
            refine .run rfl (yPickF rfl rfl) rfl rfl ?_
            refine .run rfl (yMove rfl) rfl rfl ?_
            refine .runG rfl (yMove rfl) rfl rfl rfl rfl ?_
            refine .runG rfl (yMove rfl) rfl rfl rfl rfl ?_
            refine .runG rfl (yvTrue (yEql rfl rfl) (by omega)) rfl rfl rfl rfl ?_
            refine .runG rfl (yMove rfl) rfl rfl rfl rfl ?_
            refine .runG rfl (yLoadA (vs := [_, _]) rfl A24 (cOwn 4 rfl rfl)) rfl rfl rfl rfl ?_
            refine .runG rfl (yCall rfl (.c rfl (.c rfl .n)) C35 (fun w hw => spanL_any _ _ w)) rfl rfl rfl rfl ?_
            refine .runG rfl (yvIs (c := false) (yNeAgg rfl rfl G24 (fun w => Q24 w)) (by rw [Fo hik]; simp)) rfl rfl rfl rfl ?_
            refine .runG rfl (yPickT rfl rfl) rfl rfl rfl rfl ?_
            refine .run rfl (yPickF rfl rfl) rfl rfl ?_
            refine .done ?_
            refine effDone closedSt (hLeft [1, 3, 7, 10, 15, 18, 23, 25, 29, 31, 34, 36, 44, 45] (by kernel_rfl) (.c (fun _ _ hs => hs.ef) (.c (fun _ _ hs => hs.ef) (.c (fun _ _ hs => hs.ef) (.c (fun _ _ hs => hs.ef) (.c (fun _ _ hs => hs.ef) (.c (fun _ _ hs => hs.ef) (.c (fun _ _ hs => hs.ef) (.c (fun _ _ hs => hs.ef) (.c (fun _ _ hs => hs.ef) (.c (fun _ _ hs => hs.ef) (.c (fun _ _ hs => hs.ef) (.c (fun _ _ hs => hs.ef) (.c (fun _ _ hs => hs.ef) (.c (fun _ _ hs => hs.ef) .n))))))))))))))) (by kernel_rfl) ?_
            refine kThen ?_
            refine kIfF rfl ?_
            refine kSkip ?_
            refine kThen ?_
            refine kSeq ?_
            refine kSeq ?_
            refine kRegion rfl ?_
            refine lV (yFieldAddr rfl F24_0) rfl rfl ?_
            refine lV (yLoad1 rfl O3 (cOwn 4 rfl rfl)) rfl rfl ?_
            refine lV (yFieldAddr rfl F24_0) rfl rfl ?_
            refine lV (yLoad1 rfl O3 (cOwn 5 rfl rfl)) rfl rfl ?_
            refine lV (yFieldAddr rfl F24_1) rfl rfl ?_
            refine lV (yLoad1 rfl O3 (cOwn 6 rfl rfl)) rfl rfl ?_
            refine lV (ySub rfl rfl (by omega)) rfl rfl ?_
            refine lV (yLss rfl rfl) rfl rfl ?_
            refine knownN (t := 189) rfl (by omega) ?_
            refine lV (yMove rfl) rfl rfl ?_
            refine lGY rfl rfl rfl (oV (yFieldAddr rfl F24_1) rfl ?_)
            refine lGY rfl rfl rfl (oV (yLoad1 rfl O3 (cOwn 4 rfl rfl)) rfl ?_)
            refine lGY rfl rfl rfl (oV (yFieldAddr rfl F24_1) rfl ?_)
            refine lGY rfl rfl rfl (oV (yLoad1 rfl O3 (cOwn 5 rfl rfl)) rfl ?_)
            refine lGY rfl rfl rfl (oV (yFieldAddr rfl F24_0) rfl ?_)
            refine lGY rfl rfl rfl (oV (yLoad1 rfl O3 (cOwn 6 rfl rfl)) rfl ?_)
            refine lGY rfl rfl rfl (oV (ySub rfl rfl (by omega)) rfl ?_)
            refine lGY rfl rfl rfl (oV (yGtr rfl rfl) rfl ?_)
            refine knownN (t := 198) rfl (by omega) ?_
            refine lV (yPickF rfl rfl) rfl rfl ?_
            refine lV (yMove rfl) rfl rfl ?_
            refine lGY rfl rfl rfl (oV (yFieldAddr rfl F24_0) rfl ?_)
            refine lGY rfl rfl rfl (oV (yLoad1 rfl O3 (cOwn 4 rfl rfl)) rfl ?_)
            refine lGY rfl rfl rfl (oV (yFieldAddr rfl F24_0) rfl ?_)
            refine lGY rfl rfl rfl (oV (yLoad1 rfl O3 (cOwn 2 rfl rfl)) rfl ?_)
            refine lGY rfl rfl rfl (oV (yFieldAddr rfl F24_0) rfl ?_)
            refine lGY rfl rfl rfl (oV (yLoad1 rfl O3 (cOwn 1 rfl rfl)) rfl ?_)
            refine lGY rfl rfl rfl (oV (yAdd rfl rfl (by omega)) rfl ?_)
            refine lGY rfl rfl rfl (oV (yLss rfl rfl) rfl ?_)
            refine knownN (t := 208) rfl (by omega) ?_
            refine lV (yPickF rfl rfl) rfl rfl ?_
            refine lV (yMove rfl) rfl rfl ?_
            refine lGY rfl rfl rfl (oV (yFieldAddr rfl F24_1) rfl ?_)
            refine lGY rfl rfl rfl (oV (yLoad1 rfl O3 (cOwn 4 rfl rfl)) rfl ?_)
            refine lGY rfl rfl rfl (oV (yFieldAddr rfl F24_1) rfl ?_)
            refine lGY rfl rfl rfl (oV (yLoad1 rfl O3 (cOwn 2 rfl rfl)) rfl ?_)
            refine lGY rfl rfl rfl (oV (yFieldAddr rfl F24_1) rfl ?_)
            refine lGY rfl rfl rfl (oV (yLoad1 rfl O3 (cOwn 1 rfl rfl)) rfl ?_)
            refine lGY rfl rfl rfl (oV (yAdd rfl rfl (by omega)) rfl ?_)
            refine lGY rfl rfl rfl (oV (yGtr rfl rfl) rfl ?_)
            refine knownN (t := 218) rfl (by omega) ?_
            refine lV (yPickF rfl rfl) rfl rfl ?_
            refine lNil ?_
            refine kThen ?_
            refine kIfF rfl ?_
            refine kSkip ?_
            refine kThen ?_
            refine kSeq ?_
            refine kDrawE [(5, none), (15, none), (16, none), (21, none)] [] [0, 1, 2, 3, 4, 5, 6, 7, 8, 9, 10, 11, 12, 13, 14, 15, 16, 17, 18, 19, 20, 21, 22, 23] 0 hMix (by kernel_rfl) ?_
            refine .run rfl (yMove rfl) rfl rfl ?_
            refine .run rfl (yvTrue (yGeq rfl rfl) (by omega)) rfl rfl ?_
            refine .run rfl (yMove rfl) rfl rfl ?_
            refine .runG rfl (yMove rfl) rfl rfl rfl rfl ?_
            refine .runG rfl (yFieldAddr rfl F29_2) rfl rfl rfl rfl ?_
            refine .runG rfl (yvSame (u := i64 ((e : Nat) : Int)) (yLoad1 rfl O3 (cOwn 7 rfl rfl)) (by rw [hE'])) rfl rfl rfl rfl ?_
            refine .runG rfl (yShr rfl rfl rfl (by omega)) rfl rfl rfl rfl ?_
            refine .runG rfl (yvTrue (yEql rfl rfl) (by rw [Nat.div_eq_of_lt hsl]; rfl)) rfl rfl rfl rfl ?_
            refine .run rfl (yPickT rfl rfl) rfl rfl ?_
            refine .run rfl (yMove rfl) rfl rfl ?_
            refine .runG rfl (yMove rfl) rfl rfl rfl rfl ?_
            refine .runG rfl (yMove rfl) rfl rfl rfl rfl ?_
            refine .runG rfl (yShr rfl rfl rfl (by omega)) rfl rfl rfl rfl ?_
            refine .runG rfl (yAnd (b := 1) rfl rfl rfl (by have := Nat.div_le_self (sureN X) (2 ^ i); omega) (by have := Nat.div_le_self (sureN X) (2 ^ i); omega)) rfl rfl rfl rfl ?_
            refine .runG rfl (yvIs (c := (sureN X).testBit i) (yEql rfl rfl) (bit_dec _ _)) rfl rfl rfl rfl ?_
            refine .runG rfl (yLoadA (vs := [_, _]) rfl A24 (cOwn 6 rfl rfl)) rfl rfl rfl rfl ?_
            refine .runG rfl (yCall rfl (.c rfl (.c rfl .n)) C32 (fun w hw => inside_any _ _ _ w)) rfl rfl rfl rfl ?_
            refine .runG rfl (yNot rfl) rfl rfl rfl rfl ?_
            refine .runG rfl (yvTrue (yEqBool rfl rfl U4) (by
            cases hx : (sureN X).testBit i with
            | true => have := hbit.1 hx; rw [decide_eq_false this]; rfl
            | false => rw [decide_eq_true (Decidable.byContradiction fun h => by rw [hbit.2 h] at hx; cases hx)]; rfl)) rfl rfl rfl rfl ?_
            refine .run rfl (yPickT rfl rfl) rfl rfl ?_
            refine .run rfl (yMove rfl) rfl rfl ?_
            refine .runG rfl (yCall rfl .n C14 (fun w hw => awake_any w)) rfl rfl rfl rfl ?_
            refine .run rfl (yPickT rfl rfl) rfl rfl ?_
            refine .run rfl (yAssign rfl) rfl rfl ?_
            refine .done ?_
            refine effDone closedSt (hLeft [5, 15, 16, 21] (by kernel_rfl) (.c (fun _ _ hs => hs.ef) (.c (fun _ _ hs => hs.ef) (.c (fun _ _ hs => hs.ef) (.c (fun _ _ hs => hs.ef) .n))))) (by kernel_rfl) ?_
            refine kThen ?_
            refine kRet ?_
            refine fRet rfl (.t rfl .n) (endRet ?_)
            first | rfl | (simp [packV, *]; done)
          · refine kDrawE [(1, none), (3, none), (7, none), (10, none), (15, none), (18, none), (23, none), (25, none), (29, none), (31, none), (34, none), (36, none)] [] [0, 1, 2, 3, 4, 5, 6, 7, 8, 9, 10, 11, 12, 13, 14, 15, 16, 17, 18, 19, 20, 21, 22, 23, 24, 25, 26, 27, 28, 29, 30, 31, 32, 33, 34, 35, 36, 37, 38, 39, 40, 41, 42, 43, 44, 45, 46, 47, 48] 0 hMix (by kernel_rfl) ?_
            refine .run rfl (yFieldAddr rfl F24_0) rfl rfl ?_
            refine .run rfl (yLoad1 rfl O3 (cOwn 6 rfl rfl)) rfl rfl ?_
            refine .run rfl (yFieldAddr rfl F24_1) rfl rfl ?_
            refine .run rfl (yLoad1 rfl O3 (cOwn 6 rfl rfl)) rfl rfl ?_
            refine .run rfl (yvFalse (yGtr rfl rfl) (by omega)) rfl rfl ?_
            refine .run rfl (yMove rfl) rfl rfl ?_
            refine .runG rfl (yFieldAddr rfl F24_0) rfl rfl rfl rfl ?_
            refine .runG rfl (yLoad1 rfl O3 (cOwn 6 rfl rfl)) rfl rfl rfl rfl ?_
            refine .runG rfl (yFieldAddr rfl F29_3) rfl rfl rfl rfl ?_
            refine .runG rfl (yFieldAddr rfl F24_0) rfl rfl rfl rfl ?_
            refine .runG rfl (yLoad1 rfl O3 (cOwn 7 rfl rfl)) rfl rfl rfl rfl ?_
            refine .runG rfl (yvFalse (yLss rfl rfl) (by omega)) rfl rfl rfl rfl ?_
            refine .run rfl (yPickF rfl rfl) rfl rfl ?_
            refine .run rfl (yMove rfl) rfl rfl ?_
            refine .runG rfl (yFieldAddr rfl F24_1) rfl rfl rfl rfl ?_
            refine .runG rfl (yLoad1 rfl O3 (cOwn 6 rfl rfl)) rfl rfl rfl rfl ?_
            refine .runG rfl (yFieldAddr rfl F29_3) rfl rfl rfl rfl ?_
            refine .runG rfl (yFieldAddr rfl F24_1) rfl rfl rfl rfl ?_
            refine .runG rfl (yLoad1 rfl O3 (cOwn 7 rfl rfl)) rfl rfl rfl rfl ?_
            refine .runG rfl (yvFalse (yGtr rfl rfl) (by omega)) rfl rfl rfl rfl ?_
            refine .run rfl (yPickF rfl rfl) rfl rfl ?_
            refine .run rfl (yMove rfl) rfl rfl ?_
            refine .runG rfl (yFieldAddr rfl F24_0) rfl rfl rfl rfl ?_
            refine .runG rfl (yLoad1 rfl O3 (cOwn 4 rfl rfl)) rfl rfl rfl rfl ?_
            refine .runG rfl (yFieldAddr rfl F24_1) rfl rfl rfl rfl ?_
            refine .runG rfl (yLoad1 rfl O3 (cOwn 4 rfl rfl)) rfl rfl rfl rfl ?_
            refine .runG rfl (yvFalse (yGtr rfl rfl) (by omega)) rfl rfl rfl rfl ?_
            refine .run rfl (yPickF rfl rfl) rfl rfl ?_
            refine .run rfl (yMove rfl) rfl rfl ?_
            refine .runG rfl (yLoadA (vs := [_, _]) rfl A24 (cOwn 3 rfl rfl)) rfl rfl rfl rfl ?_
            refine .runG rfl (yFieldAddr rfl F24_1) rfl rfl rfl rfl ?_
            refine .runG rfl (yLoad1 rfl O3 (cOwn 4 rfl rfl)) rfl rfl rfl rfl ?_
            refine .runG rfl (yNeg rfl (by omega)) rfl rfl rfl rfl ?_
            refine .runG rfl (yFieldAddr rfl F24_0) rfl rfl rfl rfl ?_
            refine .runG rfl (yLoad1 rfl O3 (cOwn 4 rfl rfl)) rfl rfl rfl rfl ?_
            refine .runG rfl (yNeg rfl (by omega)) rfl rfl rfl rfl ?_
            refine .runG rfl (yCall rfl (.c rfl (.c rfl .n)) C35 (fun w hw => spanL_any _ _ w)) rfl rfl rfl rfl ?_
            refine .runG rfl (yvIs (c := false) (yNeAgg rfl rfl G24 (fun w => Q24 w)) (by rw [Ft]; simp)) rfl rfl rfl rfl ?_
            refine .run rfl (yPickF rfl rfl) rfl rfl ?_
            refine .run rfl (yMove rfl) rfl rfl ?_
            refine .runG rfl (yMove rfl) rfl rfl rfl rfl ?_
            refine .runG rfl (yMove rfl) rfl rfl rfl rfl ?_
            refine .runG rfl (yvFalse (yEql rfl rfl) (by omega)) rfl rfl rfl rfl ?_
            refine .runG rfl (yMove rfl) rfl rfl rfl rfl ?_
            refine .skip rfl rfl rfl rfl rfl rfl ?_
            refine .skip rfl rfl rfl rfl rfl rfl ?_
            refine .skip rfl rfl rfl rfl rfl rfl ?_
            refine .runG rfl (yPickF rfl rfl) rfl rfl rfl rfl ?_
            refine .run rfl (yPickF rfl rfl) rfl rfl ?_
            refine .done ?_
            refine effDone closedSt (hLeft [1, 3, 7, 10, 15, 18, 23, 25, 29, 31, 34, 36] (by kernel_rfl) (.c (fun _ _ hs => hs.ef) (.c (fun _ _ hs => hs.ef) (.c (fun _ _ hs => hs.ef) (.c (fun _ _ hs => hs.ef) (.c (fun _ _ hs => hs.ef) (.c (fun _ _ hs => hs.ef) (.c (fun _ _ hs => hs.ef) (.c (fun _ _ hs => hs.ef) (.c (fun _ _ hs => hs.ef) (.c (fun _ _ hs => hs.ef) (.c (fun _ _ hs => hs.ef) (.c (fun _ _ hs => hs.ef) .n))))))))))))) (by kernel_rfl) ?_
            refine kThen ?_
            refine kIfF rfl ?_
            refine kSkip ?_
            refine kThen ?_
            refine kSeq ?_
            refine kSeq ?_
            refine kRegion rfl ?_
            refine lV (yFieldAddr rfl F24_0) rfl rfl ?_
            refine lV (yLoad1 rfl O3 (cOwn 4 rfl rfl)) rfl rfl ?_
            refine lV (yFieldAddr rfl F24_0) rfl rfl ?_
            refine lV (yLoad1 rfl O3 (cOwn 5 rfl rfl)) rfl rfl ?_
            refine lV (yFieldAddr rfl F24_1) rfl rfl ?_
            refine lV (yLoad1 rfl O3 (cOwn 6 rfl rfl)) rfl rfl ?_
            refine lV (ySub rfl rfl (by omega)) rfl rfl ?_
            refine lV (yLss rfl rfl) rfl rfl ?_
            refine knownN (t := 189) rfl (by omega) ?_
            refine lV (yMove rfl) rfl rfl ?_
            refine lGY rfl rfl rfl (oV (yFieldAddr rfl F24_1) rfl ?_)
            refine lGY rfl rfl rfl (oV (yLoad1 rfl O3 (cOwn 4 rfl rfl)) rfl ?_)
            refine lGY rfl rfl rfl (oV (yFieldAddr rfl F24_1) rfl ?_)
            refine lGY rfl rfl rfl (oV (yLoad1 rfl O3 (cOwn 5 rfl rfl)) rfl ?_)
            refine lGY rfl rfl rfl (oV (yFieldAddr rfl F24_0) rfl ?_)
            refine lGY rfl rfl rfl (oV (yLoad1 rfl O3 (cOwn 6 rfl rfl)) rfl ?_)
            refine lGY rfl rfl rfl (oV (ySub rfl rfl (by omega)) rfl ?_)
            refine lGY rfl rfl rfl (oV (yGtr rfl rfl) rfl ?_)
            refine knownN (t := 198) rfl (by omega) ?_
            refine lV (yPickF rfl rfl) rfl rfl ?_
            refine lV (yMove rfl) rfl rfl ?_
            refine lGY rfl rfl rfl (oV (yFieldAddr rfl F24_0) rfl ?_)
            refine lGY rfl rfl rfl (oV (yLoad1 rfl O3 (cOwn 4 rfl rfl)) rfl ?_)
            refine lGY rfl rfl rfl (oV (yFieldAddr rfl F24_0) rfl ?_)
            refine lGY rfl rfl rfl (oV (yLoad1 rfl O3 (cOwn 2 rfl rfl)) rfl ?_)
            refine lGY rfl rfl rfl (oV (yFieldAddr rfl F24_0) rfl ?_)
            refine lGY rfl rfl rfl (oV (yLoad1 rfl O3 (cOwn 1 rfl rfl)) rfl ?_)
            refine lGY rfl rfl rfl (oV (yAdd rfl rfl (by omega)) rfl ?_)
            refine lGY rfl rfl rfl (oV (yLss rfl rfl) rfl ?_)
            refine knownN (t := 208) rfl (by omega) ?_
            refine lV (yPickF rfl rfl) rfl rfl ?_
            refine lV (yMove rfl) rfl rfl ?_
            refine lGY rfl rfl rfl (oV (yFieldAddr rfl F24_1) rfl ?_)
            refine lGY rfl rfl rfl (oV (yLoad1 rfl O3 (cOwn 4 rfl rfl)) rfl ?_)
            refine lGY rfl rfl rfl (oV (yFieldAddr rfl F24_1) rfl ?_)
            refine lGY rfl rfl rfl (oV (yLoad1 rfl O3 (cOwn 2 rfl rfl)) rfl ?_)
            refine lGY rfl rfl rfl (oV (yFieldAddr rfl F24_1) rfl ?_)
            refine lGY rfl rfl rfl (oV (yLoad1 rfl O3 (cOwn 1 rfl rfl)) rfl ?_)
            refine lGY rfl rfl rfl (oV (yAdd rfl rfl (by omega)) rfl ?_)
            refine lGY rfl rfl rfl (oV (yGtr rfl rfl) rfl ?_)
            refine knownN (t := 218) rfl (by omega) ?_
            refine lV (yPickF rfl rfl) rfl rfl ?_
            refine lNil ?_
            refine kThen ?_
            refine kIfF rfl ?_
            refine kSkip ?_
            refine kThen ?_
            refine kSeq ?_
            refine kDrawE [(5, none), (15, none), (16, none), (21, none)] [] [0, 1, 2, 3, 4, 5, 6, 7, 8, 9, 10, 11, 12, 13, 14, 15, 16, 17, 18, 19, 20, 21, 22, 23] 0 hMix (by kernel_rfl) ?_
            refine .run rfl (yMove rfl) rfl rfl ?_
            refine .run rfl (yvTrue (yGeq rfl rfl) (by omega)) rfl rfl ?_
            refine .run rfl (yMove rfl) rfl rfl ?_
            refine .runG rfl (yMove rfl) rfl rfl rfl rfl ?_
            refine .runG rfl (yFieldAddr rfl F29_2) rfl rfl rfl rfl ?_
            refine .runG rfl (yvSame (u := i64 ((e : Nat) : Int)) (yLoad1 rfl O3 (cOwn 7 rfl rfl)) (by rw [hE'])) rfl rfl rfl rfl ?_
            refine .runG rfl (yShr rfl rfl rfl (by omega)) rfl rfl rfl rfl ?_
            refine .runG rfl (yvTrue (yEql rfl rfl) (by rw [Nat.div_eq_of_lt hsl]; rfl)) rfl rfl rfl rfl ?_
            refine .run rfl (yPickT rfl rfl) rfl rfl ?_
            refine .run rfl (yMove rfl) rfl rfl ?_
            refine .runG rfl (yMove rfl) rfl rfl rfl rfl ?_
            refine .runG rfl (yMove rfl) rfl rfl rfl rfl ?_
            refine .runG rfl (yShr rfl rfl rfl (by omega)) rfl rfl rfl rfl ?_
            refine .runG rfl (yAnd (b := 1) rfl rfl rfl (by have := Nat.div_le_self (sureN X) (2 ^ i); omega) (by have := Nat.div_le_self (sureN X) (2 ^ i); omega)) rfl rfl rfl rfl ?_
            refine .runG rfl (yvIs (c := (sureN X).testBit i) (yEql rfl rfl) (bit_dec _ _)) rfl rfl rfl rfl ?_
            refine .runG rfl (yLoadA (vs := [_, _]) rfl A24 (cOwn 6 rfl rfl)) rfl rfl rfl rfl ?_
            refine .runG rfl (yCall rfl (.c rfl (.c rfl .n)) C32 (fun w hw => inside_any _ _ _ w)) rfl rfl rfl rfl ?_
            refine .runG rfl (yNot rfl) rfl rfl rfl rfl ?_
            refine .runG rfl (yvTrue (yEqBool rfl rfl U4) (by
            cases hx : (sureN X).testBit i with
            | true => have := hbit.1 hx; rw [decide_eq_false this]; rfl
            | false => rw [decide_eq_true (Decidable.byContradiction fun h => by rw [hbit.2 h] at hx; cases hx)]; rfl)) rfl rfl rfl rfl ?_
            refine .run rfl (yPickT rfl rfl) rfl rfl ?_
            refine .run rfl (yMove rfl) rfl rfl ?_
            refine .runG rfl (yCall rfl .n C14 (fun w hw => awake_any w)) rfl rfl rfl rfl ?_
            refine .run rfl (yPickT rfl rfl) rfl rfl ?_
            refine .run rfl (yAssign rfl) rfl rfl ?_
            refine .done ?_
            refine effDone closedSt (hLeft [5, 15, 16, 21] (by kernel_rfl) (.c (fun _ _ hs => hs.ef) (.c (fun _ _ hs => hs.ef) (.c (fun _ _ hs => hs.ef) (.c (fun _ _ hs => hs.ef) .n))))) (by kernel_rfl) ?_
            refine kThen ?_
            refine kRet ?_
            refine fRet rfl (.t rfl .n) (endRet ?_)
            first | rfl | (simp [packV, *]; done)
        · rw [habitE_clash hM ho hir, habitE_clash hM ho hkr, betwE_clash hM ho hir hkr, betwE_clash hM ho hkr hir, betwE_clash hM ho hir hmr, betwE_clash hM ho hmr hkr, sureE_clash hM ho, codeW_clash hM ho]
          refine kRegion rfl ?_
          refine lV (yMove rfl) rfl rfl ?_
          refine lV (yNeq rfl rfl) rfl rfl ?_
          refine known (t := 113) rfl (by decide) ?_
          refine lNil ?_
          refine kThen ?_
          refine kIfT rfl ?_
          refine kSeq ?_
          refine kRegion rfl ?_
          refine lV (yMove rfl) rfl rfl ?_
          refine lV (yEql rfl rfl) rfl rfl ?_
          refine known (t := 115) rfl (rfl) ?_
          refine lV (yMove rfl) rfl rfl ?_
          refine lGY rfl rfl rfl (oV (yLoadA (vs := [_, _]) rfl A24 (cOwn 6 rfl rfl)) rfl ?_)
          refine lGY rfl rfl rfl (oV (yBuild .n (fun w => B24_ w)) rfl ?_)
          refine lGY rfl rfl rfl (oV (yEqAgg rfl rfl G24 (fun w => Q24 w)) rfl ?_)
          refine known (t := 119) rfl (⟨rfl, rfl⟩) ?_
          refine lV (yPickT rfl rfl) rfl rfl ?_
          refine lV (yMove rfl) rfl rfl ?_
          refine lGY rfl rfl rfl (oV (yLoadA (vs := [_, _]) rfl A24 (cOwn 4 rfl rfl)) rfl ?_)
          refine lGY rfl rfl rfl (oV (yLoadA (vs := [_, _]) rfl A24 (cOwn 6 rfl rfl)) rfl ?_)
          refine lGY rfl rfl rfl (oV (yEqAgg rfl rfl G24 (fun w => Q24 w)) rfl ?_)
          refine known (t := 124) rfl (⟨rfl, rfl⟩) ?_
          refine lV (yPickT rfl rfl) rfl rfl ?_
          refine lV (yMove rfl) rfl rfl ?_
          refine lGY rfl rfl rfl (oV (yMove rfl) rfl ?_)
          refine lGY rfl rfl rfl (oV (yEql rfl rfl) rfl ?_)
          refine known (t := 128) rfl (rfl) ?_
          refine lV (yPickT rfl rfl) rfl rfl ?_
          refine lV (yMove rfl) rfl rfl ?_
          refine lGY rfl rfl rfl (oV (yCall rfl .n C14 (fun w hw => awake_any w)) rfl ?_)
          refine lV (yPickT rfl rfl) rfl rfl ?_
          refine lV (yAssign rfl) rfl rfl ?_
          refine lNil ?_
          refine kThen ?_
          refine kRet ?_
          refine kThenR ?_
          refine fRet rfl (.t rfl .n) (endRet ?_)
          first | rfl | (simp [packV, *]; done)
end Go.Proofs.Ytiaaidcdoenloaa
