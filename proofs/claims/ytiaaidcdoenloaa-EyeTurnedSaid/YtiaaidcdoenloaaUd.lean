/-
  Walk: EyeExplain.
-/
import Derived.Test.YtiaaidcdoenloaaUc
namespace Go.Proofs.Ytiaaidcdoenloaa
open ZW

theorem explN_pow {X : Wat} (h : explN X ≤ allE X) : explN X < 2 ^ X.eyes.toNat := by
  have := Nat.two_pow_pos X.eyes.toNat
  unfold allE at h; omega
theorem bit_off (s i : Nat) (h : s.testBit i = false) : ((s / 2 ^ i &&& 1 : Nat) : Int) = 0 := by
  have h1 : ¬ ((s / 2 ^ i &&& 1 : Nat) : Int) = 1 := fun k => by rw [(bit_iff s i).1 k] at h; cases h
  have : s / 2 ^ i &&& 1 = s / 2 ^ i % 2 := Nat.and_one_is_mod _
  rw [this] at h1 ⊢
  omega
set_option maxHeartbeats 4000000 in
set_option maxRecDepth 100000 in
theorem explL_any (y : WLoc) (X : Wat) (b : Nat) (w : World) (hm : InW w y X) (hb : b < 256) : Calls Try.prog 9 [.agg (watC y X).toArray, .int .u8 (b : Nat)].toArray w (Ret w (.bool true)) := by
  refine fEnter Try.func9 rfl Try.ntmps9 rfl ?_
  refine kSeq ?_
  refine kRegion rfl ?_
  refine lE rfl ?_
  refine eBoxA rfl fun n2 => ?_
  refine lV (yAssign rfl) rfl rfl ?_
  refine lNil ?_
  refine kThen ?_
  refine kSeq ?_
  refine kSeq ?_
  refine kRegion rfl ?_
  refine lV (yLoadA (vs := [_, _, _, _, _, _, _, _]) rfl A29 (cOwn 0 rfl rfl)) rfl rfl ?_
  refine lV (yCall rfl (.c rfl (.c rfl .n)) C13 (fun w hw => farw_any y X 12 w (hm.eff hw))) rfl rfl ?_
  refine lV (yMove rfl) rfl rfl ?_
  refine splitB (t := 20) rfl (fun h20 => ?_) (fun h20 => ?_)
  · refine lGN rfl rfl rfl rfl rfl ?_
    refine lGN rfl rfl rfl rfl rfl ?_
    refine lGN rfl rfl rfl rfl rfl ?_
    refine lV (yPickT rfl rfl) rfl rfl ?_
    refine lNil ?_
    refine kThen ?_
    refine kIfT rfl ?_
    refine kSeq ?_
    refine kRegion rfl ?_
    refine lV (yCall rfl .n C14 (fun w hw => awake_any w)) rfl rfl ?_
    refine lV (yAssign rfl) rfl rfl ?_
    refine lNil ?_
    refine kThen ?_
    refine kRet ?_
    refine kThenR ?_
    refine fRet rfl (.t rfl .n) (endRet ?_)
    first | rfl | (simp [packV, *]; done)
  · have hG := of_decide_eq_false h20
    have hn : X.looks.length ≤ 1000000 := by unfold Far at hG; omega
    have hn2 : X.errs.length ≤ 1000000 := by unfold Far at hG; omega
    refine lGY rfl rfl rfl (oV (yLoadA (vs := [_, _, _, _, _, _, _, _]) rfl A29 (cOwn 0 rfl rfl)) rfl ?_)
    refine lGY rfl rfl rfl (oV (yCall rfl (.c rfl .n) C34 (fun w hw => watch_any y X w (hm.eff hw) hn hn2)) rfl ?_)
    refine lGY rfl rfl rfl (oV (yNot rfl) rfl ?_)
    refine lV (yPickF rfl rfl) rfl rfl ?_
    refine lNil ?_
    refine kThen ?_
    refine splitB (t := 24) rfl (fun h24 => ?_) (fun h24 => ?_)
    · refine kIfT rfl ?_
      refine kSeq ?_
      refine kRegion rfl ?_
      refine lV (yCall rfl .n C14 (fun w hw => awake_any w)) rfl rfl ?_
      refine lV (yAssign rfl) rfl rfl ?_
      refine lNil ?_
      refine kThen ?_
      refine kRet ?_
      refine kThenR ?_
      refine fRet rfl (.t rfl .n) (endRet ?_)
      first | rfl | (simp [packV, *]; done)
    · refine kIfF rfl ?_
      refine kSkip ?_
      refine kThen ?_
      refine kSeq ?_
      by_cases ho : okW X
      · have hM := notF h24
        have hN := hM.n
        have hE := hM.e
        have cf := expl_facts hM ho
        have cle := cf.le
        have hlt := allE_lt hM
        have hsl := sureN_lt X
        obtain ⟨e, he⟩ : ∃ e : Nat, X.eyes.toNat = e := ⟨_, rfl⟩
        have hE' : X.eyes = (e : Nat) := by omega
        have he0 : 0 < e ∧ e ≤ 4 := by omega
        have hpw := explN_pow cle
        rw [he] at hpw hsl
        have hp4 : 2 ^ e ≤ 2 ^ 4 := Nat.pow_le_pow_right (by omega) he0.2
        obtain ⟨m, hmm⟩ : ∃ m, b % e = m := ⟨_, rfl⟩
        have hml : m < e := hmm ▸ Nat.mod_lt _ he0.1
        have rf := rest_facts hM ho (m := m) (by omega)
        have hPW := partW_ok hM (restN X m X.looks.length)
        refine kRegion rfl ?_
        refine lV (yLoadA (vs := [_, _, _, _, _, _, _, _]) rfl A29 (cOwn 0 rfl rfl)) rfl rfl ?_
        refine lV (yCall rfl (.c rfl .n) C27 (fun w hw => expl_any y X w (hm.eff hw) hn)) rfl rfl ?_
        refine same (t := 28) (u := outI (((explN X : Nat) : Int), 0)) rfl (by rw [explE_N hM ho]) ?_
        refine lV (yMove rfl) rfl rfl ?_
        refine lV (yExtract rfl rfl) rfl rfl ?_
        refine lV (yExtract rfl rfl) rfl rfl ?_
        refine lV (yAssign rfl) rfl rfl ?_
        refine lV (yAssign rfl) rfl rfl ?_
        refine lNil ?_
        refine kThen ?_
        refine kSeq ?_
        refine kRegion rfl ?_
        refine lV (yLoadA (vs := [_, _, _, _, _, _, _, _]) rfl A29 (cOwn 0 rfl rfl)) rfl rfl ?_
        refine lV (yCall rfl (.c rfl .n) C21 (fun w hw => sure_any y X w (hm.eff hw) hn)) rfl rfl ?_
        refine same (t := 33) (u := outI (((sureN X : Nat) : Int), 0)) rfl (by rw [sureE_ok hM ho]) ?_
        refine lV (yMove rfl) rfl rfl ?_
        refine lV (yExtract rfl rfl) rfl rfl ?_
        refine lV (yExtract rfl rfl) rfl rfl ?_
        refine lV (yAssign rfl) rfl rfl ?_
        refine lV (yAssign rfl) rfl rfl ?_
        refine lNil ?_
        refine kThen ?_
        refine kSeq ?_
        refine kSeq ?_
        refine kRegion rfl ?_
        refine lV (yMove rfl) rfl rfl ?_
        refine lV (yMove rfl) rfl rfl ?_
        refine lV (yNeq rfl rfl) rfl rfl ?_
        refine knownN (t := 38) rfl (fun h => h rfl) ?_
        refine lNil ?_
        refine kThen ?_
        refine kIfF rfl ?_
        refine kSkip ?_
        refine kThen ?_
        refine kSeq ?_
        refine kSeq ?_
        refine kRegion rfl ?_
        refine lV (yMove rfl) rfl rfl ?_
        refine lV (yNeq rfl rfl) rfl rfl ?_
        refine knownN (t := 40) rfl (fun h => h rfl) ?_
        refine lNil ?_
        refine kThen ?_
        refine kIfF rfl ?_
        refine kSkip ?_
        refine kThen ?_
        refine kSeq ?_
        refine kRegion rfl ?_
        refine lV (yLoadA (vs := [_, _, _, _, _, _, _, _]) rfl A29 (cOwn 0 rfl rfl)) rfl rfl ?_
        refine lE rfl ?_
        refine eAlloc Z29 fun n9 => ?_
        refine lE rfl ?_
        refine eStoreL 0 rfl rfl rfl rfl K29 rfl (rfl) ?_
        refine lNil ?_
        refine kThen ?_
        refine kSeq ?_
        refine kRegion rfl ?_
        refine lV (yCall rfl (.c rfl (.c rfl .n)) C35 (fun w hw => spanL_any _ _ w)) rfl rfl ?_
        refine lV (yFieldAddr rfl F29_3) rfl rfl ?_
        refine lE rfl ?_
        refine eStoreL 0 rfl rfl rfl rfl K24 rfl (rfl) ?_
        refine lNil ?_
        refine kThen ?_
        refine kSeq ?_
        by_cases hnn : okW (noneW X)
        · refine kRegion rfl ?_
          refine lV (yLoadA (vs := [_, _, _, _, _, _, _, _]) rfl A29 (cOwn 0 rfl rfl)) rfl rfl ?_
          refine lV (yCall rfl (.c rfl (.c rfl .n)) C15 (fun w hw => habit_any y (noneW X) 0 w ⟨(hm.eff hw).e, (hm.eff hw).l⟩ hn)) rfl rfl ?_
          refine same (t := 59) (u := outC (habP (noneW X) 0, 0)) rfl (by rw [habitE_ok (noneW_ok hM) hnn (a := 0) ⟨by omega, by show 0 ≤ X.eyes - 1; omega⟩]; rfl) ?_
          refine lV (yMove rfl) rfl rfl ?_
          refine lV (yExtract rfl rfl) rfl rfl ?_
          refine lV (yExtract rfl rfl) rfl rfl ?_
          refine lE rfl ?_
          refine eAlloc Z24 fun n10 => ?_
          refine lE rfl ?_
          refine eStoreL 0 rfl rfl rfl rfl K24 rfl (rfl) ?_
          refine lV (yAssign rfl) rfl rfl ?_
          refine lNil ?_
          refine kThen ?_
          refine kSeq ?_
          refine kSeq ?_
          have hz := (noneW_expl hM ho).1 hnn
          refine kRegion rfl ?_
          refine lV (yMove rfl) rfl rfl ?_
          refine lV (yLss rfl rfl) rfl rfl ?_
          refine knownN (t := 63) rfl (by omega) ?_
          refine lV (yMove rfl) rfl rfl ?_
          refine lGY rfl rfl rfl (oV (yMove rfl) rfl ?_)
          refine lGY rfl rfl rfl (oV (yFieldAddr rfl F29_2) rfl ?_)
          refine lGY rfl rfl rfl (oV (yLoad1 rfl O3 (cOwn 2 rfl rfl)) rfl ?_)
          refine same (t := 67) (u := i64 ((e : Nat) : Int)) rfl (by rw [hE']) ?_
          refine lGY rfl rfl rfl (oV (yShr rfl rfl rfl (by omega)) rfl ?_)
          refine lGY rfl rfl rfl (oV (yNeq rfl rfl) rfl ?_)
          refine knownN (t := 69) rfl (by rw [Nat.div_eq_of_lt hpw]; decide) ?_
          refine lV (yPickF rfl rfl) rfl rfl ?_
          refine lV (yMove rfl) rfl rfl ?_
          refine lGY rfl rfl rfl (oV (yMove rfl) rfl ?_)
          refine lGY rfl rfl rfl (oV (yEql rfl rfl) rfl ?_)
          refine known (t := 73) rfl (by omega) ?_
          refine lGY rfl rfl rfl (oV (yMove rfl) rfl ?_)
          refine lGY rfl rfl rfl (oV (yEql rfl rfl) rfl ?_)
          refine known (t := 75) rfl (rfl) ?_
          refine lGY rfl rfl rfl (oV (yNeBool rfl rfl U4) rfl ?_)
          refine knownN (t := 76) rfl (by decide) ?_
          refine lV (yPickF rfl rfl) rfl rfl ?_
          refine lV (yMove rfl) rfl rfl ?_
          refine lGY rfl rfl rfl (oV (yMove rfl) rfl ?_)
          refine lGY rfl rfl rfl (oV (yMove rfl) rfl ?_)
          refine lGY rfl rfl rfl (oV (yAndNot rfl rfl rfl (by omega) (by omega)) rfl ?_)
          refine lGY rfl rfl rfl (oV (yNeq rfl rfl) rfl ?_)
          refine knownN (t := 82) rfl (by
          have : less (sureN X) (explN X) = 0 := Nat.eq_of_testBit_eq fun i => by
            rw [less_bit, Nat.zero_testBit]
            cases hs : (sureN X).testBit i with
            | false => rfl
            | true => rw [sure_expl hM ho hs cf.can]; rfl
          rw [this]; decide) ?_
          refine lV (yPickF rfl rfl) rfl rfl ?_
          refine lNil ?_
          refine kThen ?_
          refine kIfF rfl ?_
          refine kSkip ?_
          refine kThen ?_
          refine kSeq ?_
          refine kRegion rfl ?_
          refine lV (yMove rfl) rfl rfl ?_
          refine lV (yConvInt rfl U5 U3 (conv_ok (by omega))) rfl rfl ?_
          refine lV (yFieldAddr rfl F29_2) rfl rfl ?_
          refine lV (yLoad1 rfl O3 (cOwn 2 rfl rfl)) rfl rfl ?_
          refine lV (yRem rfl rfl (by omega) (by omega)) rfl rfl ?_
          refine same (t := 88) (u := i64 ((m : Nat) : Int)) rfl (congrArg i64 (by rw [← hmm, Int.natCast_emod, hE'])) ?_
          refine lV (yAssign rfl) rfl rfl ?_
          refine lNil ?_
          refine kThen ?_
          refine kSeq ?_
          refine kRegion rfl ?_
          refine lV (yAssign rfl) rfl rfl ?_
          refine lNil ?_
          refine kThen ?_
          refine kSeq ?_
          refine kSeq ?_
          refine kRegion rfl ?_
          refine lV (yFieldAddr rfl F29_4) rfl rfl ?_
          refine lV (yLoad1 rfl O27 (cOwn 2 rfl rfl)) rfl rfl ?_
          refine lV (yLen rfl S27) rfl rfl ?_
          refine lV (yMove rfl) rfl rfl ?_
          refine lNil ?_
          refine kThen ?_
          refine kBlock ?_
          refine kLoopX (ι := Nat × Nat) (fun x => x.1 ≤ X.looks.length ∧ x.2 = restN X m x.1) (fun x => [(92, i64 (x.1 : Nat)), (13, i64 (x.2 : Nat))]) [(0, _), (1, _), (2, _), (4, _), (18, _), (19, _), (20, _), (21, _), (22, _), (23, _), (24, _), (27, _), (28, _), (26, _), (29, _), (30, _), (5, _), (6, _), (32, _), (33, _), (31, _), (34, _), (35, _), (7, _), (8, _), (36, _), (37, _), (38, _), (39, _), (40, _), (54, _), (9, _), (55, _), (56, _), (58, _), (59, _), (57, _), (60, _), (61, _), (10, _), (11, _), (62, _), (63, _), (64, _), (65, _), (66, _), (67, _), (68, _), (69, _), (70, _), (71, _), (72, _), (73, _), (74, _), (75, _), (76, _), (77, _), (78, _), (79, _), (80, _), (81, _), (82, _), (83, _), (84, _), (85, _), (86, _), (87, _), (88, _), (12, _), (89, _), (90, _), (91, _)] (fun x => []) (fun x => []) [(n10, _), (n9, _), (n2, _)] (fun x => X.looks.length - x.1) (0, 0) (⟨Nat.zero_le _, rfl⟩) rfl (.c rfl (.c rfl .n)) (.c rfl (.c rfl (.c rfl (.c rfl (.c rfl (.c rfl (.c rfl (.c rfl (.c rfl (.c rfl (.c rfl (.c rfl (.c rfl (.c rfl (.c rfl (.c rfl (.c rfl (.c rfl (.c rfl (.c rfl (.c rfl (.c rfl (.c rfl (.c rfl (.c rfl (.c rfl (.c rfl (.c rfl (.c rfl (.c rfl (.c rfl (.c rfl (.c rfl (.c rfl (.c rfl (.c rfl (.c rfl (.c rfl (.c rfl (.c rfl (.c rfl (.c rfl (.c rfl (.c rfl (.c rfl (.c rfl (.c rfl (.c rfl (.c rfl (.c rfl (.c rfl (.c rfl (.c rfl (.c rfl (.c rfl (.c rfl (.c rfl (.c rfl (.c rfl (.c rfl (.c rfl (.c rfl (.c rfl (.c rfl (.c rfl (.c rfl (.c rfl (.c rfl (.c rfl (.c rfl (.c rfl (.c rfl .n)))))))))))))))))))))))))))))))))))))))))))))))))))))))))))))))))))))))) (.c 0 rfl (.c 0 rfl (.c 0 rfl .n))) ?_
          rintro ⟨k, s⟩ ⟨hk, hs⟩
          dsimp only at hk hs ⊢
          have hsl2 := restN_lt X m k
          rw [← hs] at hsl2
          have hp12 : 2 ^ k ≤ 2 ^ 12 := Nat.pow_le_pow_right (by omega) (by omega)
          refine kSeq ?_
          refine kRegion rfl ?_
          refine lV (yLss rfl rfl) rfl rfl ?_
          refine lNil ?_
          refine kThen ?_
          refine kSeq ?_
          refine split (t := 93) rfl (fun h93 => ?_) (fun h93 => ?_)
          · refine kIfT rfl ?_
            refine kSkip ?_
            refine kThen ?_
            refine kSeq ?_
            refine kBlock ?_
            refine kSeq ?_
            refine kRegion rfl ?_
            refine lV (yMove rfl) rfl rfl ?_
            refine lV (yIndexS  rfl rfl S27 (hm.l.r) ((by omega))) rfl rfl ?_
            refine lV (yLoadA (vs := [_, _, _]) rfl A47 (cSl0 (hm.l.r) ((by omega)) rfl)) rfl rfl ?_
            refine lE rfl ?_
            refine eAlloc Z47 fun n15 => ?_
            refine lV (yAssign rfl) rfl rfl ?_
            refine lE rfl ?_
            refine eStoreL 0 rfl rfl rfl rfl K47 rfl (rfl) ?_
            refine lNil ?_
            refine kThen ?_
            refine kSeq ?_
            refine kRegion rfl ?_
            refine lV (yFieldAddr rfl F47_0) rfl rfl ?_
            refine lV (yLoad1 rfl O3 (cOwn 0 rfl rfl)) rfl rfl ?_
            refine lV (yMove rfl) rfl rfl ?_
            refine lV (yNeq rfl rfl) rfl rfl ?_
            refine lNil ?_
            refine kThen ?_
            refine split (t := 100) rfl (fun h100 => ?_) (fun h100 => ?_)
            · refine kIfT rfl ?_
              refine kRegion rfl ?_
              refine lV (yMove rfl) rfl rfl ?_
              refine lV (yMove rfl) rfl rfl ?_
              refine lV (yShl (a := 1) rfl rfl rfl (by omega) (by omega)) rfl rfl ?_
              refine lV (yOr rfl rfl rfl (by omega) (by omega)) rfl rfl ?_
              refine lV (yAssign rfl) rfl rfl ?_
              refine lNil ?_
              refine kInN ?_
              refine kThen ?_
              refine kRegion rfl ?_
              refine lV (yAdd rfl rfl (by omega)) rfl rfl ?_
              refine lV (yMove rfl) rfl rfl ?_
              refine lNil ?_
              exact kRoundX (k + 1, s ||| 1 * 2 ^ k) (⟨by dsimp only; omega, by dsimp only; rw [restN_succ, if_pos h100, ← hs]⟩) (by dsimp only; omega) rfl (.c rfl (.c rfl .n)) (.c rfl (.c rfl (.c rfl (.c rfl (.c rfl (.c rfl (.c rfl (.c rfl (.c rfl (.c rfl (.c rfl (.c rfl (.c rfl (.c rfl (.c rfl (.c rfl (.c rfl (.c rfl (.c rfl (.c rfl (.c rfl (.c rfl (.c rfl (.c rfl (.c rfl (.c rfl (.c rfl (.c rfl (.c rfl (.c rfl (.c rfl (.c rfl (.c rfl (.c rfl (.c rfl (.c rfl (.c rfl (.c rfl (.c rfl (.c rfl (.c rfl (.c rfl (.c rfl (.c rfl (.c rfl (.c rfl (.c rfl (.c rfl (.c rfl (.c rfl (.c rfl (.c rfl (.c rfl (.c rfl (.c rfl (.c rfl (.c rfl (.c rfl (.c rfl (.c rfl (.c rfl (.c rfl (.c rfl (.c rfl (.c rfl (.c rfl (.c rfl (.c rfl (.c rfl (.c rfl (.c rfl (.c rfl .n)))))))))))))))))))))))))))))))))))))))))))))))))))))))))))))))))))))))) (.c 1 rfl (.c 1 rfl (.c 1 rfl .n)))
            · refine kIfF rfl ?_
              refine kSkip ?_
              refine kInN ?_
              refine kThen ?_
              refine kRegion rfl ?_
              refine lV (yAdd rfl rfl (by omega)) rfl rfl ?_
              refine lV (yMove rfl) rfl rfl ?_
              refine lNil ?_
              exact kRoundX (k + 1, s) (⟨by dsimp only; omega, by dsimp only; rw [restN_succ, if_neg h100, ← hs]⟩) (by dsimp only; omega) rfl (.c rfl (.c rfl .n)) (.c rfl (.c rfl (.c rfl (.c rfl (.c rfl (.c rfl (.c rfl (.c rfl (.c rfl (.c rfl (.c rfl (.c rfl (.c rfl (.c rfl (.c rfl (.c rfl (.c rfl (.c rfl (.c rfl (.c rfl (.c rfl (.c rfl (.c rfl (.c rfl (.c rfl (.c rfl (.c rfl (.c rfl (.c rfl (.c rfl (.c rfl (.c rfl (.c rfl (.c rfl (.c rfl (.c rfl (.c rfl (.c rfl (.c rfl (.c rfl (.c rfl (.c rfl (.c rfl (.c rfl (.c rfl (.c rfl (.c rfl (.c rfl (.c rfl (.c rfl (.c rfl (.c rfl (.c rfl (.c rfl (.c rfl (.c rfl (.c rfl (.c rfl (.c rfl (.c rfl (.c rfl (.c rfl (.c rfl (.c rfl (.c rfl (.c rfl (.c rfl (.c rfl (.c rfl (.c rfl (.c rfl (.c rfl .n)))))))))))))))))))))))))))))))))))))))))))))))))))))))))))))))))))))))) (.c 1 rfl (.c 1 rfl (.c 1 rfl .n)))
          · refine kIfF rfl ?_
            refine kExit ?_
            refine kThenX ?_
            refine kThenX ?_
            refine kInX ?_
            refine kThen ?_
            refine kSeq ?_
            obtain rfl : k = X.looks.length := by omega
            have hsr : s < 4096 := by omega
            refine kRegion rfl ?_
            refine lV (yLoadA (vs := [_, _, _, _, _, _, _, _]) rfl A29 (cOwn 2 rfl rfl)) rfl rfl ?_
            refine lV (yMove rfl) rfl rfl ?_
            refine lE rfl ?_
            refine eCallO rfl (.c rfl (.c rfl .n)) C37 (fun w hw => part_any y X s w (hm.eff hw) (by omega) (by omega)) fun g hg => ?_
            rw [hs] at hg ⊢
            have gf := expl_facts hPW rf.1
            have gle := gf.le
            have hlt2 : explN (partW X (restN X m X.looks.length)) ≤ allE X := gle
            have hrf : (explN (partW X (restN X m X.looks.length))).testBit m = false := rf.2.1
            have hrp : popc (explN (partW X (restN X m X.looks.length))) ≤ popc (explN X) := rf.2.2
            have hPN := hPW.n
            refine lV (yCall rfl (.c rfl .n) C27 (fun w hw => expl_any (locG y g) (partW X (restN X m X.looks.length)) w (hm.grow rfl hg hw (.d 0 (.d 0 (.d 0 .r)))) (by omega))) rfl rfl ?_
            refine same (t := 110) (u := outI (((explN (partW X (restN X m X.looks.length)) : Nat) : Int), 0)) rfl (by rw [explE_N hPW rf.1]) ?_
            refine lV (yMove rfl) rfl rfl ?_
            refine lV (yExtract rfl rfl) rfl rfl ?_
            refine lV (yExtract rfl rfl) rfl rfl ?_
            refine lV (yAssign rfl) rfl rfl ?_
            refine lV (yAssign rfl) rfl rfl ?_
            refine lNil ?_
            refine kThen ?_
            refine kSeq ?_
            refine kRegion rfl ?_
            refine lV (yMove rfl) rfl rfl ?_
            refine lV (yEql rfl rfl) rfl rfl ?_
            refine known (t := 114) rfl (rfl) ?_
            refine lV (yMove rfl) rfl rfl ?_
            refine lGY rfl rfl rfl (oV (yMove rfl) rfl ?_)
            refine lGY rfl rfl rfl (oV (yMove rfl) rfl ?_)
            refine lGY rfl rfl rfl (oV (yShr rfl rfl rfl (by omega)) rfl ?_)
            refine lGY rfl rfl rfl (oV (yAnd (b := 1) rfl rfl rfl (by have := Nat.div_le_self (explN (partW X (restN X m X.looks.length))) (2 ^ m); omega) (by have := Nat.div_le_self (explN (partW X (restN X m X.looks.length))) (2 ^ m); omega)) rfl ?_)
            refine lGY rfl rfl rfl (oV (yEql rfl rfl) rfl ?_)
            refine known (t := 120) rfl (bit_off _ _ hrf) ?_
            refine lV (yPickT rfl rfl) rfl rfl ?_
            refine lV (yMove rfl) rfl rfl ?_
            refine lGY rfl rfl rfl (oV (yMove rfl) rfl ?_)
            refine lGY rfl rfl rfl (oV (yCall rfl (.c rfl .n) C33 (fun w hw => rsize_any (explN (partW X (restN X m X.looks.length))) w (by omega))) rfl ?_)
            refine lGY rfl rfl rfl (oV (yMove rfl) rfl ?_)
            refine lGY rfl rfl rfl (oV (yCall rfl (.c rfl .n) C33 (fun w hw => rsize_any (explN X) w (by omega))) rfl ?_)
            refine lGY rfl rfl rfl (oV (yLeq rfl rfl) rfl ?_)
            refine known (t := 127) rfl (by omega) ?_
            refine lV (yPickT rfl rfl) rfl rfl ?_
            refine lV (yMove rfl) rfl rfl ?_
            refine lGY rfl rfl rfl (oV (yCall rfl .n C14 (fun w hw => awake_any w)) rfl ?_)
            refine lV (yPickT rfl rfl) rfl rfl ?_
            refine lV (yAssign rfl) rfl rfl ?_
            refine lNil ?_
            refine kThen ?_
            refine kRet ?_
            refine fRet rfl (.t rfl .n) (endRet ?_)
            first | rfl | (simp [packV, *]; done)
        · refine kRegion rfl ?_
          refine lV (yLoadA (vs := [_, _, _, _, _, _, _, _]) rfl A29 (cOwn 0 rfl rfl)) rfl rfl ?_
          refine lV (yCall rfl (.c rfl (.c rfl .n)) C15 (fun w hw => habit_any y (noneW X) 0 w ⟨(hm.eff hw).e, (hm.eff hw).l⟩ hn)) rfl rfl ?_
          refine same (t := 59) (u := outC ((0, 0), 10)) rfl (by rw [habitE_clash (noneW_ok hM) hnn (a := 0) ⟨by omega, by show 0 ≤ X.eyes - 1; omega⟩]) ?_
          refine lV (yMove rfl) rfl rfl ?_
          refine lV (yExtract rfl rfl) rfl rfl ?_
          refine lV (yExtract rfl rfl) rfl rfl ?_
          refine lE rfl ?_
          refine eAlloc Z24 fun n10 => ?_
          refine lE rfl ?_
          refine eStoreL 0 rfl rfl rfl rfl K24 rfl (rfl) ?_
          refine lV (yAssign rfl) rfl rfl ?_
          refine lNil ?_
          refine kThen ?_
          refine kSeq ?_
          refine kSeq ?_
          have hz : explN X ≠ 0 := fun h => hnn ((noneW_expl hM ho).2 h)
          refine kRegion rfl ?_
          refine lV (yMove rfl) rfl rfl ?_
          refine lV (yLss rfl rfl) rfl rfl ?_
          refine knownN (t := 63) rfl (by omega) ?_
          refine lV (yMove rfl) rfl rfl ?_
          refine lGY rfl rfl rfl (oV (yMove rfl) rfl ?_)
          refine lGY rfl rfl rfl (oV (yFieldAddr rfl F29_2) rfl ?_)
          refine lGY rfl rfl rfl (oV (yLoad1 rfl O3 (cOwn 2 rfl rfl)) rfl ?_)
          refine same (t := 67) (u := i64 ((e : Nat) : Int)) rfl (by rw [hE']) ?_
          refine lGY rfl rfl rfl (oV (yShr rfl rfl rfl (by omega)) rfl ?_)
          refine lGY rfl rfl rfl (oV (yNeq rfl rfl) rfl ?_)
          refine knownN (t := 69) rfl (by rw [Nat.div_eq_of_lt hpw]; decide) ?_
          refine lV (yPickF rfl rfl) rfl rfl ?_
          refine lV (yMove rfl) rfl rfl ?_
          refine lGY rfl rfl rfl (oV (yMove rfl) rfl ?_)
          refine lGY rfl rfl rfl (oV (yEql rfl rfl) rfl ?_)
          refine knownN (t := 73) rfl (by omega) ?_
          refine lGY rfl rfl rfl (oV (yMove rfl) rfl ?_)
          refine lGY rfl rfl rfl (oV (yEql rfl rfl) rfl ?_)
          refine knownN (t := 75) rfl (by decide) ?_
          refine lGY rfl rfl rfl (oV (yNeBool rfl rfl U4) rfl ?_)
          refine knownN (t := 76) rfl (by decide) ?_
          refine lV (yPickF rfl rfl) rfl rfl ?_
          refine lV (yMove rfl) rfl rfl ?_
          refine lGY rfl rfl rfl (oV (yMove rfl) rfl ?_)
          refine lGY rfl rfl rfl (oV (yMove rfl) rfl ?_)
          refine lGY rfl rfl rfl (oV (yAndNot rfl rfl rfl (by omega) (by omega)) rfl ?_)
          refine lGY rfl rfl rfl (oV (yNeq rfl rfl) rfl ?_)
          refine knownN (t := 82) rfl (by
          have : less (sureN X) (explN X) = 0 := Nat.eq_of_testBit_eq fun i => by
            rw [less_bit, Nat.zero_testBit]
            cases hs : (sureN X).testBit i with
            | false => rfl
            | true => rw [sure_expl hM ho hs cf.can]; rfl
          rw [this]; decide) ?_
          refine lV (yPickF rfl rfl) rfl rfl ?_
          refine lNil ?_
          refine kThen ?_
          refine kIfF rfl ?_
          refine kSkip ?_
          refine kThen ?_
          refine kSeq ?_
          refine kRegion rfl ?_
          refine lV (yMove rfl) rfl rfl ?_
          refine lV (yConvInt rfl U5 U3 (conv_ok (by omega))) rfl rfl ?_
          refine lV (yFieldAddr rfl F29_2) rfl rfl ?_
          refine lV (yLoad1 rfl O3 (cOwn 2 rfl rfl)) rfl rfl ?_
          refine lV (yRem rfl rfl (by omega) (by omega)) rfl rfl ?_
          refine same (t := 88) (u := i64 ((m : Nat) : Int)) rfl (congrArg i64 (by rw [← hmm, Int.natCast_emod, hE'])) ?_
          refine lV (yAssign rfl) rfl rfl ?_
          refine lNil ?_
          refine kThen ?_
          refine kSeq ?_
          refine kRegion rfl ?_
          refine lV (yAssign rfl) rfl rfl ?_
          refine lNil ?_
          refine kThen ?_
          refine kSeq ?_
          refine kSeq ?_
          refine kRegion rfl ?_
          refine lV (yFieldAddr rfl F29_4) rfl rfl ?_
          refine lV (yLoad1 rfl O27 (cOwn 2 rfl rfl)) rfl rfl ?_
          refine lV (yLen rfl S27) rfl rfl ?_
          refine lV (yMove rfl) rfl rfl ?_
          refine lNil ?_
          refine kThen ?_
          refine kBlock ?_
          refine kLoopX (ι := Nat × Nat) (fun x => x.1 ≤ X.looks.length ∧ x.2 = restN X m x.1) (fun x => [(92, i64 (x.1 : Nat)), (13, i64 (x.2 : Nat))]) [(0, _), (1, _), (2, _), (4, _), (18, _), (19, _), (20, _), (21, _), (22, _), (23, _), (24, _), (27, _), (28, _), (26, _), (29, _), (30, _), (5, _), (6, _), (32, _), (33, _), (31, _), (34, _), (35, _), (7, _), (8, _), (36, _), (37, _), (38, _), (39, _), (40, _), (54, _), (9, _), (55, _), (56, _), (58, _), (59, _), (57, _), (60, _), (61, _), (10, _), (11, _), (62, _), (63, _), (64, _), (65, _), (66, _), (67, _), (68, _), (69, _), (70, _), (71, _), (72, _), (73, _), (74, _), (75, _), (76, _), (77, _), (78, _), (79, _), (80, _), (81, _), (82, _), (83, _), (84, _), (85, _), (86, _), (87, _), (88, _), (12, _), (89, _), (90, _), (91, _)] (fun x => []) (fun x => []) [(n10, _), (n9, _), (n2, _)] (fun x => X.looks.length - x.1) (0, 0) (⟨Nat.zero_le _, rfl⟩) rfl (.c rfl (.c rfl .n)) (.c rfl (.c rfl (.c rfl (.c rfl (.c rfl (.c rfl (.c rfl (.c rfl (.c rfl (.c rfl (.c rfl (.c rfl (.c rfl (.c rfl (.c rfl (.c rfl (.c rfl (.c rfl (.c rfl (.c rfl (.c rfl (.c rfl (.c rfl (.c rfl (.c rfl (.c rfl (.c rfl (.c rfl (.c rfl (.c rfl (.c rfl (.c rfl (.c rfl (.c rfl (.c rfl (.c rfl (.c rfl (.c rfl (.c rfl (.c rfl (.c rfl (.c rfl (.c rfl (.c rfl (.c rfl (.c rfl (.c rfl (.c rfl (.c rfl (.c rfl (.c rfl (.c rfl (.c rfl (.c rfl (.c rfl (.c rfl (.c rfl (.c rfl (.c rfl (.c rfl (.c rfl (.c rfl (.c rfl (.c rfl (.c rfl (.c rfl (.c rfl (.c rfl (.c rfl (.c rfl (.c rfl (.c rfl .n)))))))))))))))))))))))))))))))))))))))))))))))))))))))))))))))))))))))) (.c 0 rfl (.c 0 rfl (.c 0 rfl .n))) ?_
          rintro ⟨k, s⟩ ⟨hk, hs⟩
          dsimp only at hk hs ⊢
          have hsl2 := restN_lt X m k
          rw [← hs] at hsl2
          have hp12 : 2 ^ k ≤ 2 ^ 12 := Nat.pow_le_pow_right (by omega) (by omega)
          refine kSeq ?_
          refine kRegion rfl ?_
          refine lV (yLss rfl rfl) rfl rfl ?_
          refine lNil ?_
          refine kThen ?_
          refine kSeq ?_
          refine split (t := 93) rfl (fun h93 => ?_) (fun h93 => ?_)
          · refine kIfT rfl ?_
            refine kSkip ?_
            refine kThen ?_
            refine kSeq ?_
            refine kBlock ?_
            refine kSeq ?_
            refine kRegion rfl ?_
            refine lV (yMove rfl) rfl rfl ?_
            refine lV (yIndexS  rfl rfl S27 (hm.l.r) ((by omega))) rfl rfl ?_
            refine lV (yLoadA (vs := [_, _, _]) rfl A47 (cSl0 (hm.l.r) ((by omega)) rfl)) rfl rfl ?_
            refine lE rfl ?_
            refine eAlloc Z47 fun n15 => ?_
            refine lV (yAssign rfl) rfl rfl ?_
            refine lE rfl ?_
            refine eStoreL 0 rfl rfl rfl rfl K47 rfl (rfl) ?_
            refine lNil ?_
            refine kThen ?_
            refine kSeq ?_
            refine kRegion rfl ?_
            refine lV (yFieldAddr rfl F47_0) rfl rfl ?_
            refine lV (yLoad1 rfl O3 (cOwn 0 rfl rfl)) rfl rfl ?_
            refine lV (yMove rfl) rfl rfl ?_
            refine lV (yNeq rfl rfl) rfl rfl ?_
            refine lNil ?_
            refine kThen ?_
            refine split (t := 100) rfl (fun h100 => ?_) (fun h100 => ?_)
            · refine kIfT rfl ?_
              refine kRegion rfl ?_
              refine lV (yMove rfl) rfl rfl ?_
              refine lV (yMove rfl) rfl rfl ?_
              refine lV (yShl (a := 1) rfl rfl rfl (by omega) (by omega)) rfl rfl ?_
              refine lV (yOr rfl rfl rfl (by omega) (by omega)) rfl rfl ?_
              refine lV (yAssign rfl) rfl rfl ?_
              refine lNil ?_
              refine kInN ?_
              refine kThen ?_
              refine kRegion rfl ?_
              refine lV (yAdd rfl rfl (by omega)) rfl rfl ?_
              refine lV (yMove rfl) rfl rfl ?_
              refine lNil ?_
              exact kRoundX (k + 1, s ||| 1 * 2 ^ k) (⟨by dsimp only; omega, by dsimp only; rw [restN_succ, if_pos h100, ← hs]⟩) (by dsimp only; omega) rfl (.c rfl (.c rfl .n)) (.c rfl (.c rfl (.c rfl (.c rfl (.c rfl (.c rfl (.c rfl (.c rfl (.c rfl (.c rfl (.c rfl (.c rfl (.c rfl (.c rfl (.c rfl (.c rfl (.c rfl (.c rfl (.c rfl (.c rfl (.c rfl (.c rfl (.c rfl (.c rfl (.c rfl (.c rfl (.c rfl (.c rfl (.c rfl (.c rfl (.c rfl (.c rfl (.c rfl (.c rfl (.c rfl (.c rfl (.c rfl (.c rfl (.c rfl (.c rfl (.c rfl (.c rfl (.c rfl (.c rfl (.c rfl (.c rfl (.c rfl (.c rfl (.c rfl (.c rfl (.c rfl (.c rfl (.c rfl (.c rfl (.c rfl (.c rfl (.c rfl (.c rfl (.c rfl (.c rfl (.c rfl (.c rfl (.c rfl (.c rfl (.c rfl (.c rfl (.c rfl (.c rfl (.c rfl (.c rfl (.c rfl (.c rfl .n)))))))))))))))))))))))))))))))))))))))))))))))))))))))))))))))))))))))) (.c 1 rfl (.c 1 rfl (.c 1 rfl .n)))
            · refine kIfF rfl ?_
              refine kSkip ?_
              refine kInN ?_
              refine kThen ?_
              refine kRegion rfl ?_
              refine lV (yAdd rfl rfl (by omega)) rfl rfl ?_
              refine lV (yMove rfl) rfl rfl ?_
              refine lNil ?_
              exact kRoundX (k + 1, s) (⟨by dsimp only; omega, by dsimp only; rw [restN_succ, if_neg h100, ← hs]⟩) (by dsimp only; omega) rfl (.c rfl (.c rfl .n)) (.c rfl (.c rfl (.c rfl (.c rfl (.c rfl (.c rfl (.c rfl (.c rfl (.c rfl (.c rfl (.c rfl (.c rfl (.c rfl (.c rfl (.c rfl (.c rfl (.c rfl (.c rfl (.c rfl (.c rfl (.c rfl (.c rfl (.c rfl (.c rfl (.c rfl (.c rfl (.c rfl (.c rfl (.c rfl (.c rfl (.c rfl (.c rfl (.c rfl (.c rfl (.c rfl (.c rfl (.c rfl (.c rfl (.c rfl (.c rfl (.c rfl (.c rfl (.c rfl (.c rfl (.c rfl (.c rfl (.c rfl (.c rfl (.c rfl (.c rfl (.c rfl (.c rfl (.c rfl (.c rfl (.c rfl (.c rfl (.c rfl (.c rfl (.c rfl (.c rfl (.c rfl (.c rfl (.c rfl (.c rfl (.c rfl (.c rfl (.c rfl (.c rfl (.c rfl (.c rfl (.c rfl (.c rfl .n)))))))))))))))))))))))))))))))))))))))))))))))))))))))))))))))))))))))) (.c 1 rfl (.c 1 rfl (.c 1 rfl .n)))
          · refine kIfF rfl ?_
            refine kExit ?_
            refine kThenX ?_
            refine kThenX ?_
            refine kInX ?_
            refine kThen ?_
            refine kSeq ?_
            obtain rfl : k = X.looks.length := by omega
            have hsr : s < 4096 := by omega
            refine kRegion rfl ?_
            refine lV (yLoadA (vs := [_, _, _, _, _, _, _, _]) rfl A29 (cOwn 2 rfl rfl)) rfl rfl ?_
            refine lV (yMove rfl) rfl rfl ?_
            refine lE rfl ?_
            refine eCallO rfl (.c rfl (.c rfl .n)) C37 (fun w hw => part_any y X s w (hm.eff hw) (by omega) (by omega)) fun g hg => ?_
            rw [hs] at hg ⊢
            have gf := expl_facts hPW rf.1
            have gle := gf.le
            have hlt2 : explN (partW X (restN X m X.looks.length)) ≤ allE X := gle
            have hrf : (explN (partW X (restN X m X.looks.length))).testBit m = false := rf.2.1
            have hrp : popc (explN (partW X (restN X m X.looks.length))) ≤ popc (explN X) := rf.2.2
            have hPN := hPW.n
            refine lV (yCall rfl (.c rfl .n) C27 (fun w hw => expl_any (locG y g) (partW X (restN X m X.looks.length)) w (hm.grow rfl hg hw (.d 0 (.d 0 (.d 0 .r)))) (by omega))) rfl rfl ?_
            refine same (t := 110) (u := outI (((explN (partW X (restN X m X.looks.length)) : Nat) : Int), 0)) rfl (by rw [explE_N hPW rf.1]) ?_
            refine lV (yMove rfl) rfl rfl ?_
            refine lV (yExtract rfl rfl) rfl rfl ?_
            refine lV (yExtract rfl rfl) rfl rfl ?_
            refine lV (yAssign rfl) rfl rfl ?_
            refine lV (yAssign rfl) rfl rfl ?_
            refine lNil ?_
            refine kThen ?_
            refine kSeq ?_
            refine kRegion rfl ?_
            refine lV (yMove rfl) rfl rfl ?_
            refine lV (yEql rfl rfl) rfl rfl ?_
            refine known (t := 114) rfl (rfl) ?_
            refine lV (yMove rfl) rfl rfl ?_
            refine lGY rfl rfl rfl (oV (yMove rfl) rfl ?_)
            refine lGY rfl rfl rfl (oV (yMove rfl) rfl ?_)
            refine lGY rfl rfl rfl (oV (yShr rfl rfl rfl (by omega)) rfl ?_)
            refine lGY rfl rfl rfl (oV (yAnd (b := 1) rfl rfl rfl (by have := Nat.div_le_self (explN (partW X (restN X m X.looks.length))) (2 ^ m); omega) (by have := Nat.div_le_self (explN (partW X (restN X m X.looks.length))) (2 ^ m); omega)) rfl ?_)
            refine lGY rfl rfl rfl (oV (yEql rfl rfl) rfl ?_)
            refine known (t := 120) rfl (bit_off _ _ hrf) ?_
            refine lV (yPickT rfl rfl) rfl rfl ?_
            refine lV (yMove rfl) rfl rfl ?_
            refine lGY rfl rfl rfl (oV (yMove rfl) rfl ?_)
            refine lGY rfl rfl rfl (oV (yCall rfl (.c rfl .n) C33 (fun w hw => rsize_any (explN (partW X (restN X m X.looks.length))) w (by omega))) rfl ?_)
            refine lGY rfl rfl rfl (oV (yMove rfl) rfl ?_)
            refine lGY rfl rfl rfl (oV (yCall rfl (.c rfl .n) C33 (fun w hw => rsize_any (explN X) w (by omega))) rfl ?_)
            refine lGY rfl rfl rfl (oV (yLeq rfl rfl) rfl ?_)
            refine known (t := 127) rfl (by omega) ?_
            refine lV (yPickT rfl rfl) rfl rfl ?_
            refine lV (yMove rfl) rfl rfl ?_
            refine lGY rfl rfl rfl (oV (yCall rfl .n C14 (fun w hw => awake_any w)) rfl ?_)
            refine lV (yPickT rfl rfl) rfl rfl ?_
            refine lV (yAssign rfl) rfl rfl ?_
            refine lNil ?_
            refine kThen ?_
            refine kRet ?_
            refine fRet rfl (.t rfl .n) (endRet ?_)
            first | rfl | (simp [packV, *]; done)
      · have hM := notF h24
        refine kRegion rfl ?_
        refine lV (yLoadA (vs := [_, _, _, _, _, _, _, _]) rfl A29 (cOwn 0 rfl rfl)) rfl rfl ?_
        refine lV (yCall rfl (.c rfl .n) C27 (fun w hw => expl_any y X w (hm.eff hw) hn)) rfl rfl ?_
        refine same (t := 28) (u := outI (0, 10)) rfl (by rw [explE_clash hM ho]) ?_
        refine lV (yMove rfl) rfl rfl ?_
        refine lV (yExtract rfl rfl) rfl rfl ?_
        refine lV (yExtract rfl rfl) rfl rfl ?_
        refine lV (yAssign rfl) rfl rfl ?_
        refine lV (yAssign rfl) rfl rfl ?_
        refine lNil ?_
        refine kThen ?_
        refine kSeq ?_
        refine kRegion rfl ?_
        refine lV (yLoadA (vs := [_, _, _, _, _, _, _, _]) rfl A29 (cOwn 0 rfl rfl)) rfl rfl ?_
        refine lV (yCall rfl (.c rfl .n) C21 (fun w hw => sure_any y X w (hm.eff hw) hn)) rfl rfl ?_
        refine same (t := 33) (u := outI (0, 10)) rfl (by rw [sureE_clash hM ho]) ?_
        refine lV (yMove rfl) rfl rfl ?_
        refine lV (yExtract rfl rfl) rfl rfl ?_
        refine lV (yExtract rfl rfl) rfl rfl ?_
        refine lV (yAssign rfl) rfl rfl ?_
        refine lV (yAssign rfl) rfl rfl ?_
        refine lNil ?_
        refine kThen ?_
        refine kSeq ?_
        refine kSeq ?_
        refine kRegion rfl ?_
        refine lV (yMove rfl) rfl rfl ?_
        refine lV (yMove rfl) rfl rfl ?_
        refine lV (yNeq rfl rfl) rfl rfl ?_
        refine knownN (t := 38) rfl (fun h => h rfl) ?_
        refine lNil ?_
        refine kThen ?_
        refine kIfF rfl ?_
        refine kSkip ?_
        refine kThen ?_
        refine kSeq ?_
        refine kSeq ?_
        refine kRegion rfl ?_
        refine lV (yMove rfl) rfl rfl ?_
        refine lV (yNeq rfl rfl) rfl rfl ?_
        refine known (t := 40) rfl (by decide) ?_
        refine lNil ?_
        refine kThen ?_
        refine kIfT rfl ?_
        refine kSeq ?_
        refine kRegion rfl ?_
        refine lV (yMove rfl) rfl rfl ?_
        refine lV (yEql rfl rfl) rfl rfl ?_
        refine known (t := 42) rfl (rfl) ?_
        refine lV (yMove rfl) rfl rfl ?_
        refine lGY rfl rfl rfl (oV (yMove rfl) rfl ?_)
        refine lGY rfl rfl rfl (oV (yEql rfl rfl) rfl ?_)
        refine known (t := 45) rfl (rfl) ?_
        refine lV (yPickT rfl rfl) rfl rfl ?_
        refine lV (yMove rfl) rfl rfl ?_
        refine lGY rfl rfl rfl (oV (yMove rfl) rfl ?_)
        refine lGY rfl rfl rfl (oV (yEql rfl rfl) rfl ?_)
        refine known (t := 49) rfl (rfl) ?_
        refine lV (yPickT rfl rfl) rfl rfl ?_
        refine lV (yMove rfl) rfl rfl ?_
        refine lGY rfl rfl rfl (oV (yCall rfl .n C14 (fun w hw => awake_any w)) rfl ?_)
        refine lV (yPickT rfl rfl) rfl rfl ?_
        refine lV (yAssign rfl) rfl rfl ?_
        refine lNil ?_
        refine kThen ?_
        refine kRet ?_
        refine kThenR ?_
        refine fRet rfl (.t rfl .n) (endRet ?_)
        first | rfl | (simp [packV, *]; done)
end Go.Proofs.Ytiaaidcdoenloaa
