/-
  Walks: a part of a watch; EyeClash.
-/
import Derived.Test.YtiaaidcdoenloaaUb
namespace Go.Proofs.Ytiaaidcdoenloaa
open ZW

abbrev locG (y : WLoc) (g : Own) : WLoc := ⟨y.ea, y.ec, osA g, osC g⟩
abbrev partC (y : WLoc) (X : Wat) (g : Own) (n : Nat) : List Value := [.slice y.ea X.errs.length y.ec, i64 X.eyeS.1, i64 X.eyeS.2, i64 X.images, i64 X.eyes, i64 X.habit.1, i64 X.habit.2, osV g n]
theorem InW.grow {w0 w : World} {y : WLoc} {X Y : Wat} {g : Own} {L : Heap} (hm : InW w0 y X) (he : Y.errs = X.errs) (hg : OS 3 g (Y.looks.map rowK)) (hw : Eff w0 [] L w) (hs : SubP (osL 47 g) L) : InW w (locG y g) Y :=
  ⟨he ▸ (hm.eff hw).e, OS.rowsE (f := rowK) look0 hg hw hs⟩
set_option maxRecDepth 100000 in
set_option maxHeartbeats 4000000 in
theorem part_any (y : WLoc) (X : Wat) (S : Nat) (w : World) (hm : InW w y X) (hS : S < 2 ^ 62) (hN : X.looks.length ≤ 60) : Calls Try.prog 37 [.agg (watC y X).toArray, i64 (S : Nat)].toArray w
    (RetX w (fun g : Own => OS 3 g ((partL X S X.looks.length).map rowK)) (fun g => .agg (watC (locG y g) (partW X S)).toArray) (fun _ => []) (fun g => osL 47 g)) := by
  refine fEnter Try.func37 rfl Try.ntmps37 rfl ?_
  refine kSeq ?_
  refine kRegion rfl ?_
  refine lE rfl ?_
  refine eBoxA rfl fun n2 => ?_
  refine lE rfl ?_
  refine eAlloc Z29 fun n4 => ?_
  refine lNil ?_
  refine kThen ?_
  refine kSeq ?_
  refine kRegion rfl ?_
  refine lV (yLoadA (vs := [_, _, _, _, _, _, _, _]) rfl A29 (cOwn 1 rfl rfl)) rfl rfl ?_
  refine lE rfl ?_
  refine eAlloc Z29 fun n5 => ?_
  refine lE rfl ?_
  refine eStoreL 0 rfl rfl rfl rfl K29 rfl (rfl) ?_
  refine lNil ?_
  refine kThen ?_
  refine kSeq ?_
  refine kRegion rfl ?_
  refine lV (yFieldAddr rfl F29_4) rfl rfl ?_
  refine lE rfl ?_
  refine eStoreL 0 rfl rfl rfl rfl K27 rfl (rfl) ?_
  refine lNil ?_
  refine kThen ?_
  refine kSeq ?_
  refine kSeq ?_
  refine kRegion rfl ?_
  refine lV (yFieldAddr rfl F29_4) rfl rfl ?_
  refine lV (yLoad1 rfl O27 (cOwn 2 rfl rfl)) rfl rfl ?_
  refine lV (yLen rfl S27) rfl rfl ?_
  refine lV (yMove rfl) rfl rfl ?_
  refine lNil ?_
  refine kThen ?_
  refine kBlock ?_
  refine kLoopX (ι := Nat × Own × List (Int × Int × Int)) (fun x => x.1 ≤ X.looks.length ∧ x.2.2 = partL X S x.1 ∧ OS 3 x.2.1 (x.2.2.map rowK)) (fun x => [(13, i64 (x.1 : Nat))]) [(0, _), (1, _), (2, _), (4, _), (8, _), (5, _), (9, _), (10, _), (11, _), (12, _)] (fun x => []) (fun x => ([(n5, blk (partC y X x.2.1 (x.2.2.map rowK).length) 29)] ++ osL 47 x.2.1)) [(n4, _), (n2, _)] (fun x => X.looks.length - x.1) (0, .e none, []) (⟨Nat.zero_le _, rfl, OS.empty⟩) rfl (.c rfl .n) (.c rfl (.c rfl (.c rfl (.c rfl (.c rfl (.c rfl (.c rfl (.c rfl (.c rfl (.c rfl .n)))))))))) (.c 1 rfl (.c 1 rfl (.c 0 rfl .n))) ?_
  rintro ⟨i, g, l⟩ ⟨hi, hl, hg⟩
  dsimp only at hi hl hg ⊢
  have hlen := partL_len X S i
  rw [← hl] at hlen
  refine kSeq ?_
  refine kRegion rfl ?_
  refine lV (yLss rfl rfl) rfl rfl ?_
  refine lNil ?_
  refine kThen ?_
  refine kSeq ?_
  refine split (t := 14) rfl (fun h14 => ?_) (fun h14 => ?_)
  · refine kIfT rfl ?_
    refine kSkip ?_
    refine kThen ?_
    refine kSeq ?_
    refine kBlock ?_
    refine kSeq ?_
    refine kRegion rfl ?_
    refine lV (yMove rfl) rfl rfl ?_
    refine lV (yIndexS  rfl rfl S27 (hm.l.r) ((by omega))) rfl rfl ?_
    refine lV (yLoadA (vs := [_, _, _]) rfl A47 (cSl0 (hm.l.r) ((by omega)) rfl)) rfl rfl ?_
    refine lE rfl ?_
    refine eAlloc Z47 fun n7 => ?_
    refine lV (yAssign rfl) rfl rfl ?_
    refine lE rfl ?_
    refine eStoreL 0 rfl rfl rfl rfl K47 rfl (rfl) ?_
    refine lNil ?_
    refine kThen ?_
    refine kSeq ?_
    refine kRegion rfl ?_
    refine lV (yMove rfl) rfl rfl ?_
    refine lV (yMove rfl) rfl rfl ?_
    refine lV (yShr rfl rfl rfl (by omega)) rfl rfl ?_
    refine lV (yAnd (b := 1) rfl rfl rfl (by have := Nat.div_le_self S (2 ^ i); omega) (by have := Nat.div_le_self S (2 ^ i); omega)) rfl rfl ?_
    refine lV (yEql rfl rfl) rfl rfl ?_
    refine lNil ?_
    refine kThen ?_
    refine split (t := 22) rfl (fun h22 => ?_) (fun h22 => ?_)
    · refine kIfT rfl ?_
      refine kRegion rfl ?_
      refine lV (yFieldAddr rfl F29_4) rfl rfl ?_
      refine lV (yLoad1 rfl O27 (cOwn 3 rfl rfl)) rfl rfl ?_
      refine lV (yLoadA (vs := [_, _, _]) rfl A47 (cOwn 0 rfl rfl)) rfl rfl ?_
      refine lE rfl ?_
      refine eBuildSlice (.c rfl .n) (fun w => BS27_1_0 w) fun n26 => ?_
      refine lE rfl ?_
      refine eAppend (gs := g) [(n26, _), (n7, _), (n4, _), (n2, _), (n5, _)] [rowK (lkAt X i)] AP27 rfl rfl .r hg rfl (rowsK_len [lkAt X i]) (SlN.own 0 rfl rfl) (rowsK_one [lkAt X i]) (by simp; omega) (by simp; omega) fun h hh => ?_
      refine same (t := 27) (u := osV h (List.map rowK (l ++ [lkAt X i])).length) rfl (by rw [List.map_append]; rfl) ?_
      refine lV (yFieldAddr rfl F29_4) rfl rfl ?_
      refine lE rfl ?_
      refine eStoreL 4 rfl rfl rfl rfl K27 rfl (rfl) ?_
      refine lNil ?_
      refine kInN ?_
      refine kThen ?_
      refine kRegion rfl ?_
      refine lV (yAdd rfl rfl (by omega)) rfl rfl ?_
      refine lV (yMove rfl) rfl rfl ?_
      refine lNil ?_
      exact kRoundX (i + 1, h, l ++ [lkAt X i]) (⟨by dsimp only; omega, by dsimp only; rw [partL_succ, if_pos ((bit_iff S i).1 h22), ← hl], by dsimp only; rw [List.map_append]; exact hh⟩) (by dsimp only; omega) rfl (.c rfl .n) (.c rfl (.c rfl (.c rfl (.c rfl (.c rfl (.c rfl (.c rfl (.c rfl (.c rfl (.c rfl .n)))))))))) (.c 2 rfl (.c 2 rfl (.c 2 rfl (.d 0 (.d 0 .r)))))
    · refine kIfF rfl ?_
      refine kSkip ?_
      refine kInN ?_
      refine kThen ?_
      refine kRegion rfl ?_
      refine lV (yAdd rfl rfl (by omega)) rfl rfl ?_
      refine lV (yMove rfl) rfl rfl ?_
      refine lNil ?_
      exact kRoundX (i + 1, g, l) (⟨by dsimp only; omega, by dsimp only; rw [partL_succ, if_neg fun hx => h22 ((bit_iff S i).2 hx), ← hl], hg⟩) (by dsimp only; omega) rfl (.c rfl .n) (.c rfl (.c rfl (.c rfl (.c rfl (.c rfl (.c rfl (.c rfl (.c rfl (.c rfl (.c rfl .n)))))))))) (.c 1 rfl (.c 1 rfl (.c 1 rfl (.d 0 .r))))
  · refine kIfF rfl ?_
    refine kExit ?_
    refine kThenX ?_
    refine kThenX ?_
    refine kInX ?_
    refine kThen ?_
    refine kSeq ?_
    refine kRegion rfl ?_
    refine lV (yLoadA (vs := [_, _, _, _, _, _, _, _]) rfl A29 (cOwn 2 rfl rfl)) rfl rfl ?_
    refine lE rfl ?_
    refine eStoreL 0 rfl rfl rfl rfl K29 rfl (rfl) ?_
    refine lNil ?_
    refine kThen ?_
    refine kRet ?_
    refine fRet rfl (.cA (us := [_, _, _, _, _, _, _, _]) rfl A29 (cOwn 0 rfl rfl) .n) ?_
    have hi' : i = X.looks.length := by omega
    have hl' : l = partL X S X.looks.length := by rw [hl, hi']
    have hlen : (l.map rowK).length = (partW X S).looks.length := by rw [hl', List.length_map]; rfl
    rw [hlen]
    exact endX g (hl' ▸ hg) rfl rfl (.d 0 (.d 0 (.d 0 .r)))
set_option maxRecDepth 100000 in
theorem canC_any (nb : Nat) (y : WLoc) (X : Wat) (S : Nat) (w : World) (hm : InW w y X) (hM : WatOk X) (hS : S < 2 ^ 62) (hb : w.heap[nb]? = some (blk (watC y X) 29)) :
    Calls Try.prog 36 [i64 (S : Nat), .pointer (some ⟨nb, 0, none⟩)].toArray w (Ret w (.bool (canB X S (allE X)))) := by
  have hN := hM.n
  have hP := (partW_ok hM S).n
  refine fEnter Try.func36 rfl Try.ntmps36 rfl ?_
  refine kSeq ?_
  refine kRegion rfl ?_
  refine lV (yAssign rfl) rfl rfl ?_
  refine lNil ?_
  refine kThen ?_
  refine kSeq ?_
  refine kRegion rfl ?_
  refine lV (yLoadA (vs := [_, _, _, _, _, _, _, _]) rfl A29 (cOldB (hb) rfl)) rfl rfl ?_
  refine lV (yMove rfl) rfl rfl ?_
  refine lE rfl ?_
  refine eCallO rfl (.c rfl (.c rfl .n)) C37 (fun w hw => part_any y X S w (hm.eff hw) hS (by omega)) fun g hg => ?_
  refine lV (yCall rfl (.c rfl (.c rfl .n)) C15 (fun w hw => habit_any (locG y g) (partW X S) 0 w (hm.grow rfl hg hw .r) (by omega))) rfl rfl ?_
  refine lV (yMove rfl) rfl rfl ?_
  refine lV (yExtract rfl rfl) rfl rfl ?_
  refine lV (yExtract rfl rfl) rfl rfl ?_
  refine lE rfl ?_
  refine eAlloc Z24 fun n4 => ?_
  refine lE rfl ?_
  refine eStoreL 0 rfl rfl rfl rfl K24 rfl (rfl) ?_
  refine lV (yAssign rfl) rfl rfl ?_
  refine lNil ?_
  refine kThen ?_
  refine kSeq ?_
  refine kRegion rfl ?_
  refine lV (yMove rfl) rfl rfl ?_
  refine lV (yEql rfl rfl) rfl rfl ?_
  refine lV (yAssign rfl) rfl rfl ?_
  refine lNil ?_
  refine kThen ?_
  refine kRet ?_
  refine fRet rfl (.t rfl .n) (endRet ?_)
  exact congrArg Value.bool (part_hab hM S)
theorem szStep {S f r n : Nat} (hf : f ≤ 13) (hr : r < 2 ^ f) (he : n + popF f r = popc S) (hn : n + f ≤ 13) (h : 0 < (r : Int)) :
    f - 1 ≤ 13 ∧ r / 2 < 2 ^ (f - 1) ∧ n + r % 2 + popF (f - 1) (r / 2) = popc S ∧ n + r % 2 + (f - 1) ≤ 13 := by
  cases f with
  | zero => simp at hr; omega
  | succ f =>
    rw [Nat.pow_succ] at hr
    simp only [popF, Nat.add_sub_cancel] at he ⊢
    have : r % 2 < 2 := Nat.mod_lt _ (by decide)
    exact ⟨by omega, by omega, by omega, by omega⟩
set_option maxRecDepth 100000 in
theorem rsize_any (S : Nat) (w : World) (hS : S < 8192) : Calls Try.prog 33 [i64 (S : Nat)].toArray w (Ret w (i64 (popc S : Nat))) := by
  refine fEnter Try.func33 rfl Try.ntmps33 rfl ?_
  refine kSeq ?_
  refine kRegion rfl ?_
  refine lV (yAssign rfl) rfl rfl ?_
  refine lNil ?_
  refine kThen ?_
  refine kSeq ?_
  refine kRegion rfl ?_
  refine lV (yAssign rfl) rfl rfl ?_
  refine lNil ?_
  refine kThen ?_
  refine kSeq ?_
  refine kBlock ?_
  refine kLoopX (ι := Nat × Nat × Nat) (fun x => x.1 ≤ 13 ∧ x.2.1 < 2 ^ x.1 ∧ x.2.2 + popF x.1 x.2.1 = popc S ∧ x.2.2 + x.1 ≤ 13) (fun x => [(0, i64 (x.2.1 : Nat)), (3, i64 (x.2.2 : Nat))]) [(2, _)] (fun x => []) (fun x => []) [] (fun x => x.2.1) (13, S, 0) (⟨Nat.le_refl _, hS, Nat.zero_add _, Nat.le_refl _⟩) rfl (.c rfl (.c rfl .n)) (.c rfl .n) .n ?_
  rintro ⟨f, r, n⟩ ⟨hf, hr, he, hn⟩
  dsimp only at hf hr he hn ⊢
  refine kSeq ?_
  refine kSeq ?_
  refine kRegion rfl ?_
  refine lV (yMove rfl) rfl rfl ?_
  refine lV (yGtr rfl rfl) rfl rfl ?_
  refine lNil ?_
  refine kThen ?_
  refine split (t := 5) rfl (fun h5 => ?_) (fun h5 => ?_)
  · refine kIfT rfl ?_
    refine kSkip ?_
    refine kThen ?_
    refine kBlock ?_
    refine kSeq ?_
    have hr13 : 2 ^ f ≤ 2 ^ 13 := Nat.pow_le_pow_right (by omega) hf
    refine kRegion rfl ?_
    refine lV (yMove rfl) rfl rfl ?_
    refine lV (yMove rfl) rfl rfl ?_
    refine lV (yRem rfl rfl (by omega) (by omega)) rfl rfl ?_
    refine lV (yAdd rfl rfl (by omega)) rfl rfl ?_
    refine same (t := 9) (u := i64 ((n + r % 2 : Nat) : Int)) rfl (by congr 1) ?_
    refine lV (yAssign rfl) rfl rfl ?_
    refine lNil ?_
    refine kThen ?_
    refine kRegion rfl ?_
    refine lV (yMove rfl) rfl rfl ?_
    refine lV (yQuo rfl rfl (by omega) (by omega) (by omega)) rfl rfl ?_
    refine same (t := 11) (u := i64 ((r / 2 : Nat) : Int)) rfl (by congr 1) ?_
    refine lV (yAssign rfl) rfl rfl ?_
    refine lNil ?_
    refine kInN ?_
    exact kRoundX (f - 1, r / 2, n + r % 2) (szStep hf hr he hn h5) (by dsimp only; omega) rfl (.c rfl (.c rfl .n)) (.c rfl .n) .n
  · refine kIfF rfl ?_
    refine kExit ?_
    refine kThenX ?_
    refine kThenX ?_
    refine kInX ?_
    refine kThen ?_
    refine kSeq ?_
    refine kRegion rfl ?_
    refine lV (yMove rfl) rfl rfl ?_
    refine lV (yAssign rfl) rfl rfl ?_
    refine lNil ?_
    refine kThen ?_
    refine kRet ?_
    refine fRet rfl (.t rfl .n) (endRet ?_)
    obtain rfl : r = 0 := by omega
    rw [popF_zero] at he
    rw [← he]
    rfl

set_option maxHeartbeats 4000000 in
set_option maxRecDepth 100000 in
theorem clashL_any (y : WLoc) (X : Wat) (b : Nat) (w : World) (hm : InW w y X) (hb : b < 65536) : Calls Try.prog 8 [.agg (watC y X).toArray, .int .u16 (b : Nat)].toArray w (Ret w (.bool true)) := by
  refine fEnter Try.func8 rfl Try.ntmps8 rfl ?_
  refine kSeq ?_
  refine kRegion rfl ?_
  refine lE rfl ?_
  refine eBoxA rfl fun n2 => ?_
  refine lV (yAssign rfl) rfl rfl ?_
  refine lNil ?_
  refine kThen ?_
  refine kSeq ?_
  refine kSeq ?_
  refine kRegion rfl ?_
  refine lV (yLoadA (vs := [_, _, _, _, _, _, _, _]) rfl A29 (cOwn 0 rfl rfl)) rfl rfl ?_
  refine lV (yCall rfl (.c rfl (.c rfl .n)) C13 (fun w hw => farw_any y X 9 w (hm.eff hw))) rfl rfl ?_
  refine lNil ?_
  refine kThen ?_
  refine splitB (t := 18) rfl (fun h18 => ?_) (fun h18 => ?_)
  · refine kIfT rfl ?_
    refine kSeq ?_
    refine kRegion rfl ?_
    refine lV (yCall rfl .n C14 (fun w hw => awake_any w)) rfl rfl ?_
    refine lV (yAssign rfl) rfl rfl ?_
    refine lNil ?_
    refine kThen ?_
    refine kRet ?_
    refine kThenR ?_
    refine fRet rfl (.t rfl .n) (endRet ?_)
    first | rfl | (simp [packV, *]; done)
  · have hG := of_decide_eq_false h18
    have hn : X.looks.length ≤ 1000000 := by unfold Far at hG; omega
    have hn2 : X.errs.length ≤ 1000000 := by unfold Far at hG; omega
    refine kIfF rfl ?_
    refine kSkip ?_
    refine kThen ?_
    refine kSeq ?_
    by_cases hM : WatOk X
    · refine kRegion rfl ?_
      refine lV (yLoadA (vs := [_, _, _, _, _, _, _, _]) rfl A29 (cOwn 0 rfl rfl)) rfl rfl ?_
      refine lV (yCall rfl (.c rfl .n) C23 (fun w hw => clash_any y X w (hm.eff hw) hn)) rfl rfl ?_
      refine same (t := 22) (u := outI (((clashN X : Nat) : Int), 0)) rfl (by rw [clashE_N hM]) ?_
      refine lV (yMove rfl) rfl rfl ?_
      refine lV (yExtract rfl rfl) rfl rfl ?_
      refine lV (yExtract rfl rfl) rfl rfl ?_
      refine lV (yAssign rfl) rfl rfl ?_
      refine lV (yAssign rfl) rfl rfl ?_
      refine lNil ?_
      refine kThen ?_
      refine kSeq ?_
      by_cases ho : okW X
      · have cf := set_facts hM
        have cle := cf.cle
        have dle := cf.dle
        have hF := allS_lt hM
        have hN := hM.n
        have hE := hM.e
        have hown : b &&& allS X ≤ allS X := Nat.and_le_right
        have hc0 : clashN X = 0 := cf.c0.1 ho
        have hd0 : dropN X = 0 := cf.d0.1 ho
        refine kRegion rfl ?_
        refine lV (yLoadA (vs := [_, _, _, _, _, _, _, _]) rfl A29 (cOwn 0 rfl rfl)) rfl rfl ?_
        refine lV (yCall rfl (.c rfl .n) C25 (fun w hw => drop_any y X w (hm.eff hw) hn)) rfl rfl ?_
        refine same (t := 27) (u := outI (((dropN X : Nat) : Int), 0)) rfl (by rw [dropE_N hM]) ?_
        refine lV (yMove rfl) rfl rfl ?_
        refine lV (yExtract rfl rfl) rfl rfl ?_
        refine lV (yExtract rfl rfl) rfl rfl ?_
        refine lV (yAssign rfl) rfl rfl ?_
        refine lV (yAssign rfl) rfl rfl ?_
        refine lNil ?_
        refine kThen ?_
        refine kSeq ?_
        refine kRegion rfl ?_
        refine lV (yLoadA (vs := [_, _, _, _, _, _, _, _]) rfl A29 (cOwn 0 rfl rfl)) rfl rfl ?_
        refine lV (yCall rfl (.c rfl (.c rfl .n)) C15 (fun w hw => habit_any y X 0 w (hm.eff hw) hn)) rfl rfl ?_
        refine same (t := 32) (u := outC (habP X 0, 0)) rfl (by rw [habitE_ok hM ho (a := 0) (by omega)]; rfl) ?_
        refine lV (yMove rfl) rfl rfl ?_
        refine lV (yExtract rfl rfl) rfl rfl ?_
        refine lV (yExtract rfl rfl) rfl rfl ?_
        refine lE rfl ?_
        refine eAlloc Z24 fun n9 => ?_
        refine lE rfl ?_
        refine eStoreL 0 rfl rfl rfl rfl K24 rfl (rfl) ?_
        refine lV (yAssign rfl) rfl rfl ?_
        refine lNil ?_
        refine kThen ?_
        refine kSeq ?_
        refine kSeq ?_
        refine kRegion rfl ?_
        refine lV (yMove rfl) rfl rfl ?_
        refine lV (yNeq rfl rfl) rfl rfl ?_
        refine knownN (t := 36) rfl (fun h => h rfl) ?_
        refine lV (yMove rfl) rfl rfl ?_
        refine lGY rfl rfl rfl (oV (yMove rfl) rfl ?_)
        refine lGY rfl rfl rfl (oV (yNeq rfl rfl) rfl ?_)
        refine knownN (t := 39) rfl (fun h => h rfl) ?_
        refine lV (yPickF rfl rfl) rfl rfl ?_
        refine lNil ?_
        refine kThen ?_
        refine kIfF rfl ?_
        refine kSkip ?_
        refine kThen ?_
        refine kSeq ?_
        refine kRegion rfl ?_
        refine lV (yFieldAddr rfl F29_4) rfl rfl ?_
        refine lV (yLoad1 rfl O27 (cOwn 1 rfl rfl)) rfl rfl ?_
        refine lV (yLen rfl S27) rfl rfl ?_
        refine lV (yAssign rfl) rfl rfl ?_
        refine lNil ?_
        refine kThen ?_
        refine kSeq ?_
        refine kSeq ?_
        refine kRegion rfl ?_
        refine lV (yLoadA (vs := [_, _, _, _, _, _, _, _]) rfl A29 (cOwn 1 rfl rfl)) rfl rfl ?_
        refine lV (yCall rfl (.c rfl .n) C34 (fun w hw => watch_any y X w (hm.eff hw) hn hn2)) rfl rfl ?_
        refine knownB (t := 73) (c := true) rfl (decide_eq_true hM) ?_
        refine lV (yNot rfl) rfl rfl ?_
        refine lV (yMove rfl) rfl rfl ?_
        refine lGY rfl rfl rfl (oV (yMove rfl) rfl ?_)
        refine lGY rfl rfl rfl (oV (yLss rfl rfl) rfl ?_)
        refine knownN (t := 77) rfl (by omega) ?_
        refine lV (yPickF rfl rfl) rfl rfl ?_
        refine lV (yMove rfl) rfl rfl ?_
        refine lGY rfl rfl rfl (oV (yMove rfl) rfl ?_)
        refine lGY rfl rfl rfl (oV (yLss rfl rfl) rfl ?_)
        refine knownN (t := 81) rfl (by omega) ?_
        refine lV (yPickF rfl rfl) rfl rfl ?_
        refine lV (yMove rfl) rfl rfl ?_
        refine lGY rfl rfl rfl (oV (yMove rfl) rfl ?_)
        refine lGY rfl rfl rfl (oV (yMove rfl) rfl ?_)
        refine lGY rfl rfl rfl (oV (yShr rfl rfl rfl (by omega)) rfl ?_)
        refine lGY rfl rfl rfl (oV (yNeq rfl rfl) rfl ?_)
        refine knownN (t := 87) rfl (by rw [Nat.div_eq_of_lt (allS_pow cle)]; decide) ?_
        refine lV (yPickF rfl rfl) rfl rfl ?_
        refine lV (yMove rfl) rfl rfl ?_
        refine lGY rfl rfl rfl (oV (yMove rfl) rfl ?_)
        refine lGY rfl rfl rfl (oV (yMove rfl) rfl ?_)
        refine lGY rfl rfl rfl (oV (yShr rfl rfl rfl (by omega)) rfl ?_)
        refine lGY rfl rfl rfl (oV (yNeq rfl rfl) rfl ?_)
        refine knownN (t := 93) rfl (by rw [Nat.div_eq_of_lt (allS_pow dle)]; decide) ?_
        refine lV (yPickF rfl rfl) rfl rfl ?_
        refine lV (yMove rfl) rfl rfl ?_
        refine lGY rfl rfl rfl (oV (yMove rfl) rfl ?_)
        refine lGY rfl rfl rfl (oV (yEql rfl rfl) rfl ?_)
        refine known (t := 97) rfl (by omega) ?_
        refine lGY rfl rfl rfl (oV (yMove rfl) rfl ?_)
        refine lGY rfl rfl rfl (oV (yEql rfl rfl) rfl ?_)
        refine known (t := 99) rfl (rfl) ?_
        refine lGY rfl rfl rfl (oV (yNeBool rfl rfl U4) rfl ?_)
        refine knownN (t := 100) rfl (by decide) ?_
        refine lV (yPickF rfl rfl) rfl rfl ?_
        refine lV (yMove rfl) rfl rfl ?_
        refine lGY rfl rfl rfl (oV (yMove rfl) rfl ?_)
        refine lGY rfl rfl rfl (oV (yEql rfl rfl) rfl ?_)
        refine known (t := 104) rfl (by omega) ?_
        refine lGY rfl rfl rfl (oV (yMove rfl) rfl ?_)
        refine lGY rfl rfl rfl (oV (yEql rfl rfl) rfl ?_)
        refine known (t := 106) rfl (by omega) ?_
        refine lGY rfl rfl rfl (oV (yNeBool rfl rfl U4) rfl ?_)
        refine knownN (t := 107) rfl (by decide) ?_
        refine lV (yPickF rfl rfl) rfl rfl ?_
        refine lV (yMove rfl) rfl rfl ?_
        refine lGY rfl rfl rfl (oV (yMove rfl) rfl ?_)
        refine lGY rfl rfl rfl (oV (yNeq rfl rfl) rfl ?_)
        refine knownN (t := 111) rfl (fun h => h rfl) ?_
        refine lGY rfl rfl rfl (oV (yMove rfl) rfl ?_)
        refine lGN rfl rfl rfl rfl rfl ?_
        refine lGN rfl rfl rfl rfl rfl ?_
        refine lGY rfl rfl rfl (oV (yPickF rfl rfl) rfl ?_)
        refine lV (yPickF rfl rfl) rfl rfl ?_
        refine lNil ?_
        refine kThen ?_
        refine kIfF rfl ?_
        refine kSkip ?_
        refine kThen ?_
        refine kSeq ?_
        refine kRegion rfl ?_
        refine lV (yMakeFunc .n (.c rfl .n)) rfl rfl ?_
        refine lV (yAssign rfl) rfl rfl ?_
        refine lNil ?_
        refine kThen ?_
        refine kSeq ?_
        have hpp : 1 * 2 ^ X.looks.length ≤ 2 ^ 12 := by rw [Nat.one_mul]; exact Nat.pow_le_pow_right (by omega) hN
        have hp := Nat.two_pow_pos X.looks.length
        refine kRegion rfl ?_
        refine lV (yMove rfl) rfl rfl ?_
        refine lV (yShl (a := 1) rfl rfl rfl (by omega) (by omega)) rfl rfl ?_
        refine lV (ySub rfl rfl (by omega)) rfl rfl ?_
        refine same (t := 120) (u := i64 ((allS X : Nat) : Int)) rfl (by unfold allS; congr 1; omega) ?_
        refine lV (yAssign rfl) rfl rfl ?_
        refine lNil ?_
        refine kThen ?_
        refine kSeq ?_
        refine kSeq ?_
        have hl1 := less_lt (a := allS X) (b := dropN X) (n := 12) (by omega)
        have hl2 := less_lt (a := allS X) (b := b &&& allS X) (n := 12) (by omega)
        refine kRegion rfl ?_
        refine lV (yMove rfl) rfl rfl ?_
        refine lV (yNeq rfl rfl) rfl rfl ?_
        refine knownN (t := 122) rfl (by omega) ?_
        refine lV (yMove rfl) rfl rfl ?_
        refine lGN rfl rfl rfl rfl rfl ?_
        refine lGN rfl rfl rfl rfl rfl ?_
        refine lGN rfl rfl rfl rfl rfl ?_
        refine lV (yPickF rfl rfl) rfl rfl ?_
        refine lV (yMove rfl) rfl rfl ?_
        refine lGY rfl rfl rfl (oV (yMove rfl) rfl ?_)
        refine lGY rfl rfl rfl (oV (yMove rfl) rfl ?_)
        refine lGY rfl rfl rfl (oV (yMove rfl) rfl ?_)
        refine lGY rfl rfl rfl (oV (yAndNot rfl rfl rfl (by omega) (by omega)) rfl ?_)
        refine lGY rfl rfl rfl (oV (yCall rfl (.c rfl .n) C36 (fun w hw => canC_any n2 y X (less (allS X) (dropN X)) w (hm.eff hw) hM (by omega) (hw.blkAt 1 rfl))) rfl ?_)
        refine knownB (t := 133) (c := true) rfl ((can_tru hM _ _).2 cf.dcan) ?_
        refine lGY rfl rfl rfl (oV (yNot rfl) rfl ?_)
        refine lV (yPickF rfl rfl) rfl rfl ?_
        refine lNil ?_
        refine kThen ?_
        refine kIfF rfl ?_
        refine kSkip ?_
        refine kThen ?_
        refine kSeq ?_
        refine kSeq ?_
        refine kRegion rfl ?_
        refine lV (yMove rfl) rfl rfl ?_
        refine lV (yMove rfl) rfl rfl ?_
        refine lNil ?_
        refine kThen ?_
        refine kBlock ?_
        refine kLoopX (ι := Nat) (fun i => i ≤ X.looks.length) (fun i => [(137, i64 (i : Nat))]) [(0, _), (1, _), (2, _), (17, _), (18, _), (21, _), (22, _), (20, _), (23, _), (24, _), (5, _), (6, _), (26, _), (27, _), (25, _), (28, _), (29, _), (7, _), (8, _), (31, _), (32, _), (30, _), (33, _), (34, _), (9, _), (10, _), (35, _), (36, _), (37, _), (38, _), (39, _), (40, _), (69, _), (70, _), (71, _), (11, _), (72, _), (73, _), (74, _), (75, _), (76, _), (77, _), (78, _), (79, _), (80, _), (81, _), (82, _), (83, _), (84, _), (85, _), (86, _), (87, _), (88, _), (89, _), (90, _), (91, _), (92, _), (93, _), (94, _), (95, _), (96, _), (97, _), (98, _), (99, _), (100, _), (101, _), (102, _), (103, _), (104, _), (105, _), (106, _), (107, _), (108, _), (109, _), (110, _), (111, _), (112, _), (115, _), (116, _), (117, _), (12, _), (118, _), (119, _), (120, _), (13, _), (121, _), (122, _), (123, _), (127, _), (128, _), (129, _), (130, _), (131, _), (132, _), (133, _), (134, _), (135, _), (136, _)] (fun i => []) (fun i => []) [(n9, _), (n2, _)] (fun i => X.looks.length - i) 0 (Nat.zero_le _) rfl (.c rfl .n) (.c rfl (.c rfl (.c rfl (.c rfl (.c rfl (.c rfl (.c rfl (.c rfl (.c rfl (.c rfl (.c rfl (.c rfl (.c rfl (.c rfl (.c rfl (.c rfl (.c rfl (.c rfl (.c rfl (.c rfl (.c rfl (.c rfl (.c rfl (.c rfl (.c rfl (.c rfl (.c rfl (.c rfl (.c rfl (.c rfl (.c rfl (.c rfl (.c rfl (.c rfl (.c rfl (.c rfl (.c rfl (.c rfl (.c rfl (.c rfl (.c rfl (.c rfl (.c rfl (.c rfl (.c rfl (.c rfl (.c rfl (.c rfl (.c rfl (.c rfl (.c rfl (.c rfl (.c rfl (.c rfl (.c rfl (.c rfl (.c rfl (.c rfl (.c rfl (.c rfl (.c rfl (.c rfl (.c rfl (.c rfl (.c rfl (.c rfl (.c rfl (.c rfl (.c rfl (.c rfl (.c rfl (.c rfl (.c rfl (.c rfl (.c rfl (.c rfl (.c rfl (.c rfl (.c rfl (.c rfl (.c rfl (.c rfl (.c rfl (.c rfl (.c rfl (.c rfl (.c rfl (.c rfl (.c rfl (.c rfl (.c rfl (.c rfl (.c rfl (.c rfl (.c rfl (.c rfl (.c rfl (.c rfl .n)))))))))))))))))))))))))))))))))))))))))))))))))))))))))))))))))))))))))))))))))))))))))))))))))) (.c 0 rfl (.c 0 rfl .n)) ?_
        rintro i hi
        have hpi : 1 * 2 ^ i ≤ 2 ^ 12 := by rw [Nat.one_mul]; exact Nat.pow_le_pow_right (by omega) (by omega)
        have hll := less_lt (a := clashN X) (b := 1 * 2 ^ i) (n := 12) (by omega)
        refine kSeq ?_
        refine kRegion rfl ?_
        refine lV (yLss rfl rfl) rfl rfl ?_
        refine lNil ?_
        refine kThen ?_
        refine kSeq ?_
        refine split (t := 138) rfl (fun h138 => ?_) (fun h138 => ?_)
        · refine kIfT rfl ?_
          refine kSkip ?_
          refine kThen ?_
          refine kSeq ?_
          refine kBlock ?_
          refine kSeq ?_
          refine kRegion rfl ?_
          refine lV (yMove rfl) rfl rfl ?_
          refine lV (yAssign rfl) rfl rfl ?_
          refine lNil ?_
          refine kThen ?_
          refine kSeq ?_
          refine kRegion rfl ?_
          refine lV (yMove rfl) rfl rfl ?_
          refine lV (yMove rfl) rfl rfl ?_
          refine lV (yShr rfl rfl rfl (by omega)) rfl rfl ?_
          refine lV (yAnd (b := 1) rfl rfl rfl (by have := Nat.div_le_self (clashN X) (2 ^ i); omega) (by have := Nat.div_le_self (clashN X) (2 ^ i); omega)) rfl rfl ?_
          refine lV (yEql rfl rfl) rfl rfl ?_
          refine lV (yMove rfl) rfl rfl ?_
          refine split (t := 145) rfl (fun h145 => ?_) (fun h145 => ?_)
          · refine lGY rfl rfl rfl (oV (yMove rfl) rfl ?_)
            refine lGY rfl rfl rfl (oV (yMove rfl) rfl ?_)
            refine lGY rfl rfl rfl (oV (yMove rfl) rfl ?_)
            refine lGY rfl rfl rfl (oV (yShl (a := 1) rfl rfl rfl (by omega) (by omega)) rfl ?_)
            refine lGY rfl rfl rfl (oV (yAndNot rfl rfl rfl (by omega) (by omega)) rfl ?_)
            refine lGY rfl rfl rfl (oV (yCall rfl (.c rfl .n) C36 (fun w hw => canC_any n2 y X (less (clashN X) (1 * 2 ^ i)) w (hm.eff hw) hM (by omega) (hw.blkAt 1 rfl))) rfl ?_)
            refine knownB (t := 151) (c := true) rfl (by
            have hbt := (bit_iff _ i).1 h145
            rw [Nat.one_mul]
            refine (can_tru hM _ _).2 (Classical.byContradiction fun h => ?_)
            have h1 := cf.cmin (less (clashN X) (2 ^ i)) (by have := (less_pow hbt).1; omega) h
            have h2 := popc_lt (by omega) hbt
            omega) ?_
            refine lGY rfl rfl rfl (oV (yNot rfl) rfl ?_)
            refine lV (yPickT rfl rfl) rfl rfl ?_
            refine lNil ?_
            refine kThen ?_
            refine kIfF rfl ?_
            refine kSkip ?_
            refine kInN ?_
            refine kThen ?_
            refine kRegion rfl ?_
            refine lV (yAdd rfl rfl (by omega)) rfl rfl ?_
            refine lV (yMove rfl) rfl rfl ?_
            refine lNil ?_
            exact kRoundX (i + 1) (by omega) (by omega) rfl (.c rfl .n) (.c rfl (.c rfl (.c rfl (.c rfl (.c rfl (.c rfl (.c rfl (.c rfl (.c rfl (.c rfl (.c rfl (.c rfl (.c rfl (.c rfl (.c rfl (.c rfl (.c rfl (.c rfl (.c rfl (.c rfl (.c rfl (.c rfl (.c rfl (.c rfl (.c rfl (.c rfl (.c rfl (.c rfl (.c rfl (.c rfl (.c rfl (.c rfl (.c rfl (.c rfl (.c rfl (.c rfl (.c rfl (.c rfl (.c rfl (.c rfl (.c rfl (.c rfl (.c rfl (.c rfl (.c rfl (.c rfl (.c rfl (.c rfl (.c rfl (.c rfl (.c rfl (.c rfl (.c rfl (.c rfl (.c rfl (.c rfl (.c rfl (.c rfl (.c rfl (.c rfl (.c rfl (.c rfl (.c rfl (.c rfl (.c rfl (.c rfl (.c rfl (.c rfl (.c rfl (.c rfl (.c rfl (.c rfl (.c rfl (.c rfl (.c rfl (.c rfl (.c rfl (.c rfl (.c rfl (.c rfl (.c rfl (.c rfl (.c rfl (.c rfl (.c rfl (.c rfl (.c rfl (.c rfl (.c rfl (.c rfl (.c rfl (.c rfl (.c rfl (.c rfl (.c rfl (.c rfl (.c rfl (.c rfl .n)))))))))))))))))))))))))))))))))))))))))))))))))))))))))))))))))))))))))))))))))))))))))))))))))) (.c 0 rfl (.c 0 rfl .n))
          · refine lGN rfl rfl rfl rfl rfl ?_
            refine lGN rfl rfl rfl rfl rfl ?_
            refine lGN rfl rfl rfl rfl rfl ?_
            refine lGN rfl rfl rfl rfl rfl ?_
            refine lGN rfl rfl rfl rfl rfl ?_
            refine lGN rfl rfl rfl rfl rfl ?_
            refine lGN rfl rfl rfl rfl rfl ?_
            refine lV (yPickF rfl rfl) rfl rfl ?_
            refine lNil ?_
            refine kThen ?_
            refine kIfF rfl ?_
            refine kSkip ?_
            refine kInN ?_
            refine kThen ?_
            refine kRegion rfl ?_
            refine lV (yAdd rfl rfl (by omega)) rfl rfl ?_
            refine lV (yMove rfl) rfl rfl ?_
            refine lNil ?_
            exact kRoundX (i + 1) (by omega) (by omega) rfl (.c rfl .n) (.c rfl (.c rfl (.c rfl (.c rfl (.c rfl (.c rfl (.c rfl (.c rfl (.c rfl (.c rfl (.c rfl (.c rfl (.c rfl (.c rfl (.c rfl (.c rfl (.c rfl (.c rfl (.c rfl (.c rfl (.c rfl (.c rfl (.c rfl (.c rfl (.c rfl (.c rfl (.c rfl (.c rfl (.c rfl (.c rfl (.c rfl (.c rfl (.c rfl (.c rfl (.c rfl (.c rfl (.c rfl (.c rfl (.c rfl (.c rfl (.c rfl (.c rfl (.c rfl (.c rfl (.c rfl (.c rfl (.c rfl (.c rfl (.c rfl (.c rfl (.c rfl (.c rfl (.c rfl (.c rfl (.c rfl (.c rfl (.c rfl (.c rfl (.c rfl (.c rfl (.c rfl (.c rfl (.c rfl (.c rfl (.c rfl (.c rfl (.c rfl (.c rfl (.c rfl (.c rfl (.c rfl (.c rfl (.c rfl (.c rfl (.c rfl (.c rfl (.c rfl (.c rfl (.c rfl (.c rfl (.c rfl (.c rfl (.c rfl (.c rfl (.c rfl (.c rfl (.c rfl (.c rfl (.c rfl (.c rfl (.c rfl (.c rfl (.c rfl (.c rfl (.c rfl (.c rfl (.c rfl (.c rfl .n)))))))))))))))))))))))))))))))))))))))))))))))))))))))))))))))))))))))))))))))))))))))))))))))))) (.c 0 rfl (.c 0 rfl .n))
        · refine kIfF rfl ?_
          refine kExit ?_
          refine kThenX ?_
          refine kThenX ?_
          refine kInX ?_
          refine kThen ?_
          refine kSeq ?_
          refine kRegion rfl ?_
          refine lV (yMove rfl) rfl rfl ?_
          refine lV (yConvInt rfl U54 U3 (conv_ok (by omega))) rfl rfl ?_
          refine lV (yMove rfl) rfl rfl ?_
          refine lV (yAnd rfl rfl rfl (by omega) (by omega)) rfl rfl ?_
          refine lV (yAssign rfl) rfl rfl ?_
          refine lNil ?_
          refine kThen ?_
          refine kSeq ?_
          refine kRegion rfl ?_
          refine lV (yAssign rfl) rfl rfl ?_
          refine lNil ?_
          refine kThen ?_
          refine kSeq ?_
          refine kSeq ?_
          refine kRegion rfl ?_
          refine lV (yMove rfl) rfl rfl ?_
          refine lV (yNeq rfl rfl) rfl rfl ?_
          refine lV (yMove rfl) rfl rfl ?_
          refine split (t := 161) rfl (fun h161 => ?_) (fun h161 => ?_)
          · refine lGY rfl rfl rfl (oV (yMove rfl) rfl ?_)
            refine lGY rfl rfl rfl (oV (yMove rfl) rfl ?_)
            refine lGY rfl rfl rfl (oV (yCall rfl (.c rfl .n) C36 (fun w hw => canC_any n2 y X (b &&& allS X) w (hm.eff hw) hM (by omega) (hw.blkAt 1 rfl))) rfl ?_)
            refine splitB (t := 164) rfl (fun h164 => ?_) (fun h164 => ?_)
            · refine lGY rfl rfl rfl (oV (yNot rfl) rfl ?_)
              refine lV (yPickT rfl rfl) rfl rfl ?_
              refine lV (yMove rfl) rfl rfl ?_
              refine lGN rfl rfl rfl rfl rfl ?_
              refine lGN rfl rfl rfl rfl rfl ?_
              refine lGN rfl rfl rfl rfl rfl ?_
              refine lGN rfl rfl rfl rfl rfl ?_
              refine lGN rfl rfl rfl rfl rfl ?_
              refine lGN rfl rfl rfl rfl rfl ?_
              refine lGN rfl rfl rfl rfl rfl ?_
              refine lGN rfl rfl rfl rfl rfl ?_
              refine lGU rfl rfl rfl rfl ?_
              refine lGU rfl rfl rfl rfl ?_
              refine lGU rfl rfl rfl rfl ?_
              refine lGU rfl rfl rfl rfl ?_
              refine lGU rfl rfl rfl rfl ?_
              refine lGU rfl rfl rfl rfl ?_
              refine lGU rfl rfl rfl rfl ?_
              refine lGU rfl rfl rfl rfl ?_
              refine lGU rfl rfl rfl rfl ?_
              refine lGU rfl rfl rfl rfl ?_
              refine lGU rfl rfl rfl rfl ?_
              refine lGU rfl rfl rfl rfl ?_
              refine lGN rfl rfl rfl rfl rfl ?_
              refine lV (yPickF rfl rfl) rfl rfl ?_
              refine lNil ?_
              refine kThen ?_
              refine kIfF rfl ?_
              refine kSkip ?_
              refine kThen ?_
              refine kSeq ?_
              refine kRegion rfl ?_
              refine lV (yMove rfl) rfl rfl ?_
              refine lV (yMove rfl) rfl rfl ?_
              refine lV (yMove rfl) rfl rfl ?_
              refine lV (yAndNot rfl rfl rfl (by omega) (by omega)) rfl rfl ?_
              refine lV (yCall rfl (.c rfl .n) C36 (fun w hw => canC_any n2 y X (less (allS X) (b &&& allS X)) w (hm.eff hw) hM (by omega) (hw.blkAt 1 rfl))) rfl rfl ?_
              refine splitB (t := 194) rfl (fun h194 => ?_) (fun h194 => ?_)
              · have hdm := cf.dmin _ hown ((can_tru hM _ _).1 h194)
                refine lV (yMove rfl) rfl rfl ?_
                refine lGY rfl rfl rfl (oV (yMove rfl) rfl ?_)
                refine lGY rfl rfl rfl (oV (yMove rfl) rfl ?_)
                refine lGY rfl rfl rfl (oV (yCall rfl (.c rfl .n) C33 (fun w hw => rsize_any (b &&& allS X) w (by omega))) rfl ?_)
                refine lGY rfl rfl rfl (oV (yMove rfl) rfl ?_)
                refine lGY rfl rfl rfl (oV (yMove rfl) rfl ?_)
                refine lGY rfl rfl rfl (oV (yCall rfl (.c rfl .n) C33 (fun w hw => rsize_any (dropN X) w (by omega))) rfl ?_)
                refine lGY rfl rfl rfl (oV (yLss rfl rfl) rfl ?_)
                refine knownN (t := 202) rfl (by omega) ?_
                refine lGY rfl rfl rfl (oV (yMove rfl) rfl ?_)
                refine lGY rfl rfl rfl (oV (yMove rfl) rfl ?_)
                refine lGY rfl rfl rfl (oV (yMove rfl) rfl ?_)
                refine lGY rfl rfl rfl (oV (yCall rfl (.c rfl .n) C33 (fun w hw => rsize_any (b &&& allS X) w (by omega))) rfl ?_)
                refine lGY rfl rfl rfl (oV (yMove rfl) rfl ?_)
                refine lGY rfl rfl rfl (oV (yMove rfl) rfl ?_)
                refine lGY rfl rfl rfl (oV (yCall rfl (.c rfl .n) C33 (fun w hw => rsize_any (dropN X) w (by omega))) rfl ?_)
                refine lGY rfl rfl rfl (oV (yEql rfl rfl) rfl ?_)
                refine split (t := 210) rfl (fun h210 => ?_) (fun h210 => ?_)
                · refine lGY rfl rfl rfl (oV (yMove rfl) rfl ?_)
                  refine lGY rfl rfl rfl (oV (yMove rfl) rfl ?_)
                  refine lGY rfl rfl rfl (oV (yMove rfl) rfl ?_)
                  refine lGY rfl rfl rfl (oV (yLss rfl rfl) rfl ?_)
                  refine knownN (t := 214) rfl (by omega) ?_
                  refine lGY rfl rfl rfl (oV (yPickT rfl rfl) rfl ?_)
                  refine lGY rfl rfl rfl (oV (yPickF rfl rfl) rfl ?_)
                  refine lV (yPickT rfl rfl) rfl rfl ?_
                  refine lV (yNot rfl) rfl rfl ?_
                  refine lV (yMove rfl) rfl rfl ?_
                  refine lGY rfl rfl rfl (oV (yCall rfl .n C14 (fun w hw => awake_any w)) rfl ?_)
                  refine lV (yPickT rfl rfl) rfl rfl ?_
                  refine lV (yAssign rfl) rfl rfl ?_
                  refine lNil ?_
                  refine kThen ?_
                  refine kRet ?_
                  refine fRet rfl (.t rfl .n) (endRet ?_)
                  first | rfl | (simp [packV, *]; done)
                · refine lGY rfl rfl rfl (oV (yMove rfl) rfl ?_)
                  refine lGN rfl rfl rfl rfl rfl ?_
                  refine lGN rfl rfl rfl rfl rfl ?_
                  refine lGN rfl rfl rfl rfl rfl ?_
                  refine lGY rfl rfl rfl (oV (yPickF rfl rfl) rfl ?_)
                  refine lGY rfl rfl rfl (oV (yPickF rfl rfl) rfl ?_)
                  refine lV (yPickT rfl rfl) rfl rfl ?_
                  refine lV (yNot rfl) rfl rfl ?_
                  refine lV (yMove rfl) rfl rfl ?_
                  refine lGY rfl rfl rfl (oV (yCall rfl .n C14 (fun w hw => awake_any w)) rfl ?_)
                  refine lV (yPickT rfl rfl) rfl rfl ?_
                  refine lV (yAssign rfl) rfl rfl ?_
                  refine lNil ?_
                  refine kThen ?_
                  refine kRet ?_
                  refine fRet rfl (.t rfl .n) (endRet ?_)
                  first | rfl | (simp [packV, *]; done)
              · refine lV (yMove rfl) rfl rfl ?_
                refine lGN rfl rfl rfl rfl rfl ?_
                refine lGN rfl rfl rfl rfl rfl ?_
                refine lGN rfl rfl rfl rfl rfl ?_
                refine lGN rfl rfl rfl rfl rfl ?_
                refine lGN rfl rfl rfl rfl rfl ?_
                refine lGN rfl rfl rfl rfl rfl ?_
                refine lGN rfl rfl rfl rfl rfl ?_
                refine lGN rfl rfl rfl rfl rfl ?_
                refine lGU rfl rfl rfl rfl ?_
                refine lGU rfl rfl rfl rfl ?_
                refine lGU rfl rfl rfl rfl ?_
                refine lGU rfl rfl rfl rfl ?_
                refine lGU rfl rfl rfl rfl ?_
                refine lGU rfl rfl rfl rfl ?_
                refine lGU rfl rfl rfl rfl ?_
                refine lGU rfl rfl rfl rfl ?_
                refine lGU rfl rfl rfl rfl ?_
                refine lGU rfl rfl rfl rfl ?_
                refine lGU rfl rfl rfl rfl ?_
                refine lGU rfl rfl rfl rfl ?_
                refine lGN rfl rfl rfl rfl rfl ?_
                refine lV (yPickF rfl rfl) rfl rfl ?_
                refine lV (yNot rfl) rfl rfl ?_
                refine lV (yMove rfl) rfl rfl ?_
                refine lGY rfl rfl rfl (oV (yCall rfl .n C14 (fun w hw => awake_any w)) rfl ?_)
                refine lV (yPickT rfl rfl) rfl rfl ?_
                refine lV (yAssign rfl) rfl rfl ?_
                refine lNil ?_
                refine kThen ?_
                refine kRet ?_
                refine fRet rfl (.t rfl .n) (endRet ?_)
                first | rfl | (simp [packV, *]; done)
            · have hcb := cf.cmin _ hown fun h => by rw [(can_tru hM _ _).2 h] at h164; cases h164
              refine lGY rfl rfl rfl (oV (yNot rfl) rfl ?_)
              refine lV (yPickT rfl rfl) rfl rfl ?_
              refine lV (yMove rfl) rfl rfl ?_
              refine lGY rfl rfl rfl (oV (yMove rfl) rfl ?_)
              refine lGY rfl rfl rfl (oV (yMove rfl) rfl ?_)
              refine lGY rfl rfl rfl (oV (yCall rfl (.c rfl .n) C33 (fun w hw => rsize_any (b &&& allS X) w (by omega))) rfl ?_)
              refine lGY rfl rfl rfl (oV (yMove rfl) rfl ?_)
              refine lGY rfl rfl rfl (oV (yMove rfl) rfl ?_)
              refine lGY rfl rfl rfl (oV (yCall rfl (.c rfl .n) C33 (fun w hw => rsize_any (clashN X) w (by omega))) rfl ?_)
              refine lGY rfl rfl rfl (oV (yLss rfl rfl) rfl ?_)
              refine knownN (t := 174) rfl (by omega) ?_
              refine lGY rfl rfl rfl (oV (yMove rfl) rfl ?_)
              refine lGY rfl rfl rfl (oV (yMove rfl) rfl ?_)
              refine lGY rfl rfl rfl (oV (yMove rfl) rfl ?_)
              refine lGY rfl rfl rfl (oV (yCall rfl (.c rfl .n) C33 (fun w hw => rsize_any (b &&& allS X) w (by omega))) rfl ?_)
              refine lGY rfl rfl rfl (oV (yMove rfl) rfl ?_)
              refine lGY rfl rfl rfl (oV (yMove rfl) rfl ?_)
              refine lGY rfl rfl rfl (oV (yCall rfl (.c rfl .n) C33 (fun w hw => rsize_any (clashN X) w (by omega))) rfl ?_)
              refine lGY rfl rfl rfl (oV (yEql rfl rfl) rfl ?_)
              refine split (t := 182) rfl (fun h182 => ?_) (fun h182 => ?_)
              · refine lGY rfl rfl rfl (oV (yMove rfl) rfl ?_)
                refine lGY rfl rfl rfl (oV (yMove rfl) rfl ?_)
                refine lGY rfl rfl rfl (oV (yMove rfl) rfl ?_)
                refine lGY rfl rfl rfl (oV (yLss rfl rfl) rfl ?_)
                refine knownN (t := 186) rfl (by omega) ?_
                refine lGY rfl rfl rfl (oV (yPickT rfl rfl) rfl ?_)
                refine lGY rfl rfl rfl (oV (yPickF rfl rfl) rfl ?_)
                refine lV (yPickT rfl rfl) rfl rfl ?_
                refine lNil ?_
                refine kThen ?_
                refine kIfF rfl ?_
                refine kSkip ?_
                refine kThen ?_
                refine kSeq ?_
                refine kRegion rfl ?_
                refine lV (yMove rfl) rfl rfl ?_
                refine lV (yMove rfl) rfl rfl ?_
                refine lV (yMove rfl) rfl rfl ?_
                refine lV (yAndNot rfl rfl rfl (by omega) (by omega)) rfl rfl ?_
                refine lV (yCall rfl (.c rfl .n) C36 (fun w hw => canC_any n2 y X (less (allS X) (b &&& allS X)) w (hm.eff hw) hM (by omega) (hw.blkAt 1 rfl))) rfl rfl ?_
                refine splitB (t := 194) rfl (fun h194 => ?_) (fun h194 => ?_)
                · have hdm := cf.dmin _ hown ((can_tru hM _ _).1 h194)
                  refine lV (yMove rfl) rfl rfl ?_
                  refine lGY rfl rfl rfl (oV (yMove rfl) rfl ?_)
                  refine lGY rfl rfl rfl (oV (yMove rfl) rfl ?_)
                  refine lGY rfl rfl rfl (oV (yCall rfl (.c rfl .n) C33 (fun w hw => rsize_any (b &&& allS X) w (by omega))) rfl ?_)
                  refine lGY rfl rfl rfl (oV (yMove rfl) rfl ?_)
                  refine lGY rfl rfl rfl (oV (yMove rfl) rfl ?_)
                  refine lGY rfl rfl rfl (oV (yCall rfl (.c rfl .n) C33 (fun w hw => rsize_any (dropN X) w (by omega))) rfl ?_)
                  refine lGY rfl rfl rfl (oV (yLss rfl rfl) rfl ?_)
                  refine knownN (t := 202) rfl (by omega) ?_
                  refine lGY rfl rfl rfl (oV (yMove rfl) rfl ?_)
                  refine lGY rfl rfl rfl (oV (yMove rfl) rfl ?_)
                  refine lGY rfl rfl rfl (oV (yMove rfl) rfl ?_)
                  refine lGY rfl rfl rfl (oV (yCall rfl (.c rfl .n) C33 (fun w hw => rsize_any (b &&& allS X) w (by omega))) rfl ?_)
                  refine lGY rfl rfl rfl (oV (yMove rfl) rfl ?_)
                  refine lGY rfl rfl rfl (oV (yMove rfl) rfl ?_)
                  refine lGY rfl rfl rfl (oV (yCall rfl (.c rfl .n) C33 (fun w hw => rsize_any (dropN X) w (by omega))) rfl ?_)
                  refine lGY rfl rfl rfl (oV (yEql rfl rfl) rfl ?_)
                  refine split (t := 210) rfl (fun h210 => ?_) (fun h210 => ?_)
                  · refine lGY rfl rfl rfl (oV (yMove rfl) rfl ?_)
                    refine lGY rfl rfl rfl (oV (yMove rfl) rfl ?_)
                    refine lGY rfl rfl rfl (oV (yMove rfl) rfl ?_)
                    refine lGY rfl rfl rfl (oV (yLss rfl rfl) rfl ?_)
                    refine knownN (t := 214) rfl (by omega) ?_
                    refine lGY rfl rfl rfl (oV (yPickT rfl rfl) rfl ?_)
                    refine lGY rfl rfl rfl (oV (yPickF rfl rfl) rfl ?_)
                    refine lV (yPickT rfl rfl) rfl rfl ?_
                    refine lV (yNot rfl) rfl rfl ?_
                    refine lV (yMove rfl) rfl rfl ?_
                    refine lGY rfl rfl rfl (oV (yCall rfl .n C14 (fun w hw => awake_any w)) rfl ?_)
                    refine lV (yPickT rfl rfl) rfl rfl ?_
                    refine lV (yAssign rfl) rfl rfl ?_
                    refine lNil ?_
                    refine kThen ?_
                    refine kRet ?_
                    refine fRet rfl (.t rfl .n) (endRet ?_)
                    first | rfl | (simp [packV, *]; done)
                  · refine lGY rfl rfl rfl (oV (yMove rfl) rfl ?_)
                    refine lGN rfl rfl rfl rfl rfl ?_
                    refine lGN rfl rfl rfl rfl rfl ?_
                    refine lGN rfl rfl rfl rfl rfl ?_
                    refine lGY rfl rfl rfl (oV (yPickF rfl rfl) rfl ?_)
                    refine lGY rfl rfl rfl (oV (yPickF rfl rfl) rfl ?_)
                    refine lV (yPickT rfl rfl) rfl rfl ?_
                    refine lV (yNot rfl) rfl rfl ?_
                    refine lV (yMove rfl) rfl rfl ?_
                    refine lGY rfl rfl rfl (oV (yCall rfl .n C14 (fun w hw => awake_any w)) rfl ?_)
                    refine lV (yPickT rfl rfl) rfl rfl ?_
                    refine lV (yAssign rfl) rfl rfl ?_
                    refine lNil ?_
                    refine kThen ?_
                    refine kRet ?_
                    refine fRet rfl (.t rfl .n) (endRet ?_)
                    first | rfl | (simp [packV, *]; done)
                · refine lV (yMove rfl) rfl rfl ?_
                  refine lGN rfl rfl rfl rfl rfl ?_
                  refine lGN rfl rfl rfl rfl rfl ?_
                  refine lGN rfl rfl rfl rfl rfl ?_
                  refine lGN rfl rfl rfl rfl rfl ?_
                  refine lGN rfl rfl rfl rfl rfl ?_
                  refine lGN rfl rfl rfl rfl rfl ?_
                  refine lGN rfl rfl rfl rfl rfl ?_
                  refine lGN rfl rfl rfl rfl rfl ?_
                  refine lGU rfl rfl rfl rfl ?_
                  refine lGU rfl rfl rfl rfl ?_
                  refine lGU rfl rfl rfl rfl ?_
                  refine lGU rfl rfl rfl rfl ?_
                  refine lGU rfl rfl rfl rfl ?_
                  refine lGU rfl rfl rfl rfl ?_
                  refine lGU rfl rfl rfl rfl ?_
                  refine lGU rfl rfl rfl rfl ?_
                  refine lGU rfl rfl rfl rfl ?_
                  refine lGU rfl rfl rfl rfl ?_
                  refine lGU rfl rfl rfl rfl ?_
                  refine lGU rfl rfl rfl rfl ?_
                  refine lGN rfl rfl rfl rfl rfl ?_
                  refine lV (yPickF rfl rfl) rfl rfl ?_
                  refine lV (yNot rfl) rfl rfl ?_
                  refine lV (yMove rfl) rfl rfl ?_
                  refine lGY rfl rfl rfl (oV (yCall rfl .n C14 (fun w hw => awake_any w)) rfl ?_)
                  refine lV (yPickT rfl rfl) rfl rfl ?_
                  refine lV (yAssign rfl) rfl rfl ?_
                  refine lNil ?_
                  refine kThen ?_
                  refine kRet ?_
                  refine fRet rfl (.t rfl .n) (endRet ?_)
                  first | rfl | (simp [packV, *]; done)
              · refine lGY rfl rfl rfl (oV (yMove rfl) rfl ?_)
                refine lGN rfl rfl rfl rfl rfl ?_
                refine lGN rfl rfl rfl rfl rfl ?_
                refine lGN rfl rfl rfl rfl rfl ?_
                refine lGY rfl rfl rfl (oV (yPickF rfl rfl) rfl ?_)
                refine lGY rfl rfl rfl (oV (yPickF rfl rfl) rfl ?_)
                refine lV (yPickT rfl rfl) rfl rfl ?_
                refine lNil ?_
                refine kThen ?_
                refine kIfF rfl ?_
                refine kSkip ?_
                refine kThen ?_
                refine kSeq ?_
                refine kRegion rfl ?_
                refine lV (yMove rfl) rfl rfl ?_
                refine lV (yMove rfl) rfl rfl ?_
                refine lV (yMove rfl) rfl rfl ?_
                refine lV (yAndNot rfl rfl rfl (by omega) (by omega)) rfl rfl ?_
                refine lV (yCall rfl (.c rfl .n) C36 (fun w hw => canC_any n2 y X (less (allS X) (b &&& allS X)) w (hm.eff hw) hM (by omega) (hw.blkAt 1 rfl))) rfl rfl ?_
                refine splitB (t := 194) rfl (fun h194 => ?_) (fun h194 => ?_)
                · have hdm := cf.dmin _ hown ((can_tru hM _ _).1 h194)
                  refine lV (yMove rfl) rfl rfl ?_
                  refine lGY rfl rfl rfl (oV (yMove rfl) rfl ?_)
                  refine lGY rfl rfl rfl (oV (yMove rfl) rfl ?_)
                  refine lGY rfl rfl rfl (oV (yCall rfl (.c rfl .n) C33 (fun w hw => rsize_any (b &&& allS X) w (by omega))) rfl ?_)
                  refine lGY rfl rfl rfl (oV (yMove rfl) rfl ?_)
                  refine lGY rfl rfl rfl (oV (yMove rfl) rfl ?_)
                  refine lGY rfl rfl rfl (oV (yCall rfl (.c rfl .n) C33 (fun w hw => rsize_any (dropN X) w (by omega))) rfl ?_)
                  refine lGY rfl rfl rfl (oV (yLss rfl rfl) rfl ?_)
                  refine knownN (t := 202) rfl (by omega) ?_
                  refine lGY rfl rfl rfl (oV (yMove rfl) rfl ?_)
                  refine lGY rfl rfl rfl (oV (yMove rfl) rfl ?_)
                  refine lGY rfl rfl rfl (oV (yMove rfl) rfl ?_)
                  refine lGY rfl rfl rfl (oV (yCall rfl (.c rfl .n) C33 (fun w hw => rsize_any (b &&& allS X) w (by omega))) rfl ?_)
                  refine lGY rfl rfl rfl (oV (yMove rfl) rfl ?_)
                  refine lGY rfl rfl rfl (oV (yMove rfl) rfl ?_)
                  refine lGY rfl rfl rfl (oV (yCall rfl (.c rfl .n) C33 (fun w hw => rsize_any (dropN X) w (by omega))) rfl ?_)
                  refine lGY rfl rfl rfl (oV (yEql rfl rfl) rfl ?_)
                  refine split (t := 210) rfl (fun h210 => ?_) (fun h210 => ?_)
                  · refine lGY rfl rfl rfl (oV (yMove rfl) rfl ?_)
                    refine lGY rfl rfl rfl (oV (yMove rfl) rfl ?_)
                    refine lGY rfl rfl rfl (oV (yMove rfl) rfl ?_)
                    refine lGY rfl rfl rfl (oV (yLss rfl rfl) rfl ?_)
                    refine knownN (t := 214) rfl (by omega) ?_
                    refine lGY rfl rfl rfl (oV (yPickT rfl rfl) rfl ?_)
                    refine lGY rfl rfl rfl (oV (yPickF rfl rfl) rfl ?_)
                    refine lV (yPickT rfl rfl) rfl rfl ?_
                    refine lV (yNot rfl) rfl rfl ?_
                    refine lV (yMove rfl) rfl rfl ?_
                    refine lGY rfl rfl rfl (oV (yCall rfl .n C14 (fun w hw => awake_any w)) rfl ?_)
                    refine lV (yPickT rfl rfl) rfl rfl ?_
                    refine lV (yAssign rfl) rfl rfl ?_
                    refine lNil ?_
                    refine kThen ?_
                    refine kRet ?_
                    refine fRet rfl (.t rfl .n) (endRet ?_)
                    first | rfl | (simp [packV, *]; done)
                  · refine lGY rfl rfl rfl (oV (yMove rfl) rfl ?_)
                    refine lGN rfl rfl rfl rfl rfl ?_
                    refine lGN rfl rfl rfl rfl rfl ?_
                    refine lGN rfl rfl rfl rfl rfl ?_
                    refine lGY rfl rfl rfl (oV (yPickF rfl rfl) rfl ?_)
                    refine lGY rfl rfl rfl (oV (yPickF rfl rfl) rfl ?_)
                    refine lV (yPickT rfl rfl) rfl rfl ?_
                    refine lV (yNot rfl) rfl rfl ?_
                    refine lV (yMove rfl) rfl rfl ?_
                    refine lGY rfl rfl rfl (oV (yCall rfl .n C14 (fun w hw => awake_any w)) rfl ?_)
                    refine lV (yPickT rfl rfl) rfl rfl ?_
                    refine lV (yAssign rfl) rfl rfl ?_
                    refine lNil ?_
                    refine kThen ?_
                    refine kRet ?_
                    refine fRet rfl (.t rfl .n) (endRet ?_)
                    first | rfl | (simp [packV, *]; done)
                · refine lV (yMove rfl) rfl rfl ?_
                  refine lGN rfl rfl rfl rfl rfl ?_
                  refine lGN rfl rfl rfl rfl rfl ?_
                  refine lGN rfl rfl rfl rfl rfl ?_
                  refine lGN rfl rfl rfl rfl rfl ?_
                  refine lGN rfl rfl rfl rfl rfl ?_
                  refine lGN rfl rfl rfl rfl rfl ?_
                  refine lGN rfl rfl rfl rfl rfl ?_
                  refine lGN rfl rfl rfl rfl rfl ?_
                  refine lGU rfl rfl rfl rfl ?_
                  refine lGU rfl rfl rfl rfl ?_
                  refine lGU rfl rfl rfl rfl ?_
                  refine lGU rfl rfl rfl rfl ?_
                  refine lGU rfl rfl rfl rfl ?_
                  refine lGU rfl rfl rfl rfl ?_
                  refine lGU rfl rfl rfl rfl ?_
                  refine lGU rfl rfl rfl rfl ?_
                  refine lGU rfl rfl rfl rfl ?_
                  refine lGU rfl rfl rfl rfl ?_
                  refine lGU rfl rfl rfl rfl ?_
                  refine lGU rfl rfl rfl rfl ?_
                  refine lGN rfl rfl rfl rfl rfl ?_
                  refine lV (yPickF rfl rfl) rfl rfl ?_
                  refine lV (yNot rfl) rfl rfl ?_
                  refine lV (yMove rfl) rfl rfl ?_
                  refine lGY rfl rfl rfl (oV (yCall rfl .n C14 (fun w hw => awake_any w)) rfl ?_)
                  refine lV (yPickT rfl rfl) rfl rfl ?_
                  refine lV (yAssign rfl) rfl rfl ?_
                  refine lNil ?_
                  refine kThen ?_
                  refine kRet ?_
                  refine fRet rfl (.t rfl .n) (endRet ?_)
                  first | rfl | (simp [packV, *]; done)
          · refine lGN rfl rfl rfl rfl rfl ?_
            refine lGN rfl rfl rfl rfl rfl ?_
            refine lGN rfl rfl rfl rfl rfl ?_
            refine lGN rfl rfl rfl rfl rfl ?_
            refine lV (yPickF rfl rfl) rfl rfl ?_
            refine lV (yMove rfl) rfl rfl ?_
            refine lGN rfl rfl rfl rfl rfl ?_
            refine lGN rfl rfl rfl rfl rfl ?_
            refine lGN rfl rfl rfl rfl rfl ?_
            refine lGN rfl rfl rfl rfl rfl ?_
            refine lGN rfl rfl rfl rfl rfl ?_
            refine lGN rfl rfl rfl rfl rfl ?_
            refine lGN rfl rfl rfl rfl rfl ?_
            refine lGN rfl rfl rfl rfl rfl ?_
            refine lGU rfl rfl rfl rfl ?_
            refine lGU rfl rfl rfl rfl ?_
            refine lGU rfl rfl rfl rfl ?_
            refine lGU rfl rfl rfl rfl ?_
            refine lGU rfl rfl rfl rfl ?_
            refine lGU rfl rfl rfl rfl ?_
            refine lGU rfl rfl rfl rfl ?_
            refine lGU rfl rfl rfl rfl ?_
            refine lGU rfl rfl rfl rfl ?_
            refine lGU rfl rfl rfl rfl ?_
            refine lGU rfl rfl rfl rfl ?_
            refine lGU rfl rfl rfl rfl ?_
            refine lGN rfl rfl rfl rfl rfl ?_
            refine lV (yPickF rfl rfl) rfl rfl ?_
            refine lNil ?_
            refine kThen ?_
            refine kIfF rfl ?_
            refine kSkip ?_
            refine kThen ?_
            refine kSeq ?_
            refine kRegion rfl ?_
            refine lV (yMove rfl) rfl rfl ?_
            refine lV (yMove rfl) rfl rfl ?_
            refine lV (yMove rfl) rfl rfl ?_
            refine lV (yAndNot rfl rfl rfl (by omega) (by omega)) rfl rfl ?_
            refine lV (yCall rfl (.c rfl .n) C36 (fun w hw => canC_any n2 y X (less (allS X) (b &&& allS X)) w (hm.eff hw) hM (by omega) (hw.blkAt 1 rfl))) rfl rfl ?_
            refine splitB (t := 194) rfl (fun h194 => ?_) (fun h194 => ?_)
            · have hdm := cf.dmin _ hown ((can_tru hM _ _).1 h194)
              refine lV (yMove rfl) rfl rfl ?_
              refine lGY rfl rfl rfl (oV (yMove rfl) rfl ?_)
              refine lGY rfl rfl rfl (oV (yMove rfl) rfl ?_)
              refine lGY rfl rfl rfl (oV (yCall rfl (.c rfl .n) C33 (fun w hw => rsize_any (b &&& allS X) w (by omega))) rfl ?_)
              refine lGY rfl rfl rfl (oV (yMove rfl) rfl ?_)
              refine lGY rfl rfl rfl (oV (yMove rfl) rfl ?_)
              refine lGY rfl rfl rfl (oV (yCall rfl (.c rfl .n) C33 (fun w hw => rsize_any (dropN X) w (by omega))) rfl ?_)
              refine lGY rfl rfl rfl (oV (yLss rfl rfl) rfl ?_)
              refine knownN (t := 202) rfl (by omega) ?_
              refine lGY rfl rfl rfl (oV (yMove rfl) rfl ?_)
              refine lGY rfl rfl rfl (oV (yMove rfl) rfl ?_)
              refine lGY rfl rfl rfl (oV (yMove rfl) rfl ?_)
              refine lGY rfl rfl rfl (oV (yCall rfl (.c rfl .n) C33 (fun w hw => rsize_any (b &&& allS X) w (by omega))) rfl ?_)
              refine lGY rfl rfl rfl (oV (yMove rfl) rfl ?_)
              refine lGY rfl rfl rfl (oV (yMove rfl) rfl ?_)
              refine lGY rfl rfl rfl (oV (yCall rfl (.c rfl .n) C33 (fun w hw => rsize_any (dropN X) w (by omega))) rfl ?_)
              refine lGY rfl rfl rfl (oV (yEql rfl rfl) rfl ?_)
              refine split (t := 210) rfl (fun h210 => ?_) (fun h210 => ?_)
              · refine lGY rfl rfl rfl (oV (yMove rfl) rfl ?_)
                refine lGY rfl rfl rfl (oV (yMove rfl) rfl ?_)
                refine lGY rfl rfl rfl (oV (yMove rfl) rfl ?_)
                refine lGY rfl rfl rfl (oV (yLss rfl rfl) rfl ?_)
                refine knownN (t := 214) rfl (by omega) ?_
                refine lGY rfl rfl rfl (oV (yPickT rfl rfl) rfl ?_)
                refine lGY rfl rfl rfl (oV (yPickF rfl rfl) rfl ?_)
                refine lV (yPickT rfl rfl) rfl rfl ?_
                refine lV (yNot rfl) rfl rfl ?_
                refine lV (yMove rfl) rfl rfl ?_
                refine lGY rfl rfl rfl (oV (yCall rfl .n C14 (fun w hw => awake_any w)) rfl ?_)
                refine lV (yPickT rfl rfl) rfl rfl ?_
                refine lV (yAssign rfl) rfl rfl ?_
                refine lNil ?_
                refine kThen ?_
                refine kRet ?_
                refine fRet rfl (.t rfl .n) (endRet ?_)
                first | rfl | (simp [packV, *]; done)
              · refine lGY rfl rfl rfl (oV (yMove rfl) rfl ?_)
                refine lGN rfl rfl rfl rfl rfl ?_
                refine lGN rfl rfl rfl rfl rfl ?_
                refine lGN rfl rfl rfl rfl rfl ?_
                refine lGY rfl rfl rfl (oV (yPickF rfl rfl) rfl ?_)
                refine lGY rfl rfl rfl (oV (yPickF rfl rfl) rfl ?_)
                refine lV (yPickT rfl rfl) rfl rfl ?_
                refine lV (yNot rfl) rfl rfl ?_
                refine lV (yMove rfl) rfl rfl ?_
                refine lGY rfl rfl rfl (oV (yCall rfl .n C14 (fun w hw => awake_any w)) rfl ?_)
                refine lV (yPickT rfl rfl) rfl rfl ?_
                refine lV (yAssign rfl) rfl rfl ?_
                refine lNil ?_
                refine kThen ?_
                refine kRet ?_
                refine fRet rfl (.t rfl .n) (endRet ?_)
                first | rfl | (simp [packV, *]; done)
            · refine lV (yMove rfl) rfl rfl ?_
              refine lGN rfl rfl rfl rfl rfl ?_
              refine lGN rfl rfl rfl rfl rfl ?_
              refine lGN rfl rfl rfl rfl rfl ?_
              refine lGN rfl rfl rfl rfl rfl ?_
              refine lGN rfl rfl rfl rfl rfl ?_
              refine lGN rfl rfl rfl rfl rfl ?_
              refine lGN rfl rfl rfl rfl rfl ?_
              refine lGN rfl rfl rfl rfl rfl ?_
              refine lGU rfl rfl rfl rfl ?_
              refine lGU rfl rfl rfl rfl ?_
              refine lGU rfl rfl rfl rfl ?_
              refine lGU rfl rfl rfl rfl ?_
              refine lGU rfl rfl rfl rfl ?_
              refine lGU rfl rfl rfl rfl ?_
              refine lGU rfl rfl rfl rfl ?_
              refine lGU rfl rfl rfl rfl ?_
              refine lGU rfl rfl rfl rfl ?_
              refine lGU rfl rfl rfl rfl ?_
              refine lGU rfl rfl rfl rfl ?_
              refine lGU rfl rfl rfl rfl ?_
              refine lGN rfl rfl rfl rfl rfl ?_
              refine lV (yPickF rfl rfl) rfl rfl ?_
              refine lV (yNot rfl) rfl rfl ?_
              refine lV (yMove rfl) rfl rfl ?_
              refine lGY rfl rfl rfl (oV (yCall rfl .n C14 (fun w hw => awake_any w)) rfl ?_)
              refine lV (yPickT rfl rfl) rfl rfl ?_
              refine lV (yAssign rfl) rfl rfl ?_
              refine lNil ?_
              refine kThen ?_
              refine kRet ?_
              refine fRet rfl (.t rfl .n) (endRet ?_)
              first | rfl | (simp [packV, *]; done)
      · have cf := set_facts hM
        have cle := cf.cle
        have dle := cf.dle
        have hF := allS_lt hM
        have hN := hM.n
        have hE := hM.e
        have hown : b &&& allS X ≤ allS X := Nat.and_le_right
        have hc0 : clashN X ≠ 0 := fun h => ho (cf.c0.2 h)
        have hd0 : dropN X ≠ 0 := fun h => ho (cf.d0.2 h)
        refine kRegion rfl ?_
        refine lV (yLoadA (vs := [_, _, _, _, _, _, _, _]) rfl A29 (cOwn 0 rfl rfl)) rfl rfl ?_
        refine lV (yCall rfl (.c rfl .n) C25 (fun w hw => drop_any y X w (hm.eff hw) hn)) rfl rfl ?_
        refine same (t := 27) (u := outI (((dropN X : Nat) : Int), 0)) rfl (by rw [dropE_N hM]) ?_
        refine lV (yMove rfl) rfl rfl ?_
        refine lV (yExtract rfl rfl) rfl rfl ?_
        refine lV (yExtract rfl rfl) rfl rfl ?_
        refine lV (yAssign rfl) rfl rfl ?_
        refine lV (yAssign rfl) rfl rfl ?_
        refine lNil ?_
        refine kThen ?_
        refine kSeq ?_
        refine kRegion rfl ?_
        refine lV (yLoadA (vs := [_, _, _, _, _, _, _, _]) rfl A29 (cOwn 0 rfl rfl)) rfl rfl ?_
        refine lV (yCall rfl (.c rfl (.c rfl .n)) C15 (fun w hw => habit_any y X 0 w (hm.eff hw) hn)) rfl rfl ?_
        refine same (t := 32) (u := outC ((0, 0), 10)) rfl (by rw [habitE_clash hM ho (a := 0) (by omega)]) ?_
        refine lV (yMove rfl) rfl rfl ?_
        refine lV (yExtract rfl rfl) rfl rfl ?_
        refine lV (yExtract rfl rfl) rfl rfl ?_
        refine lE rfl ?_
        refine eAlloc Z24 fun n9 => ?_
        refine lE rfl ?_
        refine eStoreL 0 rfl rfl rfl rfl K24 rfl (rfl) ?_
        refine lV (yAssign rfl) rfl rfl ?_
        refine lNil ?_
        refine kThen ?_
        refine kSeq ?_
        refine kSeq ?_
        refine kRegion rfl ?_
        refine lV (yMove rfl) rfl rfl ?_
        refine lV (yNeq rfl rfl) rfl rfl ?_
        refine knownN (t := 36) rfl (fun h => h rfl) ?_
        refine lV (yMove rfl) rfl rfl ?_
        refine lGY rfl rfl rfl (oV (yMove rfl) rfl ?_)
        refine lGY rfl rfl rfl (oV (yNeq rfl rfl) rfl ?_)
        refine knownN (t := 39) rfl (fun h => h rfl) ?_
        refine lV (yPickF rfl rfl) rfl rfl ?_
        refine lNil ?_
        refine kThen ?_
        refine kIfF rfl ?_
        refine kSkip ?_
        refine kThen ?_
        refine kSeq ?_
        refine kRegion rfl ?_
        refine lV (yFieldAddr rfl F29_4) rfl rfl ?_
        refine lV (yLoad1 rfl O27 (cOwn 1 rfl rfl)) rfl rfl ?_
        refine lV (yLen rfl S27) rfl rfl ?_
        refine lV (yAssign rfl) rfl rfl ?_
        refine lNil ?_
        refine kThen ?_
        refine kSeq ?_
        refine kSeq ?_
        refine kRegion rfl ?_
        refine lV (yLoadA (vs := [_, _, _, _, _, _, _, _]) rfl A29 (cOwn 1 rfl rfl)) rfl rfl ?_
        refine lV (yCall rfl (.c rfl .n) C34 (fun w hw => watch_any y X w (hm.eff hw) hn hn2)) rfl rfl ?_
        refine knownB (t := 73) (c := true) rfl (decide_eq_true hM) ?_
        refine lV (yNot rfl) rfl rfl ?_
        refine lV (yMove rfl) rfl rfl ?_
        refine lGY rfl rfl rfl (oV (yMove rfl) rfl ?_)
        refine lGY rfl rfl rfl (oV (yLss rfl rfl) rfl ?_)
        refine knownN (t := 77) rfl (by omega) ?_
        refine lV (yPickF rfl rfl) rfl rfl ?_
        refine lV (yMove rfl) rfl rfl ?_
        refine lGY rfl rfl rfl (oV (yMove rfl) rfl ?_)
        refine lGY rfl rfl rfl (oV (yLss rfl rfl) rfl ?_)
        refine knownN (t := 81) rfl (by omega) ?_
        refine lV (yPickF rfl rfl) rfl rfl ?_
        refine lV (yMove rfl) rfl rfl ?_
        refine lGY rfl rfl rfl (oV (yMove rfl) rfl ?_)
        refine lGY rfl rfl rfl (oV (yMove rfl) rfl ?_)
        refine lGY rfl rfl rfl (oV (yShr rfl rfl rfl (by omega)) rfl ?_)
        refine lGY rfl rfl rfl (oV (yNeq rfl rfl) rfl ?_)
        refine knownN (t := 87) rfl (by rw [Nat.div_eq_of_lt (allS_pow cle)]; decide) ?_
        refine lV (yPickF rfl rfl) rfl rfl ?_
        refine lV (yMove rfl) rfl rfl ?_
        refine lGY rfl rfl rfl (oV (yMove rfl) rfl ?_)
        refine lGY rfl rfl rfl (oV (yMove rfl) rfl ?_)
        refine lGY rfl rfl rfl (oV (yShr rfl rfl rfl (by omega)) rfl ?_)
        refine lGY rfl rfl rfl (oV (yNeq rfl rfl) rfl ?_)
        refine knownN (t := 93) rfl (by rw [Nat.div_eq_of_lt (allS_pow dle)]; decide) ?_
        refine lV (yPickF rfl rfl) rfl rfl ?_
        refine lV (yMove rfl) rfl rfl ?_
        refine lGY rfl rfl rfl (oV (yMove rfl) rfl ?_)
        refine lGY rfl rfl rfl (oV (yEql rfl rfl) rfl ?_)
        refine knownN (t := 97) rfl (by omega) ?_
        refine lGY rfl rfl rfl (oV (yMove rfl) rfl ?_)
        refine lGY rfl rfl rfl (oV (yEql rfl rfl) rfl ?_)
        refine knownN (t := 99) rfl (by decide) ?_
        refine lGY rfl rfl rfl (oV (yNeBool rfl rfl U4) rfl ?_)
        refine knownN (t := 100) rfl (by decide) ?_
        refine lV (yPickF rfl rfl) rfl rfl ?_
        refine lV (yMove rfl) rfl rfl ?_
        refine lGY rfl rfl rfl (oV (yMove rfl) rfl ?_)
        refine lGY rfl rfl rfl (oV (yEql rfl rfl) rfl ?_)
        refine knownN (t := 104) rfl (by omega) ?_
        refine lGY rfl rfl rfl (oV (yMove rfl) rfl ?_)
        refine lGY rfl rfl rfl (oV (yEql rfl rfl) rfl ?_)
        refine knownN (t := 106) rfl (by omega) ?_
        refine lGY rfl rfl rfl (oV (yNeBool rfl rfl U4) rfl ?_)
        refine knownN (t := 107) rfl (by decide) ?_
        refine lV (yPickF rfl rfl) rfl rfl ?_
        refine lV (yMove rfl) rfl rfl ?_
        refine lGY rfl rfl rfl (oV (yMove rfl) rfl ?_)
        refine lGY rfl rfl rfl (oV (yNeq rfl rfl) rfl ?_)
        refine known (t := 111) rfl (by decide) ?_
        refine lGY rfl rfl rfl (oV (yMove rfl) rfl ?_)
        refine lGY rfl rfl rfl (oV (yMove rfl) rfl ?_)
        refine lGY rfl rfl rfl (oV (yNeq rfl rfl) rfl ?_)
        refine knownN (t := 114) rfl (fun h => h rfl) ?_
        refine lGY rfl rfl rfl (oV (yPickT rfl rfl) rfl ?_)
        refine lV (yPickF rfl rfl) rfl rfl ?_
        refine lNil ?_
        refine kThen ?_
        refine kIfF rfl ?_
        refine kSkip ?_
        refine kThen ?_
        refine kSeq ?_
        refine kRegion rfl ?_
        refine lV (yMakeFunc .n (.c rfl .n)) rfl rfl ?_
        refine lV (yAssign rfl) rfl rfl ?_
        refine lNil ?_
        refine kThen ?_
        refine kSeq ?_
        have hpp : 1 * 2 ^ X.looks.length ≤ 2 ^ 12 := by rw [Nat.one_mul]; exact Nat.pow_le_pow_right (by omega) hN
        have hp := Nat.two_pow_pos X.looks.length
        refine kRegion rfl ?_
        refine lV (yMove rfl) rfl rfl ?_
        refine lV (yShl (a := 1) rfl rfl rfl (by omega) (by omega)) rfl rfl ?_
        refine lV (ySub rfl rfl (by omega)) rfl rfl ?_
        refine same (t := 120) (u := i64 ((allS X : Nat) : Int)) rfl (by unfold allS; congr 1; omega) ?_
        refine lV (yAssign rfl) rfl rfl ?_
        refine lNil ?_
        refine kThen ?_
        refine kSeq ?_
        refine kSeq ?_
        have hl1 := less_lt (a := allS X) (b := dropN X) (n := 12) (by omega)
        have hl2 := less_lt (a := allS X) (b := b &&& allS X) (n := 12) (by omega)
        refine kRegion rfl ?_
        refine lV (yMove rfl) rfl rfl ?_
        refine lV (yNeq rfl rfl) rfl rfl ?_
        refine known (t := 122) rfl (by omega) ?_
        refine lV (yMove rfl) rfl rfl ?_
        refine lGY rfl rfl rfl (oV (yMove rfl) rfl ?_)
        refine lGY rfl rfl rfl (oV (yMove rfl) rfl ?_)
        refine lGY rfl rfl rfl (oV (yCall rfl (.c rfl .n) C36 (fun w hw => canC_any n2 y X (clashN X) w (hm.eff hw) hM (by omega) (hw.blkAt 1 rfl))) rfl ?_)
        refine knownB (t := 126) (c := false) rfl (Bool.eq_false_iff.2 fun h => cf.cbad ho ((can_tru hM _ _).1 h)) ?_
        refine lV (yPickT rfl rfl) rfl rfl ?_
        refine lV (yMove rfl) rfl rfl ?_
        refine lGY rfl rfl rfl (oV (yMove rfl) rfl ?_)
        refine lGY rfl rfl rfl (oV (yMove rfl) rfl ?_)
        refine lGY rfl rfl rfl (oV (yMove rfl) rfl ?_)
        refine lGY rfl rfl rfl (oV (yAndNot rfl rfl rfl (by omega) (by omega)) rfl ?_)
        refine lGY rfl rfl rfl (oV (yCall rfl (.c rfl .n) C36 (fun w hw => canC_any n2 y X (less (allS X) (dropN X)) w (hm.eff hw) hM (by omega) (hw.blkAt 1 rfl))) rfl ?_)
        refine knownB (t := 133) (c := true) rfl ((can_tru hM _ _).2 cf.dcan) ?_
        refine lGY rfl rfl rfl (oV (yNot rfl) rfl ?_)
        refine lV (yPickF rfl rfl) rfl rfl ?_
        refine lNil ?_
        refine kThen ?_
        refine kIfF rfl ?_
        refine kSkip ?_
        refine kThen ?_
        refine kSeq ?_
        refine kSeq ?_
        refine kRegion rfl ?_
        refine lV (yMove rfl) rfl rfl ?_
        refine lV (yMove rfl) rfl rfl ?_
        refine lNil ?_
        refine kThen ?_
        refine kBlock ?_
        refine kLoopX (ι := Nat) (fun i => i ≤ X.looks.length) (fun i => [(137, i64 (i : Nat))]) [(0, _), (1, _), (2, _), (17, _), (18, _), (21, _), (22, _), (20, _), (23, _), (24, _), (5, _), (6, _), (26, _), (27, _), (25, _), (28, _), (29, _), (7, _), (8, _), (31, _), (32, _), (30, _), (33, _), (34, _), (9, _), (10, _), (35, _), (36, _), (37, _), (38, _), (39, _), (40, _), (69, _), (70, _), (71, _), (11, _), (72, _), (73, _), (74, _), (75, _), (76, _), (77, _), (78, _), (79, _), (80, _), (81, _), (82, _), (83, _), (84, _), (85, _), (86, _), (87, _), (88, _), (89, _), (90, _), (91, _), (92, _), (93, _), (94, _), (95, _), (96, _), (97, _), (98, _), (99, _), (100, _), (101, _), (102, _), (103, _), (104, _), (105, _), (106, _), (107, _), (108, _), (109, _), (110, _), (111, _), (112, _), (113, _), (114, _), (115, _), (116, _), (117, _), (12, _), (118, _), (119, _), (120, _), (13, _), (121, _), (122, _), (123, _), (124, _), (125, _), (126, _), (127, _), (128, _), (129, _), (130, _), (131, _), (132, _), (133, _), (134, _), (135, _), (136, _)] (fun i => []) (fun i => []) [(n9, _), (n2, _)] (fun i => X.looks.length - i) 0 (Nat.zero_le _) rfl (.c rfl .n) (.c rfl (.c rfl (.c rfl (.c rfl (.c rfl (.c rfl (.c rfl (.c rfl (.c rfl (.c rfl (.c rfl (.c rfl (.c rfl (.c rfl (.c rfl (.c rfl (.c rfl (.c rfl (.c rfl (.c rfl (.c rfl (.c rfl (.c rfl (.c rfl (.c rfl (.c rfl (.c rfl (.c rfl (.c rfl (.c rfl (.c rfl (.c rfl (.c rfl (.c rfl (.c rfl (.c rfl (.c rfl (.c rfl (.c rfl (.c rfl (.c rfl (.c rfl (.c rfl (.c rfl (.c rfl (.c rfl (.c rfl (.c rfl (.c rfl (.c rfl (.c rfl (.c rfl (.c rfl (.c rfl (.c rfl (.c rfl (.c rfl (.c rfl (.c rfl (.c rfl (.c rfl (.c rfl (.c rfl (.c rfl (.c rfl (.c rfl (.c rfl (.c rfl (.c rfl (.c rfl (.c rfl (.c rfl (.c rfl (.c rfl (.c rfl (.c rfl (.c rfl (.c rfl (.c rfl (.c rfl (.c rfl (.c rfl (.c rfl (.c rfl (.c rfl (.c rfl (.c rfl (.c rfl (.c rfl (.c rfl (.c rfl (.c rfl (.c rfl (.c rfl (.c rfl (.c rfl (.c rfl (.c rfl (.c rfl (.c rfl (.c rfl (.c rfl (.c rfl .n))))))))))))))))))))))))))))))))))))))))))))))))))))))))))))))))))))))))))))))))))))))))))))))))))))))) (.c 0 rfl (.c 0 rfl .n)) ?_
        rintro i hi
        have hpi : 1 * 2 ^ i ≤ 2 ^ 12 := by rw [Nat.one_mul]; exact Nat.pow_le_pow_right (by omega) (by omega)
        have hll := less_lt (a := clashN X) (b := 1 * 2 ^ i) (n := 12) (by omega)
        refine kSeq ?_
        refine kRegion rfl ?_
        refine lV (yLss rfl rfl) rfl rfl ?_
        refine lNil ?_
        refine kThen ?_
        refine kSeq ?_
        refine split (t := 138) rfl (fun h138 => ?_) (fun h138 => ?_)
        · refine kIfT rfl ?_
          refine kSkip ?_
          refine kThen ?_
          refine kSeq ?_
          refine kBlock ?_
          refine kSeq ?_
          refine kRegion rfl ?_
          refine lV (yMove rfl) rfl rfl ?_
          refine lV (yAssign rfl) rfl rfl ?_
          refine lNil ?_
          refine kThen ?_
          refine kSeq ?_
          refine kRegion rfl ?_
          refine lV (yMove rfl) rfl rfl ?_
          refine lV (yMove rfl) rfl rfl ?_
          refine lV (yShr rfl rfl rfl (by omega)) rfl rfl ?_
          refine lV (yAnd (b := 1) rfl rfl rfl (by have := Nat.div_le_self (clashN X) (2 ^ i); omega) (by have := Nat.div_le_self (clashN X) (2 ^ i); omega)) rfl rfl ?_
          refine lV (yEql rfl rfl) rfl rfl ?_
          refine lV (yMove rfl) rfl rfl ?_
          refine split (t := 145) rfl (fun h145 => ?_) (fun h145 => ?_)
          · refine lGY rfl rfl rfl (oV (yMove rfl) rfl ?_)
            refine lGY rfl rfl rfl (oV (yMove rfl) rfl ?_)
            refine lGY rfl rfl rfl (oV (yMove rfl) rfl ?_)
            refine lGY rfl rfl rfl (oV (yShl (a := 1) rfl rfl rfl (by omega) (by omega)) rfl ?_)
            refine lGY rfl rfl rfl (oV (yAndNot rfl rfl rfl (by omega) (by omega)) rfl ?_)
            refine lGY rfl rfl rfl (oV (yCall rfl (.c rfl .n) C36 (fun w hw => canC_any n2 y X (less (clashN X) (1 * 2 ^ i)) w (hm.eff hw) hM (by omega) (hw.blkAt 1 rfl))) rfl ?_)
            refine knownB (t := 151) (c := true) rfl (by
            have hbt := (bit_iff _ i).1 h145
            rw [Nat.one_mul]
            refine (can_tru hM _ _).2 (Classical.byContradiction fun h => ?_)
            have h1 := cf.cmin (less (clashN X) (2 ^ i)) (by have := (less_pow hbt).1; omega) h
            have h2 := popc_lt (by omega) hbt
            omega) ?_
            refine lGY rfl rfl rfl (oV (yNot rfl) rfl ?_)
            refine lV (yPickT rfl rfl) rfl rfl ?_
            refine lNil ?_
            refine kThen ?_
            refine kIfF rfl ?_
            refine kSkip ?_
            refine kInN ?_
            refine kThen ?_
            refine kRegion rfl ?_
            refine lV (yAdd rfl rfl (by omega)) rfl rfl ?_
            refine lV (yMove rfl) rfl rfl ?_
            refine lNil ?_
            exact kRoundX (i + 1) (by omega) (by omega) rfl (.c rfl .n) (.c rfl (.c rfl (.c rfl (.c rfl (.c rfl (.c rfl (.c rfl (.c rfl (.c rfl (.c rfl (.c rfl (.c rfl (.c rfl (.c rfl (.c rfl (.c rfl (.c rfl (.c rfl (.c rfl (.c rfl (.c rfl (.c rfl (.c rfl (.c rfl (.c rfl (.c rfl (.c rfl (.c rfl (.c rfl (.c rfl (.c rfl (.c rfl (.c rfl (.c rfl (.c rfl (.c rfl (.c rfl (.c rfl (.c rfl (.c rfl (.c rfl (.c rfl (.c rfl (.c rfl (.c rfl (.c rfl (.c rfl (.c rfl (.c rfl (.c rfl (.c rfl (.c rfl (.c rfl (.c rfl (.c rfl (.c rfl (.c rfl (.c rfl (.c rfl (.c rfl (.c rfl (.c rfl (.c rfl (.c rfl (.c rfl (.c rfl (.c rfl (.c rfl (.c rfl (.c rfl (.c rfl (.c rfl (.c rfl (.c rfl (.c rfl (.c rfl (.c rfl (.c rfl (.c rfl (.c rfl (.c rfl (.c rfl (.c rfl (.c rfl (.c rfl (.c rfl (.c rfl (.c rfl (.c rfl (.c rfl (.c rfl (.c rfl (.c rfl (.c rfl (.c rfl (.c rfl (.c rfl (.c rfl (.c rfl (.c rfl (.c rfl (.c rfl (.c rfl .n))))))))))))))))))))))))))))))))))))))))))))))))))))))))))))))))))))))))))))))))))))))))))))))))))))))) (.c 0 rfl (.c 0 rfl .n))
          · refine lGN rfl rfl rfl rfl rfl ?_
            refine lGN rfl rfl rfl rfl rfl ?_
            refine lGN rfl rfl rfl rfl rfl ?_
            refine lGN rfl rfl rfl rfl rfl ?_
            refine lGN rfl rfl rfl rfl rfl ?_
            refine lGN rfl rfl rfl rfl rfl ?_
            refine lGN rfl rfl rfl rfl rfl ?_
            refine lV (yPickF rfl rfl) rfl rfl ?_
            refine lNil ?_
            refine kThen ?_
            refine kIfF rfl ?_
            refine kSkip ?_
            refine kInN ?_
            refine kThen ?_
            refine kRegion rfl ?_
            refine lV (yAdd rfl rfl (by omega)) rfl rfl ?_
            refine lV (yMove rfl) rfl rfl ?_
            refine lNil ?_
            exact kRoundX (i + 1) (by omega) (by omega) rfl (.c rfl .n) (.c rfl (.c rfl (.c rfl (.c rfl (.c rfl (.c rfl (.c rfl (.c rfl (.c rfl (.c rfl (.c rfl (.c rfl (.c rfl (.c rfl (.c rfl (.c rfl (.c rfl (.c rfl (.c rfl (.c rfl (.c rfl (.c rfl (.c rfl (.c rfl (.c rfl (.c rfl (.c rfl (.c rfl (.c rfl (.c rfl (.c rfl (.c rfl (.c rfl (.c rfl (.c rfl (.c rfl (.c rfl (.c rfl (.c rfl (.c rfl (.c rfl (.c rfl (.c rfl (.c rfl (.c rfl (.c rfl (.c rfl (.c rfl (.c rfl (.c rfl (.c rfl (.c rfl (.c rfl (.c rfl (.c rfl (.c rfl (.c rfl (.c rfl (.c rfl (.c rfl (.c rfl (.c rfl (.c rfl (.c rfl (.c rfl (.c rfl (.c rfl (.c rfl (.c rfl (.c rfl (.c rfl (.c rfl (.c rfl (.c rfl (.c rfl (.c rfl (.c rfl (.c rfl (.c rfl (.c rfl (.c rfl (.c rfl (.c rfl (.c rfl (.c rfl (.c rfl (.c rfl (.c rfl (.c rfl (.c rfl (.c rfl (.c rfl (.c rfl (.c rfl (.c rfl (.c rfl (.c rfl (.c rfl (.c rfl (.c rfl (.c rfl (.c rfl (.c rfl .n))))))))))))))))))))))))))))))))))))))))))))))))))))))))))))))))))))))))))))))))))))))))))))))))))))))) (.c 0 rfl (.c 0 rfl .n))
        · refine kIfF rfl ?_
          refine kExit ?_
          refine kThenX ?_
          refine kThenX ?_
          refine kInX ?_
          refine kThen ?_
          refine kSeq ?_
          refine kRegion rfl ?_
          refine lV (yMove rfl) rfl rfl ?_
          refine lV (yConvInt rfl U54 U3 (conv_ok (by omega))) rfl rfl ?_
          refine lV (yMove rfl) rfl rfl ?_
          refine lV (yAnd rfl rfl rfl (by omega) (by omega)) rfl rfl ?_
          refine lV (yAssign rfl) rfl rfl ?_
          refine lNil ?_
          refine kThen ?_
          refine kSeq ?_
          refine kRegion rfl ?_
          refine lV (yAssign rfl) rfl rfl ?_
          refine lNil ?_
          refine kThen ?_
          refine kSeq ?_
          refine kSeq ?_
          refine kRegion rfl ?_
          refine lV (yMove rfl) rfl rfl ?_
          refine lV (yNeq rfl rfl) rfl rfl ?_
          refine lV (yMove rfl) rfl rfl ?_
          refine split (t := 161) rfl (fun h161 => ?_) (fun h161 => ?_)
          · refine lGY rfl rfl rfl (oV (yMove rfl) rfl ?_)
            refine lGY rfl rfl rfl (oV (yMove rfl) rfl ?_)
            refine lGY rfl rfl rfl (oV (yCall rfl (.c rfl .n) C36 (fun w hw => canC_any n2 y X (b &&& allS X) w (hm.eff hw) hM (by omega) (hw.blkAt 1 rfl))) rfl ?_)
            refine splitB (t := 164) rfl (fun h164 => ?_) (fun h164 => ?_)
            · refine lGY rfl rfl rfl (oV (yNot rfl) rfl ?_)
              refine lV (yPickT rfl rfl) rfl rfl ?_
              refine lV (yMove rfl) rfl rfl ?_
              refine lGN rfl rfl rfl rfl rfl ?_
              refine lGN rfl rfl rfl rfl rfl ?_
              refine lGN rfl rfl rfl rfl rfl ?_
              refine lGN rfl rfl rfl rfl rfl ?_
              refine lGN rfl rfl rfl rfl rfl ?_
              refine lGN rfl rfl rfl rfl rfl ?_
              refine lGN rfl rfl rfl rfl rfl ?_
              refine lGN rfl rfl rfl rfl rfl ?_
              refine lGU rfl rfl rfl rfl ?_
              refine lGU rfl rfl rfl rfl ?_
              refine lGU rfl rfl rfl rfl ?_
              refine lGU rfl rfl rfl rfl ?_
              refine lGU rfl rfl rfl rfl ?_
              refine lGU rfl rfl rfl rfl ?_
              refine lGU rfl rfl rfl rfl ?_
              refine lGU rfl rfl rfl rfl ?_
              refine lGU rfl rfl rfl rfl ?_
              refine lGU rfl rfl rfl rfl ?_
              refine lGU rfl rfl rfl rfl ?_
              refine lGU rfl rfl rfl rfl ?_
              refine lGN rfl rfl rfl rfl rfl ?_
              refine lV (yPickF rfl rfl) rfl rfl ?_
              refine lNil ?_
              refine kThen ?_
              refine kIfF rfl ?_
              refine kSkip ?_
              refine kThen ?_
              refine kSeq ?_
              refine kRegion rfl ?_
              refine lV (yMove rfl) rfl rfl ?_
              refine lV (yMove rfl) rfl rfl ?_
              refine lV (yMove rfl) rfl rfl ?_
              refine lV (yAndNot rfl rfl rfl (by omega) (by omega)) rfl rfl ?_
              refine lV (yCall rfl (.c rfl .n) C36 (fun w hw => canC_any n2 y X (less (allS X) (b &&& allS X)) w (hm.eff hw) hM (by omega) (hw.blkAt 1 rfl))) rfl rfl ?_
              refine splitB (t := 194) rfl (fun h194 => ?_) (fun h194 => ?_)
              · have hdm := cf.dmin _ hown ((can_tru hM _ _).1 h194)
                refine lV (yMove rfl) rfl rfl ?_
                refine lGY rfl rfl rfl (oV (yMove rfl) rfl ?_)
                refine lGY rfl rfl rfl (oV (yMove rfl) rfl ?_)
                refine lGY rfl rfl rfl (oV (yCall rfl (.c rfl .n) C33 (fun w hw => rsize_any (b &&& allS X) w (by omega))) rfl ?_)
                refine lGY rfl rfl rfl (oV (yMove rfl) rfl ?_)
                refine lGY rfl rfl rfl (oV (yMove rfl) rfl ?_)
                refine lGY rfl rfl rfl (oV (yCall rfl (.c rfl .n) C33 (fun w hw => rsize_any (dropN X) w (by omega))) rfl ?_)
                refine lGY rfl rfl rfl (oV (yLss rfl rfl) rfl ?_)
                refine knownN (t := 202) rfl (by omega) ?_
                refine lGY rfl rfl rfl (oV (yMove rfl) rfl ?_)
                refine lGY rfl rfl rfl (oV (yMove rfl) rfl ?_)
                refine lGY rfl rfl rfl (oV (yMove rfl) rfl ?_)
                refine lGY rfl rfl rfl (oV (yCall rfl (.c rfl .n) C33 (fun w hw => rsize_any (b &&& allS X) w (by omega))) rfl ?_)
                refine lGY rfl rfl rfl (oV (yMove rfl) rfl ?_)
                refine lGY rfl rfl rfl (oV (yMove rfl) rfl ?_)
                refine lGY rfl rfl rfl (oV (yCall rfl (.c rfl .n) C33 (fun w hw => rsize_any (dropN X) w (by omega))) rfl ?_)
                refine lGY rfl rfl rfl (oV (yEql rfl rfl) rfl ?_)
                refine split (t := 210) rfl (fun h210 => ?_) (fun h210 => ?_)
                · refine lGY rfl rfl rfl (oV (yMove rfl) rfl ?_)
                  refine lGY rfl rfl rfl (oV (yMove rfl) rfl ?_)
                  refine lGY rfl rfl rfl (oV (yMove rfl) rfl ?_)
                  refine lGY rfl rfl rfl (oV (yLss rfl rfl) rfl ?_)
                  refine knownN (t := 214) rfl (by omega) ?_
                  refine lGY rfl rfl rfl (oV (yPickT rfl rfl) rfl ?_)
                  refine lGY rfl rfl rfl (oV (yPickF rfl rfl) rfl ?_)
                  refine lV (yPickT rfl rfl) rfl rfl ?_
                  refine lV (yNot rfl) rfl rfl ?_
                  refine lV (yMove rfl) rfl rfl ?_
                  refine lGY rfl rfl rfl (oV (yCall rfl .n C14 (fun w hw => awake_any w)) rfl ?_)
                  refine lV (yPickT rfl rfl) rfl rfl ?_
                  refine lV (yAssign rfl) rfl rfl ?_
                  refine lNil ?_
                  refine kThen ?_
                  refine kRet ?_
                  refine fRet rfl (.t rfl .n) (endRet ?_)
                  first | rfl | (simp [packV, *]; done)
                · refine lGY rfl rfl rfl (oV (yMove rfl) rfl ?_)
                  refine lGN rfl rfl rfl rfl rfl ?_
                  refine lGN rfl rfl rfl rfl rfl ?_
                  refine lGN rfl rfl rfl rfl rfl ?_
                  refine lGY rfl rfl rfl (oV (yPickF rfl rfl) rfl ?_)
                  refine lGY rfl rfl rfl (oV (yPickF rfl rfl) rfl ?_)
                  refine lV (yPickT rfl rfl) rfl rfl ?_
                  refine lV (yNot rfl) rfl rfl ?_
                  refine lV (yMove rfl) rfl rfl ?_
                  refine lGY rfl rfl rfl (oV (yCall rfl .n C14 (fun w hw => awake_any w)) rfl ?_)
                  refine lV (yPickT rfl rfl) rfl rfl ?_
                  refine lV (yAssign rfl) rfl rfl ?_
                  refine lNil ?_
                  refine kThen ?_
                  refine kRet ?_
                  refine fRet rfl (.t rfl .n) (endRet ?_)
                  first | rfl | (simp [packV, *]; done)
              · refine lV (yMove rfl) rfl rfl ?_
                refine lGN rfl rfl rfl rfl rfl ?_
                refine lGN rfl rfl rfl rfl rfl ?_
                refine lGN rfl rfl rfl rfl rfl ?_
                refine lGN rfl rfl rfl rfl rfl ?_
                refine lGN rfl rfl rfl rfl rfl ?_
                refine lGN rfl rfl rfl rfl rfl ?_
                refine lGN rfl rfl rfl rfl rfl ?_
                refine lGN rfl rfl rfl rfl rfl ?_
                refine lGU rfl rfl rfl rfl ?_
                refine lGU rfl rfl rfl rfl ?_
                refine lGU rfl rfl rfl rfl ?_
                refine lGU rfl rfl rfl rfl ?_
                refine lGU rfl rfl rfl rfl ?_
                refine lGU rfl rfl rfl rfl ?_
                refine lGU rfl rfl rfl rfl ?_
                refine lGU rfl rfl rfl rfl ?_
                refine lGU rfl rfl rfl rfl ?_
                refine lGU rfl rfl rfl rfl ?_
                refine lGU rfl rfl rfl rfl ?_
                refine lGU rfl rfl rfl rfl ?_
                refine lGN rfl rfl rfl rfl rfl ?_
                refine lV (yPickF rfl rfl) rfl rfl ?_
                refine lV (yNot rfl) rfl rfl ?_
                refine lV (yMove rfl) rfl rfl ?_
                refine lGY rfl rfl rfl (oV (yCall rfl .n C14 (fun w hw => awake_any w)) rfl ?_)
                refine lV (yPickT rfl rfl) rfl rfl ?_
                refine lV (yAssign rfl) rfl rfl ?_
                refine lNil ?_
                refine kThen ?_
                refine kRet ?_
                refine fRet rfl (.t rfl .n) (endRet ?_)
                first | rfl | (simp [packV, *]; done)
            · have hcb := cf.cmin _ hown fun h => by rw [(can_tru hM _ _).2 h] at h164; cases h164
              refine lGY rfl rfl rfl (oV (yNot rfl) rfl ?_)
              refine lV (yPickT rfl rfl) rfl rfl ?_
              refine lV (yMove rfl) rfl rfl ?_
              refine lGY rfl rfl rfl (oV (yMove rfl) rfl ?_)
              refine lGY rfl rfl rfl (oV (yMove rfl) rfl ?_)
              refine lGY rfl rfl rfl (oV (yCall rfl (.c rfl .n) C33 (fun w hw => rsize_any (b &&& allS X) w (by omega))) rfl ?_)
              refine lGY rfl rfl rfl (oV (yMove rfl) rfl ?_)
              refine lGY rfl rfl rfl (oV (yMove rfl) rfl ?_)
              refine lGY rfl rfl rfl (oV (yCall rfl (.c rfl .n) C33 (fun w hw => rsize_any (clashN X) w (by omega))) rfl ?_)
              refine lGY rfl rfl rfl (oV (yLss rfl rfl) rfl ?_)
              refine knownN (t := 174) rfl (by omega) ?_
              refine lGY rfl rfl rfl (oV (yMove rfl) rfl ?_)
              refine lGY rfl rfl rfl (oV (yMove rfl) rfl ?_)
              refine lGY rfl rfl rfl (oV (yMove rfl) rfl ?_)
              refine lGY rfl rfl rfl (oV (yCall rfl (.c rfl .n) C33 (fun w hw => rsize_any (b &&& allS X) w (by omega))) rfl ?_)
              refine lGY rfl rfl rfl (oV (yMove rfl) rfl ?_)
              refine lGY rfl rfl rfl (oV (yMove rfl) rfl ?_)
              refine lGY rfl rfl rfl (oV (yCall rfl (.c rfl .n) C33 (fun w hw => rsize_any (clashN X) w (by omega))) rfl ?_)
              refine lGY rfl rfl rfl (oV (yEql rfl rfl) rfl ?_)
              refine split (t := 182) rfl (fun h182 => ?_) (fun h182 => ?_)
              · refine lGY rfl rfl rfl (oV (yMove rfl) rfl ?_)
                refine lGY rfl rfl rfl (oV (yMove rfl) rfl ?_)
                refine lGY rfl rfl rfl (oV (yMove rfl) rfl ?_)
                refine lGY rfl rfl rfl (oV (yLss rfl rfl) rfl ?_)
                refine knownN (t := 186) rfl (by omega) ?_
                refine lGY rfl rfl rfl (oV (yPickT rfl rfl) rfl ?_)
                refine lGY rfl rfl rfl (oV (yPickF rfl rfl) rfl ?_)
                refine lV (yPickT rfl rfl) rfl rfl ?_
                refine lNil ?_
                refine kThen ?_
                refine kIfF rfl ?_
                refine kSkip ?_
                refine kThen ?_
                refine kSeq ?_
                refine kRegion rfl ?_
                refine lV (yMove rfl) rfl rfl ?_
                refine lV (yMove rfl) rfl rfl ?_
                refine lV (yMove rfl) rfl rfl ?_
                refine lV (yAndNot rfl rfl rfl (by omega) (by omega)) rfl rfl ?_
                refine lV (yCall rfl (.c rfl .n) C36 (fun w hw => canC_any n2 y X (less (allS X) (b &&& allS X)) w (hm.eff hw) hM (by omega) (hw.blkAt 1 rfl))) rfl rfl ?_
                refine splitB (t := 194) rfl (fun h194 => ?_) (fun h194 => ?_)
                · have hdm := cf.dmin _ hown ((can_tru hM _ _).1 h194)
                  refine lV (yMove rfl) rfl rfl ?_
                  refine lGY rfl rfl rfl (oV (yMove rfl) rfl ?_)
                  refine lGY rfl rfl rfl (oV (yMove rfl) rfl ?_)
                  refine lGY rfl rfl rfl (oV (yCall rfl (.c rfl .n) C33 (fun w hw => rsize_any (b &&& allS X) w (by omega))) rfl ?_)
                  refine lGY rfl rfl rfl (oV (yMove rfl) rfl ?_)
                  refine lGY rfl rfl rfl (oV (yMove rfl) rfl ?_)
                  refine lGY rfl rfl rfl (oV (yCall rfl (.c rfl .n) C33 (fun w hw => rsize_any (dropN X) w (by omega))) rfl ?_)
                  refine lGY rfl rfl rfl (oV (yLss rfl rfl) rfl ?_)
                  refine knownN (t := 202) rfl (by omega) ?_
                  refine lGY rfl rfl rfl (oV (yMove rfl) rfl ?_)
                  refine lGY rfl rfl rfl (oV (yMove rfl) rfl ?_)
                  refine lGY rfl rfl rfl (oV (yMove rfl) rfl ?_)
                  refine lGY rfl rfl rfl (oV (yCall rfl (.c rfl .n) C33 (fun w hw => rsize_any (b &&& allS X) w (by omega))) rfl ?_)
                  refine lGY rfl rfl rfl (oV (yMove rfl) rfl ?_)
                  refine lGY rfl rfl rfl (oV (yMove rfl) rfl ?_)
                  refine lGY rfl rfl rfl (oV (yCall rfl (.c rfl .n) C33 (fun w hw => rsize_any (dropN X) w (by omega))) rfl ?_)
                  refine lGY rfl rfl rfl (oV (yEql rfl rfl) rfl ?_)
                  refine split (t := 210) rfl (fun h210 => ?_) (fun h210 => ?_)
                  · refine lGY rfl rfl rfl (oV (yMove rfl) rfl ?_)
                    refine lGY rfl rfl rfl (oV (yMove rfl) rfl ?_)
                    refine lGY rfl rfl rfl (oV (yMove rfl) rfl ?_)
                    refine lGY rfl rfl rfl (oV (yLss rfl rfl) rfl ?_)
                    refine knownN (t := 214) rfl (by omega) ?_
                    refine lGY rfl rfl rfl (oV (yPickT rfl rfl) rfl ?_)
                    refine lGY rfl rfl rfl (oV (yPickF rfl rfl) rfl ?_)
                    refine lV (yPickT rfl rfl) rfl rfl ?_
                    refine lV (yNot rfl) rfl rfl ?_
                    refine lV (yMove rfl) rfl rfl ?_
                    refine lGY rfl rfl rfl (oV (yCall rfl .n C14 (fun w hw => awake_any w)) rfl ?_)
                    refine lV (yPickT rfl rfl) rfl rfl ?_
                    refine lV (yAssign rfl) rfl rfl ?_
                    refine lNil ?_
                    refine kThen ?_
                    refine kRet ?_
                    refine fRet rfl (.t rfl .n) (endRet ?_)
                    first | rfl | (simp [packV, *]; done)
                  · refine lGY rfl rfl rfl (oV (yMove rfl) rfl ?_)
                    refine lGN rfl rfl rfl rfl rfl ?_
                    refine lGN rfl rfl rfl rfl rfl ?_
                    refine lGN rfl rfl rfl rfl rfl ?_
                    refine lGY rfl rfl rfl (oV (yPickF rfl rfl) rfl ?_)
                    refine lGY rfl rfl rfl (oV (yPickF rfl rfl) rfl ?_)
                    refine lV (yPickT rfl rfl) rfl rfl ?_
                    refine lV (yNot rfl) rfl rfl ?_
                    refine lV (yMove rfl) rfl rfl ?_
                    refine lGY rfl rfl rfl (oV (yCall rfl .n C14 (fun w hw => awake_any w)) rfl ?_)
                    refine lV (yPickT rfl rfl) rfl rfl ?_
                    refine lV (yAssign rfl) rfl rfl ?_
                    refine lNil ?_
                    refine kThen ?_
                    refine kRet ?_
                    refine fRet rfl (.t rfl .n) (endRet ?_)
                    first | rfl | (simp [packV, *]; done)
                · refine lV (yMove rfl) rfl rfl ?_
                  refine lGN rfl rfl rfl rfl rfl ?_
                  refine lGN rfl rfl rfl rfl rfl ?_
                  refine lGN rfl rfl rfl rfl rfl ?_
                  refine lGN rfl rfl rfl rfl rfl ?_
                  refine lGN rfl rfl rfl rfl rfl ?_
                  refine lGN rfl rfl rfl rfl rfl ?_
                  refine lGN rfl rfl rfl rfl rfl ?_
                  refine lGN rfl rfl rfl rfl rfl ?_
                  refine lGU rfl rfl rfl rfl ?_
                  refine lGU rfl rfl rfl rfl ?_
                  refine lGU rfl rfl rfl rfl ?_
                  refine lGU rfl rfl rfl rfl ?_
                  refine lGU rfl rfl rfl rfl ?_
                  refine lGU rfl rfl rfl rfl ?_
                  refine lGU rfl rfl rfl rfl ?_
                  refine lGU rfl rfl rfl rfl ?_
                  refine lGU rfl rfl rfl rfl ?_
                  refine lGU rfl rfl rfl rfl ?_
                  refine lGU rfl rfl rfl rfl ?_
                  refine lGU rfl rfl rfl rfl ?_
                  refine lGN rfl rfl rfl rfl rfl ?_
                  refine lV (yPickF rfl rfl) rfl rfl ?_
                  refine lV (yNot rfl) rfl rfl ?_
                  refine lV (yMove rfl) rfl rfl ?_
                  refine lGY rfl rfl rfl (oV (yCall rfl .n C14 (fun w hw => awake_any w)) rfl ?_)
                  refine lV (yPickT rfl rfl) rfl rfl ?_
                  refine lV (yAssign rfl) rfl rfl ?_
                  refine lNil ?_
                  refine kThen ?_
                  refine kRet ?_
                  refine fRet rfl (.t rfl .n) (endRet ?_)
                  first | rfl | (simp [packV, *]; done)
              · refine lGY rfl rfl rfl (oV (yMove rfl) rfl ?_)
                refine lGN rfl rfl rfl rfl rfl ?_
                refine lGN rfl rfl rfl rfl rfl ?_
                refine lGN rfl rfl rfl rfl rfl ?_
                refine lGY rfl rfl rfl (oV (yPickF rfl rfl) rfl ?_)
                refine lGY rfl rfl rfl (oV (yPickF rfl rfl) rfl ?_)
                refine lV (yPickT rfl rfl) rfl rfl ?_
                refine lNil ?_
                refine kThen ?_
                refine kIfF rfl ?_
                refine kSkip ?_
                refine kThen ?_
                refine kSeq ?_
                refine kRegion rfl ?_
                refine lV (yMove rfl) rfl rfl ?_
                refine lV (yMove rfl) rfl rfl ?_
                refine lV (yMove rfl) rfl rfl ?_
                refine lV (yAndNot rfl rfl rfl (by omega) (by omega)) rfl rfl ?_
                refine lV (yCall rfl (.c rfl .n) C36 (fun w hw => canC_any n2 y X (less (allS X) (b &&& allS X)) w (hm.eff hw) hM (by omega) (hw.blkAt 1 rfl))) rfl rfl ?_
                refine splitB (t := 194) rfl (fun h194 => ?_) (fun h194 => ?_)
                · have hdm := cf.dmin _ hown ((can_tru hM _ _).1 h194)
                  refine lV (yMove rfl) rfl rfl ?_
                  refine lGY rfl rfl rfl (oV (yMove rfl) rfl ?_)
                  refine lGY rfl rfl rfl (oV (yMove rfl) rfl ?_)
                  refine lGY rfl rfl rfl (oV (yCall rfl (.c rfl .n) C33 (fun w hw => rsize_any (b &&& allS X) w (by omega))) rfl ?_)
                  refine lGY rfl rfl rfl (oV (yMove rfl) rfl ?_)
                  refine lGY rfl rfl rfl (oV (yMove rfl) rfl ?_)
                  refine lGY rfl rfl rfl (oV (yCall rfl (.c rfl .n) C33 (fun w hw => rsize_any (dropN X) w (by omega))) rfl ?_)
                  refine lGY rfl rfl rfl (oV (yLss rfl rfl) rfl ?_)
                  refine knownN (t := 202) rfl (by omega) ?_
                  refine lGY rfl rfl rfl (oV (yMove rfl) rfl ?_)
                  refine lGY rfl rfl rfl (oV (yMove rfl) rfl ?_)
                  refine lGY rfl rfl rfl (oV (yMove rfl) rfl ?_)
                  refine lGY rfl rfl rfl (oV (yCall rfl (.c rfl .n) C33 (fun w hw => rsize_any (b &&& allS X) w (by omega))) rfl ?_)
                  refine lGY rfl rfl rfl (oV (yMove rfl) rfl ?_)
                  refine lGY rfl rfl rfl (oV (yMove rfl) rfl ?_)
                  refine lGY rfl rfl rfl (oV (yCall rfl (.c rfl .n) C33 (fun w hw => rsize_any (dropN X) w (by omega))) rfl ?_)
                  refine lGY rfl rfl rfl (oV (yEql rfl rfl) rfl ?_)
                  refine split (t := 210) rfl (fun h210 => ?_) (fun h210 => ?_)
                  · refine lGY rfl rfl rfl (oV (yMove rfl) rfl ?_)
                    refine lGY rfl rfl rfl (oV (yMove rfl) rfl ?_)
                    refine lGY rfl rfl rfl (oV (yMove rfl) rfl ?_)
                    refine lGY rfl rfl rfl (oV (yLss rfl rfl) rfl ?_)
                    refine knownN (t := 214) rfl (by omega) ?_
                    refine lGY rfl rfl rfl (oV (yPickT rfl rfl) rfl ?_)
                    refine lGY rfl rfl rfl (oV (yPickF rfl rfl) rfl ?_)
                    refine lV (yPickT rfl rfl) rfl rfl ?_
                    refine lV (yNot rfl) rfl rfl ?_
                    refine lV (yMove rfl) rfl rfl ?_
                    refine lGY rfl rfl rfl (oV (yCall rfl .n C14 (fun w hw => awake_any w)) rfl ?_)
                    refine lV (yPickT rfl rfl) rfl rfl ?_
                    refine lV (yAssign rfl) rfl rfl ?_
                    refine lNil ?_
                    refine kThen ?_
                    refine kRet ?_
                    refine fRet rfl (.t rfl .n) (endRet ?_)
                    first | rfl | (simp [packV, *]; done)
                  · refine lGY rfl rfl rfl (oV (yMove rfl) rfl ?_)
                    refine lGN rfl rfl rfl rfl rfl ?_
                    refine lGN rfl rfl rfl rfl rfl ?_
                    refine lGN rfl rfl rfl rfl rfl ?_
                    refine lGY rfl rfl rfl (oV (yPickF rfl rfl) rfl ?_)
                    refine lGY rfl rfl rfl (oV (yPickF rfl rfl) rfl ?_)
                    refine lV (yPickT rfl rfl) rfl rfl ?_
                    refine lV (yNot rfl) rfl rfl ?_
                    refine lV (yMove rfl) rfl rfl ?_
                    refine lGY rfl rfl rfl (oV (yCall rfl .n C14 (fun w hw => awake_any w)) rfl ?_)
                    refine lV (yPickT rfl rfl) rfl rfl ?_
                    refine lV (yAssign rfl) rfl rfl ?_
                    refine lNil ?_
                    refine kThen ?_
                    refine kRet ?_
                    refine fRet rfl (.t rfl .n) (endRet ?_)
                    first | rfl | (simp [packV, *]; done)
                · refine lV (yMove rfl) rfl rfl ?_
                  refine lGN rfl rfl rfl rfl rfl ?_
                  refine lGN rfl rfl rfl rfl rfl ?_
                  refine lGN rfl rfl rfl rfl rfl ?_
                  refine lGN rfl rfl rfl rfl rfl ?_
                  refine lGN rfl rfl rfl rfl rfl ?_
                  refine lGN rfl rfl rfl rfl rfl ?_
                  refine lGN rfl rfl rfl rfl rfl ?_
                  refine lGN rfl rfl rfl rfl rfl ?_
                  refine lGU rfl rfl rfl rfl ?_
                  refine lGU rfl rfl rfl rfl ?_
                  refine lGU rfl rfl rfl rfl ?_
                  refine lGU rfl rfl rfl rfl ?_
                  refine lGU rfl rfl rfl rfl ?_
                  refine lGU rfl rfl rfl rfl ?_
                  refine lGU rfl rfl rfl rfl ?_
                  refine lGU rfl rfl rfl rfl ?_
                  refine lGU rfl rfl rfl rfl ?_
                  refine lGU rfl rfl rfl rfl ?_
                  refine lGU rfl rfl rfl rfl ?_
                  refine lGU rfl rfl rfl rfl ?_
                  refine lGN rfl rfl rfl rfl rfl ?_
                  refine lV (yPickF rfl rfl) rfl rfl ?_
                  refine lV (yNot rfl) rfl rfl ?_
                  refine lV (yMove rfl) rfl rfl ?_
                  refine lGY rfl rfl rfl (oV (yCall rfl .n C14 (fun w hw => awake_any w)) rfl ?_)
                  refine lV (yPickT rfl rfl) rfl rfl ?_
                  refine lV (yAssign rfl) rfl rfl ?_
                  refine lNil ?_
                  refine kThen ?_
                  refine kRet ?_
                  refine fRet rfl (.t rfl .n) (endRet ?_)
                  first | rfl | (simp [packV, *]; done)
          · refine lGN rfl rfl rfl rfl rfl ?_
            refine lGN rfl rfl rfl rfl rfl ?_
            refine lGN rfl rfl rfl rfl rfl ?_
            refine lGN rfl rfl rfl rfl rfl ?_
            refine lV (yPickF rfl rfl) rfl rfl ?_
            refine lV (yMove rfl) rfl rfl ?_
            refine lGN rfl rfl rfl rfl rfl ?_
            refine lGN rfl rfl rfl rfl rfl ?_
            refine lGN rfl rfl rfl rfl rfl ?_
            refine lGN rfl rfl rfl rfl rfl ?_
            refine lGN rfl rfl rfl rfl rfl ?_
            refine lGN rfl rfl rfl rfl rfl ?_
            refine lGN rfl rfl rfl rfl rfl ?_
            refine lGN rfl rfl rfl rfl rfl ?_
            refine lGU rfl rfl rfl rfl ?_
            refine lGU rfl rfl rfl rfl ?_
            refine lGU rfl rfl rfl rfl ?_
            refine lGU rfl rfl rfl rfl ?_
            refine lGU rfl rfl rfl rfl ?_
            refine lGU rfl rfl rfl rfl ?_
            refine lGU rfl rfl rfl rfl ?_
            refine lGU rfl rfl rfl rfl ?_
            refine lGU rfl rfl rfl rfl ?_
            refine lGU rfl rfl rfl rfl ?_
            refine lGU rfl rfl rfl rfl ?_
            refine lGU rfl rfl rfl rfl ?_
            refine lGN rfl rfl rfl rfl rfl ?_
            refine lV (yPickF rfl rfl) rfl rfl ?_
            refine lNil ?_
            refine kThen ?_
            refine kIfF rfl ?_
            refine kSkip ?_
            refine kThen ?_
            refine kSeq ?_
            refine kRegion rfl ?_
            refine lV (yMove rfl) rfl rfl ?_
            refine lV (yMove rfl) rfl rfl ?_
            refine lV (yMove rfl) rfl rfl ?_
            refine lV (yAndNot rfl rfl rfl (by omega) (by omega)) rfl rfl ?_
            refine lV (yCall rfl (.c rfl .n) C36 (fun w hw => canC_any n2 y X (less (allS X) (b &&& allS X)) w (hm.eff hw) hM (by omega) (hw.blkAt 1 rfl))) rfl rfl ?_
            refine splitB (t := 194) rfl (fun h194 => ?_) (fun h194 => ?_)
            · have hdm := cf.dmin _ hown ((can_tru hM _ _).1 h194)
              refine lV (yMove rfl) rfl rfl ?_
              refine lGY rfl rfl rfl (oV (yMove rfl) rfl ?_)
              refine lGY rfl rfl rfl (oV (yMove rfl) rfl ?_)
              refine lGY rfl rfl rfl (oV (yCall rfl (.c rfl .n) C33 (fun w hw => rsize_any (b &&& allS X) w (by omega))) rfl ?_)
              refine lGY rfl rfl rfl (oV (yMove rfl) rfl ?_)
              refine lGY rfl rfl rfl (oV (yMove rfl) rfl ?_)
              refine lGY rfl rfl rfl (oV (yCall rfl (.c rfl .n) C33 (fun w hw => rsize_any (dropN X) w (by omega))) rfl ?_)
              refine lGY rfl rfl rfl (oV (yLss rfl rfl) rfl ?_)
              refine knownN (t := 202) rfl (by omega) ?_
              refine lGY rfl rfl rfl (oV (yMove rfl) rfl ?_)
              refine lGY rfl rfl rfl (oV (yMove rfl) rfl ?_)
              refine lGY rfl rfl rfl (oV (yMove rfl) rfl ?_)
              refine lGY rfl rfl rfl (oV (yCall rfl (.c rfl .n) C33 (fun w hw => rsize_any (b &&& allS X) w (by omega))) rfl ?_)
              refine lGY rfl rfl rfl (oV (yMove rfl) rfl ?_)
              refine lGY rfl rfl rfl (oV (yMove rfl) rfl ?_)
              refine lGY rfl rfl rfl (oV (yCall rfl (.c rfl .n) C33 (fun w hw => rsize_any (dropN X) w (by omega))) rfl ?_)
              refine lGY rfl rfl rfl (oV (yEql rfl rfl) rfl ?_)
              refine split (t := 210) rfl (fun h210 => ?_) (fun h210 => ?_)
              · refine lGY rfl rfl rfl (oV (yMove rfl) rfl ?_)
                refine lGY rfl rfl rfl (oV (yMove rfl) rfl ?_)
                refine lGY rfl rfl rfl (oV (yMove rfl) rfl ?_)
                refine lGY rfl rfl rfl (oV (yLss rfl rfl) rfl ?_)
                refine knownN (t := 214) rfl (by omega) ?_
                refine lGY rfl rfl rfl (oV (yPickT rfl rfl) rfl ?_)
                refine lGY rfl rfl rfl (oV (yPickF rfl rfl) rfl ?_)
                refine lV (yPickT rfl rfl) rfl rfl ?_
                refine lV (yNot rfl) rfl rfl ?_
                refine lV (yMove rfl) rfl rfl ?_
                refine lGY rfl rfl rfl (oV (yCall rfl .n C14 (fun w hw => awake_any w)) rfl ?_)
                refine lV (yPickT rfl rfl) rfl rfl ?_
                refine lV (yAssign rfl) rfl rfl ?_
                refine lNil ?_
                refine kThen ?_
                refine kRet ?_
                refine fRet rfl (.t rfl .n) (endRet ?_)
                first | rfl | (simp [packV, *]; done)
              · refine lGY rfl rfl rfl (oV (yMove rfl) rfl ?_)
                refine lGN rfl rfl rfl rfl rfl ?_
                refine lGN rfl rfl rfl rfl rfl ?_
                refine lGN rfl rfl rfl rfl rfl ?_
                refine lGY rfl rfl rfl (oV (yPickF rfl rfl) rfl ?_)
                refine lGY rfl rfl rfl (oV (yPickF rfl rfl) rfl ?_)
                refine lV (yPickT rfl rfl) rfl rfl ?_
                refine lV (yNot rfl) rfl rfl ?_
                refine lV (yMove rfl) rfl rfl ?_
                refine lGY rfl rfl rfl (oV (yCall rfl .n C14 (fun w hw => awake_any w)) rfl ?_)
                refine lV (yPickT rfl rfl) rfl rfl ?_
                refine lV (yAssign rfl) rfl rfl ?_
                refine lNil ?_
                refine kThen ?_
                refine kRet ?_
                refine fRet rfl (.t rfl .n) (endRet ?_)
                first | rfl | (simp [packV, *]; done)
            · refine lV (yMove rfl) rfl rfl ?_
              refine lGN rfl rfl rfl rfl rfl ?_
              refine lGN rfl rfl rfl rfl rfl ?_
              refine lGN rfl rfl rfl rfl rfl ?_
              refine lGN rfl rfl rfl rfl rfl ?_
              refine lGN rfl rfl rfl rfl rfl ?_
              refine lGN rfl rfl rfl rfl rfl ?_
              refine lGN rfl rfl rfl rfl rfl ?_
              refine lGN rfl rfl rfl rfl rfl ?_
              refine lGU rfl rfl rfl rfl ?_
              refine lGU rfl rfl rfl rfl ?_
              refine lGU rfl rfl rfl rfl ?_
              refine lGU rfl rfl rfl rfl ?_
              refine lGU rfl rfl rfl rfl ?_
              refine lGU rfl rfl rfl rfl ?_
              refine lGU rfl rfl rfl rfl ?_
              refine lGU rfl rfl rfl rfl ?_
              refine lGU rfl rfl rfl rfl ?_
              refine lGU rfl rfl rfl rfl ?_
              refine lGU rfl rfl rfl rfl ?_
              refine lGU rfl rfl rfl rfl ?_
              refine lGN rfl rfl rfl rfl rfl ?_
              refine lV (yPickF rfl rfl) rfl rfl ?_
              refine lV (yNot rfl) rfl rfl ?_
              refine lV (yMove rfl) rfl rfl ?_
              refine lGY rfl rfl rfl (oV (yCall rfl .n C14 (fun w hw => awake_any w)) rfl ?_)
              refine lV (yPickT rfl rfl) rfl rfl ?_
              refine lV (yAssign rfl) rfl rfl ?_
              refine lNil ?_
              refine kThen ?_
              refine kRet ?_
              refine fRet rfl (.t rfl .n) (endRet ?_)
              first | rfl | (simp [packV, *]; done)
    · refine kRegion rfl ?_
      refine lV (yLoadA (vs := [_, _, _, _, _, _, _, _]) rfl A29 (cOwn 0 rfl rfl)) rfl rfl ?_
      refine lV (yCall rfl (.c rfl .n) C23 (fun w hw => clash_any y X w (hm.eff hw) hn)) rfl rfl ?_
      refine same (t := 22) (u := outI (0, 1)) rfl (by rw [show clashE X = (0, 1) from if_pos hM]) ?_
      refine lV (yMove rfl) rfl rfl ?_
      refine lV (yExtract rfl rfl) rfl rfl ?_
      refine lV (yExtract rfl rfl) rfl rfl ?_
      refine lV (yAssign rfl) rfl rfl ?_
      refine lV (yAssign rfl) rfl rfl ?_
      refine lNil ?_
      refine kThen ?_
      refine kSeq ?_
      refine kRegion rfl ?_
      refine lV (yLoadA (vs := [_, _, _, _, _, _, _, _]) rfl A29 (cOwn 0 rfl rfl)) rfl rfl ?_
      refine lV (yCall rfl (.c rfl .n) C25 (fun w hw => drop_any y X w (hm.eff hw) hn)) rfl rfl ?_
      refine same (t := 27) (u := outI (0, 1)) rfl (by rw [show dropE X = (0, 1) from if_pos hM]) ?_
      refine lV (yMove rfl) rfl rfl ?_
      refine lV (yExtract rfl rfl) rfl rfl ?_
      refine lV (yExtract rfl rfl) rfl rfl ?_
      refine lV (yAssign rfl) rfl rfl ?_
      refine lV (yAssign rfl) rfl rfl ?_
      refine lNil ?_
      refine kThen ?_
      refine kSeq ?_
      refine kRegion rfl ?_
      refine lV (yLoadA (vs := [_, _, _, _, _, _, _, _]) rfl A29 (cOwn 0 rfl rfl)) rfl rfl ?_
      refine lV (yCall rfl (.c rfl (.c rfl .n)) C15 (fun w hw => habit_any y X 0 w (hm.eff hw) hn)) rfl rfl ?_
      refine same (t := 32) (u := outC ((0, 0), 1)) rfl (by rw [show habitE X 0 = ((0, 0), 1) from if_pos hM]) ?_
      refine lV (yMove rfl) rfl rfl ?_
      refine lV (yExtract rfl rfl) rfl rfl ?_
      refine lV (yExtract rfl rfl) rfl rfl ?_
      refine lE rfl ?_
      refine eAlloc Z24 fun n9 => ?_
      refine lE rfl ?_
      refine eStoreL 0 rfl rfl rfl rfl K24 rfl (rfl) ?_
      refine lV (yAssign rfl) rfl rfl ?_
      refine lNil ?_
      refine kThen ?_
      refine kSeq ?_
      refine kSeq ?_
      refine kRegion rfl ?_
      refine lV (yMove rfl) rfl rfl ?_
      refine lV (yNeq rfl rfl) rfl rfl ?_
      refine known (t := 36) rfl (by decide) ?_
      refine lV (yMove rfl) rfl rfl ?_
      refine lGN rfl rfl rfl rfl rfl ?_
      refine lGN rfl rfl rfl rfl rfl ?_
      refine lV (yPickT rfl rfl) rfl rfl ?_
      refine lNil ?_
      refine kThen ?_
      refine kIfT rfl ?_
      refine kSeq ?_
      refine kRegion rfl ?_
      refine lV (yMove rfl) rfl rfl ?_
      refine lV (yMove rfl) rfl rfl ?_
      refine lV (yEql rfl rfl) rfl rfl ?_
      refine known (t := 43) rfl (rfl) ?_
      refine lV (yMove rfl) rfl rfl ?_
      refine lGY rfl rfl rfl (oV (yMove rfl) rfl ?_)
      refine lGY rfl rfl rfl (oV (yEql rfl rfl) rfl ?_)
      refine known (t := 46) rfl (rfl) ?_
      refine lV (yPickT rfl rfl) rfl rfl ?_
      refine lV (yMove rfl) rfl rfl ?_
      refine lGY rfl rfl rfl (oV (yMove rfl) rfl ?_)
      refine lGY rfl rfl rfl (oV (yMove rfl) rfl ?_)
      refine lGY rfl rfl rfl (oV (yEql rfl rfl) rfl ?_)
      refine known (t := 51) rfl (rfl) ?_
      refine lV (yPickT rfl rfl) rfl rfl ?_
      refine lV (yMove rfl) rfl rfl ?_
      refine lGY rfl rfl rfl (oV (yMove rfl) rfl ?_)
      refine lGY rfl rfl rfl (oV (yEql rfl rfl) rfl ?_)
      refine known (t := 55) rfl (rfl) ?_
      refine lV (yPickT rfl rfl) rfl rfl ?_
      refine lV (yMove rfl) rfl rfl ?_
      refine lGY rfl rfl rfl (oV (yMove rfl) rfl ?_)
      refine lGY rfl rfl rfl (oV (yEql rfl rfl) rfl ?_)
      refine known (t := 59) rfl (rfl) ?_
      refine lV (yPickT rfl rfl) rfl rfl ?_
      refine lV (yMove rfl) rfl rfl ?_
      refine lGY rfl rfl rfl (oV (yLoadA (vs := [_, _, _, _, _, _, _, _]) rfl A29 (cOwn 1 rfl rfl)) rfl ?_)
      refine lGY rfl rfl rfl (oV (yCall rfl (.c rfl .n) C34 (fun w hw => watch_any y X w (hm.eff hw) hn hn2)) rfl ?_)
      refine knownB (t := 63) (c := false) rfl (decide_eq_false hM) ?_
      refine lGY rfl rfl rfl (oV (yNot rfl) rfl ?_)
      refine lV (yPickT rfl rfl) rfl rfl ?_
      refine lV (yMove rfl) rfl rfl ?_
      refine lGY rfl rfl rfl (oV (yCall rfl .n C14 (fun w hw => awake_any w)) rfl ?_)
      refine lV (yPickT rfl rfl) rfl rfl ?_
      refine lV (yAssign rfl) rfl rfl ?_
      refine lNil ?_
      refine kThen ?_
      refine kRet ?_
      refine kThenR ?_
      refine fRet rfl (.t rfl .n) (endRet ?_)
      first | rfl | (simp [packV, *]; done)
end Go.Proofs.Ytiaaidcdoenloaa
