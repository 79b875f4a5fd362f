/-
  Walks: parts of measures; ScrewClash.
-/
import Derived.Test.YtoefcofplkbnkaaRe
import Derived.Test.YtoefcofplkbnkaaLj
import Derived.Test.YtoefcofplkbnkaaRd
namespace Go.Proofs.Ytoefcofplkbnkaa
open ZW

abbrev partC (y : Loc) (m : Meas) (g : Own) (n : Nat) : List Value := [.slice y.ea m.errs.length y.ec, i64 m.eye.1, i64 m.eye.2, i64 m.images, i64 m.sum.1, i64 m.sum.2, osV g n]
abbrev locG (y : Loc) (g : Own) : Loc := ⟨y.ea, y.ec, osA g, osC g⟩
set_option maxRecDepth 100000 in
theorem part_any (y : Loc) (m : Meas) (S : Nat) (w : World) (hm : InM w y m) (hS : S < 2 ^ 62) (hN : m.sets.length ≤ 60) : Calls Try.prog 32 [.agg (measC y m).toArray, i64 (S : Nat)].toArray w
    (RetX w (fun g : Own => OS 3 g ((partL m S m.sets.length).map rowS)) (fun g => .agg (measC (locG y g) (partM m S)).toArray) (fun _ => []) (fun g => osL 49 g)) := by
  refine fEnter Try.func32 rfl Try.ntmps32 rfl ?_
  refine kSeq ?_
  refine kRegion rfl ?_
  refine lE rfl ?_
  refine eBoxA rfl fun n2 => ?_
  refine lE rfl ?_
  refine eAlloc Z29 fun n4 => ?_
  refine lNil ?_
  refine kThen ?_
  refine kSeq ?_
  refine kRegion rfl ?_
  refine lV (yLoadA (vs := [_, _, _, _, _, _, _]) rfl A29 (cOwn 1 rfl rfl)) rfl rfl ?_
  refine lE rfl ?_
  refine eAlloc Z29 fun n5 => ?_
  refine lE rfl ?_
  refine eStoreL 0 rfl rfl rfl rfl K29 rfl (rfl) ?_
  refine lNil ?_
  refine kThen ?_
  refine kSeq ?_
  refine kRegion rfl ?_
  refine lV (yFieldAddr rfl F29_3) rfl rfl ?_
  refine lE rfl ?_
  refine eStoreL 0 rfl rfl rfl rfl K27 rfl (rfl) ?_
  refine lNil ?_
  refine kThen ?_
  refine kSeq ?_
  refine kSeq ?_
  refine kRegion rfl ?_
  refine lV (yFieldAddr rfl F29_3) rfl rfl ?_
  refine lV (yLoad1 rfl O27 (cOwn 2 rfl rfl)) rfl rfl ?_
  refine lV (yLen rfl S27) rfl rfl ?_
  refine lV (yMove rfl) rfl rfl ?_
  refine lNil ?_
  refine kThen ?_
  refine kBlock ?_
  refine kLoopX (ι := Nat × Own × List (Int × Int × Bool)) (fun x => x.1 ≤ m.sets.length ∧ x.2.2 = partL m S x.1 ∧ OS 3 x.2.1 (x.2.2.map rowS)) (fun x => [(13, i64 (x.1 : Nat))]) [(0, _), (1, _), (2, _), (4, _), (8, _), (5, _), (9, _), (10, _), (11, _), (12, _)] (fun x => []) (fun x => ([(n5, blk (partC y m x.2.1 (x.2.2.map rowS).length) 29)] ++ osL 49 x.2.1)) [(n4, _), (n2, _)] (fun x => m.sets.length - x.1) (0, .e none, []) (⟨Nat.zero_le _, rfl, OS.empty⟩) rfl (.c rfl .n) (.c rfl (.c rfl (.c rfl (.c rfl (.c rfl (.c rfl (.c rfl (.c rfl (.c rfl (.c rfl .n)))))))))) (.c 1 rfl (.c 1 rfl (.c 0 rfl .n))) ?_
  rintro ⟨i, g, l⟩ ⟨hi, hl, hg⟩
  dsimp only at hi hl hg ⊢
  have hlen := partL_len m S i
  rw [← hl] at hlen
  refine kSeq ?_
  refine kRegion rfl ?_
  refine lV (yLss rfl rfl) rfl rfl ?_
  refine lNil ?_
  refine kThen ?_
  refine kSeq ?_
  refine split (t := 14) rfl (fun h14 => ?_) (fun h14 => ?_)
  · refine kIfT rfl ?_
    refine kSkip ?_
    refine kThen ?_
    refine kSeq ?_
    refine kBlock ?_
    refine kSeq ?_
    refine kRegion rfl ?_
    refine lV (yMove rfl) rfl rfl ?_
    refine lV (yIndexS  rfl rfl S27 (hm.s.r) ((by omega))) rfl rfl ?_
    refine lV (yLoadA (vs := [_, _, _]) rfl A49 (cSl0 (hm.s.r) ((by omega)) rfl)) rfl rfl ?_
    refine lE rfl ?_
    refine eAlloc Z49 fun n7 => ?_
    refine lV (yAssign rfl) rfl rfl ?_
    refine lE rfl ?_
    refine eStoreL 0 rfl rfl rfl rfl K49 rfl (rfl) ?_
    refine lNil ?_
    refine kThen ?_
    refine kSeq ?_
    refine kRegion rfl ?_
    refine lV (yMove rfl) rfl rfl ?_
    refine lV (yMove rfl) rfl rfl ?_
    refine lV (yShr rfl rfl rfl (by omega)) rfl rfl ?_
    refine lV (yAnd (b := 1) rfl rfl rfl (by have := Nat.div_le_self S (2 ^ i); omega) (by have := Nat.div_le_self S (2 ^ i); omega)) rfl rfl ?_
    refine lV (yEql rfl rfl) rfl rfl ?_
    refine lNil ?_
    refine kThen ?_
    refine split (t := 22) rfl (fun h22 => ?_) (fun h22 => ?_)
    · refine kIfT rfl ?_
      refine kRegion rfl ?_
      refine lV (yFieldAddr rfl F29_3) rfl rfl ?_
      refine lV (yLoad1 rfl O27 (cOwn 3 rfl rfl)) rfl rfl ?_
      refine lV (yLoadA (vs := [_, _, _]) rfl A49 (cOwn 0 rfl rfl)) rfl rfl ?_
      refine lE rfl ?_
      refine eBuildSlice (.c rfl .n) (fun w => BS27_1_0 w) fun n26 => ?_
      refine lE rfl ?_
      refine eAppend (gs := g) [(n26, _), (n7, _), (n4, _), (n2, _), (n5, _)] [rowS (setAt m i)] AP27 rfl rfl .r hg rfl (rowsS_len [setAt m i]) (SlN.own 0 rfl rfl) (rowsS_one [setAt m i]) (by simp; omega) (by simp; omega) fun h hh => ?_
      refine same (t := 27) (u := osV h (List.map rowS (l ++ [setAt m i])).length) rfl (by rw [List.map_append]; rfl) ?_
      refine lV (yFieldAddr rfl F29_3) rfl rfl ?_
      refine lE rfl ?_
      refine eStoreL 4 rfl rfl rfl rfl K27 rfl (rfl) ?_
      refine lNil ?_
      refine kInN ?_
      refine kThen ?_
      refine kRegion rfl ?_
      refine lV (yAdd rfl rfl (by omega)) rfl rfl ?_
      refine lV (yMove rfl) rfl rfl ?_
      refine lNil ?_
      exact kRoundX (i + 1, h, l ++ [setAt m i]) (⟨by dsimp only; omega, by dsimp only; rw [partL_succ, if_pos ((bit_iff S i).1 h22), ← hl], by dsimp only; rw [List.map_append]; exact hh⟩) (by dsimp only; omega) rfl (.c rfl .n) (.c rfl (.c rfl (.c rfl (.c rfl (.c rfl (.c rfl (.c rfl (.c rfl (.c rfl (.c rfl .n)))))))))) (.c 2 rfl (.c 2 rfl (.c 2 rfl (.d 0 (.d 0 .r)))))
    · refine kIfF rfl ?_
      refine kSkip ?_
      refine kInN ?_
      refine kThen ?_
      refine kRegion rfl ?_
      refine lV (yAdd rfl rfl (by omega)) rfl rfl ?_
      refine lV (yMove rfl) rfl rfl ?_
      refine lNil ?_
      exact kRoundX (i + 1, g, l) (⟨by dsimp only; omega, by dsimp only; rw [partL_succ, if_neg fun hx => h22 ((bit_iff S i).2 hx), ← hl], hg⟩) (by dsimp only; omega) rfl (.c rfl .n) (.c rfl (.c rfl (.c rfl (.c rfl (.c rfl (.c rfl (.c rfl (.c rfl (.c rfl (.c rfl .n)))))))))) (.c 1 rfl (.c 1 rfl (.c 1 rfl (.d 0 .r))))
  · refine kIfF rfl ?_
    refine kExit ?_
    refine kThenX ?_
    refine kThenX ?_
    refine kInX ?_
    refine kThen ?_
    refine kSeq ?_
    refine kRegion rfl ?_
    refine lV (yLoadA (vs := [_, _, _, _, _, _, _]) rfl A29 (cOwn 2 rfl rfl)) rfl rfl ?_
    refine lE rfl ?_
    refine eStoreL 0 rfl rfl rfl rfl K29 rfl (rfl) ?_
    refine lNil ?_
    refine kThen ?_
    refine kRet ?_
    refine fRet rfl (.cA (us := [_, _, _, _, _, _, _]) rfl A29 (cOwn 0 rfl rfl) .n) ?_
    have hi' : i = m.sets.length := by omega
    have hl' : l = partL m S m.sets.length := by rw [hl, hi']
    have hlen : (l.map rowS).length = (partM m S).sets.length := by rw [hl', List.length_map]; rfl
    rw [hlen]
    exact endX g (hl' ▸ hg) rfl rfl (.d 0 (.d 0 (.d 0 .r)))
theorem part_sum {m : Meas} (hM : MeasOk m) (S : Nat) : decide ((sumE (partM m S)).2 = 0) = canF m S := by
  have hP := part_ok hM S
  rw [← part_can hM S]
  cases hc : canF (partM m S) (fullS (partM m S))
  · rw [sumE_clash hP fun h => by rw [(okF_can _).1 h] at hc; cases hc]; rfl
  · rw [sumE_ok hP ((okF_can _).2 hc)]; rfl
set_option maxRecDepth 100000 in
theorem canC_any (nb : Nat) (y : Loc) (m : Meas) (S : Nat) (w : World) (hm : InM w y m) (hM : MeasOk m) (hS : S < 2 ^ 62) (hb : w.heap[nb]? = some (blk (measC y m) 29)) :
    Calls Try.prog 31 [i64 (S : Nat), .pointer (some ⟨nb, 0, none⟩)].toArray w (Ret w (.bool (canF m S))) := by
  have hN := hM.n
  refine fEnter Try.func31 rfl Try.ntmps31 rfl ?_
  refine kSeq ?_
  refine kRegion rfl ?_
  refine lV (yAssign rfl) rfl rfl ?_
  refine lNil ?_
  refine kThen ?_
  refine kSeq ?_
  refine kRegion rfl ?_
  refine lV (yLoadA (vs := [_, _, _, _, _, _, _]) rfl A29 (cOldB (hb) rfl)) rfl rfl ?_
  refine lV (yMove rfl) rfl rfl ?_
  refine lE rfl ?_
  refine eCallO rfl (.c rfl (.c rfl .n)) C32 (fun w hw => part_any y m S w (hm.eff hw) hS (by omega)) fun g hg => ?_
  refine lV (yCall rfl (.c rfl .n) C18 (fun w hw => sum_any (locG y g) (partM m S) w ⟨(hm.eff hw).e, OS.rowsE (f := rowS) (0, 0, false) hg hw .r⟩)) rfl rfl ?_
  refine lV (yMove rfl) rfl rfl ?_
  refine lV (yExtract rfl rfl) rfl rfl ?_
  refine lV (yExtract rfl rfl) rfl rfl ?_
  refine lE rfl ?_
  refine eAlloc Z24 fun n4 => ?_
  refine lE rfl ?_
  refine eStoreL 0 rfl rfl rfl rfl K24 rfl (rfl) ?_
  refine lV (yAssign rfl) rfl rfl ?_
  refine lNil ?_
  refine kThen ?_
  refine kSeq ?_
  refine kRegion rfl ?_
  refine lV (yMove rfl) rfl rfl ?_
  refine lV (yEql rfl rfl) rfl rfl ?_
  refine lV (yAssign rfl) rfl rfl ?_
  refine lNil ?_
  refine kThen ?_
  refine kRet ?_
  refine fRet rfl (.t rfl .n) (endRet ?_)
  exact congrArg Value.bool (part_sum hM S)
set_option maxHeartbeats 2000000 in
set_option maxRecDepth 100000 in
theorem clashL_any (y : Loc) (m : Meas) (b : Nat) (w : World) (hm : InM w y m) (hb : b < 65536) : Calls Try.prog 6 [.agg (measC y m).toArray, .int .u16 (b : Nat)].toArray w (Ret w (.bool true)) := by
  refine fEnter Try.func6 rfl Try.ntmps6 rfl ?_
  refine kSeq ?_
  refine kRegion rfl ?_
  refine lE rfl ?_
  refine eBoxA rfl fun n2 => ?_
  refine lV (yAssign rfl) rfl rfl ?_
  refine lNil ?_
  refine kThen ?_
  refine kSeq ?_
  refine kSeq ?_
  refine kRegion rfl ?_
  refine lV (yLoadA (vs := [_, _, _, _, _, _, _]) rfl A29 (cOwn 0 rfl rfl)) rfl rfl ?_
  refine lV (yCall rfl (.c rfl .n) C13 (fun w hw => great_any y m w)) rfl rfl ?_
  refine lNil ?_
  refine kThen ?_
  refine splitB (t := 19) rfl (fun h19 => ?_) (fun h19 => ?_)
  · refine kIfT rfl ?_
    refine kSeq ?_
    refine kRegion rfl ?_
    refine lV (yCall rfl .n C15 (fun w hw => alive_any w)) rfl rfl ?_
    refine lV (yAssign rfl) rfl rfl ?_
    refine lNil ?_
    refine kThen ?_
    refine kRet ?_
    refine kThenR ?_
    refine fRet rfl (.t rfl .n) (endRet ?_)
    first | rfl | (simp [packV, *]; done)
  · have hG := of_decide_eq_false h19
    have hn : m.errs.length ≤ 1000000 := by unfold greatP at hG; omega
    refine kIfF rfl ?_
    refine kSkip ?_
    refine kThen ?_
    refine kSeq ?_
    by_cases hM : MeasOk m
    · refine kRegion rfl ?_
      refine lV (yLoadA (vs := [_, _, _, _, _, _, _]) rfl A29 (cOwn 0 rfl rfl)) rfl rfl ?_
      refine lV (yCall rfl (.c rfl .n) C26 (fun w hw => clash_any y m w (hm.eff hw))) rfl rfl ?_
      refine same (t := 23) (u := outI (((clashS m : Nat) : Int), 0)) rfl (by rw [clashE_S hM]) ?_
      refine lV (yMove rfl) rfl rfl ?_
      refine lV (yExtract rfl rfl) rfl rfl ?_
      refine lV (yExtract rfl rfl) rfl rfl ?_
      refine lV (yAssign rfl) rfl rfl ?_
      refine lV (yAssign rfl) rfl rfl ?_
      refine lNil ?_
      refine kThen ?_
      refine kSeq ?_
      have cf := clash_facts hM
      have cle := cf.cle
      have dle := cf.dle
      have hF := fullS_lt hM
      have hF2 := fullS_62 hM
      have hN := hM.n
      have hown : b &&& fullS m ≤ fullS m := Nat.and_le_right
      refine kRegion rfl ?_
      refine lV (yLoadA (vs := [_, _, _, _, _, _, _]) rfl A29 (cOwn 0 rfl rfl)) rfl rfl ?_
      refine lV (yCall rfl (.c rfl .n) C27 (fun w hw => drop_any y m w (hm.eff hw))) rfl rfl ?_
      refine same (t := 28) (u := outI (((dropS m : Nat) : Int), 0)) rfl (by rw [dropE_S hM]) ?_
      refine lV (yMove rfl) rfl rfl ?_
      refine lV (yExtract rfl rfl) rfl rfl ?_
      refine lV (yExtract rfl rfl) rfl rfl ?_
      refine lV (yAssign rfl) rfl rfl ?_
      refine lV (yAssign rfl) rfl rfl ?_
      refine lNil ?_
      refine kThen ?_
      refine kSeq ?_
      by_cases ho : okF m
      · refine kRegion rfl ?_
        refine lV (yLoadA (vs := [_, _, _, _, _, _, _]) rfl A29 (cOwn 0 rfl rfl)) rfl rfl ?_
        refine lV (yCall rfl (.c rfl .n) C18 (fun w hw => sum_any y m w (hm.eff hw))) rfl rfl ?_
        refine same (t := 33) (u := outV (sumsF m (fullS m)).1 (sumsF m (fullS m)).2 0) rfl (by rw [sumE_ok hM ho]) ?_
        refine lV (yMove rfl) rfl rfl ?_
        refine lV (yExtract rfl rfl) rfl rfl ?_
        refine lV (yExtract rfl rfl) rfl rfl ?_
        refine lE rfl ?_
        refine eAlloc Z24 fun n9 => ?_
        refine lE rfl ?_
        refine eStoreL 0 rfl rfl rfl rfl K24 rfl (rfl) ?_
        refine lV (yAssign rfl) rfl rfl ?_
        refine lNil ?_
        refine kThen ?_
        refine kSeq ?_
        refine kSeq ?_
        have hc0 : clashS m = 0 := cf.c0.1 ho
        have hd0 : dropS m = 0 := cf.d0.1 ho
        refine kRegion rfl ?_
        refine lV (yMove rfl) rfl rfl ?_
        refine lV (yMove rfl) rfl rfl ?_
        refine lV (yNeq rfl rfl) rfl rfl ?_
        refine knownN (t := 38) rfl (fun h => h rfl) ?_
        refine lV (yMove rfl) rfl rfl ?_
        refine lGY rfl rfl rfl (oV (yMove rfl) rfl ?_)
        refine lGY rfl rfl rfl (oV (yNeq rfl rfl) rfl ?_)
        refine knownN (t := 41) rfl (fun h => h rfl) ?_
        refine lV (yPickF rfl rfl) rfl rfl ?_
        refine lNil ?_
        refine kThen ?_
        refine kIfF rfl ?_
        refine kSkip ?_
        refine kThen ?_
        refine kSeq ?_
        have hpp : 1 * 2 ^ m.sets.length ≤ 2 ^ 12 := by rw [Nat.one_mul]; exact Nat.pow_le_pow_right (by omega) hN
        have hp := Nat.two_pow_pos m.sets.length
        refine kRegion rfl ?_
        refine lV (yFieldAddr rfl F29_3) rfl rfl ?_
        refine lV (yLoad1 rfl O27 (cOwn 1 rfl rfl)) rfl rfl ?_
        refine lV (yLen rfl S27) rfl rfl ?_
        refine lV (yShl (a := 1) rfl rfl rfl (by omega) (by omega)) rfl rfl ?_
        refine lV (ySub rfl rfl (by omega)) rfl rfl ?_
        refine same (t := 75) (u := i64 ((fullS m : Nat) : Int)) rfl (by unfold fullS; congr 1; omega) ?_
        refine lV (yAssign rfl) rfl rfl ?_
        refine lNil ?_
        refine kThen ?_
        refine kSeq ?_
        refine kSeq ?_
        refine kRegion rfl ?_
        refine lV (yLoadA (vs := [_, _, _, _, _, _, _]) rfl A29 (cOwn 1 rfl rfl)) rfl rfl ?_
        refine lV (yCall rfl (.c rfl .n) C28 (fun w hw => rmeasure_any y m w (hm.eff hw) hn)) rfl rfl ?_
        refine knownB (t := 77) (c := true) rfl (decide_eq_true hM) ?_
        refine lV (yNot rfl) rfl rfl ?_
        refine lV (yMove rfl) rfl rfl ?_
        refine lGY rfl rfl rfl (oV (yMove rfl) rfl ?_)
        refine lGY rfl rfl rfl (oV (yLss rfl rfl) rfl ?_)
        refine knownN (t := 81) rfl (by omega) ?_
        refine lV (yPickF rfl rfl) rfl rfl ?_
        refine lV (yMove rfl) rfl rfl ?_
        refine lGY rfl rfl rfl (oV (yMove rfl) rfl ?_)
        refine lGY rfl rfl rfl (oV (yMove rfl) rfl ?_)
        refine lGY rfl rfl rfl (oV (yGtr rfl rfl) rfl ?_)
        refine knownN (t := 86) rfl (by omega) ?_
        refine lV (yPickF rfl rfl) rfl rfl ?_
        refine lV (yMove rfl) rfl rfl ?_
        refine lGY rfl rfl rfl (oV (yMove rfl) rfl ?_)
        refine lGY rfl rfl rfl (oV (yLss rfl rfl) rfl ?_)
        refine knownN (t := 90) rfl (by omega) ?_
        refine lV (yPickF rfl rfl) rfl rfl ?_
        refine lV (yMove rfl) rfl rfl ?_
        refine lGY rfl rfl rfl (oV (yMove rfl) rfl ?_)
        refine lGY rfl rfl rfl (oV (yMove rfl) rfl ?_)
        refine lGY rfl rfl rfl (oV (yGtr rfl rfl) rfl ?_)
        refine knownN (t := 95) rfl (by omega) ?_
        refine lV (yPickF rfl rfl) rfl rfl ?_
        refine lV (yMove rfl) rfl rfl ?_
        refine lGY rfl rfl rfl (oV (yMove rfl) rfl ?_)
        refine lGY rfl rfl rfl (oV (yEql rfl rfl) rfl ?_)
        refine known (t := 99) rfl (rfl) ?_
        refine lGY rfl rfl rfl (oV (yMove rfl) rfl ?_)
        refine lGY rfl rfl rfl (oV (yEql rfl rfl) rfl ?_)
        refine known (t := 101) rfl (by omega) ?_
        refine lGY rfl rfl rfl (oV (yNeBool rfl rfl U4) rfl ?_)
        refine knownN (t := 102) rfl (by decide) ?_
        refine lV (yPickF rfl rfl) rfl rfl ?_
        refine lV (yMove rfl) rfl rfl ?_
        refine lGY rfl rfl rfl (oV (yMove rfl) rfl ?_)
        refine lGY rfl rfl rfl (oV (yEql rfl rfl) rfl ?_)
        refine known (t := 106) rfl (rfl) ?_
        refine lGY rfl rfl rfl (oV (yMove rfl) rfl ?_)
        refine lGY rfl rfl rfl (oV (yEql rfl rfl) rfl ?_)
        refine known (t := 108) rfl (by omega) ?_
        refine lGY rfl rfl rfl (oV (yNeBool rfl rfl U4) rfl ?_)
        refine knownN (t := 109) rfl (by decide) ?_
        refine lV (yPickF rfl rfl) rfl rfl ?_
        refine lV (yMove rfl) rfl rfl ?_
        refine lGY rfl rfl rfl (oV (yMove rfl) rfl ?_)
        refine lGY rfl rfl rfl (oV (yNeq rfl rfl) rfl ?_)
        refine knownN (t := 113) rfl (by omega) ?_
        refine lGY rfl rfl rfl (oV (yMove rfl) rfl ?_)
        refine lGN rfl rfl rfl rfl rfl ?_
        refine lGN rfl rfl rfl rfl rfl ?_
        refine lGN rfl rfl rfl rfl rfl ?_
        refine lGN rfl rfl rfl rfl rfl ?_
        refine lGY rfl rfl rfl (oV (yPickF rfl rfl) rfl ?_)
        refine lV (yPickF rfl rfl) rfl rfl ?_
        refine lNil ?_
        refine kThen ?_
        refine kIfF rfl ?_
        refine kSkip ?_
        refine kThen ?_
        refine kSeq ?_
        refine kRegion rfl ?_
        refine lV (yMakeFunc .n (.c rfl .n)) rfl rfl ?_
        refine lV (yAssign rfl) rfl rfl ?_
        refine lNil ?_
        refine kThen ?_
        refine kSeq ?_
        refine kSeq ?_
        refine kRegion rfl ?_
        refine lV (yMove rfl) rfl rfl ?_
        refine lV (yNeq rfl rfl) rfl rfl ?_
        refine knownN (t := 123) rfl (by omega) ?_
        refine lNil ?_
        refine kThen ?_
        refine kIfF rfl ?_
        refine kSkip ?_
        refine kThen ?_
        refine kSeq ?_
        refine kRegion rfl ?_
        refine lV (yMove rfl) rfl rfl ?_
        refine lV (yConvInt rfl U51 U3 (conv_ok (by omega))) rfl rfl ?_
        refine lV (yMove rfl) rfl rfl ?_
        refine lV (yAnd rfl rfl rfl (by omega) (by omega)) rfl rfl ?_
        refine lV (yAssign rfl) rfl rfl ?_
        refine lNil ?_
        refine kThen ?_
        refine kSeq ?_
        refine kRegion rfl ?_
        refine lV (yMove rfl) rfl rfl ?_
        refine lV (yCall rfl (.c rfl .n) C33 (fun w hw => size_any (b &&& fullS m) w (by omega))) rfl rfl ?_
        refine lV (yMove rfl) rfl rfl ?_
        refine lV (yCall rfl (.c rfl .n) C33 (fun w hw => size_any (dropS m) w (by omega))) rfl rfl ?_
        refine lV (yAssign rfl) rfl rfl ?_
        refine lV (yAssign rfl) rfl rfl ?_
        refine lNil ?_
        refine kThen ?_
        refine kSeq ?_
        refine kSeq ?_
        have hl1 := less_lt (a := fullS m) (b := dropS m) (n := 12) (by omega)
        have hl2 := less_lt (a := fullS m) (b := b &&& fullS m) (n := 12) (by omega)
        refine kRegion rfl ?_
        refine lV (yMove rfl) rfl rfl ?_
        refine lV (yMove rfl) rfl rfl ?_
        refine lV (yMove rfl) rfl rfl ?_
        refine lV (yAndNot rfl rfl rfl (by omega) (by omega)) rfl rfl ?_
        refine lV (yCall rfl (.c rfl .n) C31 (fun w hw => canC_any n2 y m (less (fullS m) (dropS m)) w (hm.eff hw) hM (by omega) (hw.blkAt 1 rfl))) rfl rfl ?_
        refine knownB (t := 170) (c := true) rfl (cf.dcan) ?_
        refine lV (yNot rfl) rfl rfl ?_
        refine lV (yMove rfl) rfl rfl ?_
        refine lGY rfl rfl rfl (oV (yMove rfl) rfl ?_)
        refine lGY rfl rfl rfl (oV (yMove rfl) rfl ?_)
        refine lGY rfl rfl rfl (oV (yMove rfl) rfl ?_)
        refine lGY rfl rfl rfl (oV (yAndNot rfl rfl rfl (by omega) (by omega)) rfl ?_)
        refine lGY rfl rfl rfl (oV (yCall rfl (.c rfl .n) C31 (fun w hw => canC_any n2 y m (less (fullS m) (b &&& fullS m)) w (hm.eff hw) hM (by omega) (hw.blkAt 1 rfl))) rfl ?_)
        refine lGY rfl rfl rfl (oV (yMove rfl) rfl ?_)
        refine splitB (t := 178) rfl (fun h178 => ?_) (fun h178 => ?_)
        · have hdm := cf.dmin _ hown h178
          refine lGY rfl rfl rfl (oV (yMove rfl) rfl ?_)
          refine lGY rfl rfl rfl (oV (yMove rfl) rfl ?_)
          refine lGY rfl rfl rfl (oV (yLss rfl rfl) rfl ?_)
          refine knownN (t := 181) rfl (by omega) ?_
          refine lGY rfl rfl rfl (oV (yMove rfl) rfl ?_)
          refine lGY rfl rfl rfl (oV (yMove rfl) rfl ?_)
          refine lGY rfl rfl rfl (oV (yMove rfl) rfl ?_)
          refine lGY rfl rfl rfl (oV (yEql rfl rfl) rfl ?_)
          refine lGY rfl rfl rfl (oV (yMove rfl) rfl ?_)
          refine split (t := 186) rfl (fun h186 => ?_) (fun h186 => ?_)
          · refine lGY rfl rfl rfl (oV (yMove rfl) rfl ?_)
            refine lGY rfl rfl rfl (oV (yMove rfl) rfl ?_)
            refine lGY rfl rfl rfl (oV (yLss rfl rfl) rfl ?_)
            refine knownN (t := 189) rfl (by omega) ?_
            refine lGY rfl rfl rfl (oV (yPickT rfl rfl) rfl ?_)
            refine lGY rfl rfl rfl (oV (yPickF rfl rfl) rfl ?_)
            refine lGY rfl rfl rfl (oV (yPickT rfl rfl) rfl ?_)
            refine lV (yPickF rfl rfl) rfl rfl ?_
            refine lNil ?_
            refine kThen ?_
            refine kIfF rfl ?_
            refine kSkip ?_
            refine kThen ?_
            refine kSeq ?_
            refine kRegion rfl ?_
            refine lV (yMove rfl) rfl rfl ?_
            refine lV (yCall rfl (.c rfl .n) C33 (fun w hw => size_any (b &&& fullS m) w (by omega))) rfl rfl ?_
            refine lV (yMove rfl) rfl rfl ?_
            refine lV (yCall rfl (.c rfl .n) C33 (fun w hw => size_any (clashS m) w (by omega))) rfl rfl ?_
            refine lV (yAssign rfl) rfl rfl ?_
            refine lV (yAssign rfl) rfl rfl ?_
            refine lNil ?_
            refine kThen ?_
            refine kSeq ?_
            refine kRegion rfl ?_
            refine lV (yMove rfl) rfl rfl ?_
            refine lV (yMove rfl) rfl rfl ?_
            refine lV (yCall rfl (.c rfl .n) C31 (fun w hw => canC_any n2 y m (b &&& fullS m) w (hm.eff hw) hM (by omega) (hw.blkAt 1 rfl))) rfl rfl ?_
            refine lV (yMove rfl) rfl rfl ?_
            refine splitB (t := 201) rfl (fun h201 => ?_) (fun h201 => ?_)
            · refine lGN rfl rfl rfl rfl rfl ?_
              refine lGN rfl rfl rfl rfl rfl ?_
              refine lGN rfl rfl rfl rfl rfl ?_
              refine lGU rfl rfl rfl rfl ?_
              refine lGU rfl rfl rfl rfl ?_
              refine lGU rfl rfl rfl rfl ?_
              refine lGU rfl rfl rfl rfl ?_
              refine lGU rfl rfl rfl rfl ?_
              refine lGU rfl rfl rfl rfl ?_
              refine lGU rfl rfl rfl rfl ?_
              refine lGU rfl rfl rfl rfl ?_
              refine lGU rfl rfl rfl rfl ?_
              refine lGU rfl rfl rfl rfl ?_
              refine lGU rfl rfl rfl rfl ?_
              refine lGU rfl rfl rfl rfl ?_
              refine lGU rfl rfl rfl rfl ?_
              refine lGN rfl rfl rfl rfl rfl ?_
              refine lV (yPickT rfl rfl) rfl rfl ?_
              refine lV (yMove rfl) rfl rfl ?_
              refine lGY rfl rfl rfl (oV (yCall rfl .n C15 (fun w hw => alive_any w)) rfl ?_)
              refine lV (yPickT rfl rfl) rfl rfl ?_
              refine lV (yAssign rfl) rfl rfl ?_
              refine lNil ?_
              refine kThen ?_
              refine kRet ?_
              refine fRet rfl (.t rfl .n) (endRet ?_)
              first | rfl | (simp [packV, *]; done)
            · have hcb := cf.cbest _ hown h201
              refine lGY rfl rfl rfl (oV (yMove rfl) rfl ?_)
              refine lGY rfl rfl rfl (oV (yNeq rfl rfl) rfl ?_)
              refine known (t := 203) rfl (by omega) ?_
              refine lGY rfl rfl rfl (oV (yMove rfl) rfl ?_)
              refine lGY rfl rfl rfl (oV (yMove rfl) rfl ?_)
              refine lGY rfl rfl rfl (oV (yMove rfl) rfl ?_)
              refine lGY rfl rfl rfl (oV (yGtr rfl rfl) rfl ?_)
              refine lGY rfl rfl rfl (oV (yMove rfl) rfl ?_)
              refine split (t := 208) rfl (fun h208 => ?_) (fun h208 => ?_)
              · refine lGN rfl rfl rfl rfl rfl ?_
                refine lGN rfl rfl rfl rfl rfl ?_
                refine lGN rfl rfl rfl rfl rfl ?_
                refine lGN rfl rfl rfl rfl rfl ?_
                refine lGU rfl rfl rfl rfl ?_
                refine lGU rfl rfl rfl rfl ?_
                refine lGU rfl rfl rfl rfl ?_
                refine lGN rfl rfl rfl rfl rfl ?_
                refine lGY rfl rfl rfl (oV (yPickT rfl rfl) rfl ?_)
                refine lGY rfl rfl rfl (oV (yPickT rfl rfl) rfl ?_)
                refine lV (yPickF rfl rfl) rfl rfl ?_
                refine lV (yMove rfl) rfl rfl ?_
                refine lGY rfl rfl rfl (oV (yCall rfl .n C15 (fun w hw => alive_any w)) rfl ?_)
                refine lV (yPickT rfl rfl) rfl rfl ?_
                refine lV (yAssign rfl) rfl rfl ?_
                refine lNil ?_
                refine kThen ?_
                refine kRet ?_
                refine fRet rfl (.t rfl .n) (endRet ?_)
                first | rfl | (simp [packV, *]; done)
              · refine lGY rfl rfl rfl (oV (yMove rfl) rfl ?_)
                refine lGY rfl rfl rfl (oV (yMove rfl) rfl ?_)
                refine lGY rfl rfl rfl (oV (yEql rfl rfl) rfl ?_)
                refine known (t := 211) rfl (by omega) ?_
                refine lGY rfl rfl rfl (oV (yMove rfl) rfl ?_)
                refine lGY rfl rfl rfl (oV (yMove rfl) rfl ?_)
                refine lGY rfl rfl rfl (oV (yMove rfl) rfl ?_)
                refine lGY rfl rfl rfl (oV (yGeq rfl rfl) rfl ?_)
                refine known (t := 215) rfl (by omega) ?_
                refine lGY rfl rfl rfl (oV (yPickT rfl rfl) rfl ?_)
                refine lGY rfl rfl rfl (oV (yPickF rfl rfl) rfl ?_)
                refine lGY rfl rfl rfl (oV (yPickT rfl rfl) rfl ?_)
                refine lV (yPickF rfl rfl) rfl rfl ?_
                refine lV (yMove rfl) rfl rfl ?_
                refine lGY rfl rfl rfl (oV (yCall rfl .n C15 (fun w hw => alive_any w)) rfl ?_)
                refine lV (yPickT rfl rfl) rfl rfl ?_
                refine lV (yAssign rfl) rfl rfl ?_
                refine lNil ?_
                refine kThen ?_
                refine kRet ?_
                refine fRet rfl (.t rfl .n) (endRet ?_)
                first | rfl | (simp [packV, *]; done)
          · refine lGN rfl rfl rfl rfl rfl ?_
            refine lGN rfl rfl rfl rfl rfl ?_
            refine lGN rfl rfl rfl rfl rfl ?_
            refine lGY rfl rfl rfl (oV (yPickF rfl rfl) rfl ?_)
            refine lGY rfl rfl rfl (oV (yPickF rfl rfl) rfl ?_)
            refine lGY rfl rfl rfl (oV (yPickT rfl rfl) rfl ?_)
            refine lV (yPickF rfl rfl) rfl rfl ?_
            refine lNil ?_
            refine kThen ?_
            refine kIfF rfl ?_
            refine kSkip ?_
            refine kThen ?_
            refine kSeq ?_
            refine kRegion rfl ?_
            refine lV (yMove rfl) rfl rfl ?_
            refine lV (yCall rfl (.c rfl .n) C33 (fun w hw => size_any (b &&& fullS m) w (by omega))) rfl rfl ?_
            refine lV (yMove rfl) rfl rfl ?_
            refine lV (yCall rfl (.c rfl .n) C33 (fun w hw => size_any (clashS m) w (by omega))) rfl rfl ?_
            refine lV (yAssign rfl) rfl rfl ?_
            refine lV (yAssign rfl) rfl rfl ?_
            refine lNil ?_
            refine kThen ?_
            refine kSeq ?_
            refine kRegion rfl ?_
            refine lV (yMove rfl) rfl rfl ?_
            refine lV (yMove rfl) rfl rfl ?_
            refine lV (yCall rfl (.c rfl .n) C31 (fun w hw => canC_any n2 y m (b &&& fullS m) w (hm.eff hw) hM (by omega) (hw.blkAt 1 rfl))) rfl rfl ?_
            refine lV (yMove rfl) rfl rfl ?_
            refine splitB (t := 201) rfl (fun h201 => ?_) (fun h201 => ?_)
            · refine lGN rfl rfl rfl rfl rfl ?_
              refine lGN rfl rfl rfl rfl rfl ?_
              refine lGN rfl rfl rfl rfl rfl ?_
              refine lGU rfl rfl rfl rfl ?_
              refine lGU rfl rfl rfl rfl ?_
              refine lGU rfl rfl rfl rfl ?_
              refine lGU rfl rfl rfl rfl ?_
              refine lGU rfl rfl rfl rfl ?_
              refine lGU rfl rfl rfl rfl ?_
              refine lGU rfl rfl rfl rfl ?_
              refine lGU rfl rfl rfl rfl ?_
              refine lGU rfl rfl rfl rfl ?_
              refine lGU rfl rfl rfl rfl ?_
              refine lGU rfl rfl rfl rfl ?_
              refine lGU rfl rfl rfl rfl ?_
              refine lGU rfl rfl rfl rfl ?_
              refine lGN rfl rfl rfl rfl rfl ?_
              refine lV (yPickT rfl rfl) rfl rfl ?_
              refine lV (yMove rfl) rfl rfl ?_
              refine lGY rfl rfl rfl (oV (yCall rfl .n C15 (fun w hw => alive_any w)) rfl ?_)
              refine lV (yPickT rfl rfl) rfl rfl ?_
              refine lV (yAssign rfl) rfl rfl ?_
              refine lNil ?_
              refine kThen ?_
              refine kRet ?_
              refine fRet rfl (.t rfl .n) (endRet ?_)
              first | rfl | (simp [packV, *]; done)
            · have hcb := cf.cbest _ hown h201
              refine lGY rfl rfl rfl (oV (yMove rfl) rfl ?_)
              refine lGY rfl rfl rfl (oV (yNeq rfl rfl) rfl ?_)
              refine known (t := 203) rfl (by omega) ?_
              refine lGY rfl rfl rfl (oV (yMove rfl) rfl ?_)
              refine lGY rfl rfl rfl (oV (yMove rfl) rfl ?_)
              refine lGY rfl rfl rfl (oV (yMove rfl) rfl ?_)
              refine lGY rfl rfl rfl (oV (yGtr rfl rfl) rfl ?_)
              refine lGY rfl rfl rfl (oV (yMove rfl) rfl ?_)
              refine split (t := 208) rfl (fun h208 => ?_) (fun h208 => ?_)
              · refine lGN rfl rfl rfl rfl rfl ?_
                refine lGN rfl rfl rfl rfl rfl ?_
                refine lGN rfl rfl rfl rfl rfl ?_
                refine lGN rfl rfl rfl rfl rfl ?_
                refine lGU rfl rfl rfl rfl ?_
                refine lGU rfl rfl rfl rfl ?_
                refine lGU rfl rfl rfl rfl ?_
                refine lGN rfl rfl rfl rfl rfl ?_
                refine lGY rfl rfl rfl (oV (yPickT rfl rfl) rfl ?_)
                refine lGY rfl rfl rfl (oV (yPickT rfl rfl) rfl ?_)
                refine lV (yPickF rfl rfl) rfl rfl ?_
                refine lV (yMove rfl) rfl rfl ?_
                refine lGY rfl rfl rfl (oV (yCall rfl .n C15 (fun w hw => alive_any w)) rfl ?_)
                refine lV (yPickT rfl rfl) rfl rfl ?_
                refine lV (yAssign rfl) rfl rfl ?_
                refine lNil ?_
                refine kThen ?_
                refine kRet ?_
                refine fRet rfl (.t rfl .n) (endRet ?_)
                first | rfl | (simp [packV, *]; done)
              · refine lGY rfl rfl rfl (oV (yMove rfl) rfl ?_)
                refine lGY rfl rfl rfl (oV (yMove rfl) rfl ?_)
                refine lGY rfl rfl rfl (oV (yEql rfl rfl) rfl ?_)
                refine known (t := 211) rfl (by omega) ?_
                refine lGY rfl rfl rfl (oV (yMove rfl) rfl ?_)
                refine lGY rfl rfl rfl (oV (yMove rfl) rfl ?_)
                refine lGY rfl rfl rfl (oV (yMove rfl) rfl ?_)
                refine lGY rfl rfl rfl (oV (yGeq rfl rfl) rfl ?_)
                refine known (t := 215) rfl (by omega) ?_
                refine lGY rfl rfl rfl (oV (yPickT rfl rfl) rfl ?_)
                refine lGY rfl rfl rfl (oV (yPickF rfl rfl) rfl ?_)
                refine lGY rfl rfl rfl (oV (yPickT rfl rfl) rfl ?_)
                refine lV (yPickF rfl rfl) rfl rfl ?_
                refine lV (yMove rfl) rfl rfl ?_
                refine lGY rfl rfl rfl (oV (yCall rfl .n C15 (fun w hw => alive_any w)) rfl ?_)
                refine lV (yPickT rfl rfl) rfl rfl ?_
                refine lV (yAssign rfl) rfl rfl ?_
                refine lNil ?_
                refine kThen ?_
                refine kRet ?_
                refine fRet rfl (.t rfl .n) (endRet ?_)
                first | rfl | (simp [packV, *]; done)
        · refine lGN rfl rfl rfl rfl rfl ?_
          refine lGN rfl rfl rfl rfl rfl ?_
          refine lGN rfl rfl rfl rfl rfl ?_
          refine lGN rfl rfl rfl rfl rfl ?_
          refine lGU rfl rfl rfl rfl ?_
          refine lGU rfl rfl rfl rfl ?_
          refine lGU rfl rfl rfl rfl ?_
          refine lGU rfl rfl rfl rfl ?_
          refine lGU rfl rfl rfl rfl ?_
          refine lGU rfl rfl rfl rfl ?_
          refine lGU rfl rfl rfl rfl ?_
          refine lGU rfl rfl rfl rfl ?_
          refine lGN rfl rfl rfl rfl rfl ?_
          refine lGY rfl rfl rfl (oV (yPickF rfl rfl) rfl ?_)
          refine lV (yPickF rfl rfl) rfl rfl ?_
          refine lNil ?_
          refine kThen ?_
          refine kIfF rfl ?_
          refine kSkip ?_
          refine kThen ?_
          refine kSeq ?_
          refine kRegion rfl ?_
          refine lV (yMove rfl) rfl rfl ?_
          refine lV (yCall rfl (.c rfl .n) C33 (fun w hw => size_any (b &&& fullS m) w (by omega))) rfl rfl ?_
          refine lV (yMove rfl) rfl rfl ?_
          refine lV (yCall rfl (.c rfl .n) C33 (fun w hw => size_any (clashS m) w (by omega))) rfl rfl ?_
          refine lV (yAssign rfl) rfl rfl ?_
          refine lV (yAssign rfl) rfl rfl ?_
          refine lNil ?_
          refine kThen ?_
          refine kSeq ?_
          refine kRegion rfl ?_
          refine lV (yMove rfl) rfl rfl ?_
          refine lV (yMove rfl) rfl rfl ?_
          refine lV (yCall rfl (.c rfl .n) C31 (fun w hw => canC_any n2 y m (b &&& fullS m) w (hm.eff hw) hM (by omega) (hw.blkAt 1 rfl))) rfl rfl ?_
          refine lV (yMove rfl) rfl rfl ?_
          refine splitB (t := 201) rfl (fun h201 => ?_) (fun h201 => ?_)
          · refine lGN rfl rfl rfl rfl rfl ?_
            refine lGN rfl rfl rfl rfl rfl ?_
            refine lGN rfl rfl rfl rfl rfl ?_
            refine lGU rfl rfl rfl rfl ?_
            refine lGU rfl rfl rfl rfl ?_
            refine lGU rfl rfl rfl rfl ?_
            refine lGU rfl rfl rfl rfl ?_
            refine lGU rfl rfl rfl rfl ?_
            refine lGU rfl rfl rfl rfl ?_
            refine lGU rfl rfl rfl rfl ?_
            refine lGU rfl rfl rfl rfl ?_
            refine lGU rfl rfl rfl rfl ?_
            refine lGU rfl rfl rfl rfl ?_
            refine lGU rfl rfl rfl rfl ?_
            refine lGU rfl rfl rfl rfl ?_
            refine lGU rfl rfl rfl rfl ?_
            refine lGN rfl rfl rfl rfl rfl ?_
            refine lV (yPickT rfl rfl) rfl rfl ?_
            refine lV (yMove rfl) rfl rfl ?_
            refine lGY rfl rfl rfl (oV (yCall rfl .n C15 (fun w hw => alive_any w)) rfl ?_)
            refine lV (yPickT rfl rfl) rfl rfl ?_
            refine lV (yAssign rfl) rfl rfl ?_
            refine lNil ?_
            refine kThen ?_
            refine kRet ?_
            refine fRet rfl (.t rfl .n) (endRet ?_)
            first | rfl | (simp [packV, *]; done)
          · have hcb := cf.cbest _ hown h201
            refine lGY rfl rfl rfl (oV (yMove rfl) rfl ?_)
            refine lGY rfl rfl rfl (oV (yNeq rfl rfl) rfl ?_)
            refine known (t := 203) rfl (by omega) ?_
            refine lGY rfl rfl rfl (oV (yMove rfl) rfl ?_)
            refine lGY rfl rfl rfl (oV (yMove rfl) rfl ?_)
            refine lGY rfl rfl rfl (oV (yMove rfl) rfl ?_)
            refine lGY rfl rfl rfl (oV (yGtr rfl rfl) rfl ?_)
            refine lGY rfl rfl rfl (oV (yMove rfl) rfl ?_)
            refine split (t := 208) rfl (fun h208 => ?_) (fun h208 => ?_)
            · refine lGN rfl rfl rfl rfl rfl ?_
              refine lGN rfl rfl rfl rfl rfl ?_
              refine lGN rfl rfl rfl rfl rfl ?_
              refine lGN rfl rfl rfl rfl rfl ?_
              refine lGU rfl rfl rfl rfl ?_
              refine lGU rfl rfl rfl rfl ?_
              refine lGU rfl rfl rfl rfl ?_
              refine lGN rfl rfl rfl rfl rfl ?_
              refine lGY rfl rfl rfl (oV (yPickT rfl rfl) rfl ?_)
              refine lGY rfl rfl rfl (oV (yPickT rfl rfl) rfl ?_)
              refine lV (yPickF rfl rfl) rfl rfl ?_
              refine lV (yMove rfl) rfl rfl ?_
              refine lGY rfl rfl rfl (oV (yCall rfl .n C15 (fun w hw => alive_any w)) rfl ?_)
              refine lV (yPickT rfl rfl) rfl rfl ?_
              refine lV (yAssign rfl) rfl rfl ?_
              refine lNil ?_
              refine kThen ?_
              refine kRet ?_
              refine fRet rfl (.t rfl .n) (endRet ?_)
              first | rfl | (simp [packV, *]; done)
            · refine lGY rfl rfl rfl (oV (yMove rfl) rfl ?_)
              refine lGY rfl rfl rfl (oV (yMove rfl) rfl ?_)
              refine lGY rfl rfl rfl (oV (yEql rfl rfl) rfl ?_)
              refine known (t := 211) rfl (by omega) ?_
              refine lGY rfl rfl rfl (oV (yMove rfl) rfl ?_)
              refine lGY rfl rfl rfl (oV (yMove rfl) rfl ?_)
              refine lGY rfl rfl rfl (oV (yMove rfl) rfl ?_)
              refine lGY rfl rfl rfl (oV (yGeq rfl rfl) rfl ?_)
              refine known (t := 215) rfl (by omega) ?_
              refine lGY rfl rfl rfl (oV (yPickT rfl rfl) rfl ?_)
              refine lGY rfl rfl rfl (oV (yPickF rfl rfl) rfl ?_)
              refine lGY rfl rfl rfl (oV (yPickT rfl rfl) rfl ?_)
              refine lV (yPickF rfl rfl) rfl rfl ?_
              refine lV (yMove rfl) rfl rfl ?_
              refine lGY rfl rfl rfl (oV (yCall rfl .n C15 (fun w hw => alive_any w)) rfl ?_)
              refine lV (yPickT rfl rfl) rfl rfl ?_
              refine lV (yAssign rfl) rfl rfl ?_
              refine lNil ?_
              refine kThen ?_
              refine kRet ?_
              refine fRet rfl (.t rfl .n) (endRet ?_)
              first | rfl | (simp [packV, *]; done)
      · refine kRegion rfl ?_
        refine lV (yLoadA (vs := [_, _, _, _, _, _, _]) rfl A29 (cOwn 0 rfl rfl)) rfl rfl ?_
        refine lV (yCall rfl (.c rfl .n) C18 (fun w hw => sum_any y m w (hm.eff hw))) rfl rfl ?_
        refine same (t := 33) (u := outV 0 0 10) rfl (by rw [sumE_clash hM ho]) ?_
        refine lV (yMove rfl) rfl rfl ?_
        refine lV (yExtract rfl rfl) rfl rfl ?_
        refine lV (yExtract rfl rfl) rfl rfl ?_
        refine lE rfl ?_
        refine eAlloc Z24 fun n9 => ?_
        refine lE rfl ?_
        refine eStoreL 0 rfl rfl rfl rfl K24 rfl (rfl) ?_
        refine lV (yAssign rfl) rfl rfl ?_
        refine lNil ?_
        refine kThen ?_
        refine kSeq ?_
        refine kSeq ?_
        have hc0 : clashS m ≠ 0 := fun h => ho (cf.c0.2 h)
        have hd0 : dropS m ≠ 0 := fun h => ho (cf.d0.2 h)
        have hcd := cf.cd hc0
        have hc2 := cf.c2 hc0
        refine kRegion rfl ?_
        refine lV (yMove rfl) rfl rfl ?_
        refine lV (yMove rfl) rfl rfl ?_
        refine lV (yNeq rfl rfl) rfl rfl ?_
        refine knownN (t := 38) rfl (fun h => h rfl) ?_
        refine lV (yMove rfl) rfl rfl ?_
        refine lGY rfl rfl rfl (oV (yMove rfl) rfl ?_)
        refine lGY rfl rfl rfl (oV (yNeq rfl rfl) rfl ?_)
        refine knownN (t := 41) rfl (fun h => h rfl) ?_
        refine lV (yPickF rfl rfl) rfl rfl ?_
        refine lNil ?_
        refine kThen ?_
        refine kIfF rfl ?_
        refine kSkip ?_
        refine kThen ?_
        refine kSeq ?_
        have hpp : 1 * 2 ^ m.sets.length ≤ 2 ^ 12 := by rw [Nat.one_mul]; exact Nat.pow_le_pow_right (by omega) hN
        have hp := Nat.two_pow_pos m.sets.length
        refine kRegion rfl ?_
        refine lV (yFieldAddr rfl F29_3) rfl rfl ?_
        refine lV (yLoad1 rfl O27 (cOwn 1 rfl rfl)) rfl rfl ?_
        refine lV (yLen rfl S27) rfl rfl ?_
        refine lV (yShl (a := 1) rfl rfl rfl (by omega) (by omega)) rfl rfl ?_
        refine lV (ySub rfl rfl (by omega)) rfl rfl ?_
        refine same (t := 75) (u := i64 ((fullS m : Nat) : Int)) rfl (by unfold fullS; congr 1; omega) ?_
        refine lV (yAssign rfl) rfl rfl ?_
        refine lNil ?_
        refine kThen ?_
        refine kSeq ?_
        refine kSeq ?_
        refine kRegion rfl ?_
        refine lV (yLoadA (vs := [_, _, _, _, _, _, _]) rfl A29 (cOwn 1 rfl rfl)) rfl rfl ?_
        refine lV (yCall rfl (.c rfl .n) C28 (fun w hw => rmeasure_any y m w (hm.eff hw) hn)) rfl rfl ?_
        refine knownB (t := 77) (c := true) rfl (decide_eq_true hM) ?_
        refine lV (yNot rfl) rfl rfl ?_
        refine lV (yMove rfl) rfl rfl ?_
        refine lGY rfl rfl rfl (oV (yMove rfl) rfl ?_)
        refine lGY rfl rfl rfl (oV (yLss rfl rfl) rfl ?_)
        refine knownN (t := 81) rfl (by omega) ?_
        refine lV (yPickF rfl rfl) rfl rfl ?_
        refine lV (yMove rfl) rfl rfl ?_
        refine lGY rfl rfl rfl (oV (yMove rfl) rfl ?_)
        refine lGY rfl rfl rfl (oV (yMove rfl) rfl ?_)
        refine lGY rfl rfl rfl (oV (yGtr rfl rfl) rfl ?_)
        refine knownN (t := 86) rfl (by omega) ?_
        refine lV (yPickF rfl rfl) rfl rfl ?_
        refine lV (yMove rfl) rfl rfl ?_
        refine lGY rfl rfl rfl (oV (yMove rfl) rfl ?_)
        refine lGY rfl rfl rfl (oV (yLss rfl rfl) rfl ?_)
        refine knownN (t := 90) rfl (by omega) ?_
        refine lV (yPickF rfl rfl) rfl rfl ?_
        refine lV (yMove rfl) rfl rfl ?_
        refine lGY rfl rfl rfl (oV (yMove rfl) rfl ?_)
        refine lGY rfl rfl rfl (oV (yMove rfl) rfl ?_)
        refine lGY rfl rfl rfl (oV (yGtr rfl rfl) rfl ?_)
        refine knownN (t := 95) rfl (by omega) ?_
        refine lV (yPickF rfl rfl) rfl rfl ?_
        refine lV (yMove rfl) rfl rfl ?_
        refine lGY rfl rfl rfl (oV (yMove rfl) rfl ?_)
        refine lGY rfl rfl rfl (oV (yEql rfl rfl) rfl ?_)
        refine knownN (t := 99) rfl (by decide) ?_
        refine lGY rfl rfl rfl (oV (yMove rfl) rfl ?_)
        refine lGY rfl rfl rfl (oV (yEql rfl rfl) rfl ?_)
        refine knownN (t := 101) rfl (by omega) ?_
        refine lGY rfl rfl rfl (oV (yNeBool rfl rfl U4) rfl ?_)
        refine knownN (t := 102) rfl (by decide) ?_
        refine lV (yPickF rfl rfl) rfl rfl ?_
        refine lV (yMove rfl) rfl rfl ?_
        refine lGY rfl rfl rfl (oV (yMove rfl) rfl ?_)
        refine lGY rfl rfl rfl (oV (yEql rfl rfl) rfl ?_)
        refine knownN (t := 106) rfl (by decide) ?_
        refine lGY rfl rfl rfl (oV (yMove rfl) rfl ?_)
        refine lGY rfl rfl rfl (oV (yEql rfl rfl) rfl ?_)
        refine knownN (t := 108) rfl (by omega) ?_
        refine lGY rfl rfl rfl (oV (yNeBool rfl rfl U4) rfl ?_)
        refine knownN (t := 109) rfl (by decide) ?_
        refine lV (yPickF rfl rfl) rfl rfl ?_
        refine lV (yMove rfl) rfl rfl ?_
        refine lGY rfl rfl rfl (oV (yMove rfl) rfl ?_)
        refine lGY rfl rfl rfl (oV (yNeq rfl rfl) rfl ?_)
        refine known (t := 113) rfl (by omega) ?_
        refine lGY rfl rfl rfl (oV (yMove rfl) rfl ?_)
        refine lGY rfl rfl rfl (oV (yMove rfl) rfl ?_)
        refine lGY rfl rfl rfl (oV (yMove rfl) rfl ?_)
        refine lGY rfl rfl rfl (oV (yAnd rfl rfl rfl (by omega) (by omega)) rfl ?_)
        refine lGY rfl rfl rfl (oV (yEql rfl rfl) rfl ?_)
        refine knownN (t := 118) rfl (by omega) ?_
        refine lGY rfl rfl rfl (oV (yPickT rfl rfl) rfl ?_)
        refine lV (yPickF rfl rfl) rfl rfl ?_
        refine lNil ?_
        refine kThen ?_
        refine kIfF rfl ?_
        refine kSkip ?_
        refine kThen ?_
        refine kSeq ?_
        refine kRegion rfl ?_
        refine lV (yMakeFunc .n (.c rfl .n)) rfl rfl ?_
        refine lV (yAssign rfl) rfl rfl ?_
        refine lNil ?_
        refine kThen ?_
        refine kSeq ?_
        refine kSeq ?_
        refine kRegion rfl ?_
        refine lV (yMove rfl) rfl rfl ?_
        refine lV (yNeq rfl rfl) rfl rfl ?_
        refine known (t := 123) rfl (by omega) ?_
        refine lNil ?_
        refine kThen ?_
        refine kIfT rfl ?_
        refine kSeq ?_
        refine kSeq ?_
        refine kRegion rfl ?_
        refine lV (yMove rfl) rfl rfl ?_
        refine lV (yCall rfl (.c rfl .n) C33 (fun w hw => size_any (clashS m) w (by omega))) rfl rfl ?_
        refine lV (yAssign rfl) rfl rfl ?_
        refine lNil ?_
        refine kThen ?_
        refine kSeq ?_
        refine kRegion rfl ?_
        refine lV (yMove rfl) rfl rfl ?_
        refine lV (yLss rfl rfl) rfl rfl ?_
        refine knownN (t := 127) rfl (by omega) ?_
        refine lV (yMove rfl) rfl rfl ?_
        refine lGY rfl rfl rfl (oV (yMove rfl) rfl ?_)
        refine lGY rfl rfl rfl (oV (yGtr rfl rfl) rfl ?_)
        refine knownN (t := 130) rfl (by omega) ?_
        refine lV (yPickF rfl rfl) rfl rfl ?_
        refine lV (yMove rfl) rfl rfl ?_
        refine lGY rfl rfl rfl (oV (yMove rfl) rfl ?_)
        refine lGY rfl rfl rfl (oV (yMove rfl) rfl ?_)
        refine lGY rfl rfl rfl (oV (yCall rfl (.c rfl .n) C31 (fun w hw => canC_any n2 y m (clashS m) w (hm.eff hw) hM (by omega) (hw.blkAt 1 rfl))) rfl ?_)
        refine knownB (t := 135) (c := false) rfl (cf.cbad hc0) ?_
        refine lV (yPickF rfl rfl) rfl rfl ?_
        refine lNil ?_
        refine kThen ?_
        refine kIfF rfl ?_
        refine kSkip ?_
        refine kThen ?_
        refine kSeq ?_
        refine kRegion rfl ?_
        refine lV (yFieldAddr rfl F29_3) rfl rfl ?_
        refine lV (yLoad1 rfl O27 (cOwn 1 rfl rfl)) rfl rfl ?_
        refine lV (yLen rfl S27) rfl rfl ?_
        refine lV (yMove rfl) rfl rfl ?_
        refine lNil ?_
        refine kThen ?_
        refine kBlock ?_
        refine kLoopX (ι := Nat) (fun i => i ≤ m.sets.length) (fun i => [(140, i64 (i : Nat))]) [(0, _), (1, _), (2, _), (18, _), (19, _), (22, _), (23, _), (21, _), (24, _), (25, _), (5, _), (6, _), (27, _), (28, _), (26, _), (29, _), (30, _), (7, _), (8, _), (32, _), (33, _), (31, _), (34, _), (35, _), (9, _), (10, _), (36, _), (37, _), (38, _), (39, _), (40, _), (41, _), (42, _), (71, _), (72, _), (73, _), (74, _), (75, _), (11, _), (76, _), (77, _), (78, _), (79, _), (80, _), (81, _), (82, _), (83, _), (84, _), (85, _), (86, _), (87, _), (88, _), (89, _), (90, _), (91, _), (92, _), (93, _), (94, _), (95, _), (96, _), (97, _), (98, _), (99, _), (100, _), (101, _), (102, _), (103, _), (104, _), (105, _), (106, _), (107, _), (108, _), (109, _), (110, _), (111, _), (112, _), (113, _), (114, _), (115, _), (116, _), (117, _), (118, _), (119, _), (120, _), (121, _), (12, _), (122, _), (123, _), (124, _), (125, _), (13, _), (126, _), (127, _), (128, _), (129, _), (130, _), (131, _), (132, _), (133, _), (134, _), (135, _), (136, _), (137, _), (138, _), (139, _)] (fun i => []) (fun i => []) [(n9, _), (n2, _)] (fun i => m.sets.length - i) 0 (Nat.zero_le _) rfl (.c rfl .n) (.c rfl (.c rfl (.c rfl (.c rfl (.c rfl (.c rfl (.c rfl (.c rfl (.c rfl (.c rfl (.c rfl (.c rfl (.c rfl (.c rfl (.c rfl (.c rfl (.c rfl (.c rfl (.c rfl (.c rfl (.c rfl (.c rfl (.c rfl (.c rfl (.c rfl (.c rfl (.c rfl (.c rfl (.c rfl (.c rfl (.c rfl (.c rfl (.c rfl (.c rfl (.c rfl (.c rfl (.c rfl (.c rfl (.c rfl (.c rfl (.c rfl (.c rfl (.c rfl (.c rfl (.c rfl (.c rfl (.c rfl (.c rfl (.c rfl (.c rfl (.c rfl (.c rfl (.c rfl (.c rfl (.c rfl (.c rfl (.c rfl (.c rfl (.c rfl (.c rfl (.c rfl (.c rfl (.c rfl (.c rfl (.c rfl (.c rfl (.c rfl (.c rfl (.c rfl (.c rfl (.c rfl (.c rfl (.c rfl (.c rfl (.c rfl (.c rfl (.c rfl (.c rfl (.c rfl (.c rfl (.c rfl (.c rfl (.c rfl (.c rfl (.c rfl (.c rfl (.c rfl (.c rfl (.c rfl (.c rfl (.c rfl (.c rfl (.c rfl (.c rfl (.c rfl (.c rfl (.c rfl (.c rfl (.c rfl (.c rfl (.c rfl (.c rfl (.c rfl (.c rfl (.c rfl .n))))))))))))))))))))))))))))))))))))))))))))))))))))))))))))))))))))))))))))))))))))))))))))))))))))))))) (.c 0 rfl (.c 0 rfl .n)) ?_
        rintro i hi
        have hpi : 1 * 2 ^ i ≤ 2 ^ 12 := by rw [Nat.one_mul]; exact Nat.pow_le_pow_right (by omega) (by omega)
        have hll := less_lt (a := clashS m) (b := 1 * 2 ^ i) (n := 12) (by omega)
        refine kSeq ?_
        refine kRegion rfl ?_
        refine lV (yLss rfl rfl) rfl rfl ?_
        refine lNil ?_
        refine kThen ?_
        refine kSeq ?_
        refine split (t := 141) rfl (fun h141 => ?_) (fun h141 => ?_)
        · refine kIfT rfl ?_
          refine kSkip ?_
          refine kThen ?_
          refine kSeq ?_
          refine kBlock ?_
          refine kSeq ?_
          refine kRegion rfl ?_
          refine lV (yMove rfl) rfl rfl ?_
          refine lV (yAssign rfl) rfl rfl ?_
          refine lNil ?_
          refine kThen ?_
          refine kSeq ?_
          refine kRegion rfl ?_
          refine lV (yMove rfl) rfl rfl ?_
          refine lV (yMove rfl) rfl rfl ?_
          refine lV (yShr rfl rfl rfl (by omega)) rfl rfl ?_
          refine lV (yAnd (b := 1) rfl rfl rfl (by have := Nat.div_le_self (clashS m) (2 ^ i); omega) (by have := Nat.div_le_self (clashS m) (2 ^ i); omega)) rfl rfl ?_
          refine lV (yEql rfl rfl) rfl rfl ?_
          refine lV (yMove rfl) rfl rfl ?_
          refine split (t := 148) rfl (fun h148 => ?_) (fun h148 => ?_)
          · refine lGY rfl rfl rfl (oV (yMove rfl) rfl ?_)
            refine lGY rfl rfl rfl (oV (yMove rfl) rfl ?_)
            refine lGY rfl rfl rfl (oV (yMove rfl) rfl ?_)
            refine lGY rfl rfl rfl (oV (yShl (a := 1) rfl rfl rfl (by omega) (by omega)) rfl ?_)
            refine lGY rfl rfl rfl (oV (yAndNot rfl rfl rfl (by omega) (by omega)) rfl ?_)
            refine lGY rfl rfl rfl (oV (yCall rfl (.c rfl .n) C31 (fun w hw => canC_any n2 y m (less (clashS m) (1 * 2 ^ i)) w (hm.eff hw) hM (by omega) (hw.blkAt 1 rfl))) rfl ?_)
            refine knownB (t := 154) (c := true) rfl (by rw [Nat.one_mul]; exact cf.cmin hc0 i ((bit_iff _ i).1 h148)) ?_
            refine lGY rfl rfl rfl (oV (yNot rfl) rfl ?_)
            refine lV (yPickT rfl rfl) rfl rfl ?_
            refine lNil ?_
            refine kThen ?_
            refine kIfF rfl ?_
            refine kSkip ?_
            refine kInN ?_
            refine kThen ?_
            refine kRegion rfl ?_
            refine lV (yAdd rfl rfl (by omega)) rfl rfl ?_
            refine lV (yMove rfl) rfl rfl ?_
            refine lNil ?_
            exact kRoundX (i + 1) (by omega) (by omega) rfl (.c rfl .n) (.c rfl (.c rfl (.c rfl (.c rfl (.c rfl (.c rfl (.c rfl (.c rfl (.c rfl (.c rfl (.c rfl (.c rfl (.c rfl (.c rfl (.c rfl (.c rfl (.c rfl (.c rfl (.c rfl (.c rfl (.c rfl (.c rfl (.c rfl (.c rfl (.c rfl (.c rfl (.c rfl (.c rfl (.c rfl (.c rfl (.c rfl (.c rfl (.c rfl (.c rfl (.c rfl (.c rfl (.c rfl (.c rfl (.c rfl (.c rfl (.c rfl (.c rfl (.c rfl (.c rfl (.c rfl (.c rfl (.c rfl (.c rfl (.c rfl (.c rfl (.c rfl (.c rfl (.c rfl (.c rfl (.c rfl (.c rfl (.c rfl (.c rfl (.c rfl (.c rfl (.c rfl (.c rfl (.c rfl (.c rfl (.c rfl (.c rfl (.c rfl (.c rfl (.c rfl (.c rfl (.c rfl (.c rfl (.c rfl (.c rfl (.c rfl (.c rfl (.c rfl (.c rfl (.c rfl (.c rfl (.c rfl (.c rfl (.c rfl (.c rfl (.c rfl (.c rfl (.c rfl (.c rfl (.c rfl (.c rfl (.c rfl (.c rfl (.c rfl (.c rfl (.c rfl (.c rfl (.c rfl (.c rfl (.c rfl (.c rfl (.c rfl (.c rfl (.c rfl (.c rfl (.c rfl .n))))))))))))))))))))))))))))))))))))))))))))))))))))))))))))))))))))))))))))))))))))))))))))))))))))))))) (.c 0 rfl (.c 0 rfl .n))
          · refine lGN rfl rfl rfl rfl rfl ?_
            refine lGN rfl rfl rfl rfl rfl ?_
            refine lGN rfl rfl rfl rfl rfl ?_
            refine lGN rfl rfl rfl rfl rfl ?_
            refine lGN rfl rfl rfl rfl rfl ?_
            refine lGN rfl rfl rfl rfl rfl ?_
            refine lGN rfl rfl rfl rfl rfl ?_
            refine lV (yPickF rfl rfl) rfl rfl ?_
            refine lNil ?_
            refine kThen ?_
            refine kIfF rfl ?_
            refine kSkip ?_
            refine kInN ?_
            refine kThen ?_
            refine kRegion rfl ?_
            refine lV (yAdd rfl rfl (by omega)) rfl rfl ?_
            refine lV (yMove rfl) rfl rfl ?_
            refine lNil ?_
            exact kRoundX (i + 1) (by omega) (by omega) rfl (.c rfl .n) (.c rfl (.c rfl (.c rfl (.c rfl (.c rfl (.c rfl (.c rfl (.c rfl (.c rfl (.c rfl (.c rfl (.c rfl (.c rfl (.c rfl (.c rfl (.c rfl (.c rfl (.c rfl (.c rfl (.c rfl (.c rfl (.c rfl (.c rfl (.c rfl (.c rfl (.c rfl (.c rfl (.c rfl (.c rfl (.c rfl (.c rfl (.c rfl (.c rfl (.c rfl (.c rfl (.c rfl (.c rfl (.c rfl (.c rfl (.c rfl (.c rfl (.c rfl (.c rfl (.c rfl (.c rfl (.c rfl (.c rfl (.c rfl (.c rfl (.c rfl (.c rfl (.c rfl (.c rfl (.c rfl (.c rfl (.c rfl (.c rfl (.c rfl (.c rfl (.c rfl (.c rfl (.c rfl (.c rfl (.c rfl (.c rfl (.c rfl (.c rfl (.c rfl (.c rfl (.c rfl (.c rfl (.c rfl (.c rfl (.c rfl (.c rfl (.c rfl (.c rfl (.c rfl (.c rfl (.c rfl (.c rfl (.c rfl (.c rfl (.c rfl (.c rfl (.c rfl (.c rfl (.c rfl (.c rfl (.c rfl (.c rfl (.c rfl (.c rfl (.c rfl (.c rfl (.c rfl (.c rfl (.c rfl (.c rfl (.c rfl (.c rfl (.c rfl (.c rfl (.c rfl (.c rfl .n))))))))))))))))))))))))))))))))))))))))))))))))))))))))))))))))))))))))))))))))))))))))))))))))))))))))) (.c 0 rfl (.c 0 rfl .n))
        · refine kIfF rfl ?_
          refine kExit ?_
          refine kThenX ?_
          refine kThenX ?_
          refine kInX ?_
          refine kThen ?_
          refine kSeq ?_
          refine kRegion rfl ?_
          refine lV (yMove rfl) rfl rfl ?_
          refine lV (yConvInt rfl U51 U3 (conv_ok (by omega))) rfl rfl ?_
          refine lV (yMove rfl) rfl rfl ?_
          refine lV (yAnd rfl rfl rfl (by omega) (by omega)) rfl rfl ?_
          refine lV (yAssign rfl) rfl rfl ?_
          refine lNil ?_
          refine kThen ?_
          refine kSeq ?_
          refine kRegion rfl ?_
          refine lV (yMove rfl) rfl rfl ?_
          refine lV (yCall rfl (.c rfl .n) C33 (fun w hw => size_any (b &&& fullS m) w (by omega))) rfl rfl ?_
          refine lV (yMove rfl) rfl rfl ?_
          refine lV (yCall rfl (.c rfl .n) C33 (fun w hw => size_any (dropS m) w (by omega))) rfl rfl ?_
          refine lV (yAssign rfl) rfl rfl ?_
          refine lV (yAssign rfl) rfl rfl ?_
          refine lNil ?_
          refine kThen ?_
          refine kSeq ?_
          refine kSeq ?_
          have hl1 := less_lt (a := fullS m) (b := dropS m) (n := 12) (by omega)
          have hl2 := less_lt (a := fullS m) (b := b &&& fullS m) (n := 12) (by omega)
          refine kRegion rfl ?_
          refine lV (yMove rfl) rfl rfl ?_
          refine lV (yMove rfl) rfl rfl ?_
          refine lV (yMove rfl) rfl rfl ?_
          refine lV (yAndNot rfl rfl rfl (by omega) (by omega)) rfl rfl ?_
          refine lV (yCall rfl (.c rfl .n) C31 (fun w hw => canC_any n2 y m (less (fullS m) (dropS m)) w (hm.eff hw) hM (by omega) (hw.blkAt 1 rfl))) rfl rfl ?_
          refine knownB (t := 170) (c := true) rfl (cf.dcan) ?_
          refine lV (yNot rfl) rfl rfl ?_
          refine lV (yMove rfl) rfl rfl ?_
          refine lGY rfl rfl rfl (oV (yMove rfl) rfl ?_)
          refine lGY rfl rfl rfl (oV (yMove rfl) rfl ?_)
          refine lGY rfl rfl rfl (oV (yMove rfl) rfl ?_)
          refine lGY rfl rfl rfl (oV (yAndNot rfl rfl rfl (by omega) (by omega)) rfl ?_)
          refine lGY rfl rfl rfl (oV (yCall rfl (.c rfl .n) C31 (fun w hw => canC_any n2 y m (less (fullS m) (b &&& fullS m)) w (hm.eff hw) hM (by omega) (hw.blkAt 1 rfl))) rfl ?_)
          refine lGY rfl rfl rfl (oV (yMove rfl) rfl ?_)
          refine splitB (t := 178) rfl (fun h178 => ?_) (fun h178 => ?_)
          · have hdm := cf.dmin _ hown h178
            refine lGY rfl rfl rfl (oV (yMove rfl) rfl ?_)
            refine lGY rfl rfl rfl (oV (yMove rfl) rfl ?_)
            refine lGY rfl rfl rfl (oV (yLss rfl rfl) rfl ?_)
            refine knownN (t := 181) rfl (by omega) ?_
            refine lGY rfl rfl rfl (oV (yMove rfl) rfl ?_)
            refine lGY rfl rfl rfl (oV (yMove rfl) rfl ?_)
            refine lGY rfl rfl rfl (oV (yMove rfl) rfl ?_)
            refine lGY rfl rfl rfl (oV (yEql rfl rfl) rfl ?_)
            refine lGY rfl rfl rfl (oV (yMove rfl) rfl ?_)
            refine split (t := 186) rfl (fun h186 => ?_) (fun h186 => ?_)
            · refine lGY rfl rfl rfl (oV (yMove rfl) rfl ?_)
              refine lGY rfl rfl rfl (oV (yMove rfl) rfl ?_)
              refine lGY rfl rfl rfl (oV (yLss rfl rfl) rfl ?_)
              refine knownN (t := 189) rfl (by omega) ?_
              refine lGY rfl rfl rfl (oV (yPickT rfl rfl) rfl ?_)
              refine lGY rfl rfl rfl (oV (yPickF rfl rfl) rfl ?_)
              refine lGY rfl rfl rfl (oV (yPickT rfl rfl) rfl ?_)
              refine lV (yPickF rfl rfl) rfl rfl ?_
              refine lNil ?_
              refine kThen ?_
              refine kIfF rfl ?_
              refine kSkip ?_
              refine kThen ?_
              refine kSeq ?_
              refine kRegion rfl ?_
              refine lV (yMove rfl) rfl rfl ?_
              refine lV (yCall rfl (.c rfl .n) C33 (fun w hw => size_any (b &&& fullS m) w (by omega))) rfl rfl ?_
              refine lV (yMove rfl) rfl rfl ?_
              refine lV (yCall rfl (.c rfl .n) C33 (fun w hw => size_any (clashS m) w (by omega))) rfl rfl ?_
              refine lV (yAssign rfl) rfl rfl ?_
              refine lV (yAssign rfl) rfl rfl ?_
              refine lNil ?_
              refine kThen ?_
              refine kSeq ?_
              refine kRegion rfl ?_
              refine lV (yMove rfl) rfl rfl ?_
              refine lV (yMove rfl) rfl rfl ?_
              refine lV (yCall rfl (.c rfl .n) C31 (fun w hw => canC_any n2 y m (b &&& fullS m) w (hm.eff hw) hM (by omega) (hw.blkAt 1 rfl))) rfl rfl ?_
              refine lV (yMove rfl) rfl rfl ?_
              refine splitB (t := 201) rfl (fun h201 => ?_) (fun h201 => ?_)
              · refine lGN rfl rfl rfl rfl rfl ?_
                refine lGN rfl rfl rfl rfl rfl ?_
                refine lGN rfl rfl rfl rfl rfl ?_
                refine lGU rfl rfl rfl rfl ?_
                refine lGU rfl rfl rfl rfl ?_
                refine lGU rfl rfl rfl rfl ?_
                refine lGU rfl rfl rfl rfl ?_
                refine lGU rfl rfl rfl rfl ?_
                refine lGU rfl rfl rfl rfl ?_
                refine lGU rfl rfl rfl rfl ?_
                refine lGU rfl rfl rfl rfl ?_
                refine lGU rfl rfl rfl rfl ?_
                refine lGU rfl rfl rfl rfl ?_
                refine lGU rfl rfl rfl rfl ?_
                refine lGU rfl rfl rfl rfl ?_
                refine lGU rfl rfl rfl rfl ?_
                refine lGN rfl rfl rfl rfl rfl ?_
                refine lV (yPickT rfl rfl) rfl rfl ?_
                refine lV (yMove rfl) rfl rfl ?_
                refine lGY rfl rfl rfl (oV (yCall rfl .n C15 (fun w hw => alive_any w)) rfl ?_)
                refine lV (yPickT rfl rfl) rfl rfl ?_
                refine lV (yAssign rfl) rfl rfl ?_
                refine lNil ?_
                refine kThen ?_
                refine kRet ?_
                refine fRet rfl (.t rfl .n) (endRet ?_)
                first | rfl | (simp [packV, *]; done)
              · have hcb := cf.cbest _ hown h201
                refine lGY rfl rfl rfl (oV (yMove rfl) rfl ?_)
                refine lGY rfl rfl rfl (oV (yNeq rfl rfl) rfl ?_)
                refine known (t := 203) rfl (by omega) ?_
                refine lGY rfl rfl rfl (oV (yMove rfl) rfl ?_)
                refine lGY rfl rfl rfl (oV (yMove rfl) rfl ?_)
                refine lGY rfl rfl rfl (oV (yMove rfl) rfl ?_)
                refine lGY rfl rfl rfl (oV (yGtr rfl rfl) rfl ?_)
                refine lGY rfl rfl rfl (oV (yMove rfl) rfl ?_)
                refine split (t := 208) rfl (fun h208 => ?_) (fun h208 => ?_)
                · refine lGN rfl rfl rfl rfl rfl ?_
                  refine lGN rfl rfl rfl rfl rfl ?_
                  refine lGN rfl rfl rfl rfl rfl ?_
                  refine lGN rfl rfl rfl rfl rfl ?_
                  refine lGU rfl rfl rfl rfl ?_
                  refine lGU rfl rfl rfl rfl ?_
                  refine lGU rfl rfl rfl rfl ?_
                  refine lGN rfl rfl rfl rfl rfl ?_
                  refine lGY rfl rfl rfl (oV (yPickT rfl rfl) rfl ?_)
                  refine lGY rfl rfl rfl (oV (yPickT rfl rfl) rfl ?_)
                  refine lV (yPickF rfl rfl) rfl rfl ?_
                  refine lV (yMove rfl) rfl rfl ?_
                  refine lGY rfl rfl rfl (oV (yCall rfl .n C15 (fun w hw => alive_any w)) rfl ?_)
                  refine lV (yPickT rfl rfl) rfl rfl ?_
                  refine lV (yAssign rfl) rfl rfl ?_
                  refine lNil ?_
                  refine kThen ?_
                  refine kRet ?_
                  refine fRet rfl (.t rfl .n) (endRet ?_)
                  first | rfl | (simp [packV, *]; done)
                · refine lGY rfl rfl rfl (oV (yMove rfl) rfl ?_)
                  refine lGY rfl rfl rfl (oV (yMove rfl) rfl ?_)
                  refine lGY rfl rfl rfl (oV (yEql rfl rfl) rfl ?_)
                  refine known (t := 211) rfl (by omega) ?_
                  refine lGY rfl rfl rfl (oV (yMove rfl) rfl ?_)
                  refine lGY rfl rfl rfl (oV (yMove rfl) rfl ?_)
                  refine lGY rfl rfl rfl (oV (yMove rfl) rfl ?_)
                  refine lGY rfl rfl rfl (oV (yGeq rfl rfl) rfl ?_)
                  refine known (t := 215) rfl (by omega) ?_
                  refine lGY rfl rfl rfl (oV (yPickT rfl rfl) rfl ?_)
                  refine lGY rfl rfl rfl (oV (yPickF rfl rfl) rfl ?_)
                  refine lGY rfl rfl rfl (oV (yPickT rfl rfl) rfl ?_)
                  refine lV (yPickF rfl rfl) rfl rfl ?_
                  refine lV (yMove rfl) rfl rfl ?_
                  refine lGY rfl rfl rfl (oV (yCall rfl .n C15 (fun w hw => alive_any w)) rfl ?_)
                  refine lV (yPickT rfl rfl) rfl rfl ?_
                  refine lV (yAssign rfl) rfl rfl ?_
                  refine lNil ?_
                  refine kThen ?_
                  refine kRet ?_
                  refine fRet rfl (.t rfl .n) (endRet ?_)
                  first | rfl | (simp [packV, *]; done)
            · refine lGN rfl rfl rfl rfl rfl ?_
              refine lGN rfl rfl rfl rfl rfl ?_
              refine lGN rfl rfl rfl rfl rfl ?_
              refine lGY rfl rfl rfl (oV (yPickF rfl rfl) rfl ?_)
              refine lGY rfl rfl rfl (oV (yPickF rfl rfl) rfl ?_)
              refine lGY rfl rfl rfl (oV (yPickT rfl rfl) rfl ?_)
              refine lV (yPickF rfl rfl) rfl rfl ?_
              refine lNil ?_
              refine kThen ?_
              refine kIfF rfl ?_
              refine kSkip ?_
              refine kThen ?_
              refine kSeq ?_
              refine kRegion rfl ?_
              refine lV (yMove rfl) rfl rfl ?_
              refine lV (yCall rfl (.c rfl .n) C33 (fun w hw => size_any (b &&& fullS m) w (by omega))) rfl rfl ?_
              refine lV (yMove rfl) rfl rfl ?_
              refine lV (yCall rfl (.c rfl .n) C33 (fun w hw => size_any (clashS m) w (by omega))) rfl rfl ?_
              refine lV (yAssign rfl) rfl rfl ?_
              refine lV (yAssign rfl) rfl rfl ?_
              refine lNil ?_
              refine kThen ?_
              refine kSeq ?_
              refine kRegion rfl ?_
              refine lV (yMove rfl) rfl rfl ?_
              refine lV (yMove rfl) rfl rfl ?_
              refine lV (yCall rfl (.c rfl .n) C31 (fun w hw => canC_any n2 y m (b &&& fullS m) w (hm.eff hw) hM (by omega) (hw.blkAt 1 rfl))) rfl rfl ?_
              refine lV (yMove rfl) rfl rfl ?_
              refine splitB (t := 201) rfl (fun h201 => ?_) (fun h201 => ?_)
              · refine lGN rfl rfl rfl rfl rfl ?_
                refine lGN rfl rfl rfl rfl rfl ?_
                refine lGN rfl rfl rfl rfl rfl ?_
                refine lGU rfl rfl rfl rfl ?_
                refine lGU rfl rfl rfl rfl ?_
                refine lGU rfl rfl rfl rfl ?_
                refine lGU rfl rfl rfl rfl ?_
                refine lGU rfl rfl rfl rfl ?_
                refine lGU rfl rfl rfl rfl ?_
                refine lGU rfl rfl rfl rfl ?_
                refine lGU rfl rfl rfl rfl ?_
                refine lGU rfl rfl rfl rfl ?_
                refine lGU rfl rfl rfl rfl ?_
                refine lGU rfl rfl rfl rfl ?_
                refine lGU rfl rfl rfl rfl ?_
                refine lGU rfl rfl rfl rfl ?_
                refine lGN rfl rfl rfl rfl rfl ?_
                refine lV (yPickT rfl rfl) rfl rfl ?_
                refine lV (yMove rfl) rfl rfl ?_
                refine lGY rfl rfl rfl (oV (yCall rfl .n C15 (fun w hw => alive_any w)) rfl ?_)
                refine lV (yPickT rfl rfl) rfl rfl ?_
                refine lV (yAssign rfl) rfl rfl ?_
                refine lNil ?_
                refine kThen ?_
                refine kRet ?_
                refine fRet rfl (.t rfl .n) (endRet ?_)
                first | rfl | (simp [packV, *]; done)
              · have hcb := cf.cbest _ hown h201
                refine lGY rfl rfl rfl (oV (yMove rfl) rfl ?_)
                refine lGY rfl rfl rfl (oV (yNeq rfl rfl) rfl ?_)
                refine known (t := 203) rfl (by omega) ?_
                refine lGY rfl rfl rfl (oV (yMove rfl) rfl ?_)
                refine lGY rfl rfl rfl (oV (yMove rfl) rfl ?_)
                refine lGY rfl rfl rfl (oV (yMove rfl) rfl ?_)
                refine lGY rfl rfl rfl (oV (yGtr rfl rfl) rfl ?_)
                refine lGY rfl rfl rfl (oV (yMove rfl) rfl ?_)
                refine split (t := 208) rfl (fun h208 => ?_) (fun h208 => ?_)
                · refine lGN rfl rfl rfl rfl rfl ?_
                  refine lGN rfl rfl rfl rfl rfl ?_
                  refine lGN rfl rfl rfl rfl rfl ?_
                  refine lGN rfl rfl rfl rfl rfl ?_
                  refine lGU rfl rfl rfl rfl ?_
                  refine lGU rfl rfl rfl rfl ?_
                  refine lGU rfl rfl rfl rfl ?_
                  refine lGN rfl rfl rfl rfl rfl ?_
                  refine lGY rfl rfl rfl (oV (yPickT rfl rfl) rfl ?_)
                  refine lGY rfl rfl rfl (oV (yPickT rfl rfl) rfl ?_)
                  refine lV (yPickF rfl rfl) rfl rfl ?_
                  refine lV (yMove rfl) rfl rfl ?_
                  refine lGY rfl rfl rfl (oV (yCall rfl .n C15 (fun w hw => alive_any w)) rfl ?_)
                  refine lV (yPickT rfl rfl) rfl rfl ?_
                  refine lV (yAssign rfl) rfl rfl ?_
                  refine lNil ?_
                  refine kThen ?_
                  refine kRet ?_
                  refine fRet rfl (.t rfl .n) (endRet ?_)
                  first | rfl | (simp [packV, *]; done)
                · refine lGY rfl rfl rfl (oV (yMove rfl) rfl ?_)
                  refine lGY rfl rfl rfl (oV (yMove rfl) rfl ?_)
                  refine lGY rfl rfl rfl (oV (yEql rfl rfl) rfl ?_)
                  refine known (t := 211) rfl (by omega) ?_
                  refine lGY rfl rfl rfl (oV (yMove rfl) rfl ?_)
                  refine lGY rfl rfl rfl (oV (yMove rfl) rfl ?_)
                  refine lGY rfl rfl rfl (oV (yMove rfl) rfl ?_)
                  refine lGY rfl rfl rfl (oV (yGeq rfl rfl) rfl ?_)
                  refine known (t := 215) rfl (by omega) ?_
                  refine lGY rfl rfl rfl (oV (yPickT rfl rfl) rfl ?_)
                  refine lGY rfl rfl rfl (oV (yPickF rfl rfl) rfl ?_)
                  refine lGY rfl rfl rfl (oV (yPickT rfl rfl) rfl ?_)
                  refine lV (yPickF rfl rfl) rfl rfl ?_
                  refine lV (yMove rfl) rfl rfl ?_
                  refine lGY rfl rfl rfl (oV (yCall rfl .n C15 (fun w hw => alive_any w)) rfl ?_)
                  refine lV (yPickT rfl rfl) rfl rfl ?_
                  refine lV (yAssign rfl) rfl rfl ?_
                  refine lNil ?_
                  refine kThen ?_
                  refine kRet ?_
                  refine fRet rfl (.t rfl .n) (endRet ?_)
                  first | rfl | (simp [packV, *]; done)
          · refine lGN rfl rfl rfl rfl rfl ?_
            refine lGN rfl rfl rfl rfl rfl ?_
            refine lGN rfl rfl rfl rfl rfl ?_
            refine lGN rfl rfl rfl rfl rfl ?_
            refine lGU rfl rfl rfl rfl ?_
            refine lGU rfl rfl rfl rfl ?_
            refine lGU rfl rfl rfl rfl ?_
            refine lGU rfl rfl rfl rfl ?_
            refine lGU rfl rfl rfl rfl ?_
            refine lGU rfl rfl rfl rfl ?_
            refine lGU rfl rfl rfl rfl ?_
            refine lGU rfl rfl rfl rfl ?_
            refine lGN rfl rfl rfl rfl rfl ?_
            refine lGY rfl rfl rfl (oV (yPickF rfl rfl) rfl ?_)
            refine lV (yPickF rfl rfl) rfl rfl ?_
            refine lNil ?_
            refine kThen ?_
            refine kIfF rfl ?_
            refine kSkip ?_
            refine kThen ?_
            refine kSeq ?_
            refine kRegion rfl ?_
            refine lV (yMove rfl) rfl rfl ?_
            refine lV (yCall rfl (.c rfl .n) C33 (fun w hw => size_any (b &&& fullS m) w (by omega))) rfl rfl ?_
            refine lV (yMove rfl) rfl rfl ?_
            refine lV (yCall rfl (.c rfl .n) C33 (fun w hw => size_any (clashS m) w (by omega))) rfl rfl ?_
            refine lV (yAssign rfl) rfl rfl ?_
            refine lV (yAssign rfl) rfl rfl ?_
            refine lNil ?_
            refine kThen ?_
            refine kSeq ?_
            refine kRegion rfl ?_
            refine lV (yMove rfl) rfl rfl ?_
            refine lV (yMove rfl) rfl rfl ?_
            refine lV (yCall rfl (.c rfl .n) C31 (fun w hw => canC_any n2 y m (b &&& fullS m) w (hm.eff hw) hM (by omega) (hw.blkAt 1 rfl))) rfl rfl ?_
            refine lV (yMove rfl) rfl rfl ?_
            refine splitB (t := 201) rfl (fun h201 => ?_) (fun h201 => ?_)
            · refine lGN rfl rfl rfl rfl rfl ?_
              refine lGN rfl rfl rfl rfl rfl ?_
              refine lGN rfl rfl rfl rfl rfl ?_
              refine lGU rfl rfl rfl rfl ?_
              refine lGU rfl rfl rfl rfl ?_
              refine lGU rfl rfl rfl rfl ?_
              refine lGU rfl rfl rfl rfl ?_
              refine lGU rfl rfl rfl rfl ?_
              refine lGU rfl rfl rfl rfl ?_
              refine lGU rfl rfl rfl rfl ?_
              refine lGU rfl rfl rfl rfl ?_
              refine lGU rfl rfl rfl rfl ?_
              refine lGU rfl rfl rfl rfl ?_
              refine lGU rfl rfl rfl rfl ?_
              refine lGU rfl rfl rfl rfl ?_
              refine lGU rfl rfl rfl rfl ?_
              refine lGN rfl rfl rfl rfl rfl ?_
              refine lV (yPickT rfl rfl) rfl rfl ?_
              refine lV (yMove rfl) rfl rfl ?_
              refine lGY rfl rfl rfl (oV (yCall rfl .n C15 (fun w hw => alive_any w)) rfl ?_)
              refine lV (yPickT rfl rfl) rfl rfl ?_
              refine lV (yAssign rfl) rfl rfl ?_
              refine lNil ?_
              refine kThen ?_
              refine kRet ?_
              refine fRet rfl (.t rfl .n) (endRet ?_)
              first | rfl | (simp [packV, *]; done)
            · have hcb := cf.cbest _ hown h201
              refine lGY rfl rfl rfl (oV (yMove rfl) rfl ?_)
              refine lGY rfl rfl rfl (oV (yNeq rfl rfl) rfl ?_)
              refine known (t := 203) rfl (by omega) ?_
              refine lGY rfl rfl rfl (oV (yMove rfl) rfl ?_)
              refine lGY rfl rfl rfl (oV (yMove rfl) rfl ?_)
              refine lGY rfl rfl rfl (oV (yMove rfl) rfl ?_)
              refine lGY rfl rfl rfl (oV (yGtr rfl rfl) rfl ?_)
              refine lGY rfl rfl rfl (oV (yMove rfl) rfl ?_)
              refine split (t := 208) rfl (fun h208 => ?_) (fun h208 => ?_)
              · refine lGN rfl rfl rfl rfl rfl ?_
                refine lGN rfl rfl rfl rfl rfl ?_
                refine lGN rfl rfl rfl rfl rfl ?_
                refine lGN rfl rfl rfl rfl rfl ?_
                refine lGU rfl rfl rfl rfl ?_
                refine lGU rfl rfl rfl rfl ?_
                refine lGU rfl rfl rfl rfl ?_
                refine lGN rfl rfl rfl rfl rfl ?_
                refine lGY rfl rfl rfl (oV (yPickT rfl rfl) rfl ?_)
                refine lGY rfl rfl rfl (oV (yPickT rfl rfl) rfl ?_)
                refine lV (yPickF rfl rfl) rfl rfl ?_
                refine lV (yMove rfl) rfl rfl ?_
                refine lGY rfl rfl rfl (oV (yCall rfl .n C15 (fun w hw => alive_any w)) rfl ?_)
                refine lV (yPickT rfl rfl) rfl rfl ?_
                refine lV (yAssign rfl) rfl rfl ?_
                refine lNil ?_
                refine kThen ?_
                refine kRet ?_
                refine fRet rfl (.t rfl .n) (endRet ?_)
                first | rfl | (simp [packV, *]; done)
              · refine lGY rfl rfl rfl (oV (yMove rfl) rfl ?_)
                refine lGY rfl rfl rfl (oV (yMove rfl) rfl ?_)
                refine lGY rfl rfl rfl (oV (yEql rfl rfl) rfl ?_)
                refine known (t := 211) rfl (by omega) ?_
                refine lGY rfl rfl rfl (oV (yMove rfl) rfl ?_)
                refine lGY rfl rfl rfl (oV (yMove rfl) rfl ?_)
                refine lGY rfl rfl rfl (oV (yMove rfl) rfl ?_)
                refine lGY rfl rfl rfl (oV (yGeq rfl rfl) rfl ?_)
                refine known (t := 215) rfl (by omega) ?_
                refine lGY rfl rfl rfl (oV (yPickT rfl rfl) rfl ?_)
                refine lGY rfl rfl rfl (oV (yPickF rfl rfl) rfl ?_)
                refine lGY rfl rfl rfl (oV (yPickT rfl rfl) rfl ?_)
                refine lV (yPickF rfl rfl) rfl rfl ?_
                refine lV (yMove rfl) rfl rfl ?_
                refine lGY rfl rfl rfl (oV (yCall rfl .n C15 (fun w hw => alive_any w)) rfl ?_)
                refine lV (yPickT rfl rfl) rfl rfl ?_
                refine lV (yAssign rfl) rfl rfl ?_
                refine lNil ?_
                refine kThen ?_
                refine kRet ?_
                refine fRet rfl (.t rfl .n) (endRet ?_)
                first | rfl | (simp [packV, *]; done)
    · refine kRegion rfl ?_
      refine lV (yLoadA (vs := [_, _, _, _, _, _, _]) rfl A29 (cOwn 0 rfl rfl)) rfl rfl ?_
      refine lV (yCall rfl (.c rfl .n) C26 (fun w hw => clash_any y m w (hm.eff hw))) rfl rfl ?_
      refine same (t := 23) (u := outI (0, 1)) rfl (by rw [show clashE m = (0, 1) from if_pos hM]) ?_
      refine lV (yMove rfl) rfl rfl ?_
      refine lV (yExtract rfl rfl) rfl rfl ?_
      refine lV (yExtract rfl rfl) rfl rfl ?_
      refine lV (yAssign rfl) rfl rfl ?_
      refine lV (yAssign rfl) rfl rfl ?_
      refine lNil ?_
      refine kThen ?_
      refine kSeq ?_
      refine kRegion rfl ?_
      refine lV (yLoadA (vs := [_, _, _, _, _, _, _]) rfl A29 (cOwn 0 rfl rfl)) rfl rfl ?_
      refine lV (yCall rfl (.c rfl .n) C27 (fun w hw => drop_any y m w (hm.eff hw))) rfl rfl ?_
      refine same (t := 28) (u := outI (0, 1)) rfl (by rw [show dropE m = (0, 1) from if_pos hM]) ?_
      refine lV (yMove rfl) rfl rfl ?_
      refine lV (yExtract rfl rfl) rfl rfl ?_
      refine lV (yExtract rfl rfl) rfl rfl ?_
      refine lV (yAssign rfl) rfl rfl ?_
      refine lV (yAssign rfl) rfl rfl ?_
      refine lNil ?_
      refine kThen ?_
      refine kSeq ?_
      refine kRegion rfl ?_
      refine lV (yLoadA (vs := [_, _, _, _, _, _, _]) rfl A29 (cOwn 0 rfl rfl)) rfl rfl ?_
      refine lV (yCall rfl (.c rfl .n) C18 (fun w hw => sum_any y m w (hm.eff hw))) rfl rfl ?_
      refine same (t := 33) (u := outV 0 0 1) rfl (by rw [show sumE m = ((0, 0), 1) from if_pos hM]) ?_
      refine lV (yMove rfl) rfl rfl ?_
      refine lV (yExtract rfl rfl) rfl rfl ?_
      refine lV (yExtract rfl rfl) rfl rfl ?_
      refine lE rfl ?_
      refine eAlloc Z24 fun n9 => ?_
      refine lE rfl ?_
      refine eStoreL 0 rfl rfl rfl rfl K24 rfl (rfl) ?_
      refine lV (yAssign rfl) rfl rfl ?_
      refine lNil ?_
      refine kThen ?_
      refine kSeq ?_
      refine kSeq ?_
      refine kRegion rfl ?_
      refine lV (yMove rfl) rfl rfl ?_
      refine lV (yMove rfl) rfl rfl ?_
      refine lV (yNeq rfl rfl) rfl rfl ?_
      refine knownN (t := 38) rfl (fun h => h rfl) ?_
      refine lV (yMove rfl) rfl rfl ?_
      refine lGY rfl rfl rfl (oV (yMove rfl) rfl ?_)
      refine lGY rfl rfl rfl (oV (yNeq rfl rfl) rfl ?_)
      refine known (t := 41) rfl (by decide) ?_
      refine lV (yPickF rfl rfl) rfl rfl ?_
      refine lNil ?_
      refine kThen ?_
      refine kIfT rfl ?_
      refine kSeq ?_
      refine kRegion rfl ?_
      refine lV (yMove rfl) rfl rfl ?_
      refine lV (yMove rfl) rfl rfl ?_
      refine lV (yEql rfl rfl) rfl rfl ?_
      refine known (t := 45) rfl (rfl) ?_
      refine lV (yMove rfl) rfl rfl ?_
      refine lGY rfl rfl rfl (oV (yMove rfl) rfl ?_)
      refine lGY rfl rfl rfl (oV (yEql rfl rfl) rfl ?_)
      refine known (t := 48) rfl (rfl) ?_
      refine lV (yPickT rfl rfl) rfl rfl ?_
      refine lV (yMove rfl) rfl rfl ?_
      refine lGY rfl rfl rfl (oV (yMove rfl) rfl ?_)
      refine lGY rfl rfl rfl (oV (yMove rfl) rfl ?_)
      refine lGY rfl rfl rfl (oV (yEql rfl rfl) rfl ?_)
      refine known (t := 53) rfl (rfl) ?_
      refine lV (yPickT rfl rfl) rfl rfl ?_
      refine lV (yMove rfl) rfl rfl ?_
      refine lGY rfl rfl rfl (oV (yMove rfl) rfl ?_)
      refine lGY rfl rfl rfl (oV (yEql rfl rfl) rfl ?_)
      refine known (t := 57) rfl (rfl) ?_
      refine lV (yPickT rfl rfl) rfl rfl ?_
      refine lV (yMove rfl) rfl rfl ?_
      refine lGY rfl rfl rfl (oV (yMove rfl) rfl ?_)
      refine lGY rfl rfl rfl (oV (yEql rfl rfl) rfl ?_)
      refine known (t := 61) rfl (rfl) ?_
      refine lV (yPickT rfl rfl) rfl rfl ?_
      refine lV (yMove rfl) rfl rfl ?_
      refine lGY rfl rfl rfl (oV (yLoadA (vs := [_, _, _, _, _, _, _]) rfl A29 (cOwn 1 rfl rfl)) rfl ?_)
      refine lGY rfl rfl rfl (oV (yCall rfl (.c rfl .n) C28 (fun w hw => rmeasure_any y m w (hm.eff hw) hn)) rfl ?_)
      refine knownB (t := 65) (c := false) rfl (decide_eq_false hM) ?_
      refine lGY rfl rfl rfl (oV (yNot rfl) rfl ?_)
      refine lV (yPickT rfl rfl) rfl rfl ?_
      refine lV (yMove rfl) rfl rfl ?_
      refine lGY rfl rfl rfl (oV (yCall rfl .n C15 (fun w hw => alive_any w)) rfl ?_)
      refine lV (yPickT rfl rfl) rfl rfl ?_
      refine lV (yAssign rfl) rfl rfl ?_
      refine lNil ?_
      refine kThen ?_
      refine kRet ?_
      refine kThenR ?_
      refine fRet rfl (.t rfl .n) (endRet ?_)
      first | rfl | (simp [packV, *]; done)
end Go.Proofs.Ytoefcofplkbnkaa
