/-
  Walks: the document's Clash, Drop, Once.
-/
import Derived.Test.YtoefcofplkbnkaaRd
import Derived.Test.YtoefcofplkbnkaaLf
namespace Go.Proofs.Ytoefcofplkbnkaa
open ZW

theorem szStep {S f r n : Nat} (hf : f ≤ 13) (hr : r < 2 ^ f) (he : n + popF f r = popc S) (hn : n + f ≤ 13) (h : 0 < (r : Int)) :
    f - 1 ≤ 13 ∧ r / 2 < 2 ^ (f - 1) ∧ n + r % 2 + popF (f - 1) (r / 2) = popc S ∧ n + r % 2 + (f - 1) ≤ 13 := by
  cases f with
  | zero => simp at hr; omega
  | succ f =>
    rw [Nat.pow_succ] at hr
    simp only [popF, Nat.add_sub_cancel] at he ⊢
    have : r % 2 < 2 := Nat.mod_lt _ (by decide)
    exact ⟨by omega, by omega, by omega, by omega⟩
set_option maxRecDepth 100000 in
theorem size_any (S : Nat) (w : World) (hS : S < 8192) : Calls Try.prog 33 [i64 (S : Nat)].toArray w (Ret w (i64 (popc S : Nat))) := by
  refine fEnter Try.func33 rfl Try.ntmps33 rfl ?_
  refine kSeq ?_
  refine kRegion rfl ?_
  refine lV (yAssign rfl) rfl rfl ?_
  refine lNil ?_
  refine kThen ?_
  refine kSeq ?_
  refine kRegion rfl ?_
  refine lV (yAssign rfl) rfl rfl ?_
  refine lNil ?_
  refine kThen ?_
  refine kSeq ?_
  refine kBlock ?_
  refine kLoopX (ι := Nat × Nat × Nat) (fun x => x.1 ≤ 13 ∧ x.2.1 < 2 ^ x.1 ∧ x.2.2 + popF x.1 x.2.1 = popc S ∧ x.2.2 + x.1 ≤ 13) (fun x => [(0, i64 (x.2.1 : Nat)), (3, i64 (x.2.2 : Nat))]) [(2, _)] (fun x => []) (fun x => []) [] (fun x => x.2.1) (13, S, 0) (⟨Nat.le_refl _, hS, Nat.zero_add _, Nat.le_refl _⟩) rfl (.c rfl (.c rfl .n)) (.c rfl .n) .n ?_
  rintro ⟨f, r, n⟩ ⟨hf, hr, he, hn⟩
  dsimp only at hf hr he hn ⊢
  refine kSeq ?_
  refine kSeq ?_
  refine kRegion rfl ?_
  refine lV (yMove rfl) rfl rfl ?_
  refine lV (yGtr rfl rfl) rfl rfl ?_
  refine lNil ?_
  refine kThen ?_
  refine split (t := 5) rfl (fun h5 => ?_) (fun h5 => ?_)
  · refine kIfT rfl ?_
    refine kSkip ?_
    refine kThen ?_
    refine kBlock ?_
    refine kSeq ?_
    have hr13 : 2 ^ f ≤ 2 ^ 13 := Nat.pow_le_pow_right (by omega) hf
    refine kRegion rfl ?_
    refine lV (yMove rfl) rfl rfl ?_
    refine lV (yMove rfl) rfl rfl ?_
    refine lV (yRem rfl rfl (by omega) (by omega)) rfl rfl ?_
    refine lV (yAdd rfl rfl (by omega)) rfl rfl ?_
    refine same (t := 9) (u := i64 ((n + r % 2 : Nat) : Int)) rfl (by congr 1) ?_
    refine lV (yAssign rfl) rfl rfl ?_
    refine lNil ?_
    refine kThen ?_
    refine kRegion rfl ?_
    refine lV (yMove rfl) rfl rfl ?_
    refine lV (yQuo rfl rfl (by omega) (by omega) (by omega)) rfl rfl ?_
    refine same (t := 11) (u := i64 ((r / 2 : Nat) : Int)) rfl (by congr 1) ?_
    refine lV (yAssign rfl) rfl rfl ?_
    refine lNil ?_
    refine kInN ?_
    exact kRoundX (f - 1, r / 2, n + r % 2) (szStep hf hr he hn h5) (by dsimp only; omega) rfl (.c rfl (.c rfl .n)) (.c rfl .n) .n
  · refine kIfF rfl ?_
    refine kExit ?_
    refine kThenX ?_
    refine kThenX ?_
    refine kInX ?_
    refine kThen ?_
    refine kSeq ?_
    refine kRegion rfl ?_
    refine lV (yMove rfl) rfl rfl ?_
    refine lV (yAssign rfl) rfl rfl ?_
    refine lNil ?_
    refine kThen ?_
    refine kRet ?_
    refine fRet rfl (.t rfl .n) (endRet ?_)
    obtain rfl : r = 0 := by omega
    rw [popF_zero] at he
    rw [← he]
    rfl
set_option maxRecDepth 100000 in
theorem rcan_any (y : Loc) (m : Meas) (S : Nat) (w : World) (hm : InM w y m) (hM : MeasOk m) (hS : S < 2 ^ 62) :
    Calls Try.prog 76 [.agg (measC y m).toArray, i64 (S : Nat)].toArray w (Ret w (.bool (canF m S))) := by
  refine fEnter Try.func76 rfl Try.ntmps76 rfl ?_
  refine kSeq ?_
  refine kRegion rfl ?_
  refine lE rfl ?_
  refine eBoxA rfl fun n2 => ?_
  refine lV (yAssign rfl) rfl rfl ?_
  refine lNil ?_
  refine kThen ?_
  refine kSeq ?_
  refine kRegion rfl ?_
  refine lV (yLoadA (vs := [_, _, _, _, _, _, _]) rfl A29 (cOwn 0 rfl rfl)) rfl rfl ?_
  refine lV (yMove rfl) rfl rfl ?_
  refine lV (yCall rfl (.c rfl (.c rfl .n)) C46 (fun w hw => rsums_any y m S w (hm.eff hw) hM hS)) rfl rfl ?_
  refine lE rfl ?_
  refine eAlloc Z24 fun n5 => ?_
  refine lE rfl ?_
  refine eStoreL 0 rfl rfl rfl rfl K24 rfl (rfl) ?_
  refine lNil ?_
  refine kThen ?_
  refine kSeq ?_
  refine kRegion rfl ?_
  refine lV (yFieldAddr rfl F24_0) rfl rfl ?_
  refine lV (yLoad1 rfl O3 (cOwn 0 rfl rfl)) rfl rfl ?_
  refine lV (yFieldAddr rfl F24_1) rfl rfl ?_
  refine lV (yLoad1 rfl O3 (cOwn 0 rfl rfl)) rfl rfl ?_
  refine lV (yLeq rfl rfl) rfl rfl ?_
  refine lV (yAssign rfl) rfl rfl ?_
  refine lNil ?_
  refine kThen ?_
  refine kRet ?_
  refine fRet rfl (.t rfl .n) (endRet ?_)
  rfl
theorem badF_0 {m : Meas} (hM : MeasOk m) : badF m 0 = false := by unfold badF; rw [can_0 hM]; rfl
theorem best_lt {stop : Nat → Bool} {n d K : Nat} (h : n ≤ K) (hd : d < K) : (bestS stop n).getD d < K := by
  have hs := bestS_spec stop n
  cases hb : bestS stop n with
  | none => exact hd
  | some b => rw [hb] at hs; simp only at hs; exact Nat.lt_of_lt_of_le hs.1 h
set_option maxRecDepth 100000 in
theorem rclash_any (y : Loc) (m : Meas) (w : World) (hm : InM w y m) (hn : m.errs.length ≤ 1000000) : Calls Try.prog 37 [.agg (measC y m).toArray].toArray w (Ret w (outI (clashR m))) := by
  refine fEnter Try.func37 rfl Try.ntmps37 rfl ?_
  refine kSeq ?_
  refine kRegion rfl ?_
  refine lE rfl ?_
  refine eBoxA rfl fun n1 => ?_
  refine lV (yAssign rfl) rfl rfl ?_
  refine lV (yAssign rfl) rfl rfl ?_
  refine lNil ?_
  refine kThen ?_
  refine kSeq ?_
  refine kSeq ?_
  refine kRegion rfl ?_
  refine lV (yLoadA (vs := [_, _, _, _, _, _, _]) rfl A29 (cOwn 0 rfl rfl)) rfl rfl ?_
  refine lV (yCall rfl (.c rfl .n) C28 (fun w hw => rmeasure_any y m w (hm.eff hw) hn)) rfl rfl ?_
  refine lV (yNot rfl) rfl rfl ?_
  refine lNil ?_
  refine kThen ?_
  refine splitB (t := 8) rfl (fun h8 => ?_) (fun h8 => ?_)
  · refine kIfT rfl ?_
    refine kSeq ?_
    refine kRegion rfl ?_
    refine lV (yAssign rfl) rfl rfl ?_
    refine lV (yAssign rfl) rfl rfl ?_
    refine lNil ?_
    refine kThen ?_
    refine kRet ?_
    refine kThenR ?_
    refine fRet rfl (.t rfl (.t rfl .n)) (endRet ?_)
    rw [show clashR m = (0, 1) from if_pos (notT h8)]
    rfl
  · refine kIfF rfl ?_
    refine kSkip ?_
    refine kThen ?_
    refine kSeq ?_
    have hM := notF h8
    have hF := fullS_lt hM
    have hF2 := fullS_62 hM
    have hb1 : (bestS (badF m) 1).getD 0 = 0 := by rw [best_none fun s hs => by obtain rfl : s = 0 := (by omega); exact badF_0 hM]; rfl
    refine kRegion rfl ?_
    refine lV (yAssign rfl) rfl rfl ?_
    refine lNil ?_
    refine kThen ?_
    refine kSeq ?_
    refine kSeq ?_
    refine kRegion rfl ?_
    refine lV (yAssign rfl) rfl rfl ?_
    refine lNil ?_
    refine kThen ?_
    refine kBlock ?_
    refine kLoopX (ι := Nat × Nat) (fun x => (1 ≤ x.1 ∧ x.1 ≤ fullS m + 1) ∧ x.2 = (bestS (badF m) x.1).getD 0) (fun x => [(5, i64 (x.1 : Nat)), (4, i64 (x.2 : Nat))]) [(0, _), (1, _), (2, _), (3, _), (6, _), (7, _), (8, _)] (fun x => []) (fun x => []) [(n1, _)] (fun x => fullS m + 1 - x.1) (1, 0) (⟨⟨Nat.le_refl _, by dsimp only; omega⟩, hb1.symm⟩) rfl (.c rfl (.c rfl .n)) (.c rfl (.c rfl (.c rfl (.c rfl (.c rfl (.c rfl (.c rfl .n))))))) (.c 0 rfl .n) ?_
    rintro ⟨s, b⟩ ⟨⟨hs1, hs⟩, hb⟩
    dsimp only at hs1 hs hb ⊢
    have hst := bad_step (badF_0 hM) s
    have hbl := best_lt (stop := badF m) (n := s) (d := 0) (K := 8192) (by omega) (by decide)
    rw [← hb] at hst hbl
    refine kSeq ?_
    refine kSeq ?_
    refine kRegion rfl ?_
    refine lV (yMove rfl) rfl rfl ?_
    refine lV (yLoadA (vs := [_, _, _, _, _, _, _]) rfl A29 (cOwn 0 rfl rfl)) rfl rfl ?_
    refine lV (yCall rfl (.c rfl .n) C63 (fun w hw => revery_any y m w hM)) rfl rfl ?_
    refine lV (yLeq rfl rfl) rfl rfl ?_
    refine lNil ?_
    refine kThen ?_
    refine split (t := 12) rfl (fun h12 => ?_) (fun h12 => ?_)
    · refine kIfT rfl ?_
      refine kSkip ?_
      refine kThen ?_
      refine kSeq ?_
      refine kBlock ?_
      refine kSeq ?_
      refine kRegion rfl ?_
      refine lV (yMove rfl) rfl rfl ?_
      refine lV (yEql rfl rfl) rfl rfl ?_
      refine lV (yMove rfl) rfl rfl ?_
      refine split (t := 17) rfl (fun h17 => ?_) (fun h17 => ?_)
      · refine lGN rfl rfl rfl rfl rfl ?_
        refine lGN rfl rfl rfl rfl rfl ?_
        refine lGN rfl rfl rfl rfl rfl ?_
        refine lGN rfl rfl rfl rfl rfl ?_
        refine lGN rfl rfl rfl rfl rfl ?_
        refine lV (yPickT rfl rfl) rfl rfl ?_
        refine lV (yMove rfl) rfl rfl ?_
        refine lGY rfl rfl rfl (oV (yLoadA (vs := [_, _, _, _, _, _, _]) rfl A29 (cOwn 0 rfl rfl)) rfl ?_)
        refine lGY rfl rfl rfl (oV (yMove rfl) rfl ?_)
        refine lGY rfl rfl rfl (oV (yCall rfl (.c rfl (.c rfl .n)) C76 (fun w hw => rcan_any y m s w (hm.eff hw) hM (by omega))) rfl ?_)
        refine lGY rfl rfl rfl (oV (yNot rfl) rfl ?_)
        refine lV (yPickT rfl rfl) rfl rfl ?_
        refine lNil ?_
        refine kThen ?_
        refine splitB (t := 29) rfl (fun h29 => ?_) (fun h29 => ?_)
        · refine kIfT rfl ?_
          refine kRegion rfl ?_
          refine lV (yMove rfl) rfl rfl ?_
          refine lV (yAssign rfl) rfl rfl ?_
          refine lNil ?_
          refine kInN ?_
          refine kThen ?_
          refine kRegion rfl ?_
          refine lV (yMove rfl) rfl rfl ?_
          refine lV (yAdd rfl rfl (by omega)) rfl rfl ?_
          refine lV (yAssign rfl) rfl rfl ?_
          refine lNil ?_
          exact kRoundX (s + 1, s) (⟨⟨by dsimp only; omega, by dsimp only; omega⟩, by dsimp only; rw [hst]; first | exact (if_pos ⟨.inl (by omega), h29⟩).symm | exact (if_pos ⟨.inr (by omega), h29⟩).symm | exact (if_neg fun h => absurd h.2 (by unfold badF; rw [h29]; decide)).symm | exact (if_neg fun h => by have := h.1; omega).symm⟩) (by dsimp only; omega) rfl (.c rfl (.c rfl .n)) (.c rfl (.c rfl (.c rfl (.c rfl (.c rfl (.c rfl (.c rfl .n))))))) (.c 0 rfl .n)
        · refine kIfF rfl ?_
          refine kSkip ?_
          refine kInN ?_
          refine kThen ?_
          refine kRegion rfl ?_
          refine lV (yMove rfl) rfl rfl ?_
          refine lV (yAdd rfl rfl (by omega)) rfl rfl ?_
          refine lV (yAssign rfl) rfl rfl ?_
          refine lNil ?_
          exact kRoundX (s + 1, b) (⟨⟨by dsimp only; omega, by dsimp only; omega⟩, by dsimp only; rw [hst]; first | exact (if_pos ⟨.inl (by omega), h29⟩).symm | exact (if_pos ⟨.inr (by omega), h29⟩).symm | exact (if_neg fun h => absurd h.2 (by unfold badF; rw [h29]; decide)).symm | exact (if_neg fun h => by have := h.1; omega).symm⟩) (by dsimp only; omega) rfl (.c rfl (.c rfl .n)) (.c rfl (.c rfl (.c rfl (.c rfl (.c rfl (.c rfl (.c rfl .n))))))) (.c 0 rfl .n)
      · refine lGY rfl rfl rfl (oV (yMove rfl) rfl ?_)
        refine lGY rfl rfl rfl (oV (yCall rfl (.c rfl .n) C33 (fun w hw => size_any s w (by omega))) rfl ?_)
        refine lGY rfl rfl rfl (oV (yMove rfl) rfl ?_)
        refine lGY rfl rfl rfl (oV (yCall rfl (.c rfl .n) C33 (fun w hw => size_any b w hbl)) rfl ?_)
        refine lGY rfl rfl rfl (oV (yLss rfl rfl) rfl ?_)
        refine lV (yPickF rfl rfl) rfl rfl ?_
        refine lV (yMove rfl) rfl rfl ?_
        refine split (t := 24) rfl (fun h24 => ?_) (fun h24 => ?_)
        · refine lGY rfl rfl rfl (oV (yLoadA (vs := [_, _, _, _, _, _, _]) rfl A29 (cOwn 0 rfl rfl)) rfl ?_)
          refine lGY rfl rfl rfl (oV (yMove rfl) rfl ?_)
          refine lGY rfl rfl rfl (oV (yCall rfl (.c rfl (.c rfl .n)) C76 (fun w hw => rcan_any y m s w (hm.eff hw) hM (by omega))) rfl ?_)
          refine lGY rfl rfl rfl (oV (yNot rfl) rfl ?_)
          refine lV (yPickT rfl rfl) rfl rfl ?_
          refine lNil ?_
          refine kThen ?_
          refine splitB (t := 29) rfl (fun h29 => ?_) (fun h29 => ?_)
          · refine kIfT rfl ?_
            refine kRegion rfl ?_
            refine lV (yMove rfl) rfl rfl ?_
            refine lV (yAssign rfl) rfl rfl ?_
            refine lNil ?_
            refine kInN ?_
            refine kThen ?_
            refine kRegion rfl ?_
            refine lV (yMove rfl) rfl rfl ?_
            refine lV (yAdd rfl rfl (by omega)) rfl rfl ?_
            refine lV (yAssign rfl) rfl rfl ?_
            refine lNil ?_
            exact kRoundX (s + 1, s) (⟨⟨by dsimp only; omega, by dsimp only; omega⟩, by dsimp only; rw [hst]; first | exact (if_pos ⟨.inl (by omega), h29⟩).symm | exact (if_pos ⟨.inr (by omega), h29⟩).symm | exact (if_neg fun h => absurd h.2 (by unfold badF; rw [h29]; decide)).symm | exact (if_neg fun h => by have := h.1; omega).symm⟩) (by dsimp only; omega) rfl (.c rfl (.c rfl .n)) (.c rfl (.c rfl (.c rfl (.c rfl (.c rfl (.c rfl (.c rfl .n))))))) (.c 0 rfl .n)
          · refine kIfF rfl ?_
            refine kSkip ?_
            refine kInN ?_
            refine kThen ?_
            refine kRegion rfl ?_
            refine lV (yMove rfl) rfl rfl ?_
            refine lV (yAdd rfl rfl (by omega)) rfl rfl ?_
            refine lV (yAssign rfl) rfl rfl ?_
            refine lNil ?_
            exact kRoundX (s + 1, b) (⟨⟨by dsimp only; omega, by dsimp only; omega⟩, by dsimp only; rw [hst]; first | exact (if_pos ⟨.inl (by omega), h29⟩).symm | exact (if_pos ⟨.inr (by omega), h29⟩).symm | exact (if_neg fun h => absurd h.2 (by unfold badF; rw [h29]; decide)).symm | exact (if_neg fun h => by have := h.1; omega).symm⟩) (by dsimp only; omega) rfl (.c rfl (.c rfl .n)) (.c rfl (.c rfl (.c rfl (.c rfl (.c rfl (.c rfl (.c rfl .n))))))) (.c 0 rfl .n)
        · refine lGN rfl rfl rfl rfl rfl ?_
          refine lGN rfl rfl rfl rfl rfl ?_
          refine lGN rfl rfl rfl rfl rfl ?_
          refine lGN rfl rfl rfl rfl rfl ?_
          refine lV (yPickF rfl rfl) rfl rfl ?_
          refine lNil ?_
          refine kThen ?_
          refine kIfF rfl ?_
          refine kSkip ?_
          refine kInN ?_
          refine kThen ?_
          refine kRegion rfl ?_
          refine lV (yMove rfl) rfl rfl ?_
          refine lV (yAdd rfl rfl (by omega)) rfl rfl ?_
          refine lV (yAssign rfl) rfl rfl ?_
          refine lNil ?_
          exact kRoundX (s + 1, b) (⟨⟨by dsimp only; omega, by dsimp only; omega⟩, by dsimp only; rw [hst]; first | exact (if_pos ⟨.inl (by omega), h29⟩).symm | exact (if_pos ⟨.inr (by omega), h29⟩).symm | exact (if_neg fun h => absurd h.2 (by unfold badF; rw [h29]; decide)).symm | exact (if_neg fun h => by have := h.1; omega).symm⟩) (by dsimp only; omega) rfl (.c rfl (.c rfl .n)) (.c rfl (.c rfl (.c rfl (.c rfl (.c rfl (.c rfl (.c rfl .n))))))) (.c 0 rfl .n)
    · refine kIfF rfl ?_
      refine kExit ?_
      refine kThenX ?_
      refine kThenX ?_
      refine kInX ?_
      refine kThen ?_
      refine kSeq ?_
      refine kRegion rfl ?_
      refine lV (yMove rfl) rfl rfl ?_
      refine lV (yAssign rfl) rfl rfl ?_
      refine lV (yAssign rfl) rfl rfl ?_
      refine lNil ?_
      refine kThen ?_
      refine kRet ?_
      refine fRet rfl (.t rfl (.t rfl .n)) (endRet ?_)
      obtain rfl : s = fullS m + 1 := by omega
      have e : clashR m = (((b : Nat) : Int), 0) := (if_neg (not_not_intro hM)).trans (by rw [hb])
      rw [e]
      rfl
theorem popc_lt' {s : Nat} (h : s < 8192) : popc s ≤ 13 := popF_le 13 s 13 h
set_option maxRecDepth 100000 in
theorem rdrop_any (y : Loc) (m : Meas) (w : World) (hm : InM w y m) (hn : m.errs.length ≤ 1000000) : Calls Try.prog 38 [.agg (measC y m).toArray].toArray w (Ret w (outI (dropE m))) := by
  rw [dropE_eq]
  refine fEnter Try.func38 rfl Try.ntmps38 rfl ?_
  refine kSeq ?_
  refine kRegion rfl ?_
  refine lE rfl ?_
  refine eBoxA rfl fun n1 => ?_
  refine lV (yAssign rfl) rfl rfl ?_
  refine lV (yAssign rfl) rfl rfl ?_
  refine lNil ?_
  refine kThen ?_
  refine kSeq ?_
  refine kSeq ?_
  refine kRegion rfl ?_
  refine lV (yLoadA (vs := [_, _, _, _, _, _, _]) rfl A29 (cOwn 0 rfl rfl)) rfl rfl ?_
  refine lV (yCall rfl (.c rfl .n) C28 (fun w hw => rmeasure_any y m w (hm.eff hw) hn)) rfl rfl ?_
  refine lV (yNot rfl) rfl rfl ?_
  refine lNil ?_
  refine kThen ?_
  refine splitB (t := 8) rfl (fun h8 => ?_) (fun h8 => ?_)
  · refine kIfT rfl ?_
    refine kSeq ?_
    refine kRegion rfl ?_
    refine lV (yAssign rfl) rfl rfl ?_
    refine lV (yAssign rfl) rfl rfl ?_
    refine lNil ?_
    refine kThen ?_
    refine kRet ?_
    refine kThenR ?_
    refine fRet rfl (.t rfl (.t rfl .n)) (endRet ?_)
    rw [if_pos (notT h8)]
    rfl
  · refine kIfF rfl ?_
    refine kSkip ?_
    refine kThen ?_
    refine kSeq ?_
    have hM := notF h8
    have hF := fullS_lt hM
    have hF2 := fullS_62 hM
    refine kRegion rfl ?_
    refine lV (yLoadA (vs := [_, _, _, _, _, _, _]) rfl A29 (cOwn 0 rfl rfl)) rfl rfl ?_
    refine lV (yCall rfl (.c rfl .n) C63 (fun w hw => revery_any y m w hM)) rfl rfl ?_
    refine lV (yAssign rfl) rfl rfl ?_
    refine lNil ?_
    refine kThen ?_
    refine kSeq ?_
    refine kSeq ?_
    refine kRegion rfl ?_
    refine lV (yAssign rfl) rfl rfl ?_
    refine lNil ?_
    refine kThen ?_
    refine kBlock ?_
    refine kLoopX (ι := Nat × Nat) (fun x => x.1 ≤ fullS m + 1 ∧ x.2 = (bestS (canL m) x.1).getD (fullS m)) (fun x => [(5, i64 (x.1 : Nat)), (4, i64 (x.2 : Nat))]) [(0, _), (1, _), (2, _), (3, _), (6, _), (7, _), (8, _), (9, _), (10, _)] (fun x => []) (fun x => []) [(n1, _)] (fun x => fullS m + 1 - x.1) (0, fullS m) (⟨Nat.zero_le _, rfl⟩) rfl (.c rfl (.c rfl .n)) (.c rfl (.c rfl (.c rfl (.c rfl (.c rfl (.c rfl (.c rfl (.c rfl (.c rfl .n))))))))) (.c 0 rfl .n) ?_
    rintro ⟨s, b⟩ ⟨hs, hb⟩
    dsimp only at hs hb ⊢
    have hst := can_step hM (stop := canL m) (n := s)
    have hbl := best_lt (stop := canL m) (n := s) (d := fullS m) (K := 8192) (by omega) (by omega)
    rw [← hb] at hst hbl
    refine kSeq ?_
    refine kSeq ?_
    refine kRegion rfl ?_
    refine lV (yMove rfl) rfl rfl ?_
    refine lV (yLoadA (vs := [_, _, _, _, _, _, _]) rfl A29 (cOwn 0 rfl rfl)) rfl rfl ?_
    refine lV (yCall rfl (.c rfl .n) C63 (fun w hw => revery_any y m w hM)) rfl rfl ?_
    refine lV (yLeq rfl rfl) rfl rfl ?_
    refine lNil ?_
    refine kThen ?_
    refine split (t := 14) rfl (fun h14 => ?_) (fun h14 => ?_)
    · refine kIfT rfl ?_
      refine kSkip ?_
      refine kThen ?_
      refine kSeq ?_
      refine kBlock ?_
      refine kSeq ?_
      by_cases h21 : (popc s : Int) < (popc b : Int)
      · have hls := less_sub hM (s := s) (by omega)
        have hcl : canL m s = canF m (fullS m - s) := by unfold canL; rw [hls]
        refine kDrawE [(1, none), (3, none), (6, none), (7, none), (8, none), (11, none)] [] [0, 1, 2, 3, 4, 5, 6, 7, 8, 9, 10, 11, 12] 0 hMix (by kernel_rfl) ?_
        refine .run rfl (yMove rfl) rfl rfl ?_
        refine .run rfl (yCall rfl (.c rfl .n) C33 (fun w hw => size_any s w (by omega))) rfl rfl ?_
        refine .run rfl (yMove rfl) rfl rfl ?_
        refine .run rfl (yCall rfl (.c rfl .n) C33 (fun w hw => size_any b w hbl)) rfl rfl ?_
        refine .run rfl (yLss rfl rfl) rfl rfl ?_
        refine .run rfl (yvTrue (yMove rfl) (h21)) rfl rfl ?_
        refine .runG rfl (yLoadA (vs := [_, _, _, _, _, _, _]) rfl A29 (cOwn 0 rfl rfl)) rfl rfl rfl rfl ?_
        refine .runG rfl (yLoadA (vs := [_, _, _, _, _, _, _]) rfl A29 (cOwn 0 rfl rfl)) rfl rfl rfl rfl ?_
        refine .runG rfl (yCall rfl (.c rfl .n) C63 (fun w hw => revery_any y m w hM)) rfl rfl rfl rfl ?_
        refine .runG rfl (yMove rfl) rfl rfl rfl rfl ?_
        refine .runG rfl (yvSame (u := i64 ((fullS m - s : Nat) : Int)) (ySub rfl rfl (by omega)) (by congr 1; omega)) rfl rfl rfl rfl ?_
        refine .runG rfl (yCall rfl (.c rfl (.c rfl .n)) C76 (fun w hw => rcan_any y m (fullS m - s) w (hm.eff hw) hM (by omega))) rfl rfl rfl rfl ?_
        refine .run rfl (yPickT rfl rfl) rfl rfl ?_
        refine .done ?_
        refine effDone closedSt (hLeft [1, 3, 6, 7, 8, 11] (by kernel_rfl) (.c (fun _ _ hs => hs.ef) (.c (fun _ _ hs => hs.ef) (.c (fun _ _ hs => hs.ef) (.c (fun _ _ hs => hs.ef) (.c (fun _ _ hs => hs.ef) (.c (fun _ _ hs => hs.ef) .n))))))) (by kernel_rfl) ?_
        refine kThen ?_
        refine splitB (t := 29) rfl (fun h29 => ?_) (fun h29 => ?_)
        · refine kIfT rfl ?_
          refine kRegion rfl ?_
          refine lV (yMove rfl) rfl rfl ?_
          refine lV (yAssign rfl) rfl rfl ?_
          refine lNil ?_
          refine kInN ?_
          refine kThen ?_
          refine kRegion rfl ?_
          refine lV (yMove rfl) rfl rfl ?_
          refine lV (yAdd rfl rfl (by omega)) rfl rfl ?_
          refine lV (yAssign rfl) rfl rfl ?_
          refine lNil ?_
          exact kRoundX (s + 1, s) (⟨by dsimp only; omega, by dsimp only; rw [hst (by omega)]; exact (if_pos ⟨by omega, hcl.trans h29⟩).symm⟩) (by dsimp only; omega) rfl (.c rfl (.c rfl .n)) (.c rfl (.c rfl (.c rfl (.c rfl (.c rfl (.c rfl (.c rfl (.c rfl (.c rfl .n))))))))) (.c 0 rfl .n)
        · refine kIfF rfl ?_
          refine kSkip ?_
          refine kInN ?_
          refine kThen ?_
          refine kRegion rfl ?_
          refine lV (yMove rfl) rfl rfl ?_
          refine lV (yAdd rfl rfl (by omega)) rfl rfl ?_
          refine lV (yAssign rfl) rfl rfl ?_
          refine lNil ?_
          exact kRoundX (s + 1, b) (⟨by dsimp only; omega, by dsimp only; rw [hst (by omega)]; exact (if_neg fun h => by rw [hcl, h29] at h; exact absurd h.2 (by decide)).symm⟩) (by dsimp only; omega) rfl (.c rfl (.c rfl .n)) (.c rfl (.c rfl (.c rfl (.c rfl (.c rfl (.c rfl (.c rfl (.c rfl (.c rfl .n))))))))) (.c 0 rfl .n)
      · have hls := less_sub hM (s := s) (by omega)
        have hcl : canL m s = canF m (fullS m - s) := by unfold canL; rw [hls]
        refine kDrawE [(1, none), (3, none)] [] [0, 1, 2, 3, 4, 5, 6, 7, 8, 9, 10, 11, 12] 0 hMix (by kernel_rfl) ?_
        refine .run rfl (yMove rfl) rfl rfl ?_
        refine .run rfl (yCall rfl (.c rfl .n) C33 (fun w hw => size_any s w (by omega))) rfl rfl ?_
        refine .run rfl (yMove rfl) rfl rfl ?_
        refine .run rfl (yCall rfl (.c rfl .n) C33 (fun w hw => size_any b w hbl)) rfl rfl ?_
        refine .run rfl (yLss rfl rfl) rfl rfl ?_
        refine .run rfl (yvFalse (yMove rfl) (h21)) rfl rfl ?_
        refine .skip rfl rfl rfl rfl rfl rfl ?_
        refine .skip rfl rfl rfl rfl rfl rfl ?_
        refine .skip rfl rfl rfl rfl rfl rfl ?_
        refine .skip rfl rfl rfl rfl rfl rfl ?_
        refine .skip rfl rfl rfl rfl rfl rfl ?_
        refine .skip rfl rfl rfl rfl rfl rfl ?_
        refine .run rfl (yPickF rfl rfl) rfl rfl ?_
        refine .done ?_
        refine effDone closedSt (hLeft [1, 3] (by kernel_rfl) (.c (fun _ _ hs => hs.ef) (.c (fun _ _ hs => hs.ef) .n))) (by kernel_rfl) ?_
        refine kThen ?_
        refine kIfF rfl ?_
        refine kSkip ?_
        refine kInN ?_
        refine kThen ?_
        refine kRegion rfl ?_
        refine lV (yMove rfl) rfl rfl ?_
        refine lV (yAdd rfl rfl (by omega)) rfl rfl ?_
        refine lV (yAssign rfl) rfl rfl ?_
        refine lNil ?_
        exact kRoundX (s + 1, b) (⟨by dsimp only; omega, by dsimp only; rw [hst (by omega)]; exact (if_neg fun h => by have := h.1; omega).symm⟩) (by dsimp only; omega) rfl (.c rfl (.c rfl .n)) (.c rfl (.c rfl (.c rfl (.c rfl (.c rfl (.c rfl (.c rfl (.c rfl (.c rfl .n))))))))) (.c 0 rfl .n)
    · refine kIfF rfl ?_
      refine kExit ?_
      refine kThenX ?_
      refine kThenX ?_
      refine kInX ?_
      refine kThen ?_
      refine kSeq ?_
      refine kRegion rfl ?_
      refine lV (yMove rfl) rfl rfl ?_
      refine lV (yAssign rfl) rfl rfl ?_
      refine lV (yAssign rfl) rfl rfl ?_
      refine lNil ?_
      refine kThen ?_
      refine kRet ?_
      refine fRet rfl (.t rfl (.t rfl .n)) (endRet ?_)
      obtain rfl : s = fullS m + 1 := by omega
      rw [if_neg (not_not_intro hM), ← hb]
      rfl
theorem xorP {a b : Bool} (h : a ≠ b) : (a ^^ b) = true := by cases a <;> cases b <;> simp at h ⊢
theorem xorN {a b : Bool} (h : ¬ a ≠ b) : ¬ (a ^^ b) = true := by cases a <;> cases b <;> simp at h ⊢
theorem any_t {m : Meas} {r : Bool} {g k : Nat} (h : anyW m r g k = true) : Value.bool true = .bool (anyW m r g (k + 1)) := by rw [anyW_succ, h]; rfl
theorem any_img0 {m : Meas} {g k : Nat} (h : anyW m false g k = false) (h1 : (setAt m k).1 = (g : Nat)) : Value.bool (!(setAt m k).2.2) = .bool (anyW m false g (k + 1)) := by rw [anyW_succ, h, h1]; simp
theorem any_img1 {m : Meas} {g k : Nat} (h : anyW m true g k = false) (h1 : (setAt m k).1 = (g : Nat)) : Value.bool ((setAt m k).2.2) = .bool (anyW m true g (k + 1)) := by rw [anyW_succ, h, h1]; simp
theorem any_no {m : Meas} {r : Bool} {g k : Nat} (h : anyW m r g k = false) (h1 : ¬ (setAt m k).1 = (g : Nat)) : Value.bool false = .bool (anyW m r g (k + 1)) := by rw [anyW_succ, h]; simp [h1]
set_option maxRecDepth 100000 in
theorem ronce_any (y : Loc) (m : Meas) (w : World) (hm : InM w y m) (hn : m.errs.length ≤ 1000000) : Calls Try.prog 40 [.agg (measC y m).toArray].toArray w (Ret w (outI (onceE m))) := by
  rw [onceE_eq]
  refine fEnter Try.func40 rfl Try.ntmps40 rfl ?_
  refine kSeq ?_
  refine kRegion rfl ?_
  refine lE rfl ?_
  refine eBoxA rfl fun n1 => ?_
  refine lV (yAssign rfl) rfl rfl ?_
  refine lV (yAssign rfl) rfl rfl ?_
  refine lNil ?_
  refine kThen ?_
  refine kSeq ?_
  refine kSeq ?_
  refine kRegion rfl ?_
  refine lV (yLoadA (vs := [_, _, _, _, _, _, _]) rfl A29 (cOwn 0 rfl rfl)) rfl rfl ?_
  refine lV (yCall rfl (.c rfl .n) C28 (fun w hw => rmeasure_any y m w (hm.eff hw) hn)) rfl rfl ?_
  refine lV (yNot rfl) rfl rfl ?_
  refine lNil ?_
  refine kThen ?_
  refine splitB (t := 11) rfl (fun h11 => ?_) (fun h11 => ?_)
  · refine kIfT rfl ?_
    refine kSeq ?_
    refine kRegion rfl ?_
    refine lV (yAssign rfl) rfl rfl ?_
    refine lV (yAssign rfl) rfl rfl ?_
    refine lNil ?_
    refine kThen ?_
    refine kRet ?_
    refine kThenR ?_
    refine fRet rfl (.t rfl (.t rfl .n)) (endRet ?_)
    rw [if_pos (notT h11)]
    rfl
  · refine kIfF rfl ?_
    refine kSkip ?_
    refine kThen ?_
    refine kSeq ?_
    have hM := notF h11
    have hN := hM.n
    have hI := hM.i
    refine kRegion rfl ?_
    refine lV (yAssign rfl) rfl rfl ?_
    refine lNil ?_
    refine kThen ?_
    refine kSeq ?_
    refine kSeq ?_
    refine kRegion rfl ?_
    refine lV (yAssign rfl) rfl rfl ?_
    refine lNil ?_
    refine kThen ?_
    refine kBlock ?_
    refine kLoopX (ι := Nat × Nat) (fun x => x.1 ≤ m.images.toNat ∧ x.2 = onceX m % 2 ^ x.1) (fun x => [(5, i64 (x.1 : Nat)), (4, i64 (x.2 : Nat))]) [(0, _), (1, _), (2, _), (3, _), (9, _), (10, _), (11, _)] (fun x => []) (fun x => []) [(n1, _)] (fun x => m.images.toNat - x.1) (0, 0) (⟨Nat.zero_le _, by simp [Nat.mod_one]⟩) rfl (.c rfl (.c rfl .n)) (.c rfl (.c rfl (.c rfl (.c rfl (.c rfl (.c rfl (.c rfl .n))))))) (.c 0 rfl .n) ?_
    rintro ⟨g, o⟩ ⟨hg, ho⟩
    dsimp only at hg ho ⊢
    have hst := onceX_step (onceX m) g
    have hbx := onceX_bit hM g
    rw [← ho] at hst
    refine kSeq ?_
    refine kSeq ?_
    refine kRegion rfl ?_
    refine lV (yMove rfl) rfl rfl ?_
    refine lV (yFieldAddr rfl F29_1) rfl rfl ?_
    refine lV (yLoad1 rfl O3 (cOwn 0 rfl rfl)) rfl rfl ?_
    refine lV (yLss rfl rfl) rfl rfl ?_
    refine lNil ?_
    refine kThen ?_
    refine split (t := 15) rfl (fun h15 => ?_) (fun h15 => ?_)
    · refine kIfT rfl ?_
      refine kSkip ?_
      refine kThen ?_
      refine kSeq ?_
      refine kBlock ?_
      refine kSeq ?_
      refine kRegion rfl ?_
      refine lV (yAssign rfl) rfl rfl ?_
      refine lV (yAssign rfl) rfl rfl ?_
      refine lNil ?_
      refine kThen ?_
      refine kSeq ?_
      refine kSeq ?_
      refine kRegion rfl ?_
      refine lV (yAssign rfl) rfl rfl ?_
      refine lNil ?_
      refine kThen ?_
      refine kBlock ?_
      refine kLoopX (ι := Nat) (fun k => k ≤ m.sets.length) (fun k => [(8, i64 (k : Nat)), (6, .bool (anyW m false g k)), (7, .bool (anyW m true g k))]) [(0, _), (1, _), (2, _), (3, _), (9, _), (10, _), (11, _), (5, _), (4, _), (12, _), (13, _), (14, _), (15, _)] (fun k => []) (fun k => []) [(n1, _)] (fun k => m.sets.length - k) 0 (Nat.zero_le _) rfl (.c rfl (.c rfl (.c rfl .n))) (.c rfl (.c rfl (.c rfl (.c rfl (.c rfl (.c rfl (.c rfl (.c rfl (.c rfl (.c rfl (.c rfl (.c rfl (.c rfl .n))))))))))))) (.c 0 rfl .n) ?_
      rintro k hk
      refine kSeq ?_
      refine kSeq ?_
      refine kRegion rfl ?_
      refine lV (yMove rfl) rfl rfl ?_
      refine lV (yFieldAddr rfl F29_3) rfl rfl ?_
      refine lV (yLoad1 rfl O27 (cOwn 0 rfl rfl)) rfl rfl ?_
      refine lV (yLen rfl S27) rfl rfl ?_
      refine lV (yLss rfl rfl) rfl rfl ?_
      refine lNil ?_
      refine kThen ?_
      refine split (t := 22) rfl (fun h22 => ?_) (fun h22 => ?_)
      · refine kIfT rfl ?_
        refine kSkip ?_
        refine kThen ?_
        refine kSeq ?_
        refine kBlock ?_
        refine kSeq ?_
        refine kRegion rfl ?_
        refine lV (yMove rfl) rfl rfl ?_
        refine lV (yMove rfl) rfl rfl ?_
        refine splitB (t := 26) rfl (fun h26 => ?_) (fun h26 => ?_)
        · refine lGN rfl rfl rfl rfl rfl ?_
          refine lGN rfl rfl rfl rfl rfl ?_
          refine lGN rfl rfl rfl rfl rfl ?_
          refine lGN rfl rfl rfl rfl rfl ?_
          refine lGN rfl rfl rfl rfl rfl ?_
          refine lGN rfl rfl rfl rfl rfl ?_
          refine lGN rfl rfl rfl rfl rfl ?_
          refine lGN rfl rfl rfl rfl rfl ?_
          refine lGN rfl rfl rfl rfl rfl ?_
          refine lGU rfl rfl rfl rfl ?_
          refine lGU rfl rfl rfl rfl ?_
          refine lGU rfl rfl rfl rfl ?_
          refine lGU rfl rfl rfl rfl ?_
          refine lGU rfl rfl rfl rfl ?_
          refine lGU rfl rfl rfl rfl ?_
          refine lGU rfl rfl rfl rfl ?_
          refine lGN rfl rfl rfl rfl rfl ?_
          refine lV (yPickT rfl rfl) rfl rfl ?_
          refine same (t := 44) (u := .bool (anyW m false g (k + 1))) rfl (by first | exact any_t h26 | exact any_img0 h26 h35 | exact any_no h26 h35) ?_
          refine lV (yAssign rfl) rfl rfl ?_
          refine lNil ?_
          refine kThen ?_
          refine kRegion rfl ?_
          refine lV (yMove rfl) rfl rfl ?_
          refine lV (yMove rfl) rfl rfl ?_
          refine splitB (t := 46) rfl (fun h46 => ?_) (fun h46 => ?_)
          · refine lGN rfl rfl rfl rfl rfl ?_
            refine lGN rfl rfl rfl rfl rfl ?_
            refine lGN rfl rfl rfl rfl rfl ?_
            refine lGN rfl rfl rfl rfl rfl ?_
            refine lGN rfl rfl rfl rfl rfl ?_
            refine lGN rfl rfl rfl rfl rfl ?_
            refine lGN rfl rfl rfl rfl rfl ?_
            refine lGN rfl rfl rfl rfl rfl ?_
            refine lGN rfl rfl rfl rfl rfl ?_
            refine lGU rfl rfl rfl rfl ?_
            refine lGU rfl rfl rfl rfl ?_
            refine lGU rfl rfl rfl rfl ?_
            refine lGU rfl rfl rfl rfl ?_
            refine lGU rfl rfl rfl rfl ?_
            refine lGU rfl rfl rfl rfl ?_
            refine lGN rfl rfl rfl rfl rfl ?_
            refine lV (yPickT rfl rfl) rfl rfl ?_
            refine same (t := 63) (u := .bool (anyW m true g (k + 1))) rfl (by first | exact any_t h46 | exact any_img1 h46 h55 | exact any_no h46 h55) ?_
            refine lV (yAssign rfl) rfl rfl ?_
            refine lNil ?_
            refine kInN ?_
            refine kThen ?_
            refine kRegion rfl ?_
            refine lV (yMove rfl) rfl rfl ?_
            refine lV (yAdd rfl rfl (by omega)) rfl rfl ?_
            refine lV (yAssign rfl) rfl rfl ?_
            refine lNil ?_
            exact kRoundX (k + 1) (by omega) (by omega) rfl (.c rfl (.c rfl (.c rfl .n))) (.c rfl (.c rfl (.c rfl (.c rfl (.c rfl (.c rfl (.c rfl (.c rfl (.c rfl (.c rfl (.c rfl (.c rfl (.c rfl .n))))))))))))) (.c 0 rfl .n)
          · refine lGY rfl rfl rfl (oV (yFieldAddr rfl F29_3) rfl ?_)
            refine lGY rfl rfl rfl (oV (yLoad1 rfl O27 (cOwn 0 rfl rfl)) rfl ?_)
            refine lGY rfl rfl rfl (oV (yMove rfl) rfl ?_)
            refine lGY rfl rfl rfl (oV (yIndexS  rfl rfl S27 (hm.s.r) ((by omega))) rfl ?_)
            refine lGY rfl rfl rfl (oV (yFieldAddr rfl F49_0) rfl ?_)
            refine lGY rfl rfl rfl (oV (yLoad1 rfl O3 (cSl (hm.s.r) ((by omega)) rfl)) rfl ?_)
            refine lGY rfl rfl rfl (oV (yMove rfl) rfl ?_)
            refine lGY rfl rfl rfl (oV (yEql rfl rfl) rfl ?_)
            refine lGY rfl rfl rfl (oV (yMove rfl) rfl ?_)
            refine split (t := 55) rfl (fun h55 => ?_) (fun h55 => ?_)
            · refine lGY rfl rfl rfl (oV (yFieldAddr rfl F29_3) rfl ?_)
              refine lGY rfl rfl rfl (oV (yLoad1 rfl O27 (cOwn 0 rfl rfl)) rfl ?_)
              refine lGY rfl rfl rfl (oV (yMove rfl) rfl ?_)
              refine lGY rfl rfl rfl (oV (yIndexS  rfl rfl S27 (hm.s.r) ((by omega))) rfl ?_)
              refine lGY rfl rfl rfl (oV (yFieldAddr rfl F49_2) rfl ?_)
              refine lGY rfl rfl rfl (oV (yLoad1 rfl O4 (cSl (hm.s.r) ((by omega)) rfl)) rfl ?_)
              refine lGY rfl rfl rfl (oV (yPickT rfl rfl) rfl ?_)
              refine lV (yPickF rfl rfl) rfl rfl ?_
              refine same (t := 63) (u := .bool (anyW m true g (k + 1))) rfl (by first | exact any_t h46 | exact any_img1 h46 h55 | exact any_no h46 h55) ?_
              refine lV (yAssign rfl) rfl rfl ?_
              refine lNil ?_
              refine kInN ?_
              refine kThen ?_
              refine kRegion rfl ?_
              refine lV (yMove rfl) rfl rfl ?_
              refine lV (yAdd rfl rfl (by omega)) rfl rfl ?_
              refine lV (yAssign rfl) rfl rfl ?_
              refine lNil ?_
              exact kRoundX (k + 1) (by omega) (by omega) rfl (.c rfl (.c rfl (.c rfl .n))) (.c rfl (.c rfl (.c rfl (.c rfl (.c rfl (.c rfl (.c rfl (.c rfl (.c rfl (.c rfl (.c rfl (.c rfl (.c rfl .n))))))))))))) (.c 0 rfl .n)
            · refine lGN rfl rfl rfl rfl rfl ?_
              refine lGN rfl rfl rfl rfl rfl ?_
              refine lGN rfl rfl rfl rfl rfl ?_
              refine lGN rfl rfl rfl rfl rfl ?_
              refine lGN rfl rfl rfl rfl rfl ?_
              refine lGN rfl rfl rfl rfl rfl ?_
              refine lGY rfl rfl rfl (oV (yPickF rfl rfl) rfl ?_)
              refine lV (yPickF rfl rfl) rfl rfl ?_
              refine same (t := 63) (u := .bool (anyW m true g (k + 1))) rfl (by first | exact any_t h46 | exact any_img1 h46 h55 | exact any_no h46 h55) ?_
              refine lV (yAssign rfl) rfl rfl ?_
              refine lNil ?_
              refine kInN ?_
              refine kThen ?_
              refine kRegion rfl ?_
              refine lV (yMove rfl) rfl rfl ?_
              refine lV (yAdd rfl rfl (by omega)) rfl rfl ?_
              refine lV (yAssign rfl) rfl rfl ?_
              refine lNil ?_
              exact kRoundX (k + 1) (by omega) (by omega) rfl (.c rfl (.c rfl (.c rfl .n))) (.c rfl (.c rfl (.c rfl (.c rfl (.c rfl (.c rfl (.c rfl (.c rfl (.c rfl (.c rfl (.c rfl (.c rfl (.c rfl .n))))))))))))) (.c 0 rfl .n)
        · refine lGY rfl rfl rfl (oV (yFieldAddr rfl F29_3) rfl ?_)
          refine lGY rfl rfl rfl (oV (yLoad1 rfl O27 (cOwn 0 rfl rfl)) rfl ?_)
          refine lGY rfl rfl rfl (oV (yMove rfl) rfl ?_)
          refine lGY rfl rfl rfl (oV (yIndexS  rfl rfl S27 (hm.s.r) ((by omega))) rfl ?_)
          refine lGY rfl rfl rfl (oV (yFieldAddr rfl F49_0) rfl ?_)
          refine lGY rfl rfl rfl (oV (yLoad1 rfl O3 (cSl (hm.s.r) ((by omega)) rfl)) rfl ?_)
          refine lGY rfl rfl rfl (oV (yMove rfl) rfl ?_)
          refine lGY rfl rfl rfl (oV (yEql rfl rfl) rfl ?_)
          refine lGY rfl rfl rfl (oV (yMove rfl) rfl ?_)
          refine split (t := 35) rfl (fun h35 => ?_) (fun h35 => ?_)
          · refine lGY rfl rfl rfl (oV (yFieldAddr rfl F29_3) rfl ?_)
            refine lGY rfl rfl rfl (oV (yLoad1 rfl O27 (cOwn 0 rfl rfl)) rfl ?_)
            refine lGY rfl rfl rfl (oV (yMove rfl) rfl ?_)
            refine lGY rfl rfl rfl (oV (yIndexS  rfl rfl S27 (hm.s.r) ((by omega))) rfl ?_)
            refine lGY rfl rfl rfl (oV (yFieldAddr rfl F49_2) rfl ?_)
            refine lGY rfl rfl rfl (oV (yLoad1 rfl O4 (cSl (hm.s.r) ((by omega)) rfl)) rfl ?_)
            refine lGY rfl rfl rfl (oV (yNot rfl) rfl ?_)
            refine lGY rfl rfl rfl (oV (yPickT rfl rfl) rfl ?_)
            refine lV (yPickF rfl rfl) rfl rfl ?_
            refine same (t := 44) (u := .bool (anyW m false g (k + 1))) rfl (by first | exact any_t h26 | exact any_img0 h26 h35 | exact any_no h26 h35) ?_
            refine lV (yAssign rfl) rfl rfl ?_
            refine lNil ?_
            refine kThen ?_
            refine kRegion rfl ?_
            refine lV (yMove rfl) rfl rfl ?_
            refine lV (yMove rfl) rfl rfl ?_
            refine splitB (t := 46) rfl (fun h46 => ?_) (fun h46 => ?_)
            · refine lGN rfl rfl rfl rfl rfl ?_
              refine lGN rfl rfl rfl rfl rfl ?_
              refine lGN rfl rfl rfl rfl rfl ?_
              refine lGN rfl rfl rfl rfl rfl ?_
              refine lGN rfl rfl rfl rfl rfl ?_
              refine lGN rfl rfl rfl rfl rfl ?_
              refine lGN rfl rfl rfl rfl rfl ?_
              refine lGN rfl rfl rfl rfl rfl ?_
              refine lGN rfl rfl rfl rfl rfl ?_
              refine lGU rfl rfl rfl rfl ?_
              refine lGU rfl rfl rfl rfl ?_
              refine lGU rfl rfl rfl rfl ?_
              refine lGU rfl rfl rfl rfl ?_
              refine lGU rfl rfl rfl rfl ?_
              refine lGU rfl rfl rfl rfl ?_
              refine lGN rfl rfl rfl rfl rfl ?_
              refine lV (yPickT rfl rfl) rfl rfl ?_
              refine same (t := 63) (u := .bool (anyW m true g (k + 1))) rfl (by first | exact any_t h46 | exact any_img1 h46 h55 | exact any_no h46 h55) ?_
              refine lV (yAssign rfl) rfl rfl ?_
              refine lNil ?_
              refine kInN ?_
              refine kThen ?_
              refine kRegion rfl ?_
              refine lV (yMove rfl) rfl rfl ?_
              refine lV (yAdd rfl rfl (by omega)) rfl rfl ?_
              refine lV (yAssign rfl) rfl rfl ?_
              refine lNil ?_
              exact kRoundX (k + 1) (by omega) (by omega) rfl (.c rfl (.c rfl (.c rfl .n))) (.c rfl (.c rfl (.c rfl (.c rfl (.c rfl (.c rfl (.c rfl (.c rfl (.c rfl (.c rfl (.c rfl (.c rfl (.c rfl .n))))))))))))) (.c 0 rfl .n)
            · refine lGY rfl rfl rfl (oV (yFieldAddr rfl F29_3) rfl ?_)
              refine lGY rfl rfl rfl (oV (yLoad1 rfl O27 (cOwn 0 rfl rfl)) rfl ?_)
              refine lGY rfl rfl rfl (oV (yMove rfl) rfl ?_)
              refine lGY rfl rfl rfl (oV (yIndexS  rfl rfl S27 (hm.s.r) ((by omega))) rfl ?_)
              refine lGY rfl rfl rfl (oV (yFieldAddr rfl F49_0) rfl ?_)
              refine lGY rfl rfl rfl (oV (yLoad1 rfl O3 (cSl (hm.s.r) ((by omega)) rfl)) rfl ?_)
              refine lGY rfl rfl rfl (oV (yMove rfl) rfl ?_)
              refine lGY rfl rfl rfl (oV (yEql rfl rfl) rfl ?_)
              refine lGY rfl rfl rfl (oV (yMove rfl) rfl ?_)
              refine split (t := 55) rfl (fun h55 => ?_) (fun h55 => ?_)
              · refine lGY rfl rfl rfl (oV (yFieldAddr rfl F29_3) rfl ?_)
                refine lGY rfl rfl rfl (oV (yLoad1 rfl O27 (cOwn 0 rfl rfl)) rfl ?_)
                refine lGY rfl rfl rfl (oV (yMove rfl) rfl ?_)
                refine lGY rfl rfl rfl (oV (yIndexS  rfl rfl S27 (hm.s.r) ((by omega))) rfl ?_)
                refine lGY rfl rfl rfl (oV (yFieldAddr rfl F49_2) rfl ?_)
                refine lGY rfl rfl rfl (oV (yLoad1 rfl O4 (cSl (hm.s.r) ((by omega)) rfl)) rfl ?_)
                refine lGY rfl rfl rfl (oV (yPickT rfl rfl) rfl ?_)
                refine lV (yPickF rfl rfl) rfl rfl ?_
                refine same (t := 63) (u := .bool (anyW m true g (k + 1))) rfl (by first | exact any_t h46 | exact any_img1 h46 h55 | exact any_no h46 h55) ?_
                refine lV (yAssign rfl) rfl rfl ?_
                refine lNil ?_
                refine kInN ?_
                refine kThen ?_
                refine kRegion rfl ?_
                refine lV (yMove rfl) rfl rfl ?_
                refine lV (yAdd rfl rfl (by omega)) rfl rfl ?_
                refine lV (yAssign rfl) rfl rfl ?_
                refine lNil ?_
                exact kRoundX (k + 1) (by omega) (by omega) rfl (.c rfl (.c rfl (.c rfl .n))) (.c rfl (.c rfl (.c rfl (.c rfl (.c rfl (.c rfl (.c rfl (.c rfl (.c rfl (.c rfl (.c rfl (.c rfl (.c rfl .n))))))))))))) (.c 0 rfl .n)
              · refine lGN rfl rfl rfl rfl rfl ?_
                refine lGN rfl rfl rfl rfl rfl ?_
                refine lGN rfl rfl rfl rfl rfl ?_
                refine lGN rfl rfl rfl rfl rfl ?_
                refine lGN rfl rfl rfl rfl rfl ?_
                refine lGN rfl rfl rfl rfl rfl ?_
                refine lGY rfl rfl rfl (oV (yPickF rfl rfl) rfl ?_)
                refine lV (yPickF rfl rfl) rfl rfl ?_
                refine same (t := 63) (u := .bool (anyW m true g (k + 1))) rfl (by first | exact any_t h46 | exact any_img1 h46 h55 | exact any_no h46 h55) ?_
                refine lV (yAssign rfl) rfl rfl ?_
                refine lNil ?_
                refine kInN ?_
                refine kThen ?_
                refine kRegion rfl ?_
                refine lV (yMove rfl) rfl rfl ?_
                refine lV (yAdd rfl rfl (by omega)) rfl rfl ?_
                refine lV (yAssign rfl) rfl rfl ?_
                refine lNil ?_
                exact kRoundX (k + 1) (by omega) (by omega) rfl (.c rfl (.c rfl (.c rfl .n))) (.c rfl (.c rfl (.c rfl (.c rfl (.c rfl (.c rfl (.c rfl (.c rfl (.c rfl (.c rfl (.c rfl (.c rfl (.c rfl .n))))))))))))) (.c 0 rfl .n)
          · refine lGN rfl rfl rfl rfl rfl ?_
            refine lGN rfl rfl rfl rfl rfl ?_
            refine lGN rfl rfl rfl rfl rfl ?_
            refine lGN rfl rfl rfl rfl rfl ?_
            refine lGN rfl rfl rfl rfl rfl ?_
            refine lGN rfl rfl rfl rfl rfl ?_
            refine lGN rfl rfl rfl rfl rfl ?_
            refine lGY rfl rfl rfl (oV (yPickF rfl rfl) rfl ?_)
            refine lV (yPickF rfl rfl) rfl rfl ?_
            refine same (t := 44) (u := .bool (anyW m false g (k + 1))) rfl (by first | exact any_t h26 | exact any_img0 h26 h35 | exact any_no h26 h35) ?_
            refine lV (yAssign rfl) rfl rfl ?_
            refine lNil ?_
            refine kThen ?_
            refine kRegion rfl ?_
            refine lV (yMove rfl) rfl rfl ?_
            refine lV (yMove rfl) rfl rfl ?_
            refine splitB (t := 46) rfl (fun h46 => ?_) (fun h46 => ?_)
            · refine lGN rfl rfl rfl rfl rfl ?_
              refine lGN rfl rfl rfl rfl rfl ?_
              refine lGN rfl rfl rfl rfl rfl ?_
              refine lGN rfl rfl rfl rfl rfl ?_
              refine lGN rfl rfl rfl rfl rfl ?_
              refine lGN rfl rfl rfl rfl rfl ?_
              refine lGN rfl rfl rfl rfl rfl ?_
              refine lGN rfl rfl rfl rfl rfl ?_
              refine lGN rfl rfl rfl rfl rfl ?_
              refine lGU rfl rfl rfl rfl ?_
              refine lGU rfl rfl rfl rfl ?_
              refine lGU rfl rfl rfl rfl ?_
              refine lGU rfl rfl rfl rfl ?_
              refine lGU rfl rfl rfl rfl ?_
              refine lGU rfl rfl rfl rfl ?_
              refine lGN rfl rfl rfl rfl rfl ?_
              refine lV (yPickT rfl rfl) rfl rfl ?_
              refine same (t := 63) (u := .bool (anyW m true g (k + 1))) rfl (by first | exact any_t h46 | exact any_img1 h46 h55 | exact any_no h46 h55) ?_
              refine lV (yAssign rfl) rfl rfl ?_
              refine lNil ?_
              refine kInN ?_
              refine kThen ?_
              refine kRegion rfl ?_
              refine lV (yMove rfl) rfl rfl ?_
              refine lV (yAdd rfl rfl (by omega)) rfl rfl ?_
              refine lV (yAssign rfl) rfl rfl ?_
              refine lNil ?_
              exact kRoundX (k + 1) (by omega) (by omega) rfl (.c rfl (.c rfl (.c rfl .n))) (.c rfl (.c rfl (.c rfl (.c rfl (.c rfl (.c rfl (.c rfl (.c rfl (.c rfl (.c rfl (.c rfl (.c rfl (.c rfl .n))))))))))))) (.c 0 rfl .n)
            · refine lGY rfl rfl rfl (oV (yFieldAddr rfl F29_3) rfl ?_)
              refine lGY rfl rfl rfl (oV (yLoad1 rfl O27 (cOwn 0 rfl rfl)) rfl ?_)
              refine lGY rfl rfl rfl (oV (yMove rfl) rfl ?_)
              refine lGY rfl rfl rfl (oV (yIndexS  rfl rfl S27 (hm.s.r) ((by omega))) rfl ?_)
              refine lGY rfl rfl rfl (oV (yFieldAddr rfl F49_0) rfl ?_)
              refine lGY rfl rfl rfl (oV (yLoad1 rfl O3 (cSl (hm.s.r) ((by omega)) rfl)) rfl ?_)
              refine lGY rfl rfl rfl (oV (yMove rfl) rfl ?_)
              refine lGY rfl rfl rfl (oV (yEql rfl rfl) rfl ?_)
              refine lGY rfl rfl rfl (oV (yMove rfl) rfl ?_)
              refine split (t := 55) rfl (fun h55 => ?_) (fun h55 => ?_)
              · refine lGY rfl rfl rfl (oV (yFieldAddr rfl F29_3) rfl ?_)
                refine lGY rfl rfl rfl (oV (yLoad1 rfl O27 (cOwn 0 rfl rfl)) rfl ?_)
                refine lGY rfl rfl rfl (oV (yMove rfl) rfl ?_)
                refine lGY rfl rfl rfl (oV (yIndexS  rfl rfl S27 (hm.s.r) ((by omega))) rfl ?_)
                refine lGY rfl rfl rfl (oV (yFieldAddr rfl F49_2) rfl ?_)
                refine lGY rfl rfl rfl (oV (yLoad1 rfl O4 (cSl (hm.s.r) ((by omega)) rfl)) rfl ?_)
                refine lGY rfl rfl rfl (oV (yPickT rfl rfl) rfl ?_)
                refine lV (yPickF rfl rfl) rfl rfl ?_
                refine same (t := 63) (u := .bool (anyW m true g (k + 1))) rfl (by first | exact any_t h46 | exact any_img1 h46 h55 | exact any_no h46 h55) ?_
                refine lV (yAssign rfl) rfl rfl ?_
                refine lNil ?_
                refine kInN ?_
                refine kThen ?_
                refine kRegion rfl ?_
                refine lV (yMove rfl) rfl rfl ?_
                refine lV (yAdd rfl rfl (by omega)) rfl rfl ?_
                refine lV (yAssign rfl) rfl rfl ?_
                refine lNil ?_
                exact kRoundX (k + 1) (by omega) (by omega) rfl (.c rfl (.c rfl (.c rfl .n))) (.c rfl (.c rfl (.c rfl (.c rfl (.c rfl (.c rfl (.c rfl (.c rfl (.c rfl (.c rfl (.c rfl (.c rfl (.c rfl .n))))))))))))) (.c 0 rfl .n)
              · refine lGN rfl rfl rfl rfl rfl ?_
                refine lGN rfl rfl rfl rfl rfl ?_
                refine lGN rfl rfl rfl rfl rfl ?_
                refine lGN rfl rfl rfl rfl rfl ?_
                refine lGN rfl rfl rfl rfl rfl ?_
                refine lGN rfl rfl rfl rfl rfl ?_
                refine lGY rfl rfl rfl (oV (yPickF rfl rfl) rfl ?_)
                refine lV (yPickF rfl rfl) rfl rfl ?_
                refine same (t := 63) (u := .bool (anyW m true g (k + 1))) rfl (by first | exact any_t h46 | exact any_img1 h46 h55 | exact any_no h46 h55) ?_
                refine lV (yAssign rfl) rfl rfl ?_
                refine lNil ?_
                refine kInN ?_
                refine kThen ?_
                refine kRegion rfl ?_
                refine lV (yMove rfl) rfl rfl ?_
                refine lV (yAdd rfl rfl (by omega)) rfl rfl ?_
                refine lV (yAssign rfl) rfl rfl ?_
                refine lNil ?_
                exact kRoundX (k + 1) (by omega) (by omega) rfl (.c rfl (.c rfl (.c rfl .n))) (.c rfl (.c rfl (.c rfl (.c rfl (.c rfl (.c rfl (.c rfl (.c rfl (.c rfl (.c rfl (.c rfl (.c rfl (.c rfl .n))))))))))))) (.c 0 rfl .n)
      · refine kIfF rfl ?_
        refine kExit ?_
        refine kThenX ?_
        refine kThenX ?_
        refine kInX ?_
        refine kThen ?_
        refine kSeq ?_
        have hbk : (onceX m).testBit g = (anyW m false g k ^^ anyW m true g k) := by
          obtain rfl : k = m.sets.length := by omega
          exact hbx
        refine kRegion rfl ?_
        refine lV (yMove rfl) rfl rfl ?_
        refine lV (yMove rfl) rfl rfl ?_
        refine lV (yNeBool rfl rfl U4) rfl rfl ?_
        refine lNil ?_
        refine kThen ?_
        refine split (t := 66) rfl (fun h66 => ?_) (fun h66 => ?_)
        · refine kIfT rfl ?_
          have hp6 : 2 ^ g ≤ 2 ^ 6 := Nat.pow_le_pow_right (by omega) (by omega)
          have ho6 : o < 2 ^ g := by rw [ho]; exact Nat.mod_lt _ (Nat.two_pow_pos g)
          refine kRegion rfl ?_
          refine lV (yMove rfl) rfl rfl ?_
          refine lV (yMove rfl) rfl rfl ?_
          refine lV (yCall rfl (.c rfl .n) C75 (fun w hw => power_any g w (by omega))) rfl rfl ?_
          refine lV (yAdd rfl rfl (by omega)) rfl rfl ?_
          refine same (t := 70) (u := i64 ((o + 2 ^ g : Nat) : Int)) rfl (by congr 1) ?_
          refine lV (yAssign rfl) rfl rfl ?_
          refine lNil ?_
          refine kInN ?_
          refine kThen ?_
          refine kRegion rfl ?_
          refine lV (yMove rfl) rfl rfl ?_
          refine lV (yAdd rfl rfl (by omega)) rfl rfl ?_
          refine lV (yAssign rfl) rfl rfl ?_
          refine lNil ?_
          exact kRoundX (g + 1, o + 2 ^ g) (⟨by dsimp only; omega, by dsimp only; rw [hst, if_pos (hbk.trans (xorP h66))]⟩) (by dsimp only; omega) rfl (.c rfl (.c rfl .n)) (.c rfl (.c rfl (.c rfl (.c rfl (.c rfl (.c rfl (.c rfl .n))))))) (.c 0 rfl .n)
        · refine kIfF rfl ?_
          refine kSkip ?_
          refine kInN ?_
          refine kThen ?_
          refine kRegion rfl ?_
          refine lV (yMove rfl) rfl rfl ?_
          refine lV (yAdd rfl rfl (by omega)) rfl rfl ?_
          refine lV (yAssign rfl) rfl rfl ?_
          refine lNil ?_
          exact kRoundX (g + 1, o) (⟨by dsimp only; omega, by dsimp only; rw [hst, if_neg (hbk ▸ xorN h66)]⟩) (by dsimp only; omega) rfl (.c rfl (.c rfl .n)) (.c rfl (.c rfl (.c rfl (.c rfl (.c rfl (.c rfl (.c rfl .n))))))) (.c 0 rfl .n)
    · refine kIfF rfl ?_
      refine kExit ?_
      refine kThenX ?_
      refine kThenX ?_
      refine kInX ?_
      refine kThen ?_
      refine kSeq ?_
      refine kRegion rfl ?_
      refine lV (yMove rfl) rfl rfl ?_
      refine lV (yAssign rfl) rfl rfl ?_
      refine lV (yAssign rfl) rfl rfl ?_
      refine lNil ?_
      refine kThen ?_
      refine kRet ?_
      refine fRet rfl (.t rfl (.t rfl .n)) (endRet ?_)
      obtain rfl : g = m.images.toNat := by omega
      rw [if_neg (not_not_intro hM), ← onceX_mod hM, ← ho]
      rfl
end Go.Proofs.Ytoefcofplkbnkaa
