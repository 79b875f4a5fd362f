/-
  Walks: the document's Clash, Drop, Explain.
-/
import Derived.Test.YtiaaidcdoenloaaQn
import Derived.Test.YtiaaidcdoenloaaUc
namespace Go.Proofs.Ytiaaidcdoenloaa
open ZW

theorem of_b (y : WLoc) (X : Wat) (S E : Nat) (w : World) (hm : InW w y X) (hM : WatOk X) (hS : S < 2 ^ 60) (hE : E < 2 ^ 60) :
    Calls Try.prog 63 [.agg (watC y X).toArray, i64 (S : Nat), i64 (E : Nat)].toArray w (RetX w (fun _ : Value => True) (fun v => .tuple [v, .bool (canB X S E)].toArray) (fun _ => []) (fun _ => [])) :=
  (of_any y X S E w hm hM hS hE).mono fun _ _ h => by
    rcases h with ⟨hd, x, _, he, hE⟩ | ⟨hd, he, hE⟩
    · rw [(ref_ok hM S E).1 hd]; exact ⟨_, trivial, he, hE.sub .n⟩
    · have hc : canB X S E = false := Bool.eq_false_iff.2 fun h => hd ((ref_ok hM S E).2 h)
      rw [hc]; exact ⟨_, trivial, he, hE⟩
set_option maxRecDepth 100000 in
theorem rcan_any (y : WLoc) (X : Wat) (S : Nat) (w : World) (hm : InW w y X) (hM : WatOk X) (hS : S < 2 ^ 60) : Calls Try.prog 60 [.agg (watC y X).toArray, i64 (S : Nat)].toArray w (Ret w (.bool (canB X S (allE X)))) := by
  have hN := hM.n
  have hlt := allE_lt hM
  refine fEnter Try.func60 rfl Try.ntmps60 rfl ?_
  refine kSeq ?_
  refine kRegion rfl ?_
  refine lE rfl ?_
  refine eBoxA rfl fun n2 => ?_
  refine lV (yAssign rfl) rfl rfl ?_
  refine lNil ?_
  refine kThen ?_
  refine kSeq ?_
  refine kRegion rfl ?_
  refine lV (yLoadA (vs := [_, _, _, _, _, _, _, _]) rfl A29 (cOwn 0 rfl rfl)) rfl rfl ?_
  refine lV (yCall rfl (.c rfl .n) C59 (fun w hw => rall_any y X w (by omega) hM.e)) rfl rfl ?_
  refine lV (yMove rfl) rfl rfl ?_
  refine lV (yExtract rfl rfl) rfl rfl ?_
  refine lV (yExtract rfl rfl) rfl rfl ?_
  refine lV (yAssign rfl) rfl rfl ?_
  refine lV (yAssign rfl) rfl rfl ?_
  refine lNil ?_
  refine kThen ?_
  refine kSeq ?_
  refine kRegion rfl ?_
  refine lV (yLoadA (vs := [_, _, _, _, _, _, _, _]) rfl A29 (cOwn 0 rfl rfl)) rfl rfl ?_
  refine lV (yMove rfl) rfl rfl ?_
  refine lV (yMove rfl) rfl rfl ?_
  refine lE rfl ?_
  refine eCallX rfl (.c rfl (.c rfl (.c rfl .n))) C63 (fun w hw => of_b y X S (allE X) w (hm.eff hw) hM hS (by omega)) fun v _ => ?_
  refine lV (yMove rfl) rfl rfl ?_
  refine lV (yExtract rfl rfl) rfl rfl ?_
  refine lV (yExtract rfl rfl) rfl rfl ?_
  refine lV (yAssign rfl) rfl rfl ?_
  refine lV (yAssign rfl) rfl rfl ?_
  refine lNil ?_
  refine kThen ?_
  refine kSeq ?_
  refine kRegion rfl ?_
  refine lV (yMove rfl) rfl rfl ?_
  refine lV (yAssign rfl) rfl rfl ?_
  refine lNil ?_
  refine kThen ?_
  refine kRet ?_
  refine fRet rfl (.t rfl .n) (endRet ?_)
  rfl
theorem bad_set {stop : Nat → Bool} {o : Option Nat} {n : Nat} (ho : o = bestS stop n) (h : o.isSome = false ∨ popc n < popc (o.getD 0)) (hs : stop n = true) : some n = bestS stop (n + 1) := by
  rw [bad_step, ← ho]
  have : o = none ∨ popc n < popc (o.getD 0) := h.imp (fun h => by simpa using h) id
  rw [if_pos ⟨this, hs⟩]
theorem bad_not {stop : Nat → Bool} {o : Option Nat} {n : Nat} (ho : o = bestS stop n) (hs : stop n = false) : o = bestS stop (n + 1) := by
  rw [bad_step, ← ho, if_neg fun h => by rw [hs] at h; cases h.2]
theorem bad_big {stop : Nat → Bool} {o : Option Nat} {n : Nat} (ho : o = bestS stop n) (h1 : o.isSome = true) (h2 : ¬ popc n < popc (o.getD 0)) : o = bestS stop (n + 1) := by
  rw [bad_step, ← ho, if_neg fun h => ?_]
  rcases h.1 with h | h
  · rw [h] at h1; cases h1
  · exact h2 h
set_option maxRecDepth 100000 in
set_option maxHeartbeats 1000000 in
theorem rclash_any (y : WLoc) (X : Wat) (w : World) (hm : InW w y X) (hL : X.looks.length ≤ 1000000) (hE : X.errs.length ≤ 1000000) : Calls Try.prog 24 [.agg (watC y X).toArray].toArray w (Ret w (outI (clashE X))) := by
  refine fEnter Try.func24 rfl Try.ntmps24 rfl ?_
  refine kSeq ?_
  refine kRegion rfl ?_
  refine lE rfl ?_
  refine eBoxA rfl fun n1 => ?_
  refine lV (yAssign rfl) rfl rfl ?_
  refine lV (yAssign rfl) rfl rfl ?_
  refine lNil ?_
  refine kThen ?_
  refine kSeq ?_
  refine kSeq ?_
  refine kRegion rfl ?_
  refine lV (yLoadA (vs := [_, _, _, _, _, _, _, _]) rfl A29 (cOwn 0 rfl rfl)) rfl rfl ?_
  refine lV (yCall rfl (.c rfl .n) C34 (fun w hw => watch_any y X w (hm.eff hw) hL hE)) rfl rfl ?_
  refine lV (yNot rfl) rfl rfl ?_
  refine lNil ?_
  refine kThen ?_
  refine splitB (t := 11) rfl (fun h11 => ?_) (fun h11 => ?_)
  · refine kIfT rfl ?_
    refine kSeq ?_
    refine kRegion rfl ?_
    refine lV (yAssign rfl) rfl rfl ?_
    refine lV (yAssign rfl) rfl rfl ?_
    refine lNil ?_
    refine kThen ?_
    refine kRet ?_
    refine kThenR ?_
    refine fRet rfl (.t rfl (.t rfl .n)) (endRet ?_)
    simp only [packV]; rw [show clashE X = (0, 1) from if_pos (notT h11)]
  · refine kIfF rfl ?_
    refine kSkip ?_
    refine kThen ?_
    refine kSeq ?_
    have hM := notF h11
    have hN := hM.n
    have hls := allS_lt hM
    refine kRegion rfl ?_
    refine lV (yLoadA (vs := [_, _, _, _, _, _, _, _]) rfl A29 (cOwn 0 rfl rfl)) rfl rfl ?_
    refine lV (yCall rfl (.c rfl .n) C59 (fun w hw => rall_any y X w (by omega) hM.e)) rfl rfl ?_
    refine lV (yMove rfl) rfl rfl ?_
    refine lV (yExtract rfl rfl) rfl rfl ?_
    refine lV (yExtract rfl rfl) rfl rfl ?_
    refine lV (yAssign rfl) rfl rfl ?_
    refine lV (yAssign rfl) rfl rfl ?_
    refine lNil ?_
    refine kThen ?_
    refine kSeq ?_
    refine kRegion rfl ?_
    refine lV (yAssign rfl) rfl rfl ?_
    refine lV (yAssign rfl) rfl rfl ?_
    refine lNil ?_
    refine kThen ?_
    refine kSeq ?_
    refine kSeq ?_
    refine kRegion rfl ?_
    refine lV (yAssign rfl) rfl rfl ?_
    refine lNil ?_
    refine kThen ?_
    refine kBlock ?_
    refine kLoopX (ι := Nat × Option Nat) (fun x => x.1 ≤ allS X + 1 ∧ x.2 = bestS (clashS X) x.1) (fun x => [(8, i64 (x.1 : Nat)), (6, i64 (x.2.getD 0 : Nat)), (7, .bool x.2.isSome)]) [(0, _), (1, _), (2, _), (3, _), (9, _), (10, _), (11, _), (13, _), (14, _), (12, _), (15, _), (16, _), (4, _), (5, _)] (fun x => []) (fun x => []) [(n1, _)] (fun x => allS X + 1 - x.1) (0, none) (⟨Nat.zero_le _, rfl⟩) rfl (.c rfl (.c rfl (.c rfl .n))) (.c rfl (.c rfl (.c rfl (.c rfl (.c rfl (.c rfl (.c rfl (.c rfl (.c rfl (.c rfl (.c rfl (.c rfl (.c rfl (.c rfl .n)))))))))))))) (.c 0 rfl .n) ?_
    rintro ⟨n, o⟩ ⟨hn, ho⟩
    dsimp only at hn ho ⊢
    have hbl : o.getD 0 < 8192 := by rw [ho]; exact best_lt (by omega) (by omega)
    refine kSeq ?_
    refine kSeq ?_
    refine kRegion rfl ?_
    refine lV (yMove rfl) rfl rfl ?_
    refine lV (yMove rfl) rfl rfl ?_
    refine lV (yLeq rfl rfl) rfl rfl ?_
    refine lNil ?_
    refine kThen ?_
    refine split (t := 19) rfl (fun h19 => ?_) (fun h19 => ?_)
    · refine kIfT rfl ?_
      refine kSkip ?_
      refine kThen ?_
      refine kSeq ?_
      refine kBlock ?_
      refine kSeq ?_
      refine kRegion rfl ?_
      refine lV (yMove rfl) rfl rfl ?_
      refine lV (yNot rfl) rfl rfl ?_
      refine lV (yMove rfl) rfl rfl ?_
      refine splitB (t := 24) rfl (fun h24 => ?_) (fun h24 => ?_)
      · refine lGN rfl rfl rfl rfl rfl ?_
        refine lGN rfl rfl rfl rfl rfl ?_
        refine lGN rfl rfl rfl rfl rfl ?_
        refine lGN rfl rfl rfl rfl rfl ?_
        refine lGN rfl rfl rfl rfl rfl ?_
        refine lV (yPickT rfl rfl) rfl rfl ?_
        refine lV (yMove rfl) rfl rfl ?_
        refine lGY rfl rfl rfl (oV (yLoadA (vs := [_, _, _, _, _, _, _, _]) rfl A29 (cOwn 0 rfl rfl)) rfl ?_)
        refine lGY rfl rfl rfl (oV (yMove rfl) rfl ?_)
        refine lGY rfl rfl rfl (oV (yCall rfl (.c rfl (.c rfl .n)) C60 (fun w hw => rcan_any y X n w (hm.eff hw) hM (by omega))) rfl ?_)
        refine lGY rfl rfl rfl (oV (yNot rfl) rfl ?_)
        refine lV (yPickT rfl rfl) rfl rfl ?_
        refine lNil ?_
        refine kThen ?_
        refine splitB (t := 36) rfl (fun h36 => ?_) (fun h36 => ?_)
        · refine kIfT rfl ?_
          refine kRegion rfl ?_
          refine lV (yMove rfl) rfl rfl ?_
          refine lV (yAssign rfl) rfl rfl ?_
          refine lV (yAssign rfl) rfl rfl ?_
          refine lNil ?_
          refine kInN ?_
          refine kThen ?_
          refine kRegion rfl ?_
          refine lV (yMove rfl) rfl rfl ?_
          refine lV (yAdd rfl rfl (by omega)) rfl rfl ?_
          refine lV (yAssign rfl) rfl rfl ?_
          refine lNil ?_
          exact kRoundX (n + 1, some n) (⟨by dsimp only; omega, bad_set ho (.inl (by simpa using h24)) (by simpa [clashS] using h36)⟩) (by dsimp only; omega) rfl (.c rfl (.c rfl (.c rfl .n))) (.c rfl (.c rfl (.c rfl (.c rfl (.c rfl (.c rfl (.c rfl (.c rfl (.c rfl (.c rfl (.c rfl (.c rfl (.c rfl (.c rfl .n)))))))))))))) (.c 0 rfl .n)
        · refine kIfF rfl ?_
          refine kSkip ?_
          refine kInN ?_
          refine kThen ?_
          refine kRegion rfl ?_
          refine lV (yMove rfl) rfl rfl ?_
          refine lV (yAdd rfl rfl (by omega)) rfl rfl ?_
          refine lV (yAssign rfl) rfl rfl ?_
          refine lNil ?_
          exact kRoundX (n + 1, o) (⟨by dsimp only; omega, bad_not ho (by simpa [clashS] using h36)⟩) (by dsimp only; omega) rfl (.c rfl (.c rfl (.c rfl .n))) (.c rfl (.c rfl (.c rfl (.c rfl (.c rfl (.c rfl (.c rfl (.c rfl (.c rfl (.c rfl (.c rfl (.c rfl (.c rfl (.c rfl .n)))))))))))))) (.c 0 rfl .n)
      · refine lGY rfl rfl rfl (oV (yMove rfl) rfl ?_)
        refine lGY rfl rfl rfl (oV (yCall rfl (.c rfl .n) C33 (fun w hw => rsize_any n w (by omega))) rfl ?_)
        refine lGY rfl rfl rfl (oV (yMove rfl) rfl ?_)
        refine lGY rfl rfl rfl (oV (yCall rfl (.c rfl .n) C33 (fun w hw => rsize_any (o.getD 0) w hbl)) rfl ?_)
        refine lGY rfl rfl rfl (oV (yLss rfl rfl) rfl ?_)
        refine lV (yPickF rfl rfl) rfl rfl ?_
        refine lV (yMove rfl) rfl rfl ?_
        refine split (t := 31) rfl (fun h31 => ?_) (fun h31 => ?_)
        · refine lGY rfl rfl rfl (oV (yLoadA (vs := [_, _, _, _, _, _, _, _]) rfl A29 (cOwn 0 rfl rfl)) rfl ?_)
          refine lGY rfl rfl rfl (oV (yMove rfl) rfl ?_)
          refine lGY rfl rfl rfl (oV (yCall rfl (.c rfl (.c rfl .n)) C60 (fun w hw => rcan_any y X n w (hm.eff hw) hM (by omega))) rfl ?_)
          refine lGY rfl rfl rfl (oV (yNot rfl) rfl ?_)
          refine lV (yPickT rfl rfl) rfl rfl ?_
          refine lNil ?_
          refine kThen ?_
          refine splitB (t := 36) rfl (fun h36 => ?_) (fun h36 => ?_)
          · refine kIfT rfl ?_
            refine kRegion rfl ?_
            refine lV (yMove rfl) rfl rfl ?_
            refine lV (yAssign rfl) rfl rfl ?_
            refine lV (yAssign rfl) rfl rfl ?_
            refine lNil ?_
            refine kInN ?_
            refine kThen ?_
            refine kRegion rfl ?_
            refine lV (yMove rfl) rfl rfl ?_
            refine lV (yAdd rfl rfl (by omega)) rfl rfl ?_
            refine lV (yAssign rfl) rfl rfl ?_
            refine lNil ?_
            exact kRoundX (n + 1, some n) (⟨by dsimp only; omega, bad_set ho (.inr (by omega)) (by simpa [clashS] using h36)⟩) (by dsimp only; omega) rfl (.c rfl (.c rfl (.c rfl .n))) (.c rfl (.c rfl (.c rfl (.c rfl (.c rfl (.c rfl (.c rfl (.c rfl (.c rfl (.c rfl (.c rfl (.c rfl (.c rfl (.c rfl .n)))))))))))))) (.c 0 rfl .n)
          · refine kIfF rfl ?_
            refine kSkip ?_
            refine kInN ?_
            refine kThen ?_
            refine kRegion rfl ?_
            refine lV (yMove rfl) rfl rfl ?_
            refine lV (yAdd rfl rfl (by omega)) rfl rfl ?_
            refine lV (yAssign rfl) rfl rfl ?_
            refine lNil ?_
            exact kRoundX (n + 1, o) (⟨by dsimp only; omega, bad_not ho (by simpa [clashS] using h36)⟩) (by dsimp only; omega) rfl (.c rfl (.c rfl (.c rfl .n))) (.c rfl (.c rfl (.c rfl (.c rfl (.c rfl (.c rfl (.c rfl (.c rfl (.c rfl (.c rfl (.c rfl (.c rfl (.c rfl (.c rfl .n)))))))))))))) (.c 0 rfl .n)
        · refine lGN rfl rfl rfl rfl rfl ?_
          refine lGN rfl rfl rfl rfl rfl ?_
          refine lGN rfl rfl rfl rfl rfl ?_
          refine lGN rfl rfl rfl rfl rfl ?_
          refine lV (yPickF rfl rfl) rfl rfl ?_
          refine lNil ?_
          refine kThen ?_
          refine kIfF rfl ?_
          refine kSkip ?_
          refine kInN ?_
          refine kThen ?_
          refine kRegion rfl ?_
          refine lV (yMove rfl) rfl rfl ?_
          refine lV (yAdd rfl rfl (by omega)) rfl rfl ?_
          refine lV (yAssign rfl) rfl rfl ?_
          refine lNil ?_
          exact kRoundX (n + 1, o) (⟨by dsimp only; omega, bad_big (o := o) (n := n) ho (by simpa using h24) (by omega)⟩) (by dsimp only; omega) rfl (.c rfl (.c rfl (.c rfl .n))) (.c rfl (.c rfl (.c rfl (.c rfl (.c rfl (.c rfl (.c rfl (.c rfl (.c rfl (.c rfl (.c rfl (.c rfl (.c rfl (.c rfl .n)))))))))))))) (.c 0 rfl .n)
    · refine kIfF rfl ?_
      refine kExit ?_
      refine kThenX ?_
      refine kThenX ?_
      refine kInX ?_
      refine kThen ?_
      refine kSeq ?_
      refine kRegion rfl ?_
      refine lV (yMove rfl) rfl rfl ?_
      refine lV (yAssign rfl) rfl rfl ?_
      refine lV (yAssign rfl) rfl rfl ?_
      refine lNil ?_
      refine kThen ?_
      refine kRet ?_
      refine fRet rfl (.t rfl (.t rfl .n)) (endRet ?_)
      obtain rfl : n = allS X + 1 := by omega
      simp only [packV]
      rw [clashE_N hM, clashN_best hM, ← ho]
set_option maxRecDepth 100000 in
set_option maxHeartbeats 1000000 in
theorem rdrop_any (y : WLoc) (X : Wat) (w : World) (hm : InW w y X) (hL : X.looks.length ≤ 1000000) (hE : X.errs.length ≤ 1000000) : Calls Try.prog 26 [.agg (watC y X).toArray].toArray w (Ret w (outI (dropE X))) := by
  refine fEnter Try.func26 rfl Try.ntmps26 rfl ?_
  refine kSeq ?_
  refine kRegion rfl ?_
  refine lE rfl ?_
  refine eBoxA rfl fun n1 => ?_
  refine lV (yAssign rfl) rfl rfl ?_
  refine lV (yAssign rfl) rfl rfl ?_
  refine lNil ?_
  refine kThen ?_
  refine kSeq ?_
  refine kSeq ?_
  refine kRegion rfl ?_
  refine lV (yLoadA (vs := [_, _, _, _, _, _, _, _]) rfl A29 (cOwn 0 rfl rfl)) rfl rfl ?_
  refine lV (yCall rfl (.c rfl .n) C34 (fun w hw => watch_any y X w (hm.eff hw) hL hE)) rfl rfl ?_
  refine lV (yNot rfl) rfl rfl ?_
  refine lNil ?_
  refine kThen ?_
  refine splitB (t := 10) rfl (fun h10 => ?_) (fun h10 => ?_)
  · refine kIfT rfl ?_
    refine kSeq ?_
    refine kRegion rfl ?_
    refine lV (yAssign rfl) rfl rfl ?_
    refine lV (yAssign rfl) rfl rfl ?_
    refine lNil ?_
    refine kThen ?_
    refine kRet ?_
    refine kThenR ?_
    refine fRet rfl (.t rfl (.t rfl .n)) (endRet ?_)
    simp only [packV]; rw [show dropE X = (0, 1) from if_pos (notT h10)]
  · refine kIfF rfl ?_
    refine kSkip ?_
    refine kThen ?_
    refine kSeq ?_
    have hM := notF h10
    have hN := hM.n
    have hls := allS_lt hM
    have hp0 := Nat.two_pow_pos X.looks.length
    have hstep : ∀ n, n ≤ allS X → (bestS (dropS X) (n + 1)).getD (allS X) = if popc n < popc ((bestS (dropS X) n).getD (allS X)) ∧ dropS X n = true then n else (bestS (dropS X) n).getD (allS X) := fun n hn => full_step (k := X.looks.length) (by omega) hn
    refine kRegion rfl ?_
    refine lV (yLoadA (vs := [_, _, _, _, _, _, _, _]) rfl A29 (cOwn 0 rfl rfl)) rfl rfl ?_
    refine lV (yCall rfl (.c rfl .n) C59 (fun w hw => rall_any y X w (by omega) hM.e)) rfl rfl ?_
    refine lV (yMove rfl) rfl rfl ?_
    refine lV (yExtract rfl rfl) rfl rfl ?_
    refine lV (yExtract rfl rfl) rfl rfl ?_
    refine lV (yAssign rfl) rfl rfl ?_
    refine lV (yAssign rfl) rfl rfl ?_
    refine lNil ?_
    refine kThen ?_
    refine kSeq ?_
    refine kRegion rfl ?_
    refine lV (yMove rfl) rfl rfl ?_
    refine lV (yAssign rfl) rfl rfl ?_
    refine lNil ?_
    refine kThen ?_
    refine kSeq ?_
    refine kSeq ?_
    refine kRegion rfl ?_
    refine lV (yAssign rfl) rfl rfl ?_
    refine lNil ?_
    refine kThen ?_
    refine kBlock ?_
    refine kLoopX (ι := Nat × Nat) (fun x => x.1 ≤ allS X + 1 ∧ x.2 = (bestS (dropS X) x.1).getD (allS X)) (fun x => [(7, i64 (x.1 : Nat)), (6, i64 (x.2 : Nat))]) [(0, _), (1, _), (2, _), (3, _), (8, _), (9, _), (10, _), (12, _), (13, _), (11, _), (14, _), (15, _), (4, _), (5, _), (16, _)] (fun x => []) (fun x => []) [(n1, _)] (fun x => allS X + 1 - x.1) (0, allS X) (⟨Nat.zero_le _, rfl⟩) rfl (.c rfl (.c rfl .n)) (.c rfl (.c rfl (.c rfl (.c rfl (.c rfl (.c rfl (.c rfl (.c rfl (.c rfl (.c rfl (.c rfl (.c rfl (.c rfl (.c rfl (.c rfl .n))))))))))))))) (.c 0 rfl .n) ?_
    rintro ⟨n, b⟩ ⟨hn, hb⟩
    dsimp only at hn hb ⊢
    have hbl : b < 8192 := by rw [hb]; exact best_lt (by omega) (by omega)
    refine kSeq ?_
    refine kSeq ?_
    refine kRegion rfl ?_
    refine lV (yMove rfl) rfl rfl ?_
    refine lV (yMove rfl) rfl rfl ?_
    refine lV (yLeq rfl rfl) rfl rfl ?_
    refine lNil ?_
    refine kThen ?_
    refine split (t := 19) rfl (fun h19 => ?_) (fun h19 => ?_)
    · refine kIfT rfl ?_
      refine kSkip ?_
      refine kThen ?_
      refine kSeq ?_
      refine kBlock ?_
      refine kSeq ?_
      refine kRegion rfl ?_
      refine lV (yMove rfl) rfl rfl ?_
      refine lV (yCall rfl (.c rfl .n) C33 (fun w hw => rsize_any n w (by omega))) rfl rfl ?_
      refine lV (yMove rfl) rfl rfl ?_
      refine lV (yCall rfl (.c rfl .n) C33 (fun w hw => rsize_any b w hbl)) rfl rfl ?_
      refine lV (yLss rfl rfl) rfl rfl ?_
      refine lV (yMove rfl) rfl rfl ?_
      refine split (t := 27) rfl (fun h27 => ?_) (fun h27 => ?_)
      · refine lGY rfl rfl rfl (oV (yLoadA (vs := [_, _, _, _, _, _, _, _]) rfl A29 (cOwn 0 rfl rfl)) rfl ?_)
        refine lGY rfl rfl rfl (oV (yMove rfl) rfl ?_)
        refine lGY rfl rfl rfl (oV (yMove rfl) rfl ?_)
        refine lGY rfl rfl rfl (oV (ySub rfl rfl (by omega)) rfl ?_)
        refine same (t := 31) (u := i64 ((less (allS X) n : Nat) : Int)) rfl (congrArg i64 (by rw [show less (allS X) n = allS X - n from less_full X.looks.length (by omega) n (by unfold allS at *; omega)]; omega)) ?_
        refine lGY rfl rfl rfl (oV (yCall rfl (.c rfl (.c rfl .n)) C60 (fun w hw => rcan_any y X (less (allS X) n) w (hm.eff hw) hM (by have := less_lt (a := allS X) (b := n) (n := 12) (by omega); omega))) rfl ?_)
        refine same (t := 32) (u := .bool (dropS X n)) rfl (rfl) ?_
        refine lV (yPickT rfl rfl) rfl rfl ?_
        refine lNil ?_
        refine kThen ?_
        refine splitB (t := 33) rfl (fun h33 => ?_) (fun h33 => ?_)
        · refine kIfT rfl ?_
          refine kRegion rfl ?_
          refine lV (yMove rfl) rfl rfl ?_
          refine lV (yAssign rfl) rfl rfl ?_
          refine lNil ?_
          refine kInN ?_
          refine kThen ?_
          refine kRegion rfl ?_
          refine lV (yMove rfl) rfl rfl ?_
          refine lV (yAdd rfl rfl (by omega)) rfl rfl ?_
          refine lV (yAssign rfl) rfl rfl ?_
          refine lNil ?_
          exact kRoundX (n + 1, n) (⟨by dsimp only; omega, by dsimp only; rw [hstep n (by omega), ← hb, if_pos ⟨by omega, h33⟩]⟩) (by dsimp only; omega) rfl (.c rfl (.c rfl .n)) (.c rfl (.c rfl (.c rfl (.c rfl (.c rfl (.c rfl (.c rfl (.c rfl (.c rfl (.c rfl (.c rfl (.c rfl (.c rfl (.c rfl (.c rfl .n))))))))))))))) (.c 0 rfl .n)
        · refine kIfF rfl ?_
          refine kSkip ?_
          refine kInN ?_
          refine kThen ?_
          refine kRegion rfl ?_
          refine lV (yMove rfl) rfl rfl ?_
          refine lV (yAdd rfl rfl (by omega)) rfl rfl ?_
          refine lV (yAssign rfl) rfl rfl ?_
          refine lNil ?_
          exact kRoundX (n + 1, b) (⟨by dsimp only; omega, by dsimp only; rw [hstep n (by omega), ← hb, if_neg fun h => by rw [h33] at h; cases h.2]⟩) (by dsimp only; omega) rfl (.c rfl (.c rfl .n)) (.c rfl (.c rfl (.c rfl (.c rfl (.c rfl (.c rfl (.c rfl (.c rfl (.c rfl (.c rfl (.c rfl (.c rfl (.c rfl (.c rfl (.c rfl .n))))))))))))))) (.c 0 rfl .n)
      · refine lGN rfl rfl rfl rfl rfl ?_
        refine lGN rfl rfl rfl rfl rfl ?_
        refine lGN rfl rfl rfl rfl rfl ?_
        refine lGN rfl rfl rfl rfl rfl ?_
        refine lGN rfl rfl rfl rfl rfl ?_
        refine lV (yPickF rfl rfl) rfl rfl ?_
        refine lNil ?_
        refine kThen ?_
        refine kIfF rfl ?_
        refine kSkip ?_
        refine kInN ?_
        refine kThen ?_
        refine kRegion rfl ?_
        refine lV (yMove rfl) rfl rfl ?_
        refine lV (yAdd rfl rfl (by omega)) rfl rfl ?_
        refine lV (yAssign rfl) rfl rfl ?_
        refine lNil ?_
        exact kRoundX (n + 1, b) (⟨by dsimp only; omega, by dsimp only; rw [hstep n (by omega), ← hb, if_neg fun h => by omega]⟩) (by dsimp only; omega) rfl (.c rfl (.c rfl .n)) (.c rfl (.c rfl (.c rfl (.c rfl (.c rfl (.c rfl (.c rfl (.c rfl (.c rfl (.c rfl (.c rfl (.c rfl (.c rfl (.c rfl (.c rfl .n))))))))))))))) (.c 0 rfl .n)
    · refine kIfF rfl ?_
      refine kExit ?_
      refine kThenX ?_
      refine kThenX ?_
      refine kInX ?_
      refine kThen ?_
      refine kSeq ?_
      refine kRegion rfl ?_
      refine lV (yMove rfl) rfl rfl ?_
      refine lV (yAssign rfl) rfl rfl ?_
      refine lV (yAssign rfl) rfl rfl ?_
      refine lNil ?_
      refine kThen ?_
      refine kRet ?_
      refine fRet rfl (.t rfl (.t rfl .n)) (endRet ?_)
      obtain rfl : n = allS X + 1 := by omega
      simp only [packV]
      rw [dropE_N hM, ← dropN_all hM, ← hb]
set_option maxRecDepth 100000 in
set_option maxHeartbeats 1000000 in
theorem rexpl_any (y : WLoc) (X : Wat) (w : World) (hm : InW w y X) (hL : X.looks.length ≤ 1000000) (hE : X.errs.length ≤ 1000000) : Calls Try.prog 28 [.agg (watC y X).toArray].toArray w (Ret w (outI (explE X))) := by
  refine fEnter Try.func28 rfl Try.ntmps28 rfl ?_
  refine kSeq ?_
  refine kRegion rfl ?_
  refine lE rfl ?_
  refine eBoxA rfl fun n1 => ?_
  refine lV (yAssign rfl) rfl rfl ?_
  refine lV (yAssign rfl) rfl rfl ?_
  refine lNil ?_
  refine kThen ?_
  refine kSeq ?_
  by_cases hk : WatOk X ∧ True ∧ okW X
  · obtain ⟨hM, _, ho⟩ := hk
    have hN := hM.n
    have hEy := hM.e
    have hls := allS_lt hM
    have hle := allE_lt hM
    have hp0 := Nat.two_pow_pos X.eyes.toNat
    have hpe : allE X = 2 ^ X.eyes.toNat - 1 := rfl
    have hp4 : 2 ^ X.eyes.toNat ≤ 2 ^ 4 := Nat.pow_le_pow_right (by omega) (by omega)
    have hstep : ∀ n, n ≤ allE X → (bestS (explS X) (n + 1)).getD (allE X) = if popc n < popc ((bestS (explS X) n).getD (allE X)) ∧ explS X n = true then n else (bestS (explS X) n).getD (allE X) := fun n hn => full_step (k := X.eyes.toNat) (by omega) hn
    refine kRegion rfl ?_
    refine lV (yLoadA (vs := [_, _, _, _, _, _, _, _]) rfl A29 (cOwn 0 rfl rfl)) rfl rfl ?_
    refine lE rfl ?_
    refine eCallO rfl (.c rfl (.c rfl .n)) C51 (fun w hw => ropen_yes y X w (hm.eff hw) hM ho) fun x hx => ?_
    obtain ⟨gb, rs⟩ := x
    dsimp only at hx ⊢
    refine lV (yMove rfl) rfl rfl ?_
    refine lV (yExtract rfl rfl) rfl rfl ?_
    refine lV (yExtract rfl rfl) rfl rfl ?_
    refine lV (yAssign rfl) rfl rfl ?_
    refine lV (yAssign rfl) rfl rfl ?_
    refine lNil ?_
    refine kThen ?_
    refine kSeq ?_
    refine kSeq ?_
    refine kRegion rfl ?_
    refine lV (yMove rfl) rfl rfl ?_
    refine lV (yNeq rfl rfl) rfl rfl ?_
    refine knownN (t := 17) rfl (fun h => h rfl) ?_
    refine lNil ?_
    refine kThen ?_
    refine kIfF rfl ?_
    refine kSkip ?_
    refine kThen ?_
    refine kSeq ?_
    refine kRegion rfl ?_
    refine lV (yLoadA (vs := [_, _, _, _, _, _, _, _]) rfl A29 (cOwn 0 rfl rfl)) rfl rfl ?_
    refine lV (yCall rfl (.c rfl .n) C59 (fun w hw => rall_any y X w (by omega) hM.e)) rfl rfl ?_
    refine lV (yMove rfl) rfl rfl ?_
    refine lV (yExtract rfl rfl) rfl rfl ?_
    refine lV (yExtract rfl rfl) rfl rfl ?_
    refine lV (yAssign rfl) rfl rfl ?_
    refine lV (yAssign rfl) rfl rfl ?_
    refine lNil ?_
    refine kThen ?_
    refine kSeq ?_
    refine kSeq ?_
    refine kRegion rfl ?_
    refine lV (yAssign rfl) rfl rfl ?_
    refine lNil ?_
    refine kThen ?_
    refine kBlock ?_
    refine kLoopX (ι := Nat × Nat) (fun x => x.1 ≤ allE X + 1 ∧ x.2 = (bestS (explS X) x.1).getD (allE X)) (fun x => [(8, i64 (x.1 : Nat)), (7, i64 (x.2 : Nat))]) [(0, _), (1, _), (2, _), (3, _), (12, _), (13, _), (11, _), (14, _), (15, _), (4, _), (5, _), (16, _), (17, _), (20, _), (21, _), (19, _), (22, _), (23, _), (6, _)] (fun x => []) (fun x => (osL 41 gb ++ rs.H)) [(n1, _)] (fun x => allE X + 1 - x.1) (0, allE X) (⟨Nat.zero_le _, rfl⟩) rfl (.c rfl (.c rfl .n)) (.c rfl (.c rfl (.c rfl (.c rfl (.c rfl (.c rfl (.c rfl (.c rfl (.c rfl (.c rfl (.c rfl (.c rfl (.c rfl (.c rfl (.c rfl (.c rfl (.c rfl (.c rfl (.c rfl .n))))))))))))))))))) (.c 0 rfl .r) ?_
    rintro ⟨n, b⟩ ⟨hn, hb⟩
    dsimp only at hn hb ⊢
    have hbl : b < 8192 := by rw [hb]; exact best_lt (by omega) (by omega)
    refine kSeq ?_
    refine kSeq ?_
    refine kRegion rfl ?_
    refine lV (yMove rfl) rfl rfl ?_
    refine lV (yFieldAddr rfl F29_2) rfl rfl ?_
    refine lV (yLoad1 rfl O3 (cOwn 0 rfl rfl)) rfl rfl ?_
    refine same (t := 26) (u := i64 ((X.eyes.toNat : Nat) : Int)) rfl (congrArg i64 (by omega)) ?_
    refine lV (yCall rfl (.c rfl .n) C53 (fun w hw => power_any X.eyes.toNat w (by omega))) rfl rfl ?_
    refine lV (yLss rfl rfl) rfl rfl ?_
    refine lNil ?_
    refine kThen ?_
    refine split (t := 28) rfl (fun h28 => ?_) (fun h28 => ?_)
    · refine kIfT rfl ?_
      refine kSkip ?_
      refine kThen ?_
      refine kSeq ?_
      refine kBlock ?_
      refine kSeq ?_
      refine kRegion rfl ?_
      refine lV (yLoadA (vs := [_, _, _, _, _, _, _, _]) rfl A29 (cOwn 0 rfl rfl)) rfl rfl ?_
      refine lV (yMove rfl) rfl rfl ?_
      refine lV (yMove rfl) rfl rfl ?_
      refine lE rfl ?_
      refine eCallX rfl (.c rfl (.c rfl (.c rfl .n))) C63 (fun w hw => of_b y X (allS X) n w (hm.eff hw) hM (by omega) (by omega)) fun v _ => ?_
      refine lV (yMove rfl) rfl rfl ?_
      refine lV (yExtract rfl rfl) rfl rfl ?_
      refine lV (yExtract rfl rfl) rfl rfl ?_
      refine same (t := 37) (u := .bool (explS X n)) rfl (rfl) ?_
      refine lV (yAssign rfl) rfl rfl ?_
      refine lV (yAssign rfl) rfl rfl ?_
      refine lNil ?_
      refine kThen ?_
      refine kSeq ?_
      refine kRegion rfl ?_
      refine lV (yMove rfl) rfl rfl ?_
      refine lV (yCall rfl (.c rfl .n) C33 (fun w hw => rsize_any n w (by omega))) rfl rfl ?_
      refine lV (yMove rfl) rfl rfl ?_
      refine lV (yCall rfl (.c rfl .n) C33 (fun w hw => rsize_any b w hbl)) rfl rfl ?_
      refine lV (yLss rfl rfl) rfl rfl ?_
      refine lV (yMove rfl) rfl rfl ?_
      refine split (t := 43) rfl (fun h43 => ?_) (fun h43 => ?_)
      · refine lGY rfl rfl rfl (oV (yMove rfl) rfl ?_)
        refine lV (yPickT rfl rfl) rfl rfl ?_
        refine lNil ?_
        refine kThen ?_
        refine splitB (t := 45) rfl (fun h45 => ?_) (fun h45 => ?_)
        · refine kIfT rfl ?_
          refine kRegion rfl ?_
          refine lV (yMove rfl) rfl rfl ?_
          refine lV (yAssign rfl) rfl rfl ?_
          refine lNil ?_
          refine kInN ?_
          refine kThen ?_
          refine kRegion rfl ?_
          refine lV (yMove rfl) rfl rfl ?_
          refine lV (yAdd rfl rfl (by omega)) rfl rfl ?_
          refine lV (yAssign rfl) rfl rfl ?_
          refine lNil ?_
          exact kRoundX (n + 1, n) (⟨by dsimp only; omega, by dsimp only; rw [hstep n (by omega), ← hb, if_pos ⟨by omega, h45⟩]⟩) (by dsimp only; omega) rfl (.c rfl (.c rfl .n)) (.c rfl (.c rfl (.c rfl (.c rfl (.c rfl (.c rfl (.c rfl (.c rfl (.c rfl (.c rfl (.c rfl (.c rfl (.c rfl (.c rfl (.c rfl (.c rfl (.c rfl (.c rfl (.c rfl .n))))))))))))))))))) (.c 0 rfl .r)
        · refine kIfF rfl ?_
          refine kSkip ?_
          refine kInN ?_
          refine kThen ?_
          refine kRegion rfl ?_
          refine lV (yMove rfl) rfl rfl ?_
          refine lV (yAdd rfl rfl (by omega)) rfl rfl ?_
          refine lV (yAssign rfl) rfl rfl ?_
          refine lNil ?_
          exact kRoundX (n + 1, b) (⟨by dsimp only; omega, by dsimp only; rw [hstep n (by omega), ← hb, if_neg fun h => by rw [h45] at h; cases h.2]⟩) (by dsimp only; omega) rfl (.c rfl (.c rfl .n)) (.c rfl (.c rfl (.c rfl (.c rfl (.c rfl (.c rfl (.c rfl (.c rfl (.c rfl (.c rfl (.c rfl (.c rfl (.c rfl (.c rfl (.c rfl (.c rfl (.c rfl (.c rfl (.c rfl .n))))))))))))))))))) (.c 0 rfl .r)
      · refine lGN rfl rfl rfl rfl rfl ?_
        refine lV (yPickF rfl rfl) rfl rfl ?_
        refine lNil ?_
        refine kThen ?_
        refine kIfF rfl ?_
        refine kSkip ?_
        refine kInN ?_
        refine kThen ?_
        refine kRegion rfl ?_
        refine lV (yMove rfl) rfl rfl ?_
        refine lV (yAdd rfl rfl (by omega)) rfl rfl ?_
        refine lV (yAssign rfl) rfl rfl ?_
        refine lNil ?_
        exact kRoundX (n + 1, b) (⟨by dsimp only; omega, by dsimp only; rw [hstep n (by omega), ← hb, if_neg fun h => by omega]⟩) (by dsimp only; omega) rfl (.c rfl (.c rfl .n)) (.c rfl (.c rfl (.c rfl (.c rfl (.c rfl (.c rfl (.c rfl (.c rfl (.c rfl (.c rfl (.c rfl (.c rfl (.c rfl (.c rfl (.c rfl (.c rfl (.c rfl (.c rfl (.c rfl .n))))))))))))))))))) (.c 0 rfl .r)
    · refine kIfF rfl ?_
      refine kExit ?_
      refine kThenX ?_
      refine kThenX ?_
      refine kInX ?_
      refine kThen ?_
      refine kSeq ?_
      refine kRegion rfl ?_
      refine lV (yMove rfl) rfl rfl ?_
      refine lV (yAssign rfl) rfl rfl ?_
      refine lV (yAssign rfl) rfl rfl ?_
      refine lNil ?_
      refine kThen ?_
      refine kRet ?_
      refine fRet rfl (.t rfl (.t rfl .n)) (endRet ?_)
      obtain rfl : n = allE X + 1 := by omega
      simp only [packV]
      rw [explE_N hM ho, ← explN_all hM ho, ← hb]
  · refine kRegion rfl ?_
    refine lV (yLoadA (vs := [_, _, _, _, _, _, _, _]) rfl A29 (cOwn 0 rfl rfl)) rfl rfl ?_
    refine lV (yCall rfl (.c rfl (.c rfl .n)) C51 (fun w hw => ropen_no y X true w (hm.eff hw) hL hE (by have := open_no hk; simpa using this))) rfl rfl ?_
    refine lV (yMove rfl) rfl rfl ?_
    refine lV (yExtract rfl rfl) rfl rfl ?_
    refine lV (yExtract rfl rfl) rfl rfl ?_
    refine lV (yAssign rfl) rfl rfl ?_
    refine lV (yAssign rfl) rfl rfl ?_
    refine lNil ?_
    refine kThen ?_
    refine kSeq ?_
    refine kSeq ?_
    refine kRegion rfl ?_
    refine lV (yMove rfl) rfl rfl ?_
    refine lV (yNeq rfl rfl) rfl rfl ?_
    refine known (t := 17) rfl (codeR_ne X _) ?_
    refine lNil ?_
    refine kThen ?_
    refine kIfT rfl ?_
    refine kSeq ?_
    refine kRegion rfl ?_
    refine lV (yMove rfl) rfl rfl ?_
    refine lV (yAssign rfl) rfl rfl ?_
    refine lV (yAssign rfl) rfl rfl ?_
    refine lNil ?_
    refine kThen ?_
    refine kRet ?_
    refine kThenR ?_
    refine fRet rfl (.t rfl (.t rfl .n)) (endRet ?_)
    simp only [packV]
    have h : codeR X true = (explE X).2 ∧ (explE X).1 = 0 := by
      unfold codeR
      by_cases hM : WatOk X
      · rw [if_neg (not_not_intro hM), if_neg (by decide), explE_clash hM fun ho => hk ⟨hM, trivial, ho⟩]; exact ⟨rfl, rfl⟩
      · rw [if_pos hM, show explE X = (0, 1) from if_pos hM]; exact ⟨rfl, rfl⟩
    rw [h.1]
    show _ = Value.tuple [i64 (explE X).1, i64 (explE X).2].toArray
    rw [h.2]
end Go.Proofs.Ytiaaidcdoenloaa
