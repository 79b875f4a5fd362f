/-
  Walk: TopEntered.
-/
import Derived.Test.YtdpeifbejeflhaaVx
namespace Go.Proofs.Ytdpeifbejeflhaa
open ZW

theorem sle_congr {w : World} {a : Option Addr} {n sz : Nat} {f f' : Nat → List Value} (h : SlE w a n sz f) (he : ∀ i, i < n → f i = f' i) : SlE w a n sz f' where
  len i hi := by rw [← he i hi]; exact h.len i hi
  at_ := h.at_
  cell i j hi hj := by rw [← he i hi]; exact h.cell i j hi hj
theorem rowY_one (x : SkyV) : ∀ r ∈ [rowY x], ∀ u ∈ r, u.oneCell' = true := fun r hr u hu => by
  obtain rfl := List.mem_singleton.1 hr
  simp only [List.mem_cons, List.not_mem_nil, or_false] at hu
  rcases hu with rfl | rfl | rfl | rfl | rfl | rfl <;> rfl
/-- The plates of all numbers, and their field. -/
def plT (f : Fld) (x : Nat → Nat) (i : Nat) : List SkyV := (List.range i).map fun j => f.ps.getD (x j) sky0
theorem plT_len (f : Fld) (x : Nat → Nat) (i : Nat) : (plT f x i).length = i := by simp [plT]
theorem plT_succ (f : Fld) (x : Nat → Nat) (i : Nat) : plT f x (i + 1) = plT f x i ++ [f.ps.getD (x i) sky0] := by simp [plT, List.range_succ]
theorem plT_get (f : Fld) (x : Nat → Nat) {i n : Nat} (h : i < n) : (plT f x n).getD i sky0 = f.ps.getD (x i) sky0 := by simp [plT, List.getD, h]
def gapA (f : Fld) : Int := if 1 < f.times ∧ f.gap = 0 then 1 else f.gap
abbrev allF (f : Fld) (x : Nat → Nat) (n : Nat) : Fld := ⟨plT f x n, f.e, f.n, f.d, f.depth, f.times, gapA f⟩
theorem allF_gap {f : Fld} {x : Nat → Nat} {n : Nat} (hF : FldOk (allF f x n)) : (allF f x n).times = 1 ∨ 1 ≤ (allF f x n).gap := by
  have h1 := hF.t
  have h2 := hF.g
  show f.times = 1 ∨ 1 ≤ gapA f
  have h1 : 1 ≤ f.times ∧ f.times ≤ 4 := h1
  have h2 : 0 ≤ gapA f ∧ gapA f ≤ 65536 := h2
  unfold gapA at h2 ⊢
  split
  · exact .inr (by omega)
  · rename_i h; rw [if_neg h] at h2; omega
theorem allF_tw {f : Fld} {x : Nat → Nat} {n : Nat} (hle : ∀ i, i < n → x i ≤ i) (hid : ∀ i, i < n → x (x i) = x i) : Tw (allF f x n) x where
  le i hi := hle i (by rwa [plT_len] at hi)
  idem i hi := hid i (by rwa [plT_len] at hi)
  at_ i hi := by
    rw [plT_len] at hi
    have := hle i hi
    show (plT f x n).getD (x i) sky0 = (plT f x n).getD i sky0
    rw [plT_get f x (show x i < n by omega), plT_get f x hi, hid i hi]
theorem least_pos {x : Nat → Nat} {i : Nat} (h : x i = i) : leastN x (i + 1) = leastN x i ||| 1 * 2 ^ i := by
  show (if decide (x i = i) = true then _ else _) = _
  rw [if_pos (decide_eq_true h)]
theorem least_neg {x : Nat → Nat} {i : Nat} (h : ¬ x i = i) : leastN x (i + 1) = leastN x i := by
  show (if decide (x i = i) = true then _ else _) = _
  rw [if_neg (by simpa using h)]
theorem or_bit0 {n a j : Nat} (h1 : n.testBit a = false) (h2 : n.testBit j = false) : ¬ (((n / 2 ^ a ||| n / 2 ^ j) &&& 1 : Nat) : Int) = 1 := by
  intro h
  have h3 : (n / 2 ^ a ||| n / 2 ^ j).testBit 0 = true := by rw [Nat.testBit_zero, decide_eq_true_eq, ← Nat.and_one_is_mod]; omega
  rw [Nat.testBit_or, Nat.testBit_div_two_pow, Nat.testBit_div_two_pow, Nat.zero_add, Nat.zero_add, h1, h2] at h3
  cases h3
theorem own_pos {x : Nat → Nat} {b i : Nat} (h : b.testBit i = true) : ownT x b (i + 1) = ownT x b i ||| 1 * 2 ^ x i := by
  show (if b.testBit i = true then _ else _) = _
  rw [if_pos h]
theorem own_neg {x : Nat → Nat} {b i : Nat} (h : ¬ b.testBit i = true) : ownT x b (i + 1) = ownT x b i := by
  show (if b.testBit i = true then _ else _) = _
  rw [if_neg h]
set_option maxRecDepth 100000 in
set_option maxHeartbeats 8000000 in
theorem entered_any (ys yn : Option Addr × Nat) (s : Shl) (y : Option Addr × Nat) (f : Fld) (w : World) (hm : InSh w ys yn s) (hf : InF w y f) : Calls Try.prog 3 [.agg (shlC ys yn s).toArray, .agg (fldC y f).toArray].toArray w (Ret w (.bool true)) := by
  refine fEnter Try.func3 rfl Try.ntmps3 rfl ?_
  refine kSeq ?_
  refine kRegion rfl ?_
  refine lE rfl ?_
  refine eBoxA rfl fun n2 => ?_
  refine lE rfl ?_
  refine eBoxA rfl fun n3 => ?_
  refine lV (yAssign rfl) rfl rfl ?_
  refine lNil ?_
  refine kThen ?_
  refine kSeq ?_
  refine kSeq ?_
  by_cases hS : ShlOk s
  · refine kRegion rfl ?_
    refine lV (yFieldAddr rfl F27_1) rfl rfl ?_
    refine lV (yLoad1 rfl O22 (cOwn 1 rfl rfl)) rfl rfl ?_
    refine lV (yLen rfl S22) rfl rfl ?_
    refine lV (yGtr rfl rfl) rfl rfl ?_
    refine lV (yMove rfl) rfl rfl ?_
    refine split (t := 30) rfl (fun h30 => ?_) (fun h30 => ?_)
    · refine lGN rfl rfl rfl rfl rfl ?_
      refine lGN rfl rfl rfl rfl rfl ?_
      refine lGN rfl rfl rfl rfl rfl ?_
      refine lGN rfl rfl rfl rfl rfl ?_
      refine lV (yPickT rfl rfl) rfl rfl ?_
      refine lV (yMove rfl) rfl rfl ?_
      refine lGN rfl rfl rfl rfl rfl ?_
      refine lGN rfl rfl rfl rfl rfl ?_
      refine lGN rfl rfl rfl rfl rfl ?_
      refine lGN rfl rfl rfl rfl rfl ?_
      refine lV (yPickT rfl rfl) rfl rfl ?_
      refine lV (yMove rfl) rfl rfl ?_
      refine lGN rfl rfl rfl rfl rfl ?_
      refine lGN rfl rfl rfl rfl rfl ?_
      refine lGN rfl rfl rfl rfl rfl ?_
      refine lV (yPickT rfl rfl) rfl rfl ?_
      refine lV (yMove rfl) rfl rfl ?_
      refine lGN rfl rfl rfl rfl rfl ?_
      refine lGN rfl rfl rfl rfl rfl ?_
      refine lGN rfl rfl rfl rfl rfl ?_
      refine lGN rfl rfl rfl rfl rfl ?_
      refine lGN rfl rfl rfl rfl rfl ?_
      refine lGN rfl rfl rfl rfl rfl ?_
      refine lV (yPickT rfl rfl) rfl rfl ?_
      refine lNil ?_
      refine kThen ?_
      refine kIfT rfl ?_
      refine kSeq ?_
      refine kRegion rfl ?_
      refine lV (yCall rfl .n C5 (fun w hw => awake_any w)) rfl rfl ?_
      refine lV (yAssign rfl) rfl rfl ?_
      refine lNil ?_
      refine kThen ?_
      refine kRet ?_
      refine kThenR ?_
      refine fRet rfl (.t rfl .n) (endRet ?_)
      rfl
    · refine lGY rfl rfl rfl (oV (yFieldAddr rfl F27_3) rfl ?_)
      refine lGY rfl rfl rfl (oV (yLoad1 rfl O25 (cOwn 1 rfl rfl)) rfl ?_)
      refine lGY rfl rfl rfl (oV (yLen rfl S25) rfl ?_)
      refine lGY rfl rfl rfl (oV (yGtr rfl rfl) rfl ?_)
      refine lV (yPickF rfl rfl) rfl rfl ?_
      refine lV (yMove rfl) rfl rfl ?_
      refine split (t := 36) rfl (fun h36 => ?_) (fun h36 => ?_)
      · refine lGN rfl rfl rfl rfl rfl ?_
        refine lGN rfl rfl rfl rfl rfl ?_
        refine lGN rfl rfl rfl rfl rfl ?_
        refine lGN rfl rfl rfl rfl rfl ?_
        refine lV (yPickT rfl rfl) rfl rfl ?_
        refine lV (yMove rfl) rfl rfl ?_
        refine lGN rfl rfl rfl rfl rfl ?_
        refine lGN rfl rfl rfl rfl rfl ?_
        refine lGN rfl rfl rfl rfl rfl ?_
        refine lV (yPickT rfl rfl) rfl rfl ?_
        refine lV (yMove rfl) rfl rfl ?_
        refine lGN rfl rfl rfl rfl rfl ?_
        refine lGN rfl rfl rfl rfl rfl ?_
        refine lGN rfl rfl rfl rfl rfl ?_
        refine lGN rfl rfl rfl rfl rfl ?_
        refine lGN rfl rfl rfl rfl rfl ?_
        refine lGN rfl rfl rfl rfl rfl ?_
        refine lV (yPickT rfl rfl) rfl rfl ?_
        refine lNil ?_
        refine kThen ?_
        refine kIfT rfl ?_
        refine kSeq ?_
        refine kRegion rfl ?_
        refine lV (yCall rfl .n C5 (fun w hw => awake_any w)) rfl rfl ?_
        refine lV (yAssign rfl) rfl rfl ?_
        refine lNil ?_
        refine kThen ?_
        refine kRet ?_
        refine kThenR ?_
        refine fRet rfl (.t rfl .n) (endRet ?_)
        rfl
      · refine lGY rfl rfl rfl (oV (yFieldAddr rfl F30_0) rfl ?_)
        refine lGY rfl rfl rfl (oV (yLoad1 rfl O28 (cOwn 0 rfl rfl)) rfl ?_)
        refine lGY rfl rfl rfl (oV (yLen rfl S28) rfl ?_)
        refine lGY rfl rfl rfl (oV (yGtr rfl rfl) rfl ?_)
        refine lV (yPickF rfl rfl) rfl rfl ?_
        refine lV (yMove rfl) rfl rfl ?_
        refine split (t := 42) rfl (fun h42 => ?_) (fun h42 => ?_)
        · refine lGN rfl rfl rfl rfl rfl ?_
          refine lGN rfl rfl rfl rfl rfl ?_
          refine lGN rfl rfl rfl rfl rfl ?_
          refine lV (yPickT rfl rfl) rfl rfl ?_
          refine lV (yMove rfl) rfl rfl ?_
          refine lGN rfl rfl rfl rfl rfl ?_
          refine lGN rfl rfl rfl rfl rfl ?_
          refine lGN rfl rfl rfl rfl rfl ?_
          refine lGN rfl rfl rfl rfl rfl ?_
          refine lGN rfl rfl rfl rfl rfl ?_
          refine lGN rfl rfl rfl rfl rfl ?_
          refine lV (yPickT rfl rfl) rfl rfl ?_
          refine lNil ?_
          refine kThen ?_
          refine kIfT rfl ?_
          refine kSeq ?_
          refine kRegion rfl ?_
          refine lV (yCall rfl .n C5 (fun w hw => awake_any w)) rfl rfl ?_
          refine lV (yAssign rfl) rfl rfl ?_
          refine lNil ?_
          refine kThen ?_
          refine kRet ?_
          refine kThenR ?_
          refine fRet rfl (.t rfl .n) (endRet ?_)
          rfl
        · refine lGY rfl rfl rfl (oV (yLoadA (vs := [_, _, _, _, _]) rfl A27 (cOwn 1 rfl rfl)) rfl ?_)
          refine lGY rfl rfl rfl (oV (yCall rfl (.c rfl .n) C4 (fun w hw => refshelf_any ys yn s w (hm.eff hw) (by omega) (by omega))) rfl ?_)
          refine knownB (t := 44) (c := true) rfl (decide_eq_true hS) ?_
          refine lGY rfl rfl rfl (oV (yNot rfl) rfl ?_)
          refine lV (yPickF rfl rfl) rfl rfl ?_
          refine lV (yMove rfl) rfl rfl ?_
          refine lGY rfl rfl rfl (oV (yFieldAddr rfl F30_0) rfl ?_)
          refine lGY rfl rfl rfl (oV (yLoad1 rfl O28 (cOwn 0 rfl rfl)) rfl ?_)
          refine lGY rfl rfl rfl (oV (yLen rfl S28) rfl ?_)
          refine lGY rfl rfl rfl (oV (yFieldAddr rfl F27_0) rfl ?_)
          refine lGY rfl rfl rfl (oV (yLoad1 rfl O3 (cOwn 1 rfl rfl)) rfl ?_)
          refine lGY rfl rfl rfl (oV (yLss rfl rfl) rfl ?_)
          refine lV (yPickF rfl rfl) rfl rfl ?_
          refine lNil ?_
          refine kThen ?_
          refine split (t := 54) rfl (fun h54 => ?_) (fun h54 => ?_)
          · refine kIfT rfl ?_
            refine kSeq ?_
            refine kRegion rfl ?_
            refine lV (yCall rfl .n C5 (fun w hw => awake_any w)) rfl rfl ?_
            refine lV (yAssign rfl) rfl rfl ?_
            refine lNil ?_
            refine kThen ?_
            refine kRet ?_
            refine kThenR ?_
            refine fRet rfl (.t rfl .n) (endRet ?_)
            rfl
          · refine kIfF rfl ?_
            refine kSkip ?_
            refine kThen ?_
            refine kSeq ?_
            by_cases hcb : canB s = true
            · refine kRegion rfl ?_
              refine lV (yLoadA (vs := [_, _, _, _, _]) rfl A27 (cOwn 1 rfl rfl)) rfl rfl ?_
              refine lE rfl ?_
              refine eCallO rfl (.c rfl .n) C6 (fun w hw => first_ok ys yn s w (hm.eff hw) hS hcb) fun g hg => ?_
              have hn8 := hS.n
              obtain ⟨n, hn⟩ : ∃ n, n = s.n.toNat := ⟨_, rfl⟩
              have hns : s.n = (n : Nat) := by omega
              have hcan : CanW n ((rightW s).getD 0 w0) := hn ▸ fst_can hcb
              obtain ⟨x, hx⟩ : ∃ x : Nat → Nat, x = fun i => ((rightW s).getD 0 w0 i).toNat := ⟨_, rfl⟩
              have hle : ∀ i, i < n → x i ≤ i := fun i hi => by rw [hx]; have := (hcan i hi).1; dsimp only; omega
              have hid : ∀ i, i < n → x (x i) = x i := fun i hi => by rw [hx]; dsimp only; rw [(hcan i hi).2]
              have hfl : ((fstL s).map rowI).length = n := by simp [fstL, hn]
              have hfl2 : (fstL s).length = n := by simp [fstL, hn]
              have hsl : ∀ {M L : Heap} {w' : World}, Eff w M L w' → (∀ p ∈ osL 3 g, p ∈ L) → SlE w' (osA g) n 1 (fun i => rowI ((x i : Nat) : Int)) := fun hw h => by
                have h1 := hg.rows (f := rowI) 0 fun p hp => hw.own p (List.mem_append.2 (.inr (h p hp)))
                rw [hfl2] at h1
                refine sle_congr h1 fun i hi => ?_
                have h2 : (fstL s).getD i 0 = (rightW s).getD 0 w0 i := by simp [fstL, List.getD, ← hn, hi]
                rw [h2, hx]
                have := (hcan i hi).1
                dsimp only
                rw [Int.toNat_of_nonneg this.1]
              rw [hfl]
              refine lV (yMove rfl) rfl rfl ?_
              refine lV (yExtract rfl rfl) rfl rfl ?_
              refine lV (yExtract rfl rfl) rfl rfl ?_
              refine lV (yAssign rfl) rfl rfl ?_
              refine lV (yAssign rfl) rfl rfl ?_
              refine lNil ?_
              refine kThen ?_
              refine kSeq ?_
              refine kSeq ?_
              refine kRegion rfl ?_
              refine lV (yMove rfl) rfl rfl ?_
              refine lV (yNeq rfl rfl) rfl rfl ?_
              refine knownN (t := 62) rfl (by decide) ?_
              refine lNil ?_
              refine kThen ?_
              refine kIfF rfl ?_
              refine kSkip ?_
              refine kThen ?_
              refine kSeq ?_
              refine kSeq ?_
              refine kRegion rfl ?_
              refine lV (yMove rfl) rfl rfl ?_
              refine lV (yLen rfl S22) rfl rfl ?_
              refine lV (yFieldAddr rfl F27_0) rfl rfl ?_
              refine lV (yLoad1 rfl O3 (cOwn 1 rfl rfl)) rfl rfl ?_
              refine lV (yNeq rfl rfl) rfl rfl ?_
              refine knownN (t := 77) rfl (by omega) ?_
              refine lNil ?_
              refine kThen ?_
              refine kIfF rfl ?_
              refine kSkip ?_
              refine kThen ?_
              refine kSeq ?_
              refine weak [(2, _), (3, _), (5, _)] (.c rfl (.c rfl (.c rfl .n))) ?_
              refine kRegion rfl ?_
              refine lV (yLoadA (vs := [_, _, _, _, _, _, _, _, _, _]) rfl A30 (cOwn 0 rfl rfl)) rfl rfl ?_
              refine lE rfl ?_
              refine eAlloc Z30 fun n7 => ?_
              refine lE rfl ?_
              refine eStoreL 0 rfl rfl rfl rfl K30 rfl (rfl) ?_
              refine lNil ?_
              refine kThen ?_
              refine kSeq ?_
              refine kRegion rfl ?_
              refine lV (yFieldAddr rfl F30_0) rfl rfl ?_
              refine lE rfl ?_
              refine eStoreL 0 rfl rfl rfl rfl K28 rfl (rfl) ?_
              refine lNil ?_
              refine kThen ?_
              refine kSeq ?_
              refine kRegion rfl ?_
              refine lV (yAssign rfl) rfl rfl ?_
              refine lNil ?_
              have hlf : n ≤ f.ps.length := by omega
              refine kThen ?_
              refine kSeq ?_
              refine kSeq ?_
              refine kRegion rfl ?_
              refine lV (yMove rfl) rfl rfl ?_
              refine lV (yLen rfl S22) rfl rfl ?_
              refine lV (yMove rfl) rfl rfl ?_
              refine lNil ?_
              refine kThen ?_
              refine kBlock ?_
              refine kLoopX (ι := Nat × Own) (fun q => q.1 ≤ n ∧ OS 6 q.2 ((plT f x q.1).map rowY)) (fun q => [(82, i64 (q.1 : Nat)), (8, i64 (leastN x q.1 : Nat))]) [(2, _), (3, _), (5, _), (78, _), (7, _), (79, _), (80, _), (81, _)] (fun q => []) (fun q => ([(n7, blk [osV q.2 ((plT f x q.1).map rowY).length, i64 f.e.1, i64 f.e.2, i64 f.n.1, i64 f.n.2, i64 f.d.1, i64 f.d.2, i64 f.depth, i64 f.times, i64 f.gap] 30), (n3, _), (n2, _)] ++ (osL 3 g ++ osL 37 q.2))) [] (fun q => n - q.1) (0, .e none) (⟨Nat.zero_le _, OS.empty⟩) rfl (.c rfl (.c rfl .n)) (.c rfl (.c rfl (.c rfl (.c rfl (.c rfl (.c rfl (.c rfl (.c rfl .n)))))))) (.c 0 rfl (.c 0 rfl (.c 0 rfl (by show SubP (osL 3 g ++ []) (osL 3 g); rw [List.append_nil]; exact .r)))) ?_
              rintro ⟨i, gp⟩ ⟨hi, hgp⟩
              dsimp only at hi hgp ⊢
              refine kSeq ?_
              refine kRegion rfl ?_
              refine lV (yLss rfl rfl) rfl rfl ?_
              refine lNil ?_
              refine kThen ?_
              refine kSeq ?_
              refine split (t := 83) rfl (fun h83 => ?_) (fun h83 => ?_)
              · refine kIfT rfl ?_
                refine kSkip ?_
                refine kThen ?_
                refine kSeq ?_
                refine kBlock ?_
                refine kSeq ?_
                refine kRegion rfl ?_
                refine lV (yMove rfl) rfl rfl ?_
                refine lV (yIndexS  rfl rfl S22 ((fun w hw => hsl hw fun p hp => by simp [hp])) ((by omega))) rfl rfl ?_
                refine lV (yLoad1 rfl O3 (cSl0 ((fun w hw => hsl hw fun p hp => by simp [hp])) ((by omega)) rfl)) rfl rfl ?_
                refine lV (yAssign rfl) rfl rfl ?_
                refine lV (yAssign rfl) rfl rfl ?_
                refine lNil ?_
                have hlt : i < n := by omega
                have hxl := hle i hlt
                have hxi := hid i hlt
                have hll : leastN x i < 2 ^ i := setB_lt (fun i => decide (x i = i)) i
                have hpi : 2 ^ i ≤ 2 ^ 7 := Nat.pow_le_pow_right (by omega) (by omega)
                have hnl : ((plT f x i).map rowY ++ [rowY (f.ps.getD (x i) sky0)]).length = ((plT f x (i + 1)).map rowY).length := by rw [plT_succ, List.map_append]; rfl
                refine kThen ?_
                refine kSeq ?_
                refine kSeq ?_
                refine kRegion rfl ?_
                refine lV (yMove rfl) rfl rfl ?_
                refine lV (yLss rfl rfl) rfl rfl ?_
                refine knownN (t := 88) rfl (by omega) ?_
                refine lV (yMove rfl) rfl rfl ?_
                refine lGY rfl rfl rfl (oV (yMove rfl) rfl ?_)
                refine lGY rfl rfl rfl (oV (yMove rfl) rfl ?_)
                refine lGY rfl rfl rfl (oV (yGtr rfl rfl) rfl ?_)
                refine knownN (t := 92) rfl (by omega) ?_
                refine lV (yPickF rfl rfl) rfl rfl ?_
                refine lV (yMove rfl) rfl rfl ?_
                refine lGY rfl rfl rfl (oV (yMove rfl) rfl ?_)
                refine lGY rfl rfl rfl (oV (yMove rfl) rfl ?_)
                refine lGY rfl rfl rfl (oV (yIndexS  rfl rfl S22 ((fun w hw => hsl hw fun p hp => by simp [hp])) ((by omega))) rfl ?_)
                refine lGY rfl rfl rfl (oV (yLoad1 rfl O3 (cSl0 ((fun w hw => hsl hw fun p hp => by simp [hp])) ((by omega)) rfl)) rfl ?_)
                refine same (t := 98) (u := i64 (x i : Nat)) rfl (by rw [hxi]) ?_
                refine lGY rfl rfl rfl (oV (yMove rfl) rfl ?_)
                refine lGY rfl rfl rfl (oV (yNeq rfl rfl) rfl ?_)
                refine knownN (t := 100) rfl (fun h => h rfl) ?_
                refine lV (yPickF rfl rfl) rfl rfl ?_
                refine lNil ?_
                refine kThen ?_
                refine kIfF rfl ?_
                refine kSkip ?_
                refine kThen ?_
                refine kSeq ?_
                refine kDrawE [(1, none), (3, none), (5, none), (6, none)] [] [0, 1, 2, 3, 4, 5, 6, 9] 3 hMix (by kernel_rfl) ?_
                refine .run rfl (yFieldAddr rfl F30_0) rfl rfl ?_
                refine .run rfl (yLoad1 rfl O28 (cOwn 0 rfl rfl)) rfl rfl ?_
                refine .run rfl (yFieldAddr rfl F30_0) rfl rfl ?_
                refine .run rfl (yLoad1 rfl O28 (cOwn 1 rfl rfl)) rfl rfl ?_
                refine .run rfl (yMove rfl) rfl rfl ?_
                refine .run rfl (yIndexS  rfl rfl S28 (hf.r) ((by omega))) rfl rfl ?_
                refine .run rfl (yLoadA (vs := [_, _, _, _, _, _]) rfl A37 (cSl0 (hf.r) ((by omega)) rfl)) rfl rfl ?_
                refine .run rfl (yFieldAddr rfl F30_0) rfl rfl ?_
                refine .done ?_
                refine effStep 7 [] (by kernel_rfl) closedSt (hLeft [1, 3, 5, 6] (by kernel_rfl) (.c (fun _ _ hs => hs.ef) (.c (fun _ _ hs => hs.ef) (.c (fun _ _ hs => hs.ef) (.c (fun _ _ hs => hs.ef) .n))))) ?_
                refine .c ?_ .n
                refine effOne rfl (gNone rfl (fBuildSlice (.c rfl .n) (fun w => BS28_1_0 w))) ?_
                refine effStep 8 [] (by kernel_rfl) (closedEx fun n109 => closedSt) (hLeft [1] (by kernel_rfl) (.c (fun _ _ ⟨n109, hs⟩ => hs.ef.sub (.k rfl (.h rfl (.h rfl (.h rfl .r))))) .n)) ?_
                refine .c ?_ .n
                refine effOne rfl (opEx fun n109 => (gNone rfl (fAppend (gs := gp) ([(n109, _), (n7, _), (n3, _), (n2, _)] ++ osL 3 g) [rowY (f.ps.getD (x i) sky0)] AP28 rfl rfl (.h rfl (.h rfl (.h rfl (.h rfl .r)))) hgp rfl (by simp) (SlN.own 0 rfl rfl) (rowY_one _) (by simp [plT]; omega) (by simp [plT]; omega)))) ?_
                refine effStep 10 [] (by kernel_rfl) (closedEx fun n109 => (closedEx fun gq => closedSt)) (hLeft [] (by kernel_rfl) .n) ?_
                refine .c ?_ .n
                refine effOne rfl (opEx fun n109 => (opEx fun gq => (gNone rfl (fStoreL 1 rfl rfl rfl rfl K28 rfl (rfl))))) ?_
                refine effDone (closedEx fun n109 => (closedEx fun gq => closedSt)) (hLeft [] (by kernel_rfl) .n) (by kernel_rfl) ?_
                refine trEx fun n109 => ?_
                refine trEx fun gq => ?_
                rw [hnl]
                refine kThen ?_
                refine kSeq ?_
                refine kRegion rfl ?_
                refine lV (yMove rfl) rfl rfl ?_
                refine lV (yMove rfl) rfl rfl ?_
                refine lV (yEql rfl rfl) rfl rfl ?_
                refine lNil ?_
                refine kThen ?_
                refine split (t := 114) rfl (fun h114 => ?_) (fun h114 => ?_)
                · refine kIfT rfl ?_
                  refine kRegion rfl ?_
                  refine lV (yMove rfl) rfl rfl ?_
                  refine lV (yMove rfl) rfl rfl ?_
                  refine lV (yShl (a := 1) rfl rfl rfl (by omega) (by omega)) rfl rfl ?_
                  refine lV (yOr rfl rfl rfl (by omega) (by omega)) rfl rfl ?_
                  refine lV (yAssign rfl) rfl rfl ?_
                  refine lNil ?_
                  refine kInN ?_
                  refine kThen ?_
                  refine kRegion rfl ?_
                  refine lV (yAdd rfl rfl (by omega)) rfl rfl ?_
                  refine lV (yMove rfl) rfl rfl ?_
                  refine lNil ?_
                  exact kRoundX (i + 1, gq.1) (⟨by dsimp only; omega, by dsimp only; rw [plT_succ, List.map_append]; exact gq.2⟩) (by dsimp only; omega) rfl (.c rfl (.c (by rw [least_pos (by omega)]; rfl) .n)) (.c rfl (.c rfl (.c rfl (.c rfl (.c rfl (.c rfl (.c rfl (.c rfl .n)))))))) (.k rfl (.h rfl (.h rfl (.h rfl .r))))
                · refine kIfF rfl ?_
                  refine kSkip ?_
                  refine kInN ?_
                  refine kThen ?_
                  refine kRegion rfl ?_
                  refine lV (yAdd rfl rfl (by omega)) rfl rfl ?_
                  refine lV (yMove rfl) rfl rfl ?_
                  refine lNil ?_
                  exact kRoundX (i + 1, gq.1) (⟨by dsimp only; omega, by dsimp only; rw [plT_succ, List.map_append]; exact gq.2⟩) (by dsimp only; omega) rfl (.c rfl (.c (by rw [least_neg (by omega)]; rfl) .n)) (.c rfl (.c rfl (.c rfl (.c rfl (.c rfl (.c rfl (.c rfl (.c rfl .n)))))))) (.k rfl (.h rfl (.h rfl (.h rfl .r))))
              · refine kIfF rfl ?_
                refine kExit ?_
                refine kThenX ?_
                refine kThenX ?_
                refine kInX ?_
                refine kThen ?_
                refine kSeq ?_
                refine kSeq ?_
                refine kCutX (ι := Unit) (fun _ => True) (fun _ => [(127, .bool (decide (1 < f.times ∧ f.gap = 0)))]) [(2, _), (3, _), (5, _), (7, _), (8, _)] (fun _ => []) (fun _ => ((osL 3 g ++ osL 37 gp))) [(n7, _), (n3, _), (n2, _)] (.c rfl (.c rfl (.c rfl (.c rfl (.c rfl .n))))) (.h rfl (.h rfl (.h rfl .n))) ?_ (fun u _ => ?_)
                · refine kRegion rfl ?_
                  refine lV (yFieldAddr rfl F30_5) rfl rfl ?_
                  refine lV (yLoad1 rfl O3 (cOwn 0 rfl rfl)) rfl rfl ?_
                  refine lV (yGtr rfl rfl) rfl rfl ?_
                  refine lV (yMove rfl) rfl rfl ?_
                  refine split (t := 123) rfl (fun h123 => ?_) (fun h123 => ?_)
                  · refine lGY rfl rfl rfl (oV (yFieldAddr rfl F30_6) rfl ?_)
                    refine lGY rfl rfl rfl (oV (yLoad1 rfl O3 (cOwn 0 rfl rfl)) rfl ?_)
                    refine lGY rfl rfl rfl (oV (yEql rfl rfl) rfl ?_)
                    refine lV (yPickT rfl rfl) rfl rfl ?_
                    refine lNil ?_
                    exact kMeetX (()) (by simp) rfl (.c (by first | (rw [decide_eq_false (show ¬ (1 < f.times ∧ f.gap = 0) from fun h => h123 h.1)]; rfl) | (rw [show decide (1 < f.times ∧ f.gap = 0) = decide (f.gap = 0) from decide_eq_decide.2 ⟨fun h => h.2, fun h => ⟨h123, h⟩⟩]; rfl)) .n) (.c rfl (.c rfl (.c rfl (.c rfl (.c rfl .n))))) (.h rfl (.h rfl (.h rfl .r)))
                  · refine lGN rfl rfl rfl rfl rfl ?_
                    refine lGN rfl rfl rfl rfl rfl ?_
                    refine lGN rfl rfl rfl rfl rfl ?_
                    refine lV (yPickF rfl rfl) rfl rfl ?_
                    refine lNil ?_
                    exact kMeetX (()) (by simp) rfl (.c (by first | (rw [decide_eq_false (show ¬ (1 < f.times ∧ f.gap = 0) from fun h => h123 h.1)]; rfl) | (rw [show decide (1 < f.times ∧ f.gap = 0) = decide (f.gap = 0) from decide_eq_decide.2 ⟨fun h => h.2, fun h => ⟨h123, h⟩⟩]; rfl)) .n) (.c rfl (.c rfl (.c rfl (.c rfl (.c rfl .n))))) (.h rfl (.h rfl (.h rfl .r)))
                · obtain rfl : i = n := by omega
                  have hpl6 : ((plT f x i).map rowY).length = (plT f x i).length := by rw [List.length_map]
                  rw [hpl6]
                  refine kCutX (ι := Int) (fun v => v = gapA f) (fun v => []) [(2, _), (3, _), (5, _), (7, _), (8, _)] (fun v => []) (fun v => ([(n7, blk [osV gp (plT f x i).length, i64 f.e.1, i64 f.e.2, i64 f.n.1, i64 f.n.2, i64 f.d.1, i64 f.d.2, i64 f.depth, i64 f.times, i64 v] 30)] ++ (osL 3 g ++ osL 37 gp))) [(n3, _), (n2, _)] (.c rfl (.c rfl (.c rfl (.c rfl (.c rfl .n))))) (.k rfl (.h rfl (.h rfl .n))) ?_ (fun v hv => ?_)
                  · refine splitB (t := 127) rfl (fun h127 => ?_) (fun h127 => ?_)
                    · refine kIfT rfl ?_
                      refine kRegion rfl ?_
                      refine lV (yFieldAddr rfl F30_6) rfl rfl ?_
                      refine lE rfl ?_
                      refine eStoreL 0 rfl rfl rfl rfl K3 rfl (rfl) ?_
                      refine lNil ?_
                      exact kMeetX (1) ((by unfold gapA; rw [if_pos (of_decide_eq_true h127)])) rfl .n (.c rfl (.c rfl (.c rfl (.c rfl (.c rfl .n))))) (.c 1 rfl (.c 1 rfl (.c 0 rfl .r)))
                    · refine kIfF rfl ?_
                      refine kSkip ?_
                      exact kMeetX (f.gap) ((by unfold gapA; rw [if_neg (of_decide_eq_false h127)])) rfl .n (.c rfl (.c rfl (.c rfl (.c rfl (.c rfl .n))))) (.c 1 rfl (.c 1 rfl (.c 0 rfl .r)))
                  · subst hv
                    have hy : ∀ {M L : Heap} {w' : World}, Eff w M L w' → (∀ p ∈ osL 37 gp, p ∈ L) → InF w' (osA gp, osC gp) (allF f x i) := fun hw h => hgp.rows (f := rowY) sky0 fun p hp => hw.own p (List.mem_append.2 (.inr (h p hp)))
                    have hyl : (plT f x i).length ≤ 1000 := by rw [plT_len]; omega
                    refine kSeq ?_
                    refine kSeq ?_
                    by_cases hF : FldOk (allF f x i)
                    · have hEE : 0 ≤ f.e.1 ∧ f.e.1 ≤ f.e.2 ∧ f.e.2 ≤ 32 := hF.e
                      have hNN : 0 ≤ f.n.1 ∧ f.n.1 ≤ f.n.2 ∧ f.n.2 ≤ 32 := hF.n
                      have hpr : 0 ≤ (f.e.2 - f.e.1 + 1) * (f.n.2 - f.n.1 + 1) ∧ (f.e.2 - f.e.1 + 1) * (f.n.2 - f.n.1 + 1) ≤ 33 * 33 := ⟨Int.mul_nonneg (by omega) (by omega), Int.mul_le_mul (by omega) (by omega) (by omega) (by omega)⟩
                      have hG := allF_gap hF
                      have hx2 := allF_tw (f := f) hle hid
                      have hpn : (allF f x i).ps.length = i := plT_len f x i
                      have hful : fullF (allF f x i) = 2 ^ i - 1 := by show 2 ^ (plT f x i).length - 1 = _; rw [plT_len]
                      have hp8 : 2 ^ i ≤ 2 ^ 8 := Nat.pow_le_pow_right (by omega) (by omega)
                      have hp0 := Nat.two_pow_pos i
                      have hll : leastN x i < 2 ^ i := setB_lt (fun j => decide (x j = j)) i
                      refine kRegion rfl ?_
                      refine lV (yLoadA (vs := [_, _, _, _, _, _, _, _, _, _]) rfl A30 (cOwn 2 rfl rfl)) rfl rfl ?_
                      refine lV (yCall rfl (.c rfl .n) C7 (fun w hw => reffield_any (osA gp, osC gp) (allF f x i) w (hy hw fun p hp => by simp [hp]) hyl)) rfl rfl ?_
                      refine knownB (t := 130) (c := true) rfl (decide_eq_true hF) ?_
                      refine lV (yNot rfl) rfl rfl ?_
                      refine lV (yMove rfl) rfl rfl ?_
                      refine lGY rfl rfl rfl (oV (yFieldAddr rfl F30_1) rfl ?_)
                      refine lGY rfl rfl rfl (oV (yFieldAddr rfl F24_1) rfl ?_)
                      refine lGY rfl rfl rfl (oV (yLoad1 rfl O3 (cOwn 2 rfl rfl)) rfl ?_)
                      refine lGY rfl rfl rfl (oV (yFieldAddr rfl F30_1) rfl ?_)
                      refine lGY rfl rfl rfl (oV (yFieldAddr rfl F24_0) rfl ?_)
                      refine lGY rfl rfl rfl (oV (yLoad1 rfl O3 (cOwn 2 rfl rfl)) rfl ?_)
                      refine lGY rfl rfl rfl (oV (ySub rfl rfl (by omega)) rfl ?_)
                      refine lGY rfl rfl rfl (oV (yAdd rfl rfl (by omega)) rfl ?_)
                      refine lGY rfl rfl rfl (oV (yFieldAddr rfl F30_2) rfl ?_)
                      refine lGY rfl rfl rfl (oV (yFieldAddr rfl F24_1) rfl ?_)
                      refine lGY rfl rfl rfl (oV (yLoad1 rfl O3 (cOwn 2 rfl rfl)) rfl ?_)
                      refine lGY rfl rfl rfl (oV (yFieldAddr rfl F30_2) rfl ?_)
                      refine lGY rfl rfl rfl (oV (yFieldAddr rfl F24_0) rfl ?_)
                      refine lGY rfl rfl rfl (oV (yLoad1 rfl O3 (cOwn 2 rfl rfl)) rfl ?_)
                      refine lGY rfl rfl rfl (oV (ySub rfl rfl (by omega)) rfl ?_)
                      refine lGY rfl rfl rfl (oV (yAdd rfl rfl (by omega)) rfl ?_)
                      refine lGY rfl rfl rfl (oV (yMul rfl rfl (by have := hpr; omega)) rfl ?_)
                      refine lGY rfl rfl rfl (oV (yGtr rfl rfl) rfl ?_)
                      refine lV (yPickF rfl rfl) rfl rfl ?_
                      refine lNil ?_
                      refine kThen ?_
                      refine split (t := 151) rfl (fun h151 => ?_) (fun h151 => ?_)
                      · refine kIfT rfl ?_
                        refine kSeq ?_
                        refine kRegion rfl ?_
                        refine lV (yCall rfl .n C5 (fun w hw => awake_any w)) rfl rfl ?_
                        refine lV (yAssign rfl) rfl rfl ?_
                        refine lNil ?_
                        refine kThen ?_
                        refine kRet ?_
                        refine kThenR ?_
                        refine fRet rfl (.t rfl .n) (endRet ?_)
                        rfl
                      · refine kIfF rfl ?_
                        refine kSkip ?_
                        refine kThen ?_
                        refine kSeq ?_
                        by_cases hL : listB (allF f x i) (useS (allF f x i)) = true
                        · obtain ⟨b, hb, hnd⟩ := some_law hL
                          obtain ⟨nd, hnd2⟩ : ∃ nd, nd = setB (needB (allF f x i)) (allF f x i).ps.length := ⟨_, rfl⟩
                          rw [← hnd2] at hnd
                          have hndl : nd < 2 ^ i := by have := setB_lt (needB (allF f x i)) (allF f x i).ps.length; rw [← hnd2, hpn] at this; exact this
                          have hbl := hb.le
                          rw [hful] at hbl
                          have hms : missE (allF f x i) (leastN x i) = 4 := by have := (list_least hF hG hx2).1 hL; rw [hpn] at this; exact if_pos this
                          refine kRegion rfl ?_
                          refine lV (yLoadA (vs := [_, _, _, _, _, _, _, _, _, _]) rfl A30 (cOwn 2 rfl rfl)) rfl rfl ?_
                          refine lV (yCall rfl (.c rfl .n) C8 (fun w hw => shortest_any (osA gp, osC gp) (allF f x i) w (hy hw fun p hp => by simp [hp]) hF hG)) rfl rfl ?_
                          refine same (t := 155) (u := outI ((b : Nat), 0)) rfl (congrArg outI hb.e) ?_
                          refine lV (yMove rfl) rfl rfl ?_
                          refine lV (yExtract rfl rfl) rfl rfl ?_
                          refine lV (yExtract rfl rfl) rfl rfl ?_
                          refine lV (yAssign rfl) rfl rfl ?_
                          refine lV (yAssign rfl) rfl rfl ?_
                          refine lNil ?_
                          refine kThen ?_
                          refine kSeq ?_
                          refine kRegion rfl ?_
                          refine lV (yLoadA (vs := [_, _, _, _, _, _, _, _, _, _]) rfl A30 (cOwn 2 rfl rfl)) rfl rfl ?_
                          refine lV (yCall rfl (.c rfl .n) C9 (fun w hw => needed_any (osA gp, osC gp) (allF f x i) w (hy hw fun p hp => by simp [hp]) hF hG)) rfl rfl ?_
                          refine same (t := 160) (u := outI ((nd : Nat), 0)) rfl (congrArg outI hnd) ?_
                          refine lV (yMove rfl) rfl rfl ?_
                          refine lV (yExtract rfl rfl) rfl rfl ?_
                          refine lV (yExtract rfl rfl) rfl rfl ?_
                          refine lV (yAssign rfl) rfl rfl ?_
                          refine lV (yAssign rfl) rfl rfl ?_
                          refine lNil ?_
                          refine kThen ?_
                          refine kSeq ?_
                          refine kRegion rfl ?_
                          refine lV (yLoadA (vs := [_, _, _, _, _, _, _, _, _, _]) rfl A30 (cOwn 2 rfl rfl)) rfl rfl ?_
                          refine lV (yMove rfl) rfl rfl ?_
                          refine lE rfl ?_
                          refine eCallX rfl (.c rfl (.c rfl .n)) C10 (fun w hw => missing_any (osA gp, osC gp) (allF f x i) (leastN x i) w (hy hw fun p hp => by simp [hp]) hF hG (by rw [hful]; omega)) fun ⟨m1, m2, m3⟩ _ => ?_
                          refine lV (yMove rfl) rfl rfl ?_
                          refine lV (yExtract rfl rfl) rfl rfl ?_
                          refine lV (yExtract rfl rfl) rfl rfl ?_
                          refine lV (yExtract rfl rfl) rfl rfl ?_
                          refine lV (yExtract rfl rfl) rfl rfl ?_
                          refine same (t := 170) (u := i64 4) rfl (by rw [hms]) ?_
                          refine lV (yAssign rfl) rfl rfl ?_
                          refine lV (yAssign rfl) rfl rfl ?_
                          refine lV (yAssign rfl) rfl rfl ?_
                          refine lV (yAssign rfl) rfl rfl ?_
                          refine lNil ?_
                          refine kThen ?_
                          refine kSeq ?_
                          refine kSeq ?_
                          refine kRegion rfl ?_
                          refine lV (yMove rfl) rfl rfl ?_
                          refine lV (yMove rfl) rfl rfl ?_
                          refine lV (yNeq rfl rfl) rfl rfl ?_
                          refine knownN (t := 173) rfl (fun h => h rfl) ?_
                          refine lV (yMove rfl) rfl rfl ?_
                          refine lGY rfl rfl rfl (oV (yMove rfl) rfl ?_)
                          refine lGY rfl rfl rfl (oV (yEql rfl rfl) rfl ?_)
                          refine lGY rfl rfl rfl (oV (yMove rfl) rfl ?_)
                          refine lGY rfl rfl rfl (oV (yEql rfl rfl) rfl ?_)
                          refine lGY rfl rfl rfl (oV (yNeBool rfl rfl U4) rfl ?_)
                          refine knownN (t := 179) rfl (fun h => h rfl) ?_
                          refine lV (yPickF rfl rfl) rfl rfl ?_
                          refine lNil ?_
                          refine kThen ?_
                          refine kIfF rfl ?_
                          refine kSkip ?_
                          refine kThen ?_
                          refine kSeq ?_
                          refine kSeq ?_
                          refine kRegion rfl ?_
                          refine lV (yMove rfl) rfl rfl ?_
                          refine lV (yNeq rfl rfl) rfl rfl ?_
                          refine knownN (t := 182) rfl (fun h => h rfl) ?_
                          refine lNil ?_
                          refine kThen ?_
                          refine kIfF rfl ?_
                          refine kSkip ?_
                          refine kThen ?_
                          refine kSeq ?_
                          refine kSeq ?_
                          refine kRegion rfl ?_
                          refine lV (yMove rfl) rfl rfl ?_
                          refine lV (yLss rfl rfl) rfl rfl ?_
                          refine knownN (t := 197) rfl (by omega) ?_
                          refine lV (yMove rfl) rfl rfl ?_
                          refine lGY rfl rfl rfl (oV (yMove rfl) rfl ?_)
                          refine lGY rfl rfl rfl (oV (yFieldAddr rfl F27_0) rfl ?_)
                          refine lGY rfl rfl rfl (oV (yLoad1 rfl O3 (cOwn 1 rfl rfl)) rfl ?_)
                          refine same (t := 201) (u := i64 (i : Nat)) rfl (by rw [hns]) ?_
                          refine lGY rfl rfl rfl (oV (yShr rfl rfl rfl (by omega)) rfl ?_)
                          refine lGY rfl rfl rfl (oV (yNeq rfl rfl) rfl ?_)
                          refine knownN (t := 203) rfl (by rw [Nat.div_eq_of_lt (by omega)]; exact fun h => h rfl) ?_
                          refine lV (yPickF rfl rfl) rfl rfl ?_
                          refine lNil ?_
                          refine kThen ?_
                          refine kIfF rfl ?_
                          refine kSkip ?_
                          refine kThen ?_
                          refine kSeq ?_
                          have hbt : b < 2 ^ i := by omega
                          have hb13 : b < 8192 := by omega
                          refine weak [(2, _), (3, _), (5, _), (7, _), (11, _), (13, _)] (.c rfl (.c rfl (.c rfl (.c rfl (.c rfl (.c rfl .n)))))) ?_
                          refine kRegion rfl ?_
                          refine lV (yAssign rfl) rfl rfl ?_
                          refine lNil ?_
                          refine kThen ?_
                          refine kSeq ?_
                          refine kSeq ?_
                          refine kRegion rfl ?_
                          refine lV (yMove rfl) rfl rfl ?_
                          refine lV (yLen rfl S22) rfl rfl ?_
                          refine lV (yMove rfl) rfl rfl ?_
                          refine lNil ?_
                          refine kThen ?_
                          refine kBlock ?_
                          refine kLoopX (ι := Nat) (fun a => a ≤ i) (fun a => [(207, i64 (a : Nat)), (19, i64 (ownT x b a : Nat))]) [(2, _), (3, _), (5, _), (7, _), (11, _), (13, _), (205, _), (206, _)] (fun a => []) (fun a => ([(n3, _), (n2, _), (n7, _)] ++ (osL 3 g ++ osL 37 gp))) [] (fun a => i - a) 0 (Nat.zero_le _) rfl (.c rfl (.c rfl .n)) (.c rfl (.c rfl (.c rfl (.c rfl (.c rfl (.c rfl (.c rfl (.c rfl .n)))))))) (.h rfl (.h rfl (.h rfl .r))) ?_
                          rintro a ha
                          refine kSeq ?_
                          refine kRegion rfl ?_
                          refine lV (yLss rfl rfl) rfl rfl ?_
                          refine lNil ?_
                          refine kThen ?_
                          refine kSeq ?_
                          refine split (t := 208) rfl (fun h208 => ?_) (fun h208 => ?_)
                          · refine kIfT rfl ?_
                            refine kSkip ?_
                            refine kThen ?_
                            refine kSeq ?_
                            refine kBlock ?_
                            refine kSeq ?_
                            refine kRegion rfl ?_
                            refine lV (yMove rfl) rfl rfl ?_
                            refine lV (yAssign rfl) rfl rfl ?_
                            refine lNil ?_
                            have hai : a < i := by omega
                            have hxa := hle a hai
                            have hpx : 2 ^ x a ≤ 2 ^ 7 := Nat.pow_le_pow_right (by omega) (by omega)
                            have hol : ownT x b a < 2 ^ 8 := ownT_lt a (by omega) fun k hk => hle k (by omega)
                            have hbd := Nat.div_le_self b (2 ^ a)
                            have hnda := Nat.div_le_self nd (2 ^ a)
                            refine kThen ?_
                            refine kSeq ?_
                            refine kSeq ?_
                            refine kRegion rfl ?_
                            refine lV (yMove rfl) rfl rfl ?_
                            refine lV (yMove rfl) rfl rfl ?_
                            refine lNil ?_
                            refine kThen ?_
                            refine kBlock ?_
                            refine kLoopX (ι := Nat) (fun j => j ≤ a) (fun j => [(211, i64 (j : Nat))]) [(2, _), (3, _), (5, _), (7, _), (11, _), (13, _), (205, _), (206, _), (207, _), (19, _), (208, _), (209, _), (20, _), (210, _)] (fun j => []) (fun j => ([(n3, _), (n2, _), (n7, _)] ++ (osL 3 g ++ osL 37 gp))) [] (fun j => a - j) 0 (Nat.zero_le _) rfl (.c rfl .n) (.c rfl (.c rfl (.c rfl (.c rfl (.c rfl (.c rfl (.c rfl (.c rfl (.c rfl (.c rfl (.c rfl (.c rfl (.c rfl (.c rfl .n)))))))))))))) (.h rfl (.h rfl (.h rfl .r))) ?_
                            rintro j hj
                            refine kSeq ?_
                            refine kRegion rfl ?_
                            refine lV (yLss rfl rfl) rfl rfl ?_
                            refine lNil ?_
                            refine kThen ?_
                            refine kSeq ?_
                            refine split (t := 212) rfl (fun h212 => ?_) (fun h212 => ?_)
                            · refine kIfT rfl ?_
                              refine kSkip ?_
                              refine kThen ?_
                              refine kSeq ?_
                              refine kBlock ?_
                              refine kSeq ?_
                              refine kRegion rfl ?_
                              refine lV (yMove rfl) rfl rfl ?_
                              refine lV (yAssign rfl) rfl rfl ?_
                              refine lNil ?_
                              have hja : j < a := by omega
                              have hnb : x a = x j → ¬ (b.testBit a = true ∧ b.testBit j = true) := best_pair hF hG hx2 hb (by rw [hpn]; omega) hja
                              have hnn : x a = x j → nd.testBit a = false ∧ nd.testBit j = false := fun e => by
                                rw [hnd2]
                                exact ⟨need_pair hF hG hx2 hL (by rw [hpn]; omega) (by rw [hpn]; omega) (show a ≠ j by omega) e, need_pair hF hG hx2 hL (by rw [hpn]; omega) (by rw [hpn]; omega) (show j ≠ a by omega) e.symm⟩
                              have hbdj := Nat.div_le_self b (2 ^ j)
                              have hndj := Nat.div_le_self nd (2 ^ j)
                              refine kThen ?_
                              refine kSeq ?_
                              by_cases e1 : x a = x j
                              · by_cases b1 : b.testBit a = true
                                · refine kDrawE [(2, none), (3, none), (6, none), (7, none)] [] [0, 1, 2, 3, 4, 5, 6, 7, 8, 9, 10, 11, 12, 13, 14, 15, 16, 17, 18, 19, 20, 21, 22, 23, 24, 25, 26, 27, 28, 29, 30, 31, 32, 33] 0 hMix (by kernel_rfl) ?_
                                  refine .run rfl (yMove rfl) rfl rfl ?_
                                  refine .run rfl (yMove rfl) rfl rfl ?_
                                  refine .run rfl (yIndexS  rfl rfl S22 ((fun w hw => hsl hw fun p hp => by simp [hp])) ((by omega))) rfl rfl ?_
                                  refine .run rfl (yLoad1 rfl O3 (cSl0 ((fun w hw => hsl hw fun p hp => by simp [hp])) ((by omega)) rfl)) rfl rfl ?_
                                  refine .run rfl (yMove rfl) rfl rfl ?_
                                  refine .run rfl (yMove rfl) rfl rfl ?_
                                  refine .run rfl (yIndexS  rfl rfl S22 ((fun w hw => hsl hw fun p hp => by simp [hp])) ((by omega))) rfl rfl ?_
                                  refine .run rfl (yLoad1 rfl O3 (cSl0 ((fun w hw => hsl hw fun p hp => by simp [hp])) ((by omega)) rfl)) rfl rfl ?_
                                  refine .run rfl (yvTrue (yEql rfl rfl) (by omega)) rfl rfl ?_
                                  refine .run rfl (yMove rfl) rfl rfl ?_
                                  refine .runG rfl (yMove rfl) rfl rfl rfl rfl ?_
                                  refine .runG rfl (yMove rfl) rfl rfl rfl rfl ?_
                                  refine .runG rfl (yShr rfl rfl rfl (by omega)) rfl rfl rfl rfl ?_
                                  refine .runG rfl (yAnd (b := 1) rfl rfl rfl (by omega) (by omega)) rfl rfl rfl rfl ?_
                                  refine .runG rfl (yvTrue (yEql rfl rfl) ((bit_iff b a).2 b1)) rfl rfl rfl rfl ?_
                                  refine .runG rfl (yMove rfl) rfl rfl rfl rfl ?_
                                  refine .runG rfl (yMove rfl) rfl rfl rfl rfl ?_
                                  refine .runG rfl (yMove rfl) rfl rfl rfl rfl ?_
                                  refine .runG rfl (yShr rfl rfl rfl (by omega)) rfl rfl rfl rfl ?_
                                  refine .runG rfl (yAnd (b := 1) rfl rfl rfl (by omega) (by omega)) rfl rfl rfl rfl ?_
                                  refine .runG rfl (yvFalse (yEql rfl rfl) (fun h => hnb e1 ⟨b1, (bit_iff b j).1 h⟩)) rfl rfl rfl rfl ?_
                                  refine .runG rfl (yPickT rfl rfl) rfl rfl rfl rfl ?_
                                  refine .runG rfl (yMove rfl) rfl rfl rfl rfl ?_
                                  refine .runG rfl (yMove rfl) rfl rfl rfl rfl ?_
                                  refine .runG rfl (yMove rfl) rfl rfl rfl rfl ?_
                                  refine .runG rfl (yShr rfl rfl rfl (by omega)) rfl rfl rfl rfl ?_
                                  refine .runG rfl (yMove rfl) rfl rfl rfl rfl ?_
                                  refine .runG rfl (yMove rfl) rfl rfl rfl rfl ?_
                                  refine .runG rfl (yShr rfl rfl rfl (by omega)) rfl rfl rfl rfl ?_
                                  refine .runG rfl (yOr rfl rfl rfl (by omega) (by omega)) rfl rfl rfl rfl ?_
                                  refine .runG rfl (yAnd (b := 1) rfl rfl rfl (by first | omega | exact Nat.or_lt_two_pow (by omega) (by omega)) (by first | omega | exact Nat.or_lt_two_pow (by omega) (by omega))) rfl rfl rfl rfl ?_
                                  refine .runG rfl (yvFalse (yEql rfl rfl) (or_bit0 (hnn e1).1 (hnn e1).2)) rfl rfl rfl rfl ?_
                                  refine .runG rfl (yPickF rfl rfl) rfl rfl rfl rfl ?_
                                  refine .run rfl (yPickT rfl rfl) rfl rfl ?_
                                  refine .done ?_
                                  refine effDone closedSt (hLeft [2, 3, 6, 7] (by kernel_rfl) (.c (fun _ _ hs => hs.ef) (.c (fun _ _ hs => hs.ef) (.c (fun _ _ hs => hs.ef) (.c (fun _ _ hs => hs.ef) .n))))) (by kernel_rfl) ?_
                                  refine kThen ?_
                                  refine kIfF rfl ?_
                                  refine kSkip ?_
                                  refine kInN ?_
                                  refine kThen ?_
                                  refine kRegion rfl ?_
                                  refine lV (yAdd rfl rfl (by omega)) rfl rfl ?_
                                  refine lV (yMove rfl) rfl rfl ?_
                                  refine lNil ?_
                                  exact kRoundX (j + 1) ((by omega)) (by omega) rfl (.c rfl .n) (.c rfl (.c rfl (.c rfl (.c rfl (.c rfl (.c rfl (.c rfl (.c rfl (.c rfl (.c rfl (.c rfl (.c rfl (.c rfl (.c rfl .n)))))))))))))) (.h rfl (.h rfl (.h rfl .r)))
                                · refine kDrawE [(2, none), (3, none), (6, none), (7, none)] [] [0, 1, 2, 3, 4, 5, 6, 7, 8, 9, 10, 11, 12, 13, 14, 15, 16, 17, 18, 19, 20, 21, 22, 23, 24, 25, 26, 27, 28, 29, 30, 31, 32, 33] 0 hMix (by kernel_rfl) ?_
                                  refine .run rfl (yMove rfl) rfl rfl ?_
                                  refine .run rfl (yMove rfl) rfl rfl ?_
                                  refine .run rfl (yIndexS  rfl rfl S22 ((fun w hw => hsl hw fun p hp => by simp [hp])) ((by omega))) rfl rfl ?_
                                  refine .run rfl (yLoad1 rfl O3 (cSl0 ((fun w hw => hsl hw fun p hp => by simp [hp])) ((by omega)) rfl)) rfl rfl ?_
                                  refine .run rfl (yMove rfl) rfl rfl ?_
                                  refine .run rfl (yMove rfl) rfl rfl ?_
                                  refine .run rfl (yIndexS  rfl rfl S22 ((fun w hw => hsl hw fun p hp => by simp [hp])) ((by omega))) rfl rfl ?_
                                  refine .run rfl (yLoad1 rfl O3 (cSl0 ((fun w hw => hsl hw fun p hp => by simp [hp])) ((by omega)) rfl)) rfl rfl ?_
                                  refine .run rfl (yvTrue (yEql rfl rfl) (by omega)) rfl rfl ?_
                                  refine .run rfl (yMove rfl) rfl rfl ?_
                                  refine .runG rfl (yMove rfl) rfl rfl rfl rfl ?_
                                  refine .runG rfl (yMove rfl) rfl rfl rfl rfl ?_
                                  refine .runG rfl (yShr rfl rfl rfl (by omega)) rfl rfl rfl rfl ?_
                                  refine .runG rfl (yAnd (b := 1) rfl rfl rfl (by omega) (by omega)) rfl rfl rfl rfl ?_
                                  refine .runG rfl (yvFalse (yEql rfl rfl) (fun h => b1 ((bit_iff b a).1 h))) rfl rfl rfl rfl ?_
                                  refine .runG rfl (yMove rfl) rfl rfl rfl rfl ?_
                                  refine .skip rfl rfl rfl rfl rfl rfl ?_
                                  refine .skip rfl rfl rfl rfl rfl rfl ?_
                                  refine .skip rfl rfl rfl rfl rfl rfl ?_
                                  refine .skip rfl rfl rfl rfl rfl rfl ?_
                                  refine .skip rfl rfl rfl rfl rfl rfl ?_
                                  refine .runG rfl (yPickF rfl rfl) rfl rfl rfl rfl ?_
                                  refine .runG rfl (yMove rfl) rfl rfl rfl rfl ?_
                                  refine .runG rfl (yMove rfl) rfl rfl rfl rfl ?_
                                  refine .runG rfl (yMove rfl) rfl rfl rfl rfl ?_
                                  refine .runG rfl (yShr rfl rfl rfl (by omega)) rfl rfl rfl rfl ?_
                                  refine .runG rfl (yMove rfl) rfl rfl rfl rfl ?_
                                  refine .runG rfl (yMove rfl) rfl rfl rfl rfl ?_
                                  refine .runG rfl (yShr rfl rfl rfl (by omega)) rfl rfl rfl rfl ?_
                                  refine .runG rfl (yOr rfl rfl rfl (by omega) (by omega)) rfl rfl rfl rfl ?_
                                  refine .runG rfl (yAnd (b := 1) rfl rfl rfl (by first | omega | exact Nat.or_lt_two_pow (by omega) (by omega)) (by first | omega | exact Nat.or_lt_two_pow (by omega) (by omega))) rfl rfl rfl rfl ?_
                                  refine .runG rfl (yvFalse (yEql rfl rfl) (or_bit0 (hnn e1).1 (hnn e1).2)) rfl rfl rfl rfl ?_
                                  refine .runG rfl (yPickF rfl rfl) rfl rfl rfl rfl ?_
                                  refine .run rfl (yPickT rfl rfl) rfl rfl ?_
                                  refine .done ?_
                                  refine effDone closedSt (hLeft [2, 3, 6, 7] (by kernel_rfl) (.c (fun _ _ hs => hs.ef) (.c (fun _ _ hs => hs.ef) (.c (fun _ _ hs => hs.ef) (.c (fun _ _ hs => hs.ef) .n))))) (by kernel_rfl) ?_
                                  refine kThen ?_
                                  refine kIfF rfl ?_
                                  refine kSkip ?_
                                  refine kInN ?_
                                  refine kThen ?_
                                  refine kRegion rfl ?_
                                  refine lV (yAdd rfl rfl (by omega)) rfl rfl ?_
                                  refine lV (yMove rfl) rfl rfl ?_
                                  refine lNil ?_
                                  exact kRoundX (j + 1) ((by omega)) (by omega) rfl (.c rfl .n) (.c rfl (.c rfl (.c rfl (.c rfl (.c rfl (.c rfl (.c rfl (.c rfl (.c rfl (.c rfl (.c rfl (.c rfl (.c rfl (.c rfl .n)))))))))))))) (.h rfl (.h rfl (.h rfl .r)))
                              · refine kDrawE [(2, none), (3, none), (6, none), (7, none)] [] [0, 1, 2, 3, 4, 5, 6, 7, 8, 9, 10, 11, 12, 13, 14, 15, 16, 17, 18, 19, 20, 21, 22, 23, 24, 25, 26, 27, 28, 29, 30, 31, 32, 33] 0 hMix (by kernel_rfl) ?_
                                refine .run rfl (yMove rfl) rfl rfl ?_
                                refine .run rfl (yMove rfl) rfl rfl ?_
                                refine .run rfl (yIndexS  rfl rfl S22 ((fun w hw => hsl hw fun p hp => by simp [hp])) ((by omega))) rfl rfl ?_
                                refine .run rfl (yLoad1 rfl O3 (cSl0 ((fun w hw => hsl hw fun p hp => by simp [hp])) ((by omega)) rfl)) rfl rfl ?_
                                refine .run rfl (yMove rfl) rfl rfl ?_
                                refine .run rfl (yMove rfl) rfl rfl ?_
                                refine .run rfl (yIndexS  rfl rfl S22 ((fun w hw => hsl hw fun p hp => by simp [hp])) ((by omega))) rfl rfl ?_
                                refine .run rfl (yLoad1 rfl O3 (cSl0 ((fun w hw => hsl hw fun p hp => by simp [hp])) ((by omega)) rfl)) rfl rfl ?_
                                refine .run rfl (yvFalse (yEql rfl rfl) (by omega)) rfl rfl ?_
                                refine .run rfl (yMove rfl) rfl rfl ?_
                                refine .skip rfl rfl rfl rfl rfl rfl ?_
                                refine .skip rfl rfl rfl rfl rfl rfl ?_
                                refine .skip rfl rfl rfl rfl rfl rfl ?_
                                refine .skip rfl rfl rfl rfl rfl rfl ?_
                                refine .skip rfl rfl rfl rfl rfl rfl ?_
                                refine .skip rfl rfl rfl rfl rfl rfl ?_
                                refine .skipU rfl rfl rfl rfl rfl ?_
                                refine .skipU rfl rfl rfl rfl rfl ?_
                                refine .skipU rfl rfl rfl rfl rfl ?_
                                refine .skipU rfl rfl rfl rfl rfl ?_
                                refine .skipU rfl rfl rfl rfl rfl ?_
                                refine .skip rfl rfl rfl rfl rfl rfl ?_
                                refine .skip rfl rfl rfl rfl rfl rfl ?_
                                refine .skipU rfl rfl rfl rfl rfl ?_
                                refine .skipU rfl rfl rfl rfl rfl ?_
                                refine .skipU rfl rfl rfl rfl rfl ?_
                                refine .skipU rfl rfl rfl rfl rfl ?_
                                refine .skipU rfl rfl rfl rfl rfl ?_
                                refine .skipU rfl rfl rfl rfl rfl ?_
                                refine .skipU rfl rfl rfl rfl rfl ?_
                                refine .skipU rfl rfl rfl rfl rfl ?_
                                refine .skipU rfl rfl rfl rfl rfl ?_
                                refine .skip rfl rfl rfl rfl rfl rfl ?_
                                refine .run rfl (yPickF rfl rfl) rfl rfl ?_
                                refine .done ?_
                                refine effDone closedSt (hLeft [2, 3, 6, 7] (by kernel_rfl) (.c (fun _ _ hs => hs.ef) (.c (fun _ _ hs => hs.ef) (.c (fun _ _ hs => hs.ef) (.c (fun _ _ hs => hs.ef) .n))))) (by kernel_rfl) ?_
                                refine kThen ?_
                                refine kIfF rfl ?_
                                refine kSkip ?_
                                refine kInN ?_
                                refine kThen ?_
                                refine kRegion rfl ?_
                                refine lV (yAdd rfl rfl (by omega)) rfl rfl ?_
                                refine lV (yMove rfl) rfl rfl ?_
                                refine lNil ?_
                                exact kRoundX (j + 1) ((by omega)) (by omega) rfl (.c rfl .n) (.c rfl (.c rfl (.c rfl (.c rfl (.c rfl (.c rfl (.c rfl (.c rfl (.c rfl (.c rfl (.c rfl (.c rfl (.c rfl (.c rfl .n)))))))))))))) (.h rfl (.h rfl (.h rfl .r)))
                            · refine kIfF rfl ?_
                              refine kExit ?_
                              refine kThenX ?_
                              refine kThenX ?_
                              refine kInX ?_
                              refine kThen ?_
                              refine kSeq ?_
                              refine kRegion rfl ?_
                              refine lV (yMove rfl) rfl rfl ?_
                              refine lV (yMove rfl) rfl rfl ?_
                              refine lV (yShr rfl rfl rfl (by omega)) rfl rfl ?_
                              refine lV (yAnd (b := 1) rfl rfl rfl (by omega) (by omega)) rfl rfl ?_
                              refine lV (yEql rfl rfl) rfl rfl ?_
                              refine lNil ?_
                              refine kThen ?_
                              refine split (t := 253) rfl (fun h253 => ?_) (fun h253 => ?_)
                              · refine kIfT rfl ?_
                                refine kRegion rfl ?_
                                refine lV (yMove rfl) rfl rfl ?_
                                refine lV (yMove rfl) rfl rfl ?_
                                refine lV (yMove rfl) rfl rfl ?_
                                refine lV (yIndexS  rfl rfl S22 ((fun w hw => hsl hw fun p hp => by simp [hp])) ((by omega))) rfl rfl ?_
                                refine lV (yLoad1 rfl O3 (cSl0 ((fun w hw => hsl hw fun p hp => by simp [hp])) ((by omega)) rfl)) rfl rfl ?_
                                refine lV (yShl (a := 1) rfl rfl rfl (by omega) (by omega)) rfl rfl ?_
                                refine lV (yOr rfl rfl rfl (by omega) (by omega)) rfl rfl ?_
                                refine lV (yAssign rfl) rfl rfl ?_
                                refine lNil ?_
                                refine kInN ?_
                                refine kThen ?_
                                refine kRegion rfl ?_
                                refine lV (yAdd rfl rfl (by omega)) rfl rfl ?_
                                refine lV (yMove rfl) rfl rfl ?_
                                refine lNil ?_
                                exact kRoundX (a + 1) ((by omega)) (by omega) rfl (.c rfl (.c (by rw [own_pos ((bit_iff b a).1 h253)]; rfl) .n)) (.c rfl (.c rfl (.c rfl (.c rfl (.c rfl (.c rfl (.c rfl (.c rfl .n)))))))) (.h rfl (.h rfl (.h rfl .r)))
                              · refine kIfF rfl ?_
                                refine kSkip ?_
                                refine kInN ?_
                                refine kThen ?_
                                refine kRegion rfl ?_
                                refine lV (yAdd rfl rfl (by omega)) rfl rfl ?_
                                refine lV (yMove rfl) rfl rfl ?_
                                refine lNil ?_
                                exact kRoundX (a + 1) ((by omega)) (by omega) rfl (.c rfl (.c (by rw [own_neg (fun h => h253 ((bit_iff b a).2 h))]; rfl) .n)) (.c rfl (.c rfl (.c rfl (.c rfl (.c rfl (.c rfl (.c rfl (.c rfl .n)))))))) (.h rfl (.h rfl (.h rfl .r)))
                          · refine kIfF rfl ?_
                            refine kExit ?_
                            refine kThenX ?_
                            refine kThenX ?_
                            refine kInX ?_
                            refine kThen ?_
                            refine kSeq ?_
                            obtain rfl : a = i := by omega
                            have hol : ownT x b a < 2 ^ a := ownT_lt a (Nat.le_refl _) fun k hk => hle k hk
                            have hpn2 := hpn
                            have hms2 : missE (allF f x a) (ownT x b a) = 4 := by have := own_list hF hG hx2 hb; rw [hpn] at this; exact if_pos this
                            have hsz : popF 13 (ownT x b a) = popF 13 b := by have := own_size hF hG hx2 hb; rwa [hpn] at this
                            refine kRegion rfl ?_
                            refine lV (yLoadA (vs := [_, _, _, _, _, _, _, _, _, _]) rfl A30 (cOwn 2 rfl rfl)) rfl rfl ?_
                            refine lV (yMove rfl) rfl rfl ?_
                            refine lE rfl ?_
                            refine eCallX rfl (.c rfl (.c rfl .n)) C10 (fun w hw => missing_any (osA gp, osC gp) (allF f x a) (ownT x b a) w (hy hw fun p hp => by simp [hp]) hF hG (by rw [hful]; omega)) fun ⟨m4, m5, m6⟩ _ => ?_
                            refine lV (yMove rfl) rfl rfl ?_
                            refine lV (yExtract rfl rfl) rfl rfl ?_
                            refine lV (yExtract rfl rfl) rfl rfl ?_
                            refine lV (yExtract rfl rfl) rfl rfl ?_
                            refine lV (yExtract rfl rfl) rfl rfl ?_
                            refine same (t := 269) (u := i64 4) rfl (by rw [hms2]) ?_
                            refine lV (yAssign rfl) rfl rfl ?_
                            refine lV (yAssign rfl) rfl rfl ?_
                            refine lV (yAssign rfl) rfl rfl ?_
                            refine lV (yAssign rfl) rfl rfl ?_
                            refine lNil ?_
                            refine kThen ?_
                            refine kSeq ?_
                            refine kRegion rfl ?_
                            refine lV (yMove rfl) rfl rfl ?_
                            refine lV (yEql rfl rfl) rfl rfl ?_
                            refine known (t := 271) rfl (rfl) ?_
                            refine lV (yMove rfl) rfl rfl ?_
                            refine lGY rfl rfl rfl (oV (yMove rfl) rfl ?_)
                            refine lGY rfl rfl rfl (oV (yCall rfl (.c rfl .n) C11 (fun w hw => refsize_any (ownT x b a) w (by omega))) rfl ?_)
                            refine lGY rfl rfl rfl (oV (yMove rfl) rfl ?_)
                            refine lGY rfl rfl rfl (oV (yCall rfl (.c rfl .n) C11 (fun w hw => refsize_any b w hb13)) rfl ?_)
                            refine lGY rfl rfl rfl (oV (yEql rfl rfl) rfl ?_)
                            refine known (t := 277) rfl (by rw [hsz]) ?_
                            refine lV (yPickT rfl rfl) rfl rfl ?_
                            refine lV (yMove rfl) rfl rfl ?_
                            refine lGY rfl rfl rfl (oV (yCall rfl .n C5 (fun w hw => awake_any w)) rfl ?_)
                            refine lV (yPickT rfl rfl) rfl rfl ?_
                            refine lV (yAssign rfl) rfl rfl ?_
                            refine lNil ?_
                            refine kThen ?_
                            refine kRet ?_
                            refine fRet rfl (.t rfl .n) (endRet ?_)
                            rfl
                        · obtain ⟨hse, hne⟩ := none_law hF hG hL
                          have hms : missE (allF f x i) (leastN x i) = 0 := by refine if_neg fun h => hL ((list_least hF hG hx2).2 ?_); rw [hpn]; exact h
                          refine kRegion rfl ?_
                          refine lV (yLoadA (vs := [_, _, _, _, _, _, _, _, _, _]) rfl A30 (cOwn 2 rfl rfl)) rfl rfl ?_
                          refine lV (yCall rfl (.c rfl .n) C8 (fun w hw => shortest_any (osA gp, osC gp) (allF f x i) w (hy hw fun p hp => by simp [hp]) hF hG)) rfl rfl ?_
                          refine same (t := 155) (u := outI (0, 4)) rfl (congrArg outI hse) ?_
                          refine lV (yMove rfl) rfl rfl ?_
                          refine lV (yExtract rfl rfl) rfl rfl ?_
                          refine lV (yExtract rfl rfl) rfl rfl ?_
                          refine lV (yAssign rfl) rfl rfl ?_
                          refine lV (yAssign rfl) rfl rfl ?_
                          refine lNil ?_
                          refine kThen ?_
                          refine kSeq ?_
                          refine kRegion rfl ?_
                          refine lV (yLoadA (vs := [_, _, _, _, _, _, _, _, _, _]) rfl A30 (cOwn 2 rfl rfl)) rfl rfl ?_
                          refine lV (yCall rfl (.c rfl .n) C9 (fun w hw => needed_any (osA gp, osC gp) (allF f x i) w (hy hw fun p hp => by simp [hp]) hF hG)) rfl rfl ?_
                          refine same (t := 160) (u := outI (0, 4)) rfl (congrArg outI hne) ?_
                          refine lV (yMove rfl) rfl rfl ?_
                          refine lV (yExtract rfl rfl) rfl rfl ?_
                          refine lV (yExtract rfl rfl) rfl rfl ?_
                          refine lV (yAssign rfl) rfl rfl ?_
                          refine lV (yAssign rfl) rfl rfl ?_
                          refine lNil ?_
                          refine kThen ?_
                          refine kSeq ?_
                          refine kRegion rfl ?_
                          refine lV (yLoadA (vs := [_, _, _, _, _, _, _, _, _, _]) rfl A30 (cOwn 2 rfl rfl)) rfl rfl ?_
                          refine lV (yMove rfl) rfl rfl ?_
                          refine lE rfl ?_
                          refine eCallX rfl (.c rfl (.c rfl .n)) C10 (fun w hw => missing_any (osA gp, osC gp) (allF f x i) (leastN x i) w (hy hw fun p hp => by simp [hp]) hF hG (by rw [hful]; omega)) fun ⟨m1, m2, m3⟩ _ => ?_
                          refine lV (yMove rfl) rfl rfl ?_
                          refine lV (yExtract rfl rfl) rfl rfl ?_
                          refine lV (yExtract rfl rfl) rfl rfl ?_
                          refine lV (yExtract rfl rfl) rfl rfl ?_
                          refine lV (yExtract rfl rfl) rfl rfl ?_
                          refine same (t := 170) (u := i64 0) rfl (by rw [hms]) ?_
                          refine lV (yAssign rfl) rfl rfl ?_
                          refine lV (yAssign rfl) rfl rfl ?_
                          refine lV (yAssign rfl) rfl rfl ?_
                          refine lV (yAssign rfl) rfl rfl ?_
                          refine lNil ?_
                          refine kThen ?_
                          refine kSeq ?_
                          refine kSeq ?_
                          refine kRegion rfl ?_
                          refine lV (yMove rfl) rfl rfl ?_
                          refine lV (yMove rfl) rfl rfl ?_
                          refine lV (yNeq rfl rfl) rfl rfl ?_
                          refine knownN (t := 173) rfl (fun h => h rfl) ?_
                          refine lV (yMove rfl) rfl rfl ?_
                          refine lGY rfl rfl rfl (oV (yMove rfl) rfl ?_)
                          refine lGY rfl rfl rfl (oV (yEql rfl rfl) rfl ?_)
                          refine lGY rfl rfl rfl (oV (yMove rfl) rfl ?_)
                          refine lGY rfl rfl rfl (oV (yEql rfl rfl) rfl ?_)
                          refine lGY rfl rfl rfl (oV (yNeBool rfl rfl U4) rfl ?_)
                          refine knownN (t := 179) rfl (fun h => h rfl) ?_
                          refine lV (yPickF rfl rfl) rfl rfl ?_
                          refine lNil ?_
                          refine kThen ?_
                          refine kIfF rfl ?_
                          refine kSkip ?_
                          refine kThen ?_
                          refine kSeq ?_
                          refine kSeq ?_
                          refine kRegion rfl ?_
                          refine lV (yMove rfl) rfl rfl ?_
                          refine lV (yNeq rfl rfl) rfl rfl ?_
                          refine known (t := 182) rfl (by decide) ?_
                          refine lNil ?_
                          refine kThen ?_
                          refine kIfT rfl ?_
                          refine kSeq ?_
                          refine kRegion rfl ?_
                          refine lV (yMove rfl) rfl rfl ?_
                          refine lV (yEql rfl rfl) rfl rfl ?_
                          refine known (t := 184) rfl (rfl) ?_
                          refine lV (yMove rfl) rfl rfl ?_
                          refine lGY rfl rfl rfl (oV (yMove rfl) rfl ?_)
                          refine lGY rfl rfl rfl (oV (yEql rfl rfl) rfl ?_)
                          refine known (t := 187) rfl (rfl) ?_
                          refine lV (yPickT rfl rfl) rfl rfl ?_
                          refine lV (yMove rfl) rfl rfl ?_
                          refine lGY rfl rfl rfl (oV (yMove rfl) rfl ?_)
                          refine lGY rfl rfl rfl (oV (yEql rfl rfl) rfl ?_)
                          refine known (t := 191) rfl (rfl) ?_
                          refine lV (yPickT rfl rfl) rfl rfl ?_
                          refine lV (yMove rfl) rfl rfl ?_
                          refine lGY rfl rfl rfl (oV (yCall rfl .n C5 (fun w hw => awake_any w)) rfl ?_)
                          refine lV (yPickT rfl rfl) rfl rfl ?_
                          refine lV (yAssign rfl) rfl rfl ?_
                          refine lNil ?_
                          refine kThen ?_
                          refine kRet ?_
                          refine kThenR ?_
                          refine fRet rfl (.t rfl .n) (endRet ?_)
                          rfl
                    · refine kRegion rfl ?_
                      refine lV (yLoadA (vs := [_, _, _, _, _, _, _, _, _, _]) rfl A30 (cOwn 2 rfl rfl)) rfl rfl ?_
                      refine lV (yCall rfl (.c rfl .n) C7 (fun w hw => reffield_any (osA gp, osC gp) (allF f x i) w (hy hw fun p hp => by simp [hp]) hyl)) rfl rfl ?_
                      refine knownB (t := 130) (c := false) rfl (decide_eq_false hF) ?_
                      refine lV (yNot rfl) rfl rfl ?_
                      refine lV (yMove rfl) rfl rfl ?_
                      refine lGN rfl rfl rfl rfl rfl ?_
                      refine lGN rfl rfl rfl rfl rfl ?_
                      refine lGN rfl rfl rfl rfl rfl ?_
                      refine lGN rfl rfl rfl rfl rfl ?_
                      refine lGN rfl rfl rfl rfl rfl ?_
                      refine lGN rfl rfl rfl rfl rfl ?_
                      refine lGN rfl rfl rfl rfl rfl ?_
                      refine lGN rfl rfl rfl rfl rfl ?_
                      refine lGN rfl rfl rfl rfl rfl ?_
                      refine lGN rfl rfl rfl rfl rfl ?_
                      refine lGN rfl rfl rfl rfl rfl ?_
                      refine lGN rfl rfl rfl rfl rfl ?_
                      refine lGN rfl rfl rfl rfl rfl ?_
                      refine lGN rfl rfl rfl rfl rfl ?_
                      refine lGN rfl rfl rfl rfl rfl ?_
                      refine lGN rfl rfl rfl rfl rfl ?_
                      refine lGN rfl rfl rfl rfl rfl ?_
                      refine lGN rfl rfl rfl rfl rfl ?_
                      refine lV (yPickT rfl rfl) rfl rfl ?_
                      refine lNil ?_
                      refine kThen ?_
                      refine kIfT rfl ?_
                      refine kSeq ?_
                      refine kRegion rfl ?_
                      refine lV (yCall rfl .n C5 (fun w hw => awake_any w)) rfl rfl ?_
                      refine lV (yAssign rfl) rfl rfl ?_
                      refine lNil ?_
                      refine kThen ?_
                      refine kRet ?_
                      refine kThenR ?_
                      refine fRet rfl (.t rfl .n) (endRet ?_)
                      rfl
            · refine kRegion rfl ?_
              refine lV (yLoadA (vs := [_, _, _, _, _]) rfl A27 (cOwn 1 rfl rfl)) rfl rfl ?_
              refine lV (yCall rfl (.c rfl .n) C6 (fun w hw => first_clash ys yn s w (hm.eff hw) hS (by simpa using hcb))) rfl rfl ?_
              refine lV (yMove rfl) rfl rfl ?_
              refine lV (yExtract rfl rfl) rfl rfl ?_
              refine lV (yExtract rfl rfl) rfl rfl ?_
              refine lV (yAssign rfl) rfl rfl ?_
              refine lV (yAssign rfl) rfl rfl ?_
              refine lNil ?_
              refine kThen ?_
              refine kSeq ?_
              refine kSeq ?_
              refine kRegion rfl ?_
              refine lV (yMove rfl) rfl rfl ?_
              refine lV (yNeq rfl rfl) rfl rfl ?_
              refine known (t := 62) rfl (by decide) ?_
              refine lNil ?_
              refine kThen ?_
              refine kIfT rfl ?_
              refine kSeq ?_
              refine kRegion rfl ?_
              refine lV (yMove rfl) rfl rfl ?_
              refine lV (yEql rfl rfl) rfl rfl ?_
              refine known (t := 64) rfl (rfl) ?_
              refine lV (yMove rfl) rfl rfl ?_
              refine lGY rfl rfl rfl (oV (yMove rfl) rfl ?_)
              refine lGY rfl rfl rfl (oV (yLen rfl S22) rfl ?_)
              refine lGY rfl rfl rfl (oV (yEql rfl rfl) rfl ?_)
              refine known (t := 68) rfl (rfl) ?_
              refine lV (yPickT rfl rfl) rfl rfl ?_
              refine lV (yMove rfl) rfl rfl ?_
              refine lGY rfl rfl rfl (oV (yCall rfl .n C5 (fun w hw => awake_any w)) rfl ?_)
              refine lV (yPickT rfl rfl) rfl rfl ?_
              refine lV (yAssign rfl) rfl rfl ?_
              refine lNil ?_
              refine kThen ?_
              refine kRet ?_
              refine kThenR ?_
              refine fRet rfl (.t rfl .n) (endRet ?_)
              rfl
  · refine kRegion rfl ?_
    refine lV (yFieldAddr rfl F27_1) rfl rfl ?_
    refine lV (yLoad1 rfl O22 (cOwn 1 rfl rfl)) rfl rfl ?_
    refine lV (yLen rfl S22) rfl rfl ?_
    refine lV (yGtr rfl rfl) rfl rfl ?_
    refine lV (yMove rfl) rfl rfl ?_
    refine split (t := 30) rfl (fun h30 => ?_) (fun h30 => ?_)
    · refine lGN rfl rfl rfl rfl rfl ?_
      refine lGN rfl rfl rfl rfl rfl ?_
      refine lGN rfl rfl rfl rfl rfl ?_
      refine lGN rfl rfl rfl rfl rfl ?_
      refine lV (yPickT rfl rfl) rfl rfl ?_
      refine lV (yMove rfl) rfl rfl ?_
      refine lGN rfl rfl rfl rfl rfl ?_
      refine lGN rfl rfl rfl rfl rfl ?_
      refine lGN rfl rfl rfl rfl rfl ?_
      refine lGN rfl rfl rfl rfl rfl ?_
      refine lV (yPickT rfl rfl) rfl rfl ?_
      refine lV (yMove rfl) rfl rfl ?_
      refine lGN rfl rfl rfl rfl rfl ?_
      refine lGN rfl rfl rfl rfl rfl ?_
      refine lGN rfl rfl rfl rfl rfl ?_
      refine lV (yPickT rfl rfl) rfl rfl ?_
      refine lV (yMove rfl) rfl rfl ?_
      refine lGN rfl rfl rfl rfl rfl ?_
      refine lGN rfl rfl rfl rfl rfl ?_
      refine lGN rfl rfl rfl rfl rfl ?_
      refine lGN rfl rfl rfl rfl rfl ?_
      refine lGN rfl rfl rfl rfl rfl ?_
      refine lGN rfl rfl rfl rfl rfl ?_
      refine lV (yPickT rfl rfl) rfl rfl ?_
      refine lNil ?_
      refine kThen ?_
      refine kIfT rfl ?_
      refine kSeq ?_
      refine kRegion rfl ?_
      refine lV (yCall rfl .n C5 (fun w hw => awake_any w)) rfl rfl ?_
      refine lV (yAssign rfl) rfl rfl ?_
      refine lNil ?_
      refine kThen ?_
      refine kRet ?_
      refine kThenR ?_
      refine fRet rfl (.t rfl .n) (endRet ?_)
      rfl
    · refine lGY rfl rfl rfl (oV (yFieldAddr rfl F27_3) rfl ?_)
      refine lGY rfl rfl rfl (oV (yLoad1 rfl O25 (cOwn 1 rfl rfl)) rfl ?_)
      refine lGY rfl rfl rfl (oV (yLen rfl S25) rfl ?_)
      refine lGY rfl rfl rfl (oV (yGtr rfl rfl) rfl ?_)
      refine lV (yPickF rfl rfl) rfl rfl ?_
      refine lV (yMove rfl) rfl rfl ?_
      refine split (t := 36) rfl (fun h36 => ?_) (fun h36 => ?_)
      · refine lGN rfl rfl rfl rfl rfl ?_
        refine lGN rfl rfl rfl rfl rfl ?_
        refine lGN rfl rfl rfl rfl rfl ?_
        refine lGN rfl rfl rfl rfl rfl ?_
        refine lV (yPickT rfl rfl) rfl rfl ?_
        refine lV (yMove rfl) rfl rfl ?_
        refine lGN rfl rfl rfl rfl rfl ?_
        refine lGN rfl rfl rfl rfl rfl ?_
        refine lGN rfl rfl rfl rfl rfl ?_
        refine lV (yPickT rfl rfl) rfl rfl ?_
        refine lV (yMove rfl) rfl rfl ?_
        refine lGN rfl rfl rfl rfl rfl ?_
        refine lGN rfl rfl rfl rfl rfl ?_
        refine lGN rfl rfl rfl rfl rfl ?_
        refine lGN rfl rfl rfl rfl rfl ?_
        refine lGN rfl rfl rfl rfl rfl ?_
        refine lGN rfl rfl rfl rfl rfl ?_
        refine lV (yPickT rfl rfl) rfl rfl ?_
        refine lNil ?_
        refine kThen ?_
        refine kIfT rfl ?_
        refine kSeq ?_
        refine kRegion rfl ?_
        refine lV (yCall rfl .n C5 (fun w hw => awake_any w)) rfl rfl ?_
        refine lV (yAssign rfl) rfl rfl ?_
        refine lNil ?_
        refine kThen ?_
        refine kRet ?_
        refine kThenR ?_
        refine fRet rfl (.t rfl .n) (endRet ?_)
        rfl
      · refine lGY rfl rfl rfl (oV (yFieldAddr rfl F30_0) rfl ?_)
        refine lGY rfl rfl rfl (oV (yLoad1 rfl O28 (cOwn 0 rfl rfl)) rfl ?_)
        refine lGY rfl rfl rfl (oV (yLen rfl S28) rfl ?_)
        refine lGY rfl rfl rfl (oV (yGtr rfl rfl) rfl ?_)
        refine lV (yPickF rfl rfl) rfl rfl ?_
        refine lV (yMove rfl) rfl rfl ?_
        refine split (t := 42) rfl (fun h42 => ?_) (fun h42 => ?_)
        · refine lGN rfl rfl rfl rfl rfl ?_
          refine lGN rfl rfl rfl rfl rfl ?_
          refine lGN rfl rfl rfl rfl rfl ?_
          refine lV (yPickT rfl rfl) rfl rfl ?_
          refine lV (yMove rfl) rfl rfl ?_
          refine lGN rfl rfl rfl rfl rfl ?_
          refine lGN rfl rfl rfl rfl rfl ?_
          refine lGN rfl rfl rfl rfl rfl ?_
          refine lGN rfl rfl rfl rfl rfl ?_
          refine lGN rfl rfl rfl rfl rfl ?_
          refine lGN rfl rfl rfl rfl rfl ?_
          refine lV (yPickT rfl rfl) rfl rfl ?_
          refine lNil ?_
          refine kThen ?_
          refine kIfT rfl ?_
          refine kSeq ?_
          refine kRegion rfl ?_
          refine lV (yCall rfl .n C5 (fun w hw => awake_any w)) rfl rfl ?_
          refine lV (yAssign rfl) rfl rfl ?_
          refine lNil ?_
          refine kThen ?_
          refine kRet ?_
          refine kThenR ?_
          refine fRet rfl (.t rfl .n) (endRet ?_)
          rfl
        · refine lGY rfl rfl rfl (oV (yLoadA (vs := [_, _, _, _, _]) rfl A27 (cOwn 1 rfl rfl)) rfl ?_)
          refine lGY rfl rfl rfl (oV (yCall rfl (.c rfl .n) C4 (fun w hw => refshelf_any ys yn s w (hm.eff hw) (by omega) (by omega))) rfl ?_)
          refine knownB (t := 44) (c := false) rfl (decide_eq_false hS) ?_
          refine lGY rfl rfl rfl (oV (yNot rfl) rfl ?_)
          refine lV (yPickF rfl rfl) rfl rfl ?_
          refine lV (yMove rfl) rfl rfl ?_
          refine lGN rfl rfl rfl rfl rfl ?_
          refine lGN rfl rfl rfl rfl rfl ?_
          refine lGN rfl rfl rfl rfl rfl ?_
          refine lGN rfl rfl rfl rfl rfl ?_
          refine lGN rfl rfl rfl rfl rfl ?_
          refine lGN rfl rfl rfl rfl rfl ?_
          refine lV (yPickT rfl rfl) rfl rfl ?_
          refine lNil ?_
          refine kThen ?_
          refine kIfT rfl ?_
          refine kSeq ?_
          refine kRegion rfl ?_
          refine lV (yCall rfl .n C5 (fun w hw => awake_any w)) rfl rfl ?_
          refine lV (yAssign rfl) rfl rfl ?_
          refine lNil ?_
          refine kThen ?_
          refine kRet ?_
          refine kThenR ?_
          refine fRet rfl (.t rfl .n) (endRet ?_)
          rfl
end Go.Proofs.Ytdpeifbejeflhaa
