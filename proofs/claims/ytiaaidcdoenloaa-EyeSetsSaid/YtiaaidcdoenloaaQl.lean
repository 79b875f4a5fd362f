/-
  Walks: the document's bounds.
-/
import Derived.Test.YtiaaidcdoenloaaQj
import Derived.Test.YtiaaidcdoenloaaEngU
namespace Go.Proofs.Ytiaaidcdoenloaa
open ZW

set_option maxRecDepth 100000 in
theorem power_any (n : Nat) (w : World) (hn : n ≤ 60) : Calls Try.prog 53 [i64 (n : Nat)].toArray w (Ret w (i64 ((2 ^ n : Nat) : Int))) := by
  refine fEnter Try.func53 rfl Try.ntmps53 rfl ?_
  refine kSeq ?_
  refine kRegion rfl ?_
  refine lV (yAssign rfl) rfl rfl ?_
  refine lNil ?_
  refine kThen ?_
  refine kSeq ?_
  refine kRegion rfl ?_
  refine lV (yAssign rfl) rfl rfl ?_
  refine lNil ?_
  refine kThen ?_
  refine kSeq ?_
  refine kSeq ?_
  refine kRegion rfl ?_
  refine lV (yAssign rfl) rfl rfl ?_
  refine lNil ?_
  refine kThen ?_
  refine kBlock ?_
  refine kLoopX (ι := Nat) (fun i => i ≤ n) (fun i => [(4, i64 (i : Nat)), (3, i64 ((2 ^ i : Nat) : Int))]) [(0, _), (2, _)] (fun i => []) (fun i => []) [] (fun i => n - i) 0 (Nat.zero_le _) rfl (.c rfl (.c rfl .n)) (.c rfl (.c rfl .n)) .n ?_
  rintro i hi
  have hp : 2 ^ i ≤ 2 ^ 60 := Nat.pow_le_pow_right (by omega) (by omega)
  have hp0 : 0 < 2 ^ i := Nat.two_pow_pos _
  refine kSeq ?_
  refine kSeq ?_
  refine kRegion rfl ?_
  refine lV (yMove rfl) rfl rfl ?_
  refine lV (yMove rfl) rfl rfl ?_
  refine lV (yLss rfl rfl) rfl rfl ?_
  refine lNil ?_
  refine kThen ?_
  refine split (t := 7) rfl (fun h7 => ?_) (fun h7 => ?_)
  · refine kIfT rfl ?_
    refine kSkip ?_
    refine kThen ?_
    refine kSeq ?_
    refine kBlock ?_
    refine kRegion rfl ?_
    refine lV (yMove rfl) rfl rfl ?_
    refine lV (yMul rfl rfl (by omega)) rfl rfl ?_
    refine same (t := 11) (u := i64 ((2 ^ (i + 1) : Nat) : Int)) rfl (congrArg i64 (by rw [Nat.pow_succ]; omega)) ?_
    refine lV (yAssign rfl) rfl rfl ?_
    refine lNil ?_
    refine kInN ?_
    refine kThen ?_
    refine kRegion rfl ?_
    refine lV (yMove rfl) rfl rfl ?_
    refine lV (yAdd rfl rfl (by omega)) rfl rfl ?_
    refine lV (yAssign rfl) rfl rfl ?_
    refine lNil ?_
    exact kRoundX (i + 1) ((by omega)) (by omega) rfl (.c rfl (.c rfl .n)) (.c rfl (.c rfl .n)) .n
  · refine kIfF rfl ?_
    refine kExit ?_
    refine kThenX ?_
    refine kThenX ?_
    refine kInX ?_
    refine kThen ?_
    refine kSeq ?_
    refine kRegion rfl ?_
    refine lV (yMove rfl) rfl rfl ?_
    refine lV (yAssign rfl) rfl rfl ?_
    refine lNil ?_
    refine kThen ?_
    refine kRet ?_
    refine fRet rfl (.t rfl .n) (endRet ?_)
    obtain rfl : i = n := by omega
    rfl
set_option maxRecDepth 100000 in
theorem rhas_any (s n : Nat) (w : World) (hs : s < 2 ^ 60) (hn : n ≤ 60) : Calls Try.prog 86 [i64 (s : Nat), i64 (n : Nat)].toArray w (Ret w (.bool (s.testBit n))) := by
  have hp : 2 ^ n ≤ 2 ^ 60 := Nat.pow_le_pow_right (by omega) hn
  have hp0 : 0 < 2 ^ n := Nat.two_pow_pos _
  obtain ⟨q, hq⟩ : ∃ q, q = s / 2 ^ n := ⟨_, rfl⟩
  refine fEnter Try.func86 rfl Try.ntmps86 rfl ?_
  refine kSeq ?_
  refine kRegion rfl ?_
  refine lV (yAssign rfl) rfl rfl ?_
  refine lNil ?_
  refine kThen ?_
  refine kSeq ?_
  refine kRegion rfl ?_
  refine lV (yMove rfl) rfl rfl ?_
  refine lV (yMove rfl) rfl rfl ?_
  refine lV (yCall rfl (.c rfl .n) C53 (fun w hw => power_any n w hn)) rfl rfl ?_
  refine lV (yQuo rfl rfl (by omega) (by omega) (by omega)) rfl rfl ?_
  refine same (t := 8) (u := i64 ((q : Nat) : Int)) rfl (congrArg i64 (by rw [hq, Int.natCast_ediv])) ?_
  refine lV (yRem rfl rfl (by omega) (by omega)) rfl rfl ?_
  refine lV (yEql rfl rfl) rfl rfl ?_
  refine lV (yAssign rfl) rfl rfl ?_
  refine lNil ?_
  refine kThen ?_
  refine kRet ?_
  refine fRet rfl (.t rfl .n) (endRet ?_)
  simp only [packV]
  congr 1
  rw [Nat.testBit_eq_decide_div_mod_eq, ← hq, decide_eq_decide]
  omega
set_option maxRecDepth 100000 in
theorem rall_any (y : WLoc) (X : Wat) (w : World) (hL : X.looks.length ≤ 12) (hE : 1 ≤ X.eyes ∧ X.eyes ≤ 4) : Calls Try.prog 59 [.agg (watC y X).toArray].toArray w (Ret w (.tuple [i64 (allS X : Nat), i64 (allE X : Nat)].toArray)) := by
  have hp : 2 ^ X.looks.length ≤ 2 ^ 12 := Nat.pow_le_pow_right (by omega) hL
  have hp0 : 0 < 2 ^ X.looks.length := Nat.two_pow_pos _
  have hq : 2 ^ X.eyes.toNat ≤ 2 ^ 4 := Nat.pow_le_pow_right (by omega) (by omega)
  have hq0 : 0 < 2 ^ X.eyes.toNat := Nat.two_pow_pos _
  refine fEnter Try.func59 rfl Try.ntmps59 rfl ?_
  refine kSeq ?_
  refine kRegion rfl ?_
  refine lE rfl ?_
  refine eBoxA rfl fun n1 => ?_
  refine lV (yAssign rfl) rfl rfl ?_
  refine lV (yAssign rfl) rfl rfl ?_
  refine lNil ?_
  refine kThen ?_
  refine kSeq ?_
  refine kDrawE [(1, none), (3, none), (6, none), (7, none)] [] [0, 1, 2, 3, 4, 5, 6, 7, 8, 9, 10] 0 hMix (by kernel_rfl) ?_
  refine .run rfl (yFieldAddr rfl F29_4) rfl rfl ?_
  refine .run rfl (yLoad1 rfl O27 (cOwn 0 rfl rfl)) rfl rfl ?_
  refine .run rfl (yLen rfl S27) rfl rfl ?_
  refine .run rfl (yCall rfl (.c rfl .n) C53 (fun w hw => power_any _ w (by omega))) rfl rfl ?_
  refine .run rfl (yvSame (u := i64 ((allS X : Nat) : Int)) (ySub rfl rfl (by omega)) (congrArg i64 (by unfold allS; omega))) rfl rfl ?_
  refine .run rfl (yFieldAddr rfl F29_2) rfl rfl ?_
  refine .run rfl (yvSame (u := i64 ((X.eyes.toNat : Nat) : Int)) (yLoad1 rfl O3 (cOwn 0 rfl rfl)) (congrArg i64 (by omega))) rfl rfl ?_
  refine .run rfl (yCall rfl (.c rfl .n) C53 (fun w hw => power_any _ w (by omega))) rfl rfl ?_
  refine .run rfl (yvSame (u := i64 ((allE X : Nat) : Int)) (ySub rfl rfl (by omega)) (congrArg i64 (by unfold allE; omega))) rfl rfl ?_
  refine .run rfl (yAssign rfl) rfl rfl ?_
  refine .run rfl (yAssign rfl) rfl rfl ?_
  refine .done ?_
  refine effDone closedSt (hLeft [1, 3, 6, 7] (by kernel_rfl) (.c (fun _ _ hs => hs.ef) (.c (fun _ _ hs => hs.ef) (.c (fun _ _ hs => hs.ef) (.c (fun _ _ hs => hs.ef) .n))))) (by kernel_rfl) ?_
  refine kThen ?_
  refine kRet ?_
  refine fRet rfl (.t rfl (.t rfl .n)) (endRet ?_)
  rfl

theorem matB {N : Nat} {gb : Own} {rs : MRows} {b : FMat} {W w : World} {M L : Heap} (h : MatP N gb rs b) (hw : Eff W M L w) (hs : SubP (osL 41 gb) L) : SlE w (osA gb) N 1 (fun j => [osV (rs.at j) N]) := by
  have h1 := OS.rowsE (f := fun v : Value => [v]) (osV own0 N) h.os hw hs
  refine h1.congr (by rw [List.length_map]; exact h.len.symm) fun i hi => ?_
  rw [List.length_map] at hi
  congr 1
  unfold MRows.at
  rw [← List.getElem_eq_getD (h := hi), ← List.getElem_eq_getD (h := by rw [List.length_map]; exact hi), List.getElem_map]

set_option maxRecDepth 100000 in
theorem bound_any (A : Heap) (gb : Own) (rs : MRows) (N : Nat) (b : FMat) (i k : Nat) (v : Int) (W w : World) (hE : Eff W [] ((A ++ osL 41 gb) ++ rs.H) w) (h : MatP N gb rs b) (hi : i < N) (hk : k < N) :
    Calls Try.prog 87 [osV gb N, i64 (i : Nat), i64 (k : Nat), i64 v].toArray w
      (RetE W [] (fun rt : MRows => MatP N gb rt (fUpd b i k (min (b i k) v))) (fun _ => .tuple #[]) (fun rt => (A ++ osL 41 gb) ++ rt.H)) := by
  refine fEnterE hE Try.func87 rfl Try.ntmps87 rfl ?_
  refine kDrawE [(2, none), (3, none), (7, none), (8, none), (10, none), (11, none), (14, none)] [] [0, 1, 2, 3, 4, 5, 6, 7, 8, 9, 10, 11, 12, 13, 14] 1 hMix (by kernel_rfl) ?_
  refine .run rfl (yMove rfl) rfl rfl ?_
  refine .run rfl (yMove rfl) rfl rfl ?_
  refine .run rfl (yIndexS  rfl rfl S86 (fun w hw => matB h hw (SubP.leftOf SubP.tail)) (hi)) rfl rfl ?_
  refine .run rfl (yLoad1 rfl O41 (cSl0 (fun w hw => matB h hw (SubP.leftOf SubP.tail)) (hi) rfl)) rfl rfl ?_
  refine .run rfl (yMove rfl) rfl rfl ?_
  refine .run rfl (yMove rfl) rfl rfl ?_
  refine .run rfl (yMove rfl) rfl rfl ?_
  refine .run rfl (yIndexS  rfl rfl S86 (fun w hw => matB h hw (SubP.leftOf SubP.tail)) (hi)) rfl rfl ?_
  refine .run rfl (yLoad1 rfl O41 (cSl0 (fun w hw => matB h hw (SubP.leftOf SubP.tail)) (hi) rfl)) rfl rfl ?_
  refine .run rfl (yMove rfl) rfl rfl ?_
  refine .run rfl (yIndexS  rfl rfl S41 (fun w hw => matR h hw SubP.tail hi) (hk)) rfl rfl ?_
  refine .run rfl (yLoad1 rfl O3 (cSl0 (fun w hw => matR h hw SubP.tail hi) (hk) rfl)) rfl rfl ?_
  refine .run rfl (yMove rfl) rfl rfl ?_
  refine .run rfl (yMin rfl rfl) rfl rfl ?_
  refine .run rfl (yIndexS  rfl rfl S41 (fun w hw => matR h hw SubP.tail hi) (hk)) rfl rfl ?_
  refine .done ?_
  refine effStep 15 [] (by kernel_rfl) closedSt (hLeft [2, 3, 7, 8, 10, 11, 14] (by kernel_rfl) (.c (fun _ _ hs => hs.ef) (.c (fun _ _ hs => hs.ef) (.c (fun _ _ hs => hs.ef) (.c (fun _ _ hs => hs.ef) (.c (fun _ _ hs => hs.ef) (.c (fun _ _ hs => hs.ef) (.c (fun _ _ hs => hs.ef) .n)))))))) ?_
  refine .c ?_ .n
  refine effOne rfl (gNone rfl (fStoreMat (X := A ++ osL 41 gb) h hi hk rfl rfl rfl K3)) ?_
  refine effDone (closedEx fun h' => closedSt) (hLeft [] (by kernel_rfl) .n) (by kernel_rfl) ?_
  refine trEx fun h' => ?_
  refine fEnd rfl .n ?_
  exact fun w' hw' => ⟨h'.1, h'.2, rfl, hw'⟩
end Go.Proofs.Ytiaaidcdoenloaa
