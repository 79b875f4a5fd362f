/-
  Walks: the document's scale, and where the corner is.
-/
import Derived.Test.YtlcdohhhhlhpmaaJc
namespace Go.Proofs.Ytlcdohhhhlhpmaa
open ZW

/-- The least span that contains some. -/
def hullF (F : Nat → Int × Int) (n : Nat) : Int × Int := (List.range n).foldl (fun a i => hullV a (F i) (decide ((i : Int) = 0))) (0, 0)
theorem hullF_succ (F : Nat → Int × Int) (n : Nat) : hullF F (n + 1) = hullV (hullF F n) (F n) (decide ((n : Int) = 0)) := range_foldl_succ _ _ _
theorem hullF_spec (F : Nat → Int × Int) : ∀ n, 0 < n → (∃ i, i < n ∧ (hullF F n).1 = (F i).1) ∧ (∃ i, i < n ∧ (hullF F n).2 = (F i).2) ∧ ∀ i, i < n → (hullF F n).1 ≤ (F i).1 ∧ (F i).2 ≤ (hullF F n).2
  | 0, h => absurd h (by omega)
  | n + 1, _ => by
    rw [hullF_succ]
    unfold hullV
    by_cases h0 : n = 0
    · subst h0
      rw [decide_eq_true (by rfl : ((0 : Nat) : Int) = 0), if_pos rfl]
      exact ⟨⟨0, by omega, rfl⟩, ⟨0, by omega, rfl⟩, fun i hi => by obtain rfl : i = 0 := (by omega); exact ⟨Int.le_refl _, Int.le_refl _⟩⟩
    · rw [decide_eq_false (by omega), if_neg (by decide)]
      obtain ⟨⟨i, hi, e1⟩, ⟨j, hj, e2⟩, hall⟩ := hullF_spec F n (by omega)
      refine ⟨?_, ?_, fun k hk => ?_⟩
      · by_cases hc : (hullF F n).1 ≤ (F n).1
        · exact ⟨i, by omega, by dsimp only; omega⟩
        · exact ⟨n, by omega, by dsimp only; omega⟩
      · by_cases hc : (F n).2 ≤ (hullF F n).2
        · exact ⟨j, by omega, by dsimp only; omega⟩
        · exact ⟨n, by omega, by dsimp only; omega⟩
      · dsimp only
        rcases Nat.lt_or_ge k n with h | h
        · have := hall k h; omega
        · obtain rfl : k = n := by omega
          omega
/-- The hull of all spans is that of their ends. -/
theorem hullF_eq {S : List Int} {f g : Int → Int} (hne : S ≠ []) (hle : ∀ s ∈ S, f s ≤ g s) : hullF (fun i => (f (S.getD i 0), g (S.getD i 0))) S.length = spanE (hullE (S.flatMap fun s => [f s, g s])) := by
  obtain ⟨⟨i, hi, e1⟩, ⟨j, hj, e2⟩, hall⟩ := hullF_spec (fun i => (f (S.getD i 0), g (S.getD i 0))) S.length (List.length_pos_iff.2 hne)
  obtain ⟨⟨s, hs, e3⟩, ⟨t, ht, e4⟩, hall2⟩ := hull2 hne hle
  obtain ⟨a, ha, rfl⟩ := List.mem_iff_getElem.1 hs
  obtain ⟨b, hb, rfl⟩ := List.mem_iff_getElem.1 ht
  have h1 := hall a ha
  have h2 := hall b hb
  have h3 := hall2 _ (getD_mem hi 0)
  have h4 := hall2 _ (getD_mem hj 0)
  rw [List.getElem_eq_getD (h := ha) 0] at e3
  rw [List.getElem_eq_getD (h := hb) 0] at e4
  dsimp only at e1 e2 h1 h2
  unfold spanE
  refine Prod.ext ?_ ?_
  · dsimp only; omega
  · dsimp only; omega
theorem scales_sorted (p : Plt) (set : Nat) {i j : Nat} (hij : i ≤ j) (hj : j < (scalesP p set).length) : (scalesP p set).getD i 0 ≤ (scalesP p set).getD j 0 := by
  rcases Nat.lt_or_ge i j with h | h
  · have hs : (scalesP p set).Pairwise (· < ·) := by
      unfold scalesP filS
      rw [List.pairwise_map]
      exact (List.Pairwise.filter _ List.pairwise_lt_range).imp fun h => by omega
    have := List.pairwise_iff_getElem.1 hs i j (by omega) hj h
    rw [List.getElem_eq_getD (h := by omega) 0, List.getElem_eq_getD (h := hj) 0] at this
    omega
  · obtain rfl : i = j := by omega
    exact Int.le_refl _
theorem scale_first {p : Plt} (hs : scalesP p (knownP p) ≠ []) : spanE (hullE ((scalesP p (knownP p)).flatMap fun s => [s])) = ((scalesP p (knownP p)).getD 0 0, (scalesP p (knownP p)).getD ((scalesP p (knownP p)).length - 1) 0) := by
  have hpos := List.length_pos_iff.2 hs
  obtain ⟨h1, h2, h3⟩ := hull1 hs
  obtain ⟨a, ha, e1⟩ := List.mem_iff_getElem.1 h1
  obtain ⟨b, hb, e2⟩ := List.mem_iff_getElem.1 h2
  rw [List.getElem_eq_getD (h := ha) 0] at e1
  rw [List.getElem_eq_getD (h := hb) 0] at e2
  have q1 := scales_sorted p (knownP p) (i := 0) (j := a) (by omega) ha
  have q2 := scales_sorted p (knownP p) (i := b) (j := (scalesP p (knownP p)).length - 1) (by omega) (by omega)
  have q3 := h3 _ (getD_mem (i := 0) hpos 0)
  have q4 := h3 _ (getD_mem (i := (scalesP p (knownP p)).length - 1) (by omega) 0)
  unfold spanE
  refine Prod.ext ?_ ?_
  · dsimp only; omega
  · dsimp only; omega
set_option maxRecDepth 100000 in
set_option maxHeartbeats 2000000 in
theorem rscale_any (y : Option Addr × Nat) (p : Plt) (w : World) (hm : InP w y p) (hL : p.st.length ≤ 30) : Calls Try.prog 16 [.agg (pltC y p).toArray].toArray w (Ret w (outC (scaleE p))) := by
  by_cases h : truthE p true = 0
  · obtain ⟨hp, _, hs⟩ := truthE_ok h
    have e : scaleE p = (((scalesP p (knownP p)).getD 0 0, (scalesP p (knownP p)).getD ((scalesP p (knownP p)).length - 1) 0), 0) := by rw [scaleE_scales hp hs, scale_first hs]
    have hpos := List.length_pos_iff.2 hs
    have hlen := scT_len p (knownP p) (nSc p)
    have hc := hp.c
    unfold spanOk at hc
    have hn : (nSc p : Int) = p.sc.2 - p.sc.1 + 1 := by unfold nSc; omega
    have hlen : (scalesP p (knownP p)).length ≤ nSc p := hlen
    rw [e]
    refine fEnter Try.func16 rfl Try.ntmps16 rfl ?_
    refine kSeq ?_
    refine kRegion rfl ?_
    refine lE rfl ?_
    refine eBoxA rfl fun n1 => ?_
    refine lE rfl ?_
    refine eAlloc Z23 fun n2 => ?_
    refine lV (yAssign rfl) rfl rfl ?_
    refine lNil ?_
    refine kThen ?_
    refine kSeq ?_
    refine kRegion rfl ?_
    refine lV (yLoadA (vs := [_, _, _]) rfl A26 (cOwn 1 rfl rfl)) rfl rfl ?_
    refine lE rfl ?_
    refine eCallO rfl (.c rfl (.c rfl .n)) C57 (fun w hw => ropen_ok y p w (hm.eff0 hw) hp hs) fun g hg => ?_
    rw [List.length_map]
    refine lV (yMove rfl) rfl rfl ?_
    refine lV (yExtract rfl rfl) rfl rfl ?_
    refine lV (yExtract rfl rfl) rfl rfl ?_
    refine lV (yAssign rfl) rfl rfl ?_
    refine lV (yAssign rfl) rfl rfl ?_
    refine lNil ?_
    refine kThen ?_
    refine kSeq ?_
    refine kSeq ?_
    refine kRegion rfl ?_
    refine lV (yMove rfl) rfl rfl ?_
    refine lV (yNeq rfl rfl) rfl rfl ?_
    refine knownN (t := 12) rfl (by simp) ?_
    refine lNil ?_
    refine kThen ?_
    refine kIfF rfl ?_
    refine kSkip ?_
    refine kThen ?_
    refine kSeq ?_
    refine kDrawE [(1, none), (2, none), (7, none), (8, none)] [] [0, 1, 2, 3, 4, 5, 6, 7, 8, 9, 11] 1 hMix (by kernel_rfl) ?_
    refine .run rfl (yMove rfl) rfl rfl ?_
    refine .run rfl (yIndexS  rfl rfl S56 ((fun w hw => OS.rowsE (f := rowI) 0 hg hw (.d 0 (.d 0 .r)))) (hpos)) rfl rfl ?_
    refine .run rfl (yLoad1 rfl O3 (cSl0 ((fun w hw => OS.rowsE (f := rowI) 0 hg hw (.d 0 (.d 0 .r)))) (hpos) rfl)) rfl rfl ?_
    refine .run rfl (yMove rfl) rfl rfl ?_
    refine .run rfl (yMove rfl) rfl rfl ?_
    refine .run rfl (yLen rfl S56) rfl rfl ?_
    refine .run rfl (yvSame (u := i64 (((scalesP p (knownP p)).length - 1 : Nat) : Int)) (ySub rfl rfl (by omega)) (by congr 1; omega)) rfl rfl ?_
    refine .run rfl (yIndexS  rfl rfl S56 ((fun w hw => OS.rowsE (f := rowI) 0 hg hw (.d 0 (.d 0 .r)))) ((by omega))) rfl rfl ?_
    refine .run rfl (yLoad1 rfl O3 (cSl0 ((fun w hw => OS.rowsE (f := rowI) 0 hg hw (.d 0 (.d 0 .r)))) ((by omega)) rfl)) rfl rfl ?_
    refine .run rfl (yBuild (.c rfl (.c rfl .n)) (fun w => B23_0_1 w)) rfl rfl ?_
    refine .run rfl (yAssign rfl) rfl rfl ?_
    refine .done ?_
    refine effStep 10 [] (by kernel_rfl) closedSt (hLeft [1, 2, 7, 8] (by kernel_rfl) (.c (fun _ _ hs => hs.ef) (.c (fun _ _ hs => hs.ef) (.c (fun _ _ hs => hs.ef) (.c (fun _ _ hs => hs.ef) .n))))) ?_
    refine .c ?_ .n
    refine effOne rfl (gNone rfl (fStoreL 0 rfl rfl rfl rfl K23 rfl (rfl))) ?_
    refine effDone closedSt (hLeft [] (by kernel_rfl) .n) (by kernel_rfl) ?_
    refine kThen ?_
    refine kRet ?_
    refine fRet rfl (.cA (us := [_, _]) rfl A23 (cOwn 0 rfl rfl) (.t rfl .n)) (endRet ?_)
    rfl
  · have e : scaleE p = ((0, 0), truthE p true) := by unfold scaleE; rw [if_pos h]
    rw [e]
    refine fEnter Try.func16 rfl Try.ntmps16 rfl ?_
    refine kSeq ?_
    refine kRegion rfl ?_
    refine lE rfl ?_
    refine eBoxA rfl fun n1 => ?_
    refine lE rfl ?_
    refine eAlloc Z23 fun n2 => ?_
    refine lV (yAssign rfl) rfl rfl ?_
    refine lNil ?_
    refine kThen ?_
    refine kSeq ?_
    refine kRegion rfl ?_
    refine lV (yLoadA (vs := [_, _, _]) rfl A26 (cOwn 1 rfl rfl)) rfl rfl ?_
    refine lV (yCall rfl (.c rfl (.c rfl .n)) C57 (fun w hw => ropen_err y p true w (hm.eff0 hw) hL h)) rfl rfl ?_
    refine lV (yMove rfl) rfl rfl ?_
    refine lV (yExtract rfl rfl) rfl rfl ?_
    refine lV (yExtract rfl rfl) rfl rfl ?_
    refine lV (yAssign rfl) rfl rfl ?_
    refine lV (yAssign rfl) rfl rfl ?_
    refine lNil ?_
    refine kThen ?_
    refine kSeq ?_
    refine kSeq ?_
    refine kRegion rfl ?_
    refine lV (yMove rfl) rfl rfl ?_
    refine lV (yNeq rfl rfl) rfl rfl ?_
    refine known (t := 12) rfl (h) ?_
    refine lNil ?_
    refine kThen ?_
    refine kIfT rfl ?_
    refine kSeq ?_
    refine kRegion rfl ?_
    refine lV (yBuild .n (fun w => B23_ w)) rfl rfl ?_
    refine lV (yMove rfl) rfl rfl ?_
    refine lE rfl ?_
    refine eStoreL 0 rfl rfl rfl rfl K23 rfl (rfl) ?_
    refine lV (yAssign rfl) rfl rfl ?_
    refine lNil ?_
    refine kThen ?_
    refine kRet ?_
    refine kThenR ?_
    refine fRet rfl (.cA (us := [_, _]) rfl A23 (cOwn 0 rfl rfl) (.t rfl .n)) (endRet ?_)
    rfl
end Go.Proofs.Ytlcdohhhhlhpmaa
