/-
  Walks: PlateEnds, of a star of which the place is known.
-/
import Derived.Test.YtlcdohhhhlhpmaaEb
namespace Go.Proofs.Ytlcdohhhhlhpmaa
open ZW

theorem pair_f (v o : Int × Int) : pairD false v o = (v, o) := rfl
theorem pair_t (v o : Int × Int) : pairD true v o = (o, v) := rfl
set_option maxRecDepth 100000 in
set_option maxHeartbeats 8000000 in
theorem pends_ok (y : Option Addr × Nat) (p : Plt) (n : Nat) (w : World) (hm : InP w y p) (hp : PltOk p) (hn : n < p.st.length) (hne : scalesP p (knownP p) ≠ []) (he : toldE p (isStarB p (n : Nat)) = 0) :
    Calls Try.prog 7 [.agg (pltC y p).toArray, i64 (n : Nat)].toArray w (Ret w (.bool true)) := by
  have hl10 := hp.n
  have e1 := star_eq he
  obtain ⟨s, hs, e2⟩ : ∃ s : Int × Int, (s.1 ∈ scalesP p (knownP p) ∧ s.2 ∈ scalesP p (knownP p) ∧ ∀ k ∈ scalesP p (knownP p), s.1 ≤ k ∧ k ≤ s.2) ∧ scaleE p = (s, 0) := ⟨_, hull1 hne, scaleE_scales hp hne⟩
  have hb0 := starH_bd hp hn false
  have hb1 := starH_bd hp hn true
  have hs1 := mem_sc hp hs.1
  have hs2 := mem_sc hp hs.2.1
  have hsle := (hs.2.2 _ hs.1).2
  have hone := fun k hk => one_scale hp k hk
  have hsc1 := (scalesP_mem.1 hs.1).1
  have hsc2 := (scalesP_mem.1 hs.2.1).1
  refine fEnter Try.func7 rfl Try.ntmps7 rfl ?_
  refine kSeq ?_
  refine kRegion rfl ?_
  refine lE rfl ?_
  refine eBoxA rfl fun n2 => ?_
  refine lE rfl ?_
  refine eBox1 rfl rfl fun n3 => ?_
  refine lV (yAssign rfl) rfl rfl ?_
  refine lNil ?_
  refine kThen ?_
  refine kSeq ?_
  refine kSeq ?_
  refine kRegion rfl ?_
  refine lV (yFieldAddr rfl F26_1) rfl rfl ?_
  refine lV (yLoad1 rfl O24 (cOwn 1 rfl rfl)) rfl rfl ?_
  refine lV (yLen rfl S24) rfl rfl ?_
  refine lV (yGtr rfl rfl) rfl rfl ?_
  refine knownN (t := 22) rfl (by omega) ?_
  refine lV (yMove rfl) rfl rfl ?_
  refine lGY rfl rfl rfl (oV (yLoadA (vs := [_, _, _]) rfl A26 (cOwn 1 rfl rfl)) rfl ?_)
  refine lGY rfl rfl rfl (oV (yCall rfl (.c rfl .n) C23 (fun w hw => rplate_any y p w (hm.eff0 hw) (by omega))) rfl ?_)
  refine knownB (t := 25) (c := true) rfl (decide_eq_true hp) ?_
  refine lGY rfl rfl rfl (oV (yNot rfl) rfl ?_)
  refine lV (yPickF rfl rfl) rfl rfl ?_
  refine lNil ?_
  refine kThen ?_
  refine kIfF rfl ?_
  refine kSkip ?_
  refine kThen ?_
  refine kSeq ?_
  refine kRegion rfl ?_
  refine lV (yLoadA (vs := [_, _, _]) rfl A26 (cOwn 1 rfl rfl)) rfl rfl ?_
  refine lV (yLoad1 rfl O3 (cOwn 0 rfl rfl)) rfl rfl ?_
  refine lV (yCall rfl (.c rfl (.c rfl .n)) C19 (fun w hw => star_any y p (n : Nat) w (hm.eff0 hw) (by omega))) rfl rfl ?_
  refine same (t := 32) (u := .tuple [.agg [i64 (starH p n false).lo, i64 (starH p n false).hi].toArray, .agg [i64 (starH p n true).lo, i64 (starH p n true).hi].toArray, i64 0].toArray) rfl (by rw [e1]) ?_
  refine lV (yMove rfl) rfl rfl ?_
  refine lV (yExtract rfl rfl) rfl rfl ?_
  refine lV (yExtract rfl rfl) rfl rfl ?_
  refine lV (yExtract rfl rfl) rfl rfl ?_
  refine lE rfl ?_
  refine eAlloc Z23 fun n5 => ?_
  refine lE rfl ?_
  refine eAlloc Z23 fun n6 => ?_
  refine lE rfl ?_
  refine eStoreL 1 rfl rfl rfl rfl K23 rfl (rfl) ?_
  refine lE rfl ?_
  refine eStoreL 0 rfl rfl rfl rfl K23 rfl (rfl) ?_
  refine lV (yAssign rfl) rfl rfl ?_
  refine lNil ?_
  refine kThen ?_
  refine kSeq ?_
  refine kRegion rfl ?_
  refine lV (yLoadA (vs := [_, _, _]) rfl A26 (cOwn 3 rfl rfl)) rfl rfl ?_
  refine lV (yCall rfl (.c rfl .n) C15 (fun w hw => scale_any y p w (hm.eff0 hw))) rfl rfl ?_
  refine same (t := 38) (u := .tuple [.agg [i64 s.1, i64 s.2].toArray, i64 0].toArray) rfl (by rw [e2]) ?_
  refine lV (yMove rfl) rfl rfl ?_
  refine lV (yExtract rfl rfl) rfl rfl ?_
  refine lV (yExtract rfl rfl) rfl rfl ?_
  refine lE rfl ?_
  refine eAlloc Z23 fun n8 => ?_
  refine lE rfl ?_
  refine eStoreL 0 rfl rfl rfl rfl K23 rfl (rfl) ?_
  refine lV (yAssign rfl) rfl rfl ?_
  refine lNil ?_
  refine kThen ?_
  refine kSeq ?_
  refine kSeq ?_
  refine kRegion rfl ?_
  refine lV (yMove rfl) rfl rfl ?_
  refine lV (yNeq rfl rfl) rfl rfl ?_
  refine knownN (t := 42) rfl (by simp) ?_
  refine lNil ?_
  refine kThen ?_
  refine kIfF rfl ?_
  refine kSkip ?_
  refine kThen ?_
  refine kSeq ?_
  refine kSeq ?_
  refine kRegion rfl ?_
  refine lV (yMove rfl) rfl rfl ?_
  refine lV (yNeq rfl rfl) rfl rfl ?_
  refine knownN (t := 68) rfl (by simp) ?_
  refine lV (yMove rfl) rfl rfl ?_
  refine lGY rfl rfl rfl (oV (yLoad1 rfl O3 (cOwn 3 rfl rfl)) rfl ?_)
  refine lGY rfl rfl rfl (oV (yLss rfl rfl) rfl ?_)
  refine knownN (t := 71) rfl (by omega) ?_
  refine lV (yPickF rfl rfl) rfl rfl ?_
  refine lV (yMove rfl) rfl rfl ?_
  refine lGY rfl rfl rfl (oV (yLoad1 rfl O3 (cOwn 3 rfl rfl)) rfl ?_)
  refine lGY rfl rfl rfl (oV (yFieldAddr rfl F26_1) rfl ?_)
  refine lGY rfl rfl rfl (oV (yLoad1 rfl O24 (cOwn 4 rfl rfl)) rfl ?_)
  refine lGY rfl rfl rfl (oV (yLen rfl S24) rfl ?_)
  refine lGY rfl rfl rfl (oV (yGeq rfl rfl) rfl ?_)
  refine knownN (t := 78) rfl (by omega) ?_
  refine lV (yPickF rfl rfl) rfl rfl ?_
  refine lNil ?_
  refine kThen ?_
  refine kIfF rfl ?_
  refine kSkip ?_
  refine kThen ?_
  refine kSeq ?_
  refine kRegion rfl ?_
  refine lV (yMakeFunc .n (.c rfl (.c rfl .n))) rfl rfl ?_
  refine lV (yAssign rfl) rfl rfl ?_
  refine lNil ?_
  refine kThen ?_
  refine kSeq ?_
  refine kSeq ?_
  refine kRegion rfl ?_
  refine lV (yFieldAddr rfl F23_0) rfl rfl ?_
  refine lV (yLoad1 rfl O3 (cOwn 0 rfl rfl)) rfl rfl ?_
  refine lV (yFieldAddr rfl F23_1) rfl rfl ?_
  refine lV (yLoad1 rfl O3 (cOwn 0 rfl rfl)) rfl rfl ?_
  refine lV (yFieldAddr rfl F23_0) rfl rfl ?_
  refine lV (yLoad1 rfl O3 (cOwn 0 rfl rfl)) rfl rfl ?_
  refine lV (ySub rfl rfl (by omega)) rfl rfl ?_
  refine lV (yFieldAddr rfl F23_1) rfl rfl ?_
  refine lV (yLoad1 rfl O3 (cOwn 0 rfl rfl)) rfl rfl ?_
  refine lV (yAdd rfl rfl (by omega)) rfl rfl ?_
  refine lE rfl ?_
  refine eBuildSlice (.c rfl (.c rfl (.c rfl (.c rfl .n)))) (fun w => BS56_4_0_1_2_3 w) fun n91 => ?_
  refine lV (yLen rfl S56) rfl rfl ?_
  refine lV (yMove rfl) rfl rfl ?_
  refine lNil ?_
  refine kThen ?_
  refine kBlock ?_
  refine kLoopX (ι := Nat) (fun i => i ≤ 4) (fun i => [(93, i64 (i : Nat))]) [(0, _), (1, _), (2, _), (3, _), (19, _), (20, _), (21, _), (22, _), (23, _), (24, _), (25, _), (26, _), (27, _), (30, _), (31, _), (32, _), (29, _), (33, _), (34, _), (35, _), (5, _), (6, _), (7, _), (37, _), (38, _), (36, _), (39, _), (40, _), (8, _), (9, _), (41, _), (42, _), (67, _), (68, _), (69, _), (70, _), (71, _), (72, _), (73, _), (74, _), (75, _), (76, _), (77, _), (78, _), (79, _), (80, _), (10, _), (81, _), (82, _), (83, _), (84, _), (85, _), (86, _), (87, _), (88, _), (89, _), (90, _), (91, _), (92, _)] (fun i => []) (fun i => []) [(n91, _), (n8, _), (n6, _), (n5, _), (n3, _), (n2, _)] (fun i => 4 - i) 0 (Nat.zero_le _) rfl (.c rfl .n) (.c rfl (.c rfl (.c rfl (.c rfl (.c rfl (.c rfl (.c rfl (.c rfl (.c rfl (.c rfl (.c rfl (.c rfl (.c rfl (.c rfl (.c rfl (.c rfl (.c rfl (.c rfl (.c rfl (.c rfl (.c rfl (.c rfl (.c rfl (.c rfl (.c rfl (.c rfl (.c rfl (.c rfl (.c rfl (.c rfl (.c rfl (.c rfl (.c rfl (.c rfl (.c rfl (.c rfl (.c rfl (.c rfl (.c rfl (.c rfl (.c rfl (.c rfl (.c rfl (.c rfl (.c rfl (.c rfl (.c rfl (.c rfl (.c rfl (.c rfl (.c rfl (.c rfl (.c rfl (.c rfl (.c rfl (.c rfl (.c rfl (.c rfl (.c rfl .n))))))))))))))))))))))))))))))))))))))))))))))))))))))))))) (.c 0 rfl (.c 0 rfl (.c 0 rfl (.c 0 rfl (.c 0 rfl (.c 0 rfl .n)))))) ?_
  rintro i hi
  refine kSeq ?_
  refine kRegion rfl ?_
  refine lV (yLss rfl rfl) rfl rfl ?_
  refine lNil ?_
  refine kThen ?_
  refine kSeq ?_
  refine split (t := 94) rfl (fun h94 => ?_) (fun h94 => ?_)
  · refine kIfT rfl ?_
    refine kSkip ?_
    refine kThen ?_
    refine kSeq ?_
    refine kBlock ?_
    refine kSeq ?_
    refine kRegion rfl ?_
    refine lV (yIndexS  rfl rfl S56 ((fun w hw => sleRows (f := rowI) (fun _ => rfl) 0 [s.1, s.2, s.1 - 1, s.2 + 1] rfl (hw.blkAt 0 rfl))) ((by show i < 4; omega))) rfl rfl ?_
    refine lV (yLoad1 rfl O3 (cSl0 ((fun w hw => sleRows (f := rowI) (fun _ => rfl) 0 [s.1, s.2, s.1 - 1, s.2 + 1] rfl (hw.blkAt 0 rfl))) ((by show i < 4; omega)) rfl)) rfl rfl ?_
    refine lV (yAssign rfl) rfl rfl ?_
    refine lNil ?_
    refine kThen ?_
    refine kSeq ?_
    obtain ⟨k, hk⟩ : ∃ k, k = [s.1, s.2, s.1 - 1, s.2 + 1].getD i 0 := ⟨_, rfl⟩
    rw [← hk]
    have hk4 : k = s.1 ∨ k = s.2 ∨ k = s.1 - 1 ∨ k = s.2 + 1 := by
      match i, (show i < 4 by omega) with
      | 0, _ => exact .inl hk
      | 1, _ => exact .inr (.inl hk)
      | 2, _ => exact .inr (.inr (.inl hk))
      | 3, _ => exact .inr (.inr (.inr hk))
    have hin : s.1 ≤ k ∧ k ≤ s.2 → (scaleE ⟨(k, k), p.st⟩).2 = 0 := fun h => (hone k (by omega)).1.2 (by rcases hk4 with h1 | h1 | h1 | h1; (· rw [h1]; exact hs.1); (· rw [h1]; exact hs.2.1); (· omega); omega)
    have hout : ¬ (s.1 ≤ k ∧ k ≤ s.2) → p.sc.1 ≤ k ∧ k ≤ p.sc.2 → (scaleE ⟨(k, k), p.st⟩).2 = 10 := fun h h2 => (hone k h2).2 fun h3 => h (hs.2.2 k ((hone k h2).1.1 h3))
    refine kRegion rfl ?_
    refine lV (yLoadA (vs := [_, _, _]) rfl A26 (cOwn 5 rfl rfl)) rfl rfl ?_
    refine lE rfl ?_
    refine eAlloc Z26 fun n13 => ?_
    refine lE rfl ?_
    refine eStoreL 0 rfl rfl rfl rfl K26 rfl (rfl) ?_
    refine lNil ?_
    refine kThen ?_
    refine kSeq ?_
    refine kRegion rfl ?_
    refine lV (yMove rfl) rfl rfl ?_
    refine lV (yMove rfl) rfl rfl ?_
    refine lV (yCall rfl (.c rfl (.c rfl .n)) C34 (fun w hw => spanL_any _ _ w)) rfl rfl ?_
    refine lV (yFieldAddr rfl F26_0) rfl rfl ?_
    refine lE rfl ?_
    refine eStoreL 0 rfl rfl rfl rfl K23 rfl (rfl) ?_
    refine lNil ?_
    refine kThen ?_
    refine kSeq ?_
    refine kRegion rfl ?_
    refine lV (yLoadA (vs := [_, _, _]) rfl A26 (cOwn 0 rfl rfl)) rfl rfl ?_
    refine lV (yCall rfl (.c rfl .n) C15 (fun w hw => scale_any y ⟨(k, k), p.st⟩ w (hm.eff0 hw))) rfl rfl ?_
    refine lV (yMove rfl) rfl rfl ?_
    refine lV (yExtract rfl rfl) rfl rfl ?_
    refine lV (yExtract rfl rfl) rfl rfl ?_
    refine lE rfl ?_
    refine eAlloc Z23 fun n14 => ?_
    refine lE rfl ?_
    refine eStoreL 0 rfl rfl rfl rfl K23 rfl (rfl) ?_
    refine lV (yAssign rfl) rfl rfl ?_
    refine lNil ?_
    refine kThen ?_
    refine kSeq ?_
    refine kRegion rfl ?_
    refine lV (yMove rfl) rfl rfl ?_
    refine lV (yLoadA (vs := [_, _]) rfl A23 (cOwn 3 rfl rfl)) rfl rfl ?_
    refine lV (yCall rfl (.c rfl (.c rfl .n)) C37 (fun w hw => inside_any _ _ _ w)) rfl rfl ?_
    refine lV (yMove rfl) rfl rfl ?_
    refine splitB (t := 110) rfl (fun h110 => ?_) (fun h110 => ?_)
    · refine lGY rfl rfl rfl (oV (yMove rfl) rfl ?_)
      refine lGY rfl rfl rfl (oV (yNeq rfl rfl) rfl ?_)
      refine lV (yPickT rfl rfl) rfl rfl ?_
      refine lV (yMove rfl) rfl rfl ?_
      refine split (t := 114) rfl (fun h114 => ?_) (fun h114 => ?_)
      · exact absurd (hin (of_decide_eq_true h110)) h114
      · refine lGY rfl rfl rfl (oV (yMove rfl) rfl ?_)
        refine lGY rfl rfl rfl (oV (yLoadA (vs := [_, _]) rfl A23 (cOwn 3 rfl rfl)) rfl ?_)
        refine lGY rfl rfl rfl (oV (yCall rfl (.c rfl (.c rfl .n)) C37 (fun w hw => inside_any _ _ _ w)) rfl ?_)
        refine lGY rfl rfl rfl (oV (yNot rfl) rfl ?_)
        refine lGY rfl rfl rfl (oV (yMove rfl) rfl ?_)
        refine splitB (t := 119) rfl (fun h119 => ?_) (fun h119 => ?_)
        · refine lGY rfl rfl rfl (oV (yMove rfl) rfl ?_)
          refine lGY rfl rfl rfl (oV (yFieldAddr rfl F26_0) rfl ?_)
          refine lGY rfl rfl rfl (oV (yLoadA (vs := [_, _]) rfl A23 (cOwn 7 rfl rfl)) rfl ?_)
          refine lGY rfl rfl rfl (oV (yCall rfl (.c rfl (.c rfl .n)) C37 (fun w hw => inside_any _ _ _ w)) rfl ?_)
          refine lGY rfl rfl rfl (oV (yPickT rfl rfl) rfl ?_)
          refine lGY rfl rfl rfl (oV (yMove rfl) rfl ?_)
          refine splitB (t := 125) rfl (fun h125 => ?_) (fun h125 => ?_)
          · refine lGY rfl rfl rfl (oV (yMove rfl) rfl ?_)
            refine lGY rfl rfl rfl (oV (yNeq rfl rfl) rfl ?_)
            refine lGY rfl rfl rfl (oV (yPickT rfl rfl) rfl ?_)
            refine lV (yPickF rfl rfl) rfl rfl ?_
            refine lNil ?_
            refine kThen ?_
            refine split (t := 129) rfl (fun h129 => ?_) (fun h129 => ?_)
            · exact absurd (hout (fun h => by rw [decide_eq_true h] at h119; cases h119) (of_decide_eq_true h125)) h129
            · refine kIfF rfl ?_
              refine kSkip ?_
              refine kInN ?_
              refine kThen ?_
              refine kRegion rfl ?_
              refine lV (yAdd rfl rfl (by omega)) rfl rfl ?_
              refine lV (yMove rfl) rfl rfl ?_
              refine lNil ?_
              exact kRoundX (i + 1) (by omega) (by omega) rfl (.c rfl .n) (.c rfl (.c rfl (.c rfl (.c rfl (.c rfl (.c rfl (.c rfl (.c rfl (.c rfl (.c rfl (.c rfl (.c rfl (.c rfl (.c rfl (.c rfl (.c rfl (.c rfl (.c rfl (.c rfl (.c rfl (.c rfl (.c rfl (.c rfl (.c rfl (.c rfl (.c rfl (.c rfl (.c rfl (.c rfl (.c rfl (.c rfl (.c rfl (.c rfl (.c rfl (.c rfl (.c rfl (.c rfl (.c rfl (.c rfl (.c rfl (.c rfl (.c rfl (.c rfl (.c rfl (.c rfl (.c rfl (.c rfl (.c rfl (.c rfl (.c rfl (.c rfl (.c rfl (.c rfl (.c rfl (.c rfl (.c rfl (.c rfl (.c rfl (.c rfl .n))))))))))))))))))))))))))))))))))))))))))))))))))))))))))) (.c 2 rfl (.c 2 rfl (.c 2 rfl (.c 2 rfl (.c 2 rfl (.c 2 rfl .n))))))
          · refine lGN rfl rfl rfl rfl rfl ?_
            refine lGN rfl rfl rfl rfl rfl ?_
            refine lGY rfl rfl rfl (oV (yPickF rfl rfl) rfl ?_)
            refine lV (yPickF rfl rfl) rfl rfl ?_
            refine lNil ?_
            refine kThen ?_
            refine kIfF rfl ?_
            refine kSkip ?_
            refine kInN ?_
            refine kThen ?_
            refine kRegion rfl ?_
            refine lV (yAdd rfl rfl (by omega)) rfl rfl ?_
            refine lV (yMove rfl) rfl rfl ?_
            refine lNil ?_
            exact kRoundX (i + 1) (by omega) (by omega) rfl (.c rfl .n) (.c rfl (.c rfl (.c rfl (.c rfl (.c rfl (.c rfl (.c rfl (.c rfl (.c rfl (.c rfl (.c rfl (.c rfl (.c rfl (.c rfl (.c rfl (.c rfl (.c rfl (.c rfl (.c rfl (.c rfl (.c rfl (.c rfl (.c rfl (.c rfl (.c rfl (.c rfl (.c rfl (.c rfl (.c rfl (.c rfl (.c rfl (.c rfl (.c rfl (.c rfl (.c rfl (.c rfl (.c rfl (.c rfl (.c rfl (.c rfl (.c rfl (.c rfl (.c rfl (.c rfl (.c rfl (.c rfl (.c rfl (.c rfl (.c rfl (.c rfl (.c rfl (.c rfl (.c rfl (.c rfl (.c rfl (.c rfl (.c rfl (.c rfl (.c rfl .n))))))))))))))))))))))))))))))))))))))))))))))))))))))))))) (.c 2 rfl (.c 2 rfl (.c 2 rfl (.c 2 rfl (.c 2 rfl (.c 2 rfl .n))))))
        · refine lGN rfl rfl rfl rfl rfl ?_
          refine lGN rfl rfl rfl rfl rfl ?_
          refine lGN rfl rfl rfl rfl rfl ?_
          refine lGN rfl rfl rfl rfl rfl ?_
          refine lGY rfl rfl rfl (oV (yPickF rfl rfl) rfl ?_)
          refine lGY rfl rfl rfl (oV (yMove rfl) rfl ?_)
          refine lGN rfl rfl rfl rfl rfl ?_
          refine lGN rfl rfl rfl rfl rfl ?_
          refine lGY rfl rfl rfl (oV (yPickF rfl rfl) rfl ?_)
          refine lV (yPickF rfl rfl) rfl rfl ?_
          refine lNil ?_
          refine kThen ?_
          refine kIfF rfl ?_
          refine kSkip ?_
          refine kInN ?_
          refine kThen ?_
          refine kRegion rfl ?_
          refine lV (yAdd rfl rfl (by omega)) rfl rfl ?_
          refine lV (yMove rfl) rfl rfl ?_
          refine lNil ?_
          exact kRoundX (i + 1) (by omega) (by omega) rfl (.c rfl .n) (.c rfl (.c rfl (.c rfl (.c rfl (.c rfl (.c rfl (.c rfl (.c rfl (.c rfl (.c rfl (.c rfl (.c rfl (.c rfl (.c rfl (.c rfl (.c rfl (.c rfl (.c rfl (.c rfl (.c rfl (.c rfl (.c rfl (.c rfl (.c rfl (.c rfl (.c rfl (.c rfl (.c rfl (.c rfl (.c rfl (.c rfl (.c rfl (.c rfl (.c rfl (.c rfl (.c rfl (.c rfl (.c rfl (.c rfl (.c rfl (.c rfl (.c rfl (.c rfl (.c rfl (.c rfl (.c rfl (.c rfl (.c rfl (.c rfl (.c rfl (.c rfl (.c rfl (.c rfl (.c rfl (.c rfl (.c rfl (.c rfl (.c rfl (.c rfl .n))))))))))))))))))))))))))))))))))))))))))))))))))))))))))) (.c 2 rfl (.c 2 rfl (.c 2 rfl (.c 2 rfl (.c 2 rfl (.c 2 rfl .n))))))
    · refine lGN rfl rfl rfl rfl rfl ?_
      refine lGN rfl rfl rfl rfl rfl ?_
      refine lV (yPickF rfl rfl) rfl rfl ?_
      refine lV (yMove rfl) rfl rfl ?_
      refine lGY rfl rfl rfl (oV (yMove rfl) rfl ?_)
      refine lGY rfl rfl rfl (oV (yLoadA (vs := [_, _]) rfl A23 (cOwn 3 rfl rfl)) rfl ?_)
      refine lGY rfl rfl rfl (oV (yCall rfl (.c rfl (.c rfl .n)) C37 (fun w hw => inside_any _ _ _ w)) rfl ?_)
      refine lGY rfl rfl rfl (oV (yNot rfl) rfl ?_)
      refine lGY rfl rfl rfl (oV (yMove rfl) rfl ?_)
      refine splitB (t := 119) rfl (fun h119 => ?_) (fun h119 => ?_)
      · refine lGY rfl rfl rfl (oV (yMove rfl) rfl ?_)
        refine lGY rfl rfl rfl (oV (yFieldAddr rfl F26_0) rfl ?_)
        refine lGY rfl rfl rfl (oV (yLoadA (vs := [_, _]) rfl A23 (cOwn 7 rfl rfl)) rfl ?_)
        refine lGY rfl rfl rfl (oV (yCall rfl (.c rfl (.c rfl .n)) C37 (fun w hw => inside_any _ _ _ w)) rfl ?_)
        refine lGY rfl rfl rfl (oV (yPickT rfl rfl) rfl ?_)
        refine lGY rfl rfl rfl (oV (yMove rfl) rfl ?_)
        refine splitB (t := 125) rfl (fun h125 => ?_) (fun h125 => ?_)
        · refine lGY rfl rfl rfl (oV (yMove rfl) rfl ?_)
          refine lGY rfl rfl rfl (oV (yNeq rfl rfl) rfl ?_)
          refine lGY rfl rfl rfl (oV (yPickT rfl rfl) rfl ?_)
          refine lV (yPickF rfl rfl) rfl rfl ?_
          refine lNil ?_
          refine kThen ?_
          refine split (t := 129) rfl (fun h129 => ?_) (fun h129 => ?_)
          · exact absurd (hout (fun h => by rw [decide_eq_true h] at h119; cases h119) (of_decide_eq_true h125)) h129
          · refine kIfF rfl ?_
            refine kSkip ?_
            refine kInN ?_
            refine kThen ?_
            refine kRegion rfl ?_
            refine lV (yAdd rfl rfl (by omega)) rfl rfl ?_
            refine lV (yMove rfl) rfl rfl ?_
            refine lNil ?_
            exact kRoundX (i + 1) (by omega) (by omega) rfl (.c rfl .n) (.c rfl (.c rfl (.c rfl (.c rfl (.c rfl (.c rfl (.c rfl (.c rfl (.c rfl (.c rfl (.c rfl (.c rfl (.c rfl (.c rfl (.c rfl (.c rfl (.c rfl (.c rfl (.c rfl (.c rfl (.c rfl (.c rfl (.c rfl (.c rfl (.c rfl (.c rfl (.c rfl (.c rfl (.c rfl (.c rfl (.c rfl (.c rfl (.c rfl (.c rfl (.c rfl (.c rfl (.c rfl (.c rfl (.c rfl (.c rfl (.c rfl (.c rfl (.c rfl (.c rfl (.c rfl (.c rfl (.c rfl (.c rfl (.c rfl (.c rfl (.c rfl (.c rfl (.c rfl (.c rfl (.c rfl (.c rfl (.c rfl (.c rfl (.c rfl .n))))))))))))))))))))))))))))))))))))))))))))))))))))))))))) (.c 2 rfl (.c 2 rfl (.c 2 rfl (.c 2 rfl (.c 2 rfl (.c 2 rfl .n))))))
        · refine lGN rfl rfl rfl rfl rfl ?_
          refine lGN rfl rfl rfl rfl rfl ?_
          refine lGY rfl rfl rfl (oV (yPickF rfl rfl) rfl ?_)
          refine lV (yPickF rfl rfl) rfl rfl ?_
          refine lNil ?_
          refine kThen ?_
          refine kIfF rfl ?_
          refine kSkip ?_
          refine kInN ?_
          refine kThen ?_
          refine kRegion rfl ?_
          refine lV (yAdd rfl rfl (by omega)) rfl rfl ?_
          refine lV (yMove rfl) rfl rfl ?_
          refine lNil ?_
          exact kRoundX (i + 1) (by omega) (by omega) rfl (.c rfl .n) (.c rfl (.c rfl (.c rfl (.c rfl (.c rfl (.c rfl (.c rfl (.c rfl (.c rfl (.c rfl (.c rfl (.c rfl (.c rfl (.c rfl (.c rfl (.c rfl (.c rfl (.c rfl (.c rfl (.c rfl (.c rfl (.c rfl (.c rfl (.c rfl (.c rfl (.c rfl (.c rfl (.c rfl (.c rfl (.c rfl (.c rfl (.c rfl (.c rfl (.c rfl (.c rfl (.c rfl (.c rfl (.c rfl (.c rfl (.c rfl (.c rfl (.c rfl (.c rfl (.c rfl (.c rfl (.c rfl (.c rfl (.c rfl (.c rfl (.c rfl (.c rfl (.c rfl (.c rfl (.c rfl (.c rfl (.c rfl (.c rfl (.c rfl (.c rfl .n))))))))))))))))))))))))))))))))))))))))))))))))))))))))))) (.c 2 rfl (.c 2 rfl (.c 2 rfl (.c 2 rfl (.c 2 rfl (.c 2 rfl .n))))))
      · refine lGN rfl rfl rfl rfl rfl ?_
        refine lGN rfl rfl rfl rfl rfl ?_
        refine lGN rfl rfl rfl rfl rfl ?_
        refine lGN rfl rfl rfl rfl rfl ?_
        refine lGY rfl rfl rfl (oV (yPickF rfl rfl) rfl ?_)
        refine lGY rfl rfl rfl (oV (yMove rfl) rfl ?_)
        refine lGN rfl rfl rfl rfl rfl ?_
        refine lGN rfl rfl rfl rfl rfl ?_
        refine lGY rfl rfl rfl (oV (yPickF rfl rfl) rfl ?_)
        refine lV (yPickF rfl rfl) rfl rfl ?_
        refine lNil ?_
        refine kThen ?_
        refine kIfF rfl ?_
        refine kSkip ?_
        refine kInN ?_
        refine kThen ?_
        refine kRegion rfl ?_
        refine lV (yAdd rfl rfl (by omega)) rfl rfl ?_
        refine lV (yMove rfl) rfl rfl ?_
        refine lNil ?_
        exact kRoundX (i + 1) (by omega) (by omega) rfl (.c rfl .n) (.c rfl (.c rfl (.c rfl (.c rfl (.c rfl (.c rfl (.c rfl (.c rfl (.c rfl (.c rfl (.c rfl (.c rfl (.c rfl (.c rfl (.c rfl (.c rfl (.c rfl (.c rfl (.c rfl (.c rfl (.c rfl (.c rfl (.c rfl (.c rfl (.c rfl (.c rfl (.c rfl (.c rfl (.c rfl (.c rfl (.c rfl (.c rfl (.c rfl (.c rfl (.c rfl (.c rfl (.c rfl (.c rfl (.c rfl (.c rfl (.c rfl (.c rfl (.c rfl (.c rfl (.c rfl (.c rfl (.c rfl (.c rfl (.c rfl (.c rfl (.c rfl (.c rfl (.c rfl (.c rfl (.c rfl (.c rfl (.c rfl (.c rfl (.c rfl .n))))))))))))))))))))))))))))))))))))))))))))))))))))))))))) (.c 2 rfl (.c 2 rfl (.c 2 rfl (.c 2 rfl (.c 2 rfl (.c 2 rfl .n))))))
  · refine kIfF rfl ?_
    refine kExit ?_
    refine kThenX ?_
    refine kThenX ?_
    refine kInX ?_
    refine kThen ?_
    refine kSeq ?_
    refine kRegion rfl ?_
    refine lV (yCall rfl (.c rfl (.c rfl .n)) C34 (fun w hw => spanL_any _ _ w)) rfl rfl ?_
    refine lE rfl ?_
    refine eAlloc Z23 fun n16 => ?_
    refine lE rfl ?_
    refine eStoreL 0 rfl rfl rfl rfl K23 rfl (rfl) ?_
    refine lNil ?_
    refine kThen ?_
    refine kSeq ?_
    refine kSeq ?_
    refine kRegion rfl ?_
    refine lV (yFieldAddr rfl F23_0) rfl rfl ?_
    refine lV (yLoad1 rfl O3 (cOwn 4 rfl rfl)) rfl rfl ?_
    refine lV (yFieldAddr rfl F23_0) rfl rfl ?_
    refine lV (yLoad1 rfl O3 (cOwn 0 rfl rfl)) rfl rfl ?_
    refine lV (yLeq rfl rfl) rfl rfl ?_
    refine lV (yMove rfl) rfl rfl ?_
    refine split (t := 137) rfl (fun h137 => ?_) (fun h137 => ?_)
    · refine lGN rfl rfl rfl rfl rfl ?_
      refine lGN rfl rfl rfl rfl rfl ?_
      refine lGN rfl rfl rfl rfl rfl ?_
      refine lGN rfl rfl rfl rfl rfl ?_
      refine lGN rfl rfl rfl rfl rfl ?_
      refine lV (yPickT rfl rfl) rfl rfl ?_
      refine lV (yMove rfl) rfl rfl ?_
      refine lGN rfl rfl rfl rfl rfl ?_
      refine lGN rfl rfl rfl rfl rfl ?_
      refine lGN rfl rfl rfl rfl rfl ?_
      refine lGN rfl rfl rfl rfl rfl ?_
      refine lGN rfl rfl rfl rfl rfl ?_
      refine lV (yPickT rfl rfl) rfl rfl ?_
      refine lV (yMove rfl) rfl rfl ?_
      refine lGN rfl rfl rfl rfl rfl ?_
      refine lGN rfl rfl rfl rfl rfl ?_
      refine lGN rfl rfl rfl rfl rfl ?_
      refine lGN rfl rfl rfl rfl rfl ?_
      refine lGN rfl rfl rfl rfl rfl ?_
      refine lV (yPickT rfl rfl) rfl rfl ?_
      refine lNil ?_
      refine kThen ?_
      refine kIfT rfl ?_
      refine kSeq ?_
      refine kRegion rfl ?_
      refine lV (yCall rfl .n C14 (fun w hw => alive_any w)) rfl rfl ?_
      refine lV (yAssign rfl) rfl rfl ?_
      refine lNil ?_
      refine kThen ?_
      refine kRet ?_
      refine kThenR ?_
      refine fRet rfl (.t rfl .n) (endRet ?_)
      first | rfl | (simp [packV, *]; done)
    · refine lGY rfl rfl rfl (oV (yFieldAddr rfl F23_1) rfl ?_)
      refine lGY rfl rfl rfl (oV (yLoad1 rfl O3 (cOwn 4 rfl rfl)) rfl ?_)
      refine lGY rfl rfl rfl (oV (yFieldAddr rfl F23_1) rfl ?_)
      refine lGY rfl rfl rfl (oV (yLoad1 rfl O3 (cOwn 0 rfl rfl)) rfl ?_)
      refine lGY rfl rfl rfl (oV (yGeq rfl rfl) rfl ?_)
      refine lV (yPickF rfl rfl) rfl rfl ?_
      refine lV (yMove rfl) rfl rfl ?_
      refine split (t := 144) rfl (fun h144 => ?_) (fun h144 => ?_)
      · refine lGN rfl rfl rfl rfl rfl ?_
        refine lGN rfl rfl rfl rfl rfl ?_
        refine lGN rfl rfl rfl rfl rfl ?_
        refine lGN rfl rfl rfl rfl rfl ?_
        refine lGN rfl rfl rfl rfl rfl ?_
        refine lV (yPickT rfl rfl) rfl rfl ?_
        refine lV (yMove rfl) rfl rfl ?_
        refine lGN rfl rfl rfl rfl rfl ?_
        refine lGN rfl rfl rfl rfl rfl ?_
        refine lGN rfl rfl rfl rfl rfl ?_
        refine lGN rfl rfl rfl rfl rfl ?_
        refine lGN rfl rfl rfl rfl rfl ?_
        refine lV (yPickT rfl rfl) rfl rfl ?_
        refine lNil ?_
        refine kThen ?_
        refine kIfT rfl ?_
        refine kSeq ?_
        refine kRegion rfl ?_
        refine lV (yCall rfl .n C14 (fun w hw => alive_any w)) rfl rfl ?_
        refine lV (yAssign rfl) rfl rfl ?_
        refine lNil ?_
        refine kThen ?_
        refine kRet ?_
        refine kThenR ?_
        refine fRet rfl (.t rfl .n) (endRet ?_)
        first | rfl | (simp [packV, *]; done)
      · refine lGY rfl rfl rfl (oV (yFieldAddr rfl F23_0) rfl ?_)
        refine lGY rfl rfl rfl (oV (yLoad1 rfl O3 (cOwn 3 rfl rfl)) rfl ?_)
        refine lGY rfl rfl rfl (oV (yFieldAddr rfl F23_0) rfl ?_)
        refine lGY rfl rfl rfl (oV (yLoad1 rfl O3 (cOwn 0 rfl rfl)) rfl ?_)
        refine lGY rfl rfl rfl (oV (yLeq rfl rfl) rfl ?_)
        refine lV (yPickF rfl rfl) rfl rfl ?_
        refine lV (yMove rfl) rfl rfl ?_
        refine split (t := 151) rfl (fun h151 => ?_) (fun h151 => ?_)
        · refine lGN rfl rfl rfl rfl rfl ?_
          refine lGN rfl rfl rfl rfl rfl ?_
          refine lGN rfl rfl rfl rfl rfl ?_
          refine lGN rfl rfl rfl rfl rfl ?_
          refine lGN rfl rfl rfl rfl rfl ?_
          refine lV (yPickT rfl rfl) rfl rfl ?_
          refine lNil ?_
          refine kThen ?_
          refine kIfT rfl ?_
          refine kSeq ?_
          refine kRegion rfl ?_
          refine lV (yCall rfl .n C14 (fun w hw => alive_any w)) rfl rfl ?_
          refine lV (yAssign rfl) rfl rfl ?_
          refine lNil ?_
          refine kThen ?_
          refine kRet ?_
          refine kThenR ?_
          refine fRet rfl (.t rfl .n) (endRet ?_)
          first | rfl | (simp [packV, *]; done)
        · refine lGY rfl rfl rfl (oV (yFieldAddr rfl F23_1) rfl ?_)
          refine lGY rfl rfl rfl (oV (yLoad1 rfl O3 (cOwn 3 rfl rfl)) rfl ?_)
          refine lGY rfl rfl rfl (oV (yFieldAddr rfl F23_1) rfl ?_)
          refine lGY rfl rfl rfl (oV (yLoad1 rfl O3 (cOwn 0 rfl rfl)) rfl ?_)
          refine lGY rfl rfl rfl (oV (yGeq rfl rfl) rfl ?_)
          refine lV (yPickF rfl rfl) rfl rfl ?_
          refine lNil ?_
          refine kThen ?_
          refine split (t := 157) rfl (fun h157 => ?_) (fun h157 => ?_)
          · refine kIfT rfl ?_
            refine kSeq ?_
            refine kRegion rfl ?_
            refine lV (yCall rfl .n C14 (fun w hw => alive_any w)) rfl rfl ?_
            refine lV (yAssign rfl) rfl rfl ?_
            refine lNil ?_
            refine kThen ?_
            refine kRet ?_
            refine kThenR ?_
            refine fRet rfl (.t rfl .n) (endRet ?_)
            first | rfl | (simp [packV, *]; done)
          · refine kIfF rfl ?_
            refine kSkip ?_
            refine kThen ?_
            refine kSeq ?_
            have hb : ∀ d, -1048576 < (starH p n d).lo ∧ (starH p n d).hi < 1048576 := fun d => by cases d <;> omega
            refine kCutX (ι := Nat × Nat) (fun z => True) (fun z => [(17, .pointer (some ⟨z.1, 0, none⟩)), (18, .pointer (some ⟨z.2, 0, none⟩))]) [(0, _), (1, _), (2, _), (3, _), (19, _), (20, _), (21, _), (22, _), (23, _), (24, _), (25, _), (26, _), (27, _), (30, _), (31, _), (32, _), (29, _), (33, _), (34, _), (35, _), (5, _), (6, _), (7, _), (37, _), (38, _), (36, _), (39, _), (40, _), (8, _), (9, _), (41, _), (42, _), (67, _), (68, _), (69, _), (70, _), (71, _), (72, _), (73, _), (74, _), (75, _), (76, _), (77, _), (78, _), (79, _), (80, _), (10, _), (81, _), (82, _), (83, _), (84, _), (85, _), (86, _), (87, _), (88, _), (89, _), (90, _), (91, _), (92, _), (93, _), (94, _), (131, _), (16, _), (132, _), (133, _), (134, _), (135, _), (136, _), (137, _), (138, _), (139, _), (140, _), (141, _), (142, _), (143, _), (144, _), (145, _), (146, _), (147, _), (148, _), (149, _), (150, _), (151, _), (152, _), (153, _), (154, _), (155, _), (156, _), (157, _)] (fun z => []) (fun z => [(z.1, blk [i64 (starH p n false).lo, i64 (starH p n false).hi] 23), (z.2, blk [i64 (starH p n true).lo, i64 (starH p n true).hi] 23)]) [(n16, _), (n91, _), (n8, _), (n6, _), (n5, _), (n3, _), (n2, _)] (.c rfl (.c rfl (.c rfl (.c rfl (.c rfl (.c rfl (.c rfl (.c rfl (.c rfl (.c rfl (.c rfl (.c rfl (.c rfl (.c rfl (.c rfl (.c rfl (.c rfl (.c rfl (.c rfl (.c rfl (.c rfl (.c rfl (.c rfl (.c rfl (.c rfl (.c rfl (.c rfl (.c rfl (.c rfl (.c rfl (.c rfl (.c rfl (.c rfl (.c rfl (.c rfl (.c rfl (.c rfl (.c rfl (.c rfl (.c rfl (.c rfl (.c rfl (.c rfl (.c rfl (.c rfl (.c rfl (.c rfl (.c rfl (.c rfl (.c rfl (.c rfl (.c rfl (.c rfl (.c rfl (.c rfl (.c rfl (.c rfl (.c rfl (.c rfl (.c rfl (.c rfl (.c rfl (.c rfl (.c rfl (.c rfl (.c rfl (.c rfl (.c rfl (.c rfl (.c rfl (.c rfl (.c rfl (.c rfl (.c rfl (.c rfl (.c rfl (.c rfl (.c rfl (.c rfl (.c rfl (.c rfl (.c rfl (.c rfl (.c rfl (.c rfl (.c rfl (.c rfl (.c rfl (.c rfl .n))))))))))))))))))))))))))))))))))))))))))))))))))))))))))))))))))))))))))))))))))))))))) (.c 0 rfl (.c 0 rfl (.c 0 rfl (.c 0 rfl (.c 0 rfl (.c 0 rfl (.c 0 rfl .n))))))) ?_ (fun ⟨z1, z2⟩ _ => ?_)
            · refine kDrawE [(0, none), (1, none)] [] [0, 1] 4 hMix (by kernel_rfl) ?_
              refine .run rfl (yLoadA (vs := [_, _]) rfl A23 (cOwn 4 rfl rfl)) rfl rfl ?_
              refine .run rfl (yLoadA (vs := [_, _]) rfl A23 (cOwn 3 rfl rfl)) rfl rfl ?_
              refine .done ?_
              refine effStep 2 [3] (by kernel_rfl) closedSt (hLeft [0, 1] (by kernel_rfl) (.c (fun _ _ hs => hs.ef) (.c (fun _ _ hs => hs.ef) .n))) ?_
              refine (.c ?_ (.c ?_ .n))
              · refine effOne rfl (gNone rfl (fAlloc Z23)) ?_
                refine effStep 3 [] (by kernel_rfl) (closedEx fun n17 => closedSt) (hLeft [0, 1] (by kernel_rfl) (.c (fun _ _ ⟨n17, hs⟩ => hs.ef.sub (.c 1 rfl (.c 1 rfl (.c 1 rfl (.c 1 rfl (.c 1 rfl (.c 1 rfl (.c 1 rfl .n)))))))) (.c (fun _ _ ⟨n17, hs⟩ => hs.ef.sub (.c 1 rfl (.c 1 rfl (.c 1 rfl (.c 1 rfl (.c 1 rfl (.c 1 rfl (.c 1 rfl .n)))))))) .n))) ?_
                refine .c ?_ .n
                refine effOne rfl (opEx fun n17 => (gNone rfl (fAlloc Z23))) ?_
                refine effStep 4 [] (by kernel_rfl) (closedEx fun n17 => (closedEx fun n18 => closedSt)) (hLeft [0, 1] (by kernel_rfl) (.c (fun _ _ ⟨n17, ⟨n18, hs⟩⟩ => hs.ef.sub (.c 2 rfl (.c 2 rfl (.c 2 rfl (.c 2 rfl (.c 2 rfl (.c 2 rfl (.c 2 rfl .n)))))))) (.c (fun _ _ ⟨n17, ⟨n18, hs⟩⟩ => hs.ef.sub (.c 2 rfl (.c 2 rfl (.c 2 rfl (.c 2 rfl (.c 2 rfl (.c 2 rfl (.c 2 rfl .n)))))))) .n))) ?_
                refine .c ?_ .n
                refine effOne rfl (opEx fun n17 => (opEx fun n18 => (gNone rfl (fStoreL 1 rfl rfl rfl rfl K23 rfl (rfl))))) ?_
                refine effStep 5 [] (by kernel_rfl) (closedEx fun n17 => (closedEx fun n18 => closedSt)) (hLeft [1] (by kernel_rfl) (.c (fun _ _ ⟨n17, ⟨n18, hs⟩⟩ => hs.ef.sub (.c 2 rfl (.c 2 rfl (.c 2 rfl (.c 2 rfl (.c 2 rfl (.c 2 rfl (.c 2 rfl .n)))))))) .n)) ?_
                refine .c ?_ .n
                refine effOne rfl (opEx fun n17 => (opEx fun n18 => (gNone rfl (fStoreL 0 rfl rfl rfl rfl K23 rfl (rfl))))) ?_
                refine effDone (closedEx fun n17 => (closedEx fun n18 => closedSt)) (hLeft [] (by kernel_rfl) .n) (by kernel_rfl) ?_
                refine trEx fun n17 => ?_
                refine trEx fun n18 => ?_
                exact kMeetX ((n17, n18)) (trivial) rfl (.c rfl (.c rfl .n)) (.c rfl (.c rfl (.c rfl (.c rfl (.c rfl (.c rfl (.c rfl (.c rfl (.c rfl (.c rfl (.c rfl (.c rfl (.c rfl (.c rfl (.c rfl (.c rfl (.c rfl (.c rfl (.c rfl (.c rfl (.c rfl (.c rfl (.c rfl (.c rfl (.c rfl (.c rfl (.c rfl (.c rfl (.c rfl (.c rfl (.c rfl (.c rfl (.c rfl (.c rfl (.c rfl (.c rfl (.c rfl (.c rfl (.c rfl (.c rfl (.c rfl (.c rfl (.c rfl (.c rfl (.c rfl (.c rfl (.c rfl (.c rfl (.c rfl (.c rfl (.c rfl (.c rfl (.c rfl (.c rfl (.c rfl (.c rfl (.c rfl (.c rfl (.c rfl (.c rfl (.c rfl (.c rfl (.c rfl (.c rfl (.c rfl (.c rfl (.c rfl (.c rfl (.c rfl (.c rfl (.c rfl (.c rfl (.c rfl (.c rfl (.c rfl (.c rfl (.c rfl (.c rfl (.c rfl (.c rfl (.c rfl (.c rfl (.c rfl (.c rfl (.c rfl (.c rfl (.c rfl (.c rfl (.c rfl .n))))))))))))))))))))))))))))))))))))))))))))))))))))))))))))))))))))))))))))))))))))))))) (.c 2 rfl (.c 2 rfl (.c 2 rfl (.c 2 rfl (.c 2 rfl (.c 2 rfl (.c 2 rfl (.c 1 rfl (.c 0 rfl .n)))))))))
              · refine effOne rfl (gNone rfl (fAlloc Z23)) ?_
                refine effStep 2 [] (by kernel_rfl) (closedEx fun n18 => closedSt) (hLeft [0, 1] (by kernel_rfl) (.c (fun _ _ ⟨n18, hs⟩ => hs.ef.sub (.c 1 rfl (.c 1 rfl (.c 1 rfl (.c 1 rfl (.c 1 rfl (.c 1 rfl (.c 1 rfl .n)))))))) (.c (fun _ _ ⟨n18, hs⟩ => hs.ef.sub (.c 1 rfl (.c 1 rfl (.c 1 rfl (.c 1 rfl (.c 1 rfl (.c 1 rfl (.c 1 rfl .n)))))))) .n))) ?_
                refine .c ?_ .n
                refine effOne rfl (opEx fun n18 => (gNone rfl (fAlloc Z23))) ?_
                refine effStep 4 [] (by kernel_rfl) (closedEx fun n18 => (closedEx fun n17 => closedSt)) (hLeft [0, 1] (by kernel_rfl) (.c (fun _ _ ⟨n18, ⟨n17, hs⟩⟩ => hs.ef.sub (.c 2 rfl (.c 2 rfl (.c 2 rfl (.c 2 rfl (.c 2 rfl (.c 2 rfl (.c 2 rfl .n)))))))) (.c (fun _ _ ⟨n18, ⟨n17, hs⟩⟩ => hs.ef.sub (.c 2 rfl (.c 2 rfl (.c 2 rfl (.c 2 rfl (.c 2 rfl (.c 2 rfl (.c 2 rfl .n)))))))) .n))) ?_
                refine .c ?_ .n
                refine effOne rfl (opEx fun n18 => (opEx fun n17 => (gNone rfl (fStoreL 0 rfl rfl rfl rfl K23 rfl (rfl))))) ?_
                refine effStep 5 [] (by kernel_rfl) (closedEx fun n18 => (closedEx fun n17 => closedSt)) (hLeft [1] (by kernel_rfl) (.c (fun _ _ ⟨n18, ⟨n17, hs⟩⟩ => hs.ef.sub (.c 2 rfl (.c 2 rfl (.c 2 rfl (.c 2 rfl (.c 2 rfl (.c 2 rfl (.c 2 rfl .n)))))))) .n)) ?_
                refine .c ?_ .n
                refine effOne rfl (opEx fun n18 => (opEx fun n17 => (gNone rfl (fStoreL 1 rfl rfl rfl rfl K23 rfl (rfl))))) ?_
                refine effDone (closedEx fun n18 => (closedEx fun n17 => closedSt)) (hLeft [] (by kernel_rfl) .n) (by kernel_rfl) ?_
                refine trEx fun n18 => ?_
                refine trEx fun n17 => ?_
                exact kMeetX ((n17, n18)) (trivial) rfl (.c rfl (.c rfl .n)) (.c rfl (.c rfl (.c rfl (.c rfl (.c rfl (.c rfl (.c rfl (.c rfl (.c rfl (.c rfl (.c rfl (.c rfl (.c rfl (.c rfl (.c rfl (.c rfl (.c rfl (.c rfl (.c rfl (.c rfl (.c rfl (.c rfl (.c rfl (.c rfl (.c rfl (.c rfl (.c rfl (.c rfl (.c rfl (.c rfl (.c rfl (.c rfl (.c rfl (.c rfl (.c rfl (.c rfl (.c rfl (.c rfl (.c rfl (.c rfl (.c rfl (.c rfl (.c rfl (.c rfl (.c rfl (.c rfl (.c rfl (.c rfl (.c rfl (.c rfl (.c rfl (.c rfl (.c rfl (.c rfl (.c rfl (.c rfl (.c rfl (.c rfl (.c rfl (.c rfl (.c rfl (.c rfl (.c rfl (.c rfl (.c rfl (.c rfl (.c rfl (.c rfl (.c rfl (.c rfl (.c rfl (.c rfl (.c rfl (.c rfl (.c rfl (.c rfl (.c rfl (.c rfl (.c rfl (.c rfl (.c rfl (.c rfl (.c rfl (.c rfl (.c rfl (.c rfl (.c rfl (.c rfl (.c rfl .n))))))))))))))))))))))))))))))))))))))))))))))))))))))))))))))))))))))))))))))))))))))))) (.c 2 rfl (.c 2 rfl (.c 2 rfl (.c 2 rfl (.c 2 rfl (.c 2 rfl (.c 2 rfl (.c 0 rfl (.c 0 rfl .n)))))))))
            · refine kSeq ?_
              refine kSeq ?_
              refine kRegion rfl ?_
              refine lV (yFieldAddr rfl F26_1) rfl rfl ?_
              refine lV (yLoad1 rfl O24 (cOwn 6 rfl rfl)) rfl rfl ?_
              refine lV (yLoad1 rfl O3 (cOwn 5 rfl rfl)) rfl rfl ?_
              refine lV (yIndexS  rfl rfl S24 (hm.r) (hn)) rfl rfl ?_
              refine lV (yFieldAddr rfl F58_2) rfl rfl ?_
              refine lV (yLoad1 rfl O4 (cSl (hm.r) (hn) rfl)) rfl rfl ?_
              refine splitB (t := 166) rfl (fun h166 => ?_) (fun h166 => ?_)
              · refine lNil ?_
                refine kThen ?_
                refine kIfT rfl ?_
                refine kDrawE [(1, none), (2, none), (3, none), (5, none), (7, some [0, 1, 2, 3, 4, 5, 6, 8]), (8, some [0, 1, 2, 3, 4, 5, 6, 8]), (9, some [0, 1, 2, 3, 4, 5, 6, 8]), (11, some [0, 1, 2, 3, 4, 5, 6, 8])] [] [0, 1, 2, 3, 4, 5, 6, 7, 8, 9, 10, 11] 2 hMix (by kernel_rfl) ?_
                refine .run rfl (yFieldAddr rfl F26_1) rfl rfl ?_
                refine .run rfl (yLoad1 rfl O24 (cOwn 6 rfl rfl)) rfl rfl ?_
                refine .run rfl (yLoad1 rfl O3 (cOwn 5 rfl rfl)) rfl rfl ?_
                refine .run rfl (yIndexS  rfl rfl S24 (hm.r) (hn)) rfl rfl ?_
                refine .run rfl (yFieldAddr rfl F58_3) rfl rfl ?_
                refine .run rfl (yLoadA (vs := [_, _]) rfl A23 (cSl (hm.r) (hn) rfl)) rfl rfl ?_
                refine .run rfl (yFieldAddr rfl F26_1) rfl rfl ?_
                refine .run rfl (yLoad1 rfl O24 (cOwn 6 rfl rfl)) rfl rfl ?_
                refine .run rfl (yLoad1 rfl O3 (cOwn 5 rfl rfl)) rfl rfl ?_
                refine .run rfl (yIndexS  rfl rfl S24 (hm.r) (hn)) rfl rfl ?_
                refine .run rfl (yFieldAddr rfl F58_4) rfl rfl ?_
                refine .run rfl (yLoadA (vs := [_, _]) rfl A23 (cSl (hm.r) (hn) rfl)) rfl rfl ?_
                refine .done ?_
                refine effStep 12 [] (by kernel_rfl) closedSt (hLeft [1, 2, 3, 5, 7, 8, 9, 11] (by kernel_rfl) (.c (fun _ _ hs => hs.ef) (.c (fun _ _ hs => hs.ef) (.c (fun _ _ hs => hs.ef) (.c (fun _ _ hs => hs.ef) (.c (fun _ _ hs => hs.ef.sub (.c 0 rfl (.c 0 rfl (.c 0 rfl (.c 0 rfl (.c 0 rfl (.c 0 rfl (.c 0 rfl (.c 1 rfl .n))))))))) (.c (fun _ _ hs => hs.ef.sub (.c 0 rfl (.c 0 rfl (.c 0 rfl (.c 0 rfl (.c 0 rfl (.c 0 rfl (.c 0 rfl (.c 1 rfl .n))))))))) (.c (fun _ _ hs => hs.ef.sub (.c 0 rfl (.c 0 rfl (.c 0 rfl (.c 0 rfl (.c 0 rfl (.c 0 rfl (.c 0 rfl (.c 1 rfl .n))))))))) (.c (fun _ _ hs => hs.ef.sub (.c 0 rfl (.c 0 rfl (.c 0 rfl (.c 0 rfl (.c 0 rfl (.c 0 rfl (.c 0 rfl (.c 1 rfl .n))))))))) .n))))))))) ?_
                refine .c ?_ .n
                refine effOne rfl (gNone rfl (fStoreL 7 rfl rfl rfl rfl K23 rfl (rfl))) ?_
                refine effStep 13 [] (by kernel_rfl) closedSt (hLeft [7, 8, 9, 11] (by kernel_rfl) (.c (fun _ _ hs => hs.ef.sub (.c 0 rfl (.c 0 rfl (.c 0 rfl (.c 0 rfl (.c 0 rfl (.c 0 rfl (.c 0 rfl (.c 1 rfl .n))))))))) (.c (fun _ _ hs => hs.ef.sub (.c 0 rfl (.c 0 rfl (.c 0 rfl (.c 0 rfl (.c 0 rfl (.c 0 rfl (.c 0 rfl (.c 1 rfl .n))))))))) (.c (fun _ _ hs => hs.ef.sub (.c 0 rfl (.c 0 rfl (.c 0 rfl (.c 0 rfl (.c 0 rfl (.c 0 rfl (.c 0 rfl (.c 1 rfl .n))))))))) (.c (fun _ _ hs => hs.ef.sub (.c 0 rfl (.c 0 rfl (.c 0 rfl (.c 0 rfl (.c 0 rfl (.c 0 rfl (.c 0 rfl (.c 1 rfl .n))))))))) .n))))) ?_
                refine .c ?_ .n
                refine effOne rfl (gNone rfl (fStoreL 8 rfl rfl rfl rfl K23 rfl (rfl))) ?_
                refine effDone closedSt (hLeft [] (by kernel_rfl) .n) (by kernel_rfl) ?_
                refine kThen ?_
                refine kSeq ?_
                refine kSeq ?_
                have hE0 := ends_k hp hn hne hb h166 false
                have hE1 := ends_k hp hn hne hb h166 true
                refine kDrawE [(2, none), (4, none), (5, none), (6, none), (7, none), (12, none), (14, none), (15, none), (16, none), (17, none), (22, none), (24, none), (26, none), (27, none), (28, none), (33, none), (35, none), (37, none), (38, none), (39, none)] [] [0, 1, 2, 3, 4, 5, 6, 7, 8, 9, 10, 11, 12, 13, 14, 15, 16, 17, 18, 19, 20, 21, 22, 23, 24, 25, 26, 27, 28, 29, 30, 31, 32, 33, 34, 35, 36, 37, 38, 39, 40, 41] 0 hMix (by kernel_rfl) ?_
                refine .run rfl (yMove rfl) rfl rfl ?_
                refine .run rfl (yFieldAddr rfl F23_0) rfl rfl ?_
                refine .run rfl (yLoad1 rfl O3 (cOwn 4 rfl rfl)) rfl rfl ?_
                refine .run rfl (yFieldAddr rfl F23_0) rfl rfl ?_
                refine .run rfl (yLoad1 rfl O3 (cOwn 4 rfl rfl)) rfl rfl ?_
                refine .run rfl (yCall rfl (.c rfl (.c rfl .n)) C34 (fun w hw => spanL_any _ _ w)) rfl rfl ?_
                refine .run rfl (yLoadA (vs := [_, _]) rfl A23 (cOwn 8 rfl rfl)) rfl rfl ?_
                refine .run rfl (yCall rfl (.c rfl (.c rfl .n)) C39 (fun w hw => pend_any y p ((starH p n false).lo, (starH p n false).lo) (p.st.getD n star0).n n2 n3 n w (hw.blkAt 6 rfl) (hw.blkAt 5 rfl) (hm.eff0 hw) (by omega) hn true (⟨fun _ => hE0.lo, fun _ => rfl⟩))) rfl rfl ?_
                refine .run rfl (yNot rfl) rfl rfl ?_
                refine .run rfl (yMove rfl) rfl rfl ?_
                refine .runG rfl (yMove rfl) rfl rfl rfl rfl ?_
                refine .runG rfl (yFieldAddr rfl F23_1) rfl rfl rfl rfl ?_
                refine .runG rfl (yLoad1 rfl O3 (cOwn 4 rfl rfl)) rfl rfl rfl rfl ?_
                refine .runG rfl (yFieldAddr rfl F23_1) rfl rfl rfl rfl ?_
                refine .runG rfl (yLoad1 rfl O3 (cOwn 4 rfl rfl)) rfl rfl rfl rfl ?_
                refine .runG rfl (yCall rfl (.c rfl (.c rfl .n)) C34 (fun w hw => spanL_any _ _ w)) rfl rfl rfl rfl ?_
                refine .runG rfl (yLoadA (vs := [_, _]) rfl A23 (cOwn 8 rfl rfl)) rfl rfl rfl rfl ?_
                refine .runG rfl (yCall rfl (.c rfl (.c rfl .n)) C39 (fun w hw => pend_any y p ((starH p n false).hi, (starH p n false).hi) (p.st.getD n star0).n n2 n3 n w (hw.blkAt 6 rfl) (hw.blkAt 5 rfl) (hm.eff0 hw) (by omega) hn true (⟨fun _ => hE0.hi, fun _ => rfl⟩))) rfl rfl rfl rfl ?_
                refine .runG rfl (yNot rfl) rfl rfl rfl rfl ?_
                refine .run rfl (yPickF rfl rfl) rfl rfl ?_
                refine .run rfl (yMove rfl) rfl rfl ?_
                refine .runG rfl (yMove rfl) rfl rfl rfl rfl ?_
                refine .runG rfl (yLoadA (vs := [_, _]) rfl A23 (cOwn 7 rfl rfl)) rfl rfl rfl rfl ?_
                refine .runG rfl (yFieldAddr rfl F23_0) rfl rfl rfl rfl ?_
                refine .runG rfl (yLoad1 rfl O3 (cOwn 3 rfl rfl)) rfl rfl rfl rfl ?_
                refine .runG rfl (yFieldAddr rfl F23_0) rfl rfl rfl rfl ?_
                refine .runG rfl (yLoad1 rfl O3 (cOwn 3 rfl rfl)) rfl rfl rfl rfl ?_
                refine .runG rfl (yCall rfl (.c rfl (.c rfl .n)) C34 (fun w hw => spanL_any _ _ w)) rfl rfl rfl rfl ?_
                refine .runG rfl (yCall rfl (.c rfl (.c rfl .n)) C39 (fun w hw => pend_any y p (p.st.getD n star0).e ((starH p n true).lo, (starH p n true).lo) n2 n3 n w (hw.blkAt 6 rfl) (hw.blkAt 5 rfl) (hm.eff0 hw) (by omega) hn true (⟨fun _ => hE1.lo, fun _ => rfl⟩))) rfl rfl rfl rfl ?_
                refine .runG rfl (yNot rfl) rfl rfl rfl rfl ?_
                refine .run rfl (yPickF rfl rfl) rfl rfl ?_
                refine .run rfl (yMove rfl) rfl rfl ?_
                refine .runG rfl (yMove rfl) rfl rfl rfl rfl ?_
                refine .runG rfl (yLoadA (vs := [_, _]) rfl A23 (cOwn 7 rfl rfl)) rfl rfl rfl rfl ?_
                refine .runG rfl (yFieldAddr rfl F23_1) rfl rfl rfl rfl ?_
                refine .runG rfl (yLoad1 rfl O3 (cOwn 3 rfl rfl)) rfl rfl rfl rfl ?_
                refine .runG rfl (yFieldAddr rfl F23_1) rfl rfl rfl rfl ?_
                refine .runG rfl (yLoad1 rfl O3 (cOwn 3 rfl rfl)) rfl rfl rfl rfl ?_
                refine .runG rfl (yCall rfl (.c rfl (.c rfl .n)) C34 (fun w hw => spanL_any _ _ w)) rfl rfl rfl rfl ?_
                refine .runG rfl (yCall rfl (.c rfl (.c rfl .n)) C39 (fun w hw => pend_any y p (p.st.getD n star0).e ((starH p n true).hi, (starH p n true).hi) n2 n3 n w (hw.blkAt 6 rfl) (hw.blkAt 5 rfl) (hm.eff0 hw) (by omega) hn true (⟨fun _ => hE1.hi, fun _ => rfl⟩))) rfl rfl rfl rfl ?_
                refine .runG rfl (yNot rfl) rfl rfl rfl rfl ?_
                refine .run rfl (yPickF rfl rfl) rfl rfl ?_
                refine .done ?_
                refine effDone closedSt (hLeft [2, 4, 5, 6, 7, 12, 14, 15, 16, 17, 22, 24, 26, 27, 28, 33, 35, 37, 38, 39] (by kernel_rfl) (.c (fun _ _ hs => hs.ef) (.c (fun _ _ hs => hs.ef) (.c (fun _ _ hs => hs.ef) (.c (fun _ _ hs => hs.ef) (.c (fun _ _ hs => hs.ef) (.c (fun _ _ hs => hs.ef) (.c (fun _ _ hs => hs.ef) (.c (fun _ _ hs => hs.ef) (.c (fun _ _ hs => hs.ef) (.c (fun _ _ hs => hs.ef) (.c (fun _ _ hs => hs.ef) (.c (fun _ _ hs => hs.ef) (.c (fun _ _ hs => hs.ef) (.c (fun _ _ hs => hs.ef) (.c (fun _ _ hs => hs.ef) (.c (fun _ _ hs => hs.ef) (.c (fun _ _ hs => hs.ef) (.c (fun _ _ hs => hs.ef) (.c (fun _ _ hs => hs.ef) (.c (fun _ _ hs => hs.ef) .n))))))))))))))))))))) (by kernel_rfl) ?_
                refine kThen ?_
                refine kIfF rfl ?_
                refine kSkip ?_
                refine kThen ?_
                refine kSeq ?_
                refine kSeq ?_
                refine kRegion rfl ?_
                refine lV (yFieldAddr rfl F26_1) rfl rfl ?_
                refine lV (yLoad1 rfl O24 (cOwn 6 rfl rfl)) rfl rfl ?_
                refine lV (yLoad1 rfl O3 (cOwn 5 rfl rfl)) rfl rfl ?_
                refine lV (yIndexS  rfl rfl S24 (hm.r) (hn)) rfl rfl ?_
                refine lV (yFieldAddr rfl F58_2) rfl rfl ?_
                refine lV (yLoad1 rfl O4 (cSl (hm.r) (hn) rfl)) rfl rfl ?_
                refine knownB (t := 226) (c := true) rfl (h166) ?_
                refine lNil ?_
                refine kThen ?_
                refine kIfT rfl ?_
                refine kSeq ?_
                by_cases h232 : (starH p n false).lo = (p.st.getD n star0).e.1
                · by_cases h250 : (starH p n false).hi = (p.st.getD n star0).e.2
                  · by_cases h269 : (starH p n true).lo = (p.st.getD n star0).n.1
                    · by_cases h288 : (starH p n true).hi = (p.st.getD n star0).n.2
                      · refine kDrawE [(1, none), (3, none), (19, none), (21, none), (38, none), (40, none), (57, none), (59, none), (75, none)] [] [0, 1, 2, 3, 4, 5, 6, 7, 8, 9, 10, 11, 12, 13, 14, 15, 16, 17, 18, 19, 20, 21, 22, 23, 24, 25, 26, 27, 28, 29, 30, 31, 32, 33, 34, 35, 36, 37, 38, 39, 40, 41, 42, 43, 44, 45, 46, 47, 48, 49, 50, 51, 52, 53, 54, 55, 56, 57, 58, 59, 60, 61, 62, 63, 64, 65, 66, 67, 68, 69, 70, 71, 72, 73, 74, 75, 76, 77] 0 hMix (by kernel_rfl) ?_
                        refine .run rfl (yFieldAddr rfl F23_0) rfl rfl ?_
                        refine .run rfl (yLoad1 rfl O3 (cOwn 4 rfl rfl)) rfl rfl ?_
                        refine .run rfl (yFieldAddr rfl F23_0) rfl rfl ?_
                        refine .run rfl (yLoad1 rfl O3 (cOwn 7 rfl rfl)) rfl rfl ?_
                        refine .run rfl (yEql rfl rfl) rfl rfl ?_
                        refine .run rfl (yvTrue (yMove rfl) (h232)) rfl rfl ?_
                        refine .skip rfl rfl rfl rfl rfl rfl ?_
                        refine .skip rfl rfl rfl rfl rfl rfl ?_
                        refine .skip rfl rfl rfl rfl rfl rfl ?_
                        refine .skip rfl rfl rfl rfl rfl rfl ?_
                        refine .skip rfl rfl rfl rfl rfl rfl ?_
                        refine .skip rfl rfl rfl rfl rfl rfl ?_
                        refine .skip rfl rfl rfl rfl rfl rfl ?_
                        refine .skip rfl rfl rfl rfl rfl rfl ?_
                        refine .skip rfl rfl rfl rfl rfl rfl ?_
                        refine .skip rfl rfl rfl rfl rfl rfl ?_
                        refine .run rfl (yPickT rfl rfl) rfl rfl ?_
                        refine .run rfl (yMove rfl) rfl rfl ?_
                        refine .runG rfl (yFieldAddr rfl F23_1) rfl rfl rfl rfl ?_
                        refine .runG rfl (yLoad1 rfl O3 (cOwn 4 rfl rfl)) rfl rfl rfl rfl ?_
                        refine .runG rfl (yFieldAddr rfl F23_1) rfl rfl rfl rfl ?_
                        refine .runG rfl (yLoad1 rfl O3 (cOwn 7 rfl rfl)) rfl rfl rfl rfl ?_
                        refine .runG rfl (yEql rfl rfl) rfl rfl rfl rfl ?_
                        refine .runG rfl (yvTrue (yMove rfl) (h250)) rfl rfl rfl rfl ?_
                        refine .skip rfl rfl rfl rfl rfl rfl ?_
                        refine .skip rfl rfl rfl rfl rfl rfl ?_
                        refine .skip rfl rfl rfl rfl rfl rfl ?_
                        refine .skip rfl rfl rfl rfl rfl rfl ?_
                        refine .skip rfl rfl rfl rfl rfl rfl ?_
                        refine .skip rfl rfl rfl rfl rfl rfl ?_
                        refine .skip rfl rfl rfl rfl rfl rfl ?_
                        refine .skip rfl rfl rfl rfl rfl rfl ?_
                        refine .skip rfl rfl rfl rfl rfl rfl ?_
                        refine .skip rfl rfl rfl rfl rfl rfl ?_
                        refine .runG rfl (yPickT rfl rfl) rfl rfl rfl rfl ?_
                        refine .run rfl (yPickT rfl rfl) rfl rfl ?_
                        refine .run rfl (yMove rfl) rfl rfl ?_
                        refine .runG rfl (yFieldAddr rfl F23_0) rfl rfl rfl rfl ?_
                        refine .runG rfl (yLoad1 rfl O3 (cOwn 3 rfl rfl)) rfl rfl rfl rfl ?_
                        refine .runG rfl (yFieldAddr rfl F23_0) rfl rfl rfl rfl ?_
                        refine .runG rfl (yLoad1 rfl O3 (cOwn 8 rfl rfl)) rfl rfl rfl rfl ?_
                        refine .runG rfl (yEql rfl rfl) rfl rfl rfl rfl ?_
                        refine .runG rfl (yvTrue (yMove rfl) (h269)) rfl rfl rfl rfl ?_
                        refine .skip rfl rfl rfl rfl rfl rfl ?_
                        refine .skip rfl rfl rfl rfl rfl rfl ?_
                        refine .skip rfl rfl rfl rfl rfl rfl ?_
                        refine .skip rfl rfl rfl rfl rfl rfl ?_
                        refine .skip rfl rfl rfl rfl rfl rfl ?_
                        refine .skip rfl rfl rfl rfl rfl rfl ?_
                        refine .skip rfl rfl rfl rfl rfl rfl ?_
                        refine .skip rfl rfl rfl rfl rfl rfl ?_
                        refine .skip rfl rfl rfl rfl rfl rfl ?_
                        refine .skip rfl rfl rfl rfl rfl rfl ?_
                        refine .runG rfl (yPickT rfl rfl) rfl rfl rfl rfl ?_
                        refine .run rfl (yPickT rfl rfl) rfl rfl ?_
                        refine .run rfl (yMove rfl) rfl rfl ?_
                        refine .runG rfl (yFieldAddr rfl F23_1) rfl rfl rfl rfl ?_
                        refine .runG rfl (yLoad1 rfl O3 (cOwn 3 rfl rfl)) rfl rfl rfl rfl ?_
                        refine .runG rfl (yFieldAddr rfl F23_1) rfl rfl rfl rfl ?_
                        refine .runG rfl (yLoad1 rfl O3 (cOwn 8 rfl rfl)) rfl rfl rfl rfl ?_
                        refine .runG rfl (yEql rfl rfl) rfl rfl rfl rfl ?_
                        refine .runG rfl (yvTrue (yMove rfl) (h288)) rfl rfl rfl rfl ?_
                        refine .skip rfl rfl rfl rfl rfl rfl ?_
                        refine .skip rfl rfl rfl rfl rfl rfl ?_
                        refine .skip rfl rfl rfl rfl rfl rfl ?_
                        refine .skip rfl rfl rfl rfl rfl rfl ?_
                        refine .skip rfl rfl rfl rfl rfl rfl ?_
                        refine .skip rfl rfl rfl rfl rfl rfl ?_
                        refine .skip rfl rfl rfl rfl rfl rfl ?_
                        refine .skip rfl rfl rfl rfl rfl rfl ?_
                        refine .skip rfl rfl rfl rfl rfl rfl ?_
                        refine .skip rfl rfl rfl rfl rfl rfl ?_
                        refine .runG rfl (yPickT rfl rfl) rfl rfl rfl rfl ?_
                        refine .run rfl (yPickT rfl rfl) rfl rfl ?_
                        refine .run rfl (yMove rfl) rfl rfl ?_
                        refine .runG rfl (yCall rfl .n C14 (fun w hw => alive_any w)) rfl rfl rfl rfl ?_
                        refine .run rfl (yPickT rfl rfl) rfl rfl ?_
                        refine .run rfl (yAssign rfl) rfl rfl ?_
                        refine .done ?_
                        refine effDone closedSt (hLeft [1, 3, 19, 21, 38, 40, 57, 59, 75] (by kernel_rfl) (.c (fun _ _ hs => hs.ef) (.c (fun _ _ hs => hs.ef) (.c (fun _ _ hs => hs.ef) (.c (fun _ _ hs => hs.ef) (.c (fun _ _ hs => hs.ef) (.c (fun _ _ hs => hs.ef) (.c (fun _ _ hs => hs.ef) (.c (fun _ _ hs => hs.ef) (.c (fun _ _ hs => hs.ef) .n)))))))))) (by kernel_rfl) ?_
                        refine kThen ?_
                        refine kRet ?_
                        refine kThenR ?_
                        refine fRet rfl (.t rfl .n) (endRet ?_)
                        first | rfl | (simp [packV, *]; done)
                      · refine kDrawE [(1, none), (3, none), (19, none), (21, none), (38, none), (40, none), (57, none), (59, none), (63, none), (65, none), (68, none), (69, none), (70, none), (75, none)] [] [0, 1, 2, 3, 4, 5, 6, 7, 8, 9, 10, 11, 12, 13, 14, 15, 16, 17, 18, 19, 20, 21, 22, 23, 24, 25, 26, 27, 28, 29, 30, 31, 32, 33, 34, 35, 36, 37, 38, 39, 40, 41, 42, 43, 44, 45, 46, 47, 48, 49, 50, 51, 52, 53, 54, 55, 56, 57, 58, 59, 60, 61, 62, 63, 64, 65, 66, 67, 68, 69, 70, 71, 72, 73, 74, 75, 76, 77] 0 hMix (by kernel_rfl) ?_
                        refine .run rfl (yFieldAddr rfl F23_0) rfl rfl ?_
                        refine .run rfl (yLoad1 rfl O3 (cOwn 4 rfl rfl)) rfl rfl ?_
                        refine .run rfl (yFieldAddr rfl F23_0) rfl rfl ?_
                        refine .run rfl (yLoad1 rfl O3 (cOwn 7 rfl rfl)) rfl rfl ?_
                        refine .run rfl (yEql rfl rfl) rfl rfl ?_
                        refine .run rfl (yvTrue (yMove rfl) (h232)) rfl rfl ?_
                        refine .skip rfl rfl rfl rfl rfl rfl ?_
                        refine .skip rfl rfl rfl rfl rfl rfl ?_
                        refine .skip rfl rfl rfl rfl rfl rfl ?_
                        refine .skip rfl rfl rfl rfl rfl rfl ?_
                        refine .skip rfl rfl rfl rfl rfl rfl ?_
                        refine .skip rfl rfl rfl rfl rfl rfl ?_
                        refine .skip rfl rfl rfl rfl rfl rfl ?_
                        refine .skip rfl rfl rfl rfl rfl rfl ?_
                        refine .skip rfl rfl rfl rfl rfl rfl ?_
                        refine .skip rfl rfl rfl rfl rfl rfl ?_
                        refine .run rfl (yPickT rfl rfl) rfl rfl ?_
                        refine .run rfl (yMove rfl) rfl rfl ?_
                        refine .runG rfl (yFieldAddr rfl F23_1) rfl rfl rfl rfl ?_
                        refine .runG rfl (yLoad1 rfl O3 (cOwn 4 rfl rfl)) rfl rfl rfl rfl ?_
                        refine .runG rfl (yFieldAddr rfl F23_1) rfl rfl rfl rfl ?_
                        refine .runG rfl (yLoad1 rfl O3 (cOwn 7 rfl rfl)) rfl rfl rfl rfl ?_
                        refine .runG rfl (yEql rfl rfl) rfl rfl rfl rfl ?_
                        refine .runG rfl (yvTrue (yMove rfl) (h250)) rfl rfl rfl rfl ?_
                        refine .skip rfl rfl rfl rfl rfl rfl ?_
                        refine .skip rfl rfl rfl rfl rfl rfl ?_
                        refine .skip rfl rfl rfl rfl rfl rfl ?_
                        refine .skip rfl rfl rfl rfl rfl rfl ?_
                        refine .skip rfl rfl rfl rfl rfl rfl ?_
                        refine .skip rfl rfl rfl rfl rfl rfl ?_
                        refine .skip rfl rfl rfl rfl rfl rfl ?_
                        refine .skip rfl rfl rfl rfl rfl rfl ?_
                        refine .skip rfl rfl rfl rfl rfl rfl ?_
                        refine .skip rfl rfl rfl rfl rfl rfl ?_
                        refine .runG rfl (yPickT rfl rfl) rfl rfl rfl rfl ?_
                        refine .run rfl (yPickT rfl rfl) rfl rfl ?_
                        refine .run rfl (yMove rfl) rfl rfl ?_
                        refine .runG rfl (yFieldAddr rfl F23_0) rfl rfl rfl rfl ?_
                        refine .runG rfl (yLoad1 rfl O3 (cOwn 3 rfl rfl)) rfl rfl rfl rfl ?_
                        refine .runG rfl (yFieldAddr rfl F23_0) rfl rfl rfl rfl ?_
                        refine .runG rfl (yLoad1 rfl O3 (cOwn 8 rfl rfl)) rfl rfl rfl rfl ?_
                        refine .runG rfl (yEql rfl rfl) rfl rfl rfl rfl ?_
                        refine .runG rfl (yvTrue (yMove rfl) (h269)) rfl rfl rfl rfl ?_
                        refine .skip rfl rfl rfl rfl rfl rfl ?_
                        refine .skip rfl rfl rfl rfl rfl rfl ?_
                        refine .skip rfl rfl rfl rfl rfl rfl ?_
                        refine .skip rfl rfl rfl rfl rfl rfl ?_
                        refine .skip rfl rfl rfl rfl rfl rfl ?_
                        refine .skip rfl rfl rfl rfl rfl rfl ?_
                        refine .skip rfl rfl rfl rfl rfl rfl ?_
                        refine .skip rfl rfl rfl rfl rfl rfl ?_
                        refine .skip rfl rfl rfl rfl rfl rfl ?_
                        refine .skip rfl rfl rfl rfl rfl rfl ?_
                        refine .runG rfl (yPickT rfl rfl) rfl rfl rfl rfl ?_
                        refine .run rfl (yPickT rfl rfl) rfl rfl ?_
                        refine .run rfl (yMove rfl) rfl rfl ?_
                        refine .runG rfl (yFieldAddr rfl F23_1) rfl rfl rfl rfl ?_
                        refine .runG rfl (yLoad1 rfl O3 (cOwn 3 rfl rfl)) rfl rfl rfl rfl ?_
                        refine .runG rfl (yFieldAddr rfl F23_1) rfl rfl rfl rfl ?_
                        refine .runG rfl (yLoad1 rfl O3 (cOwn 8 rfl rfl)) rfl rfl rfl rfl ?_
                        refine .runG rfl (yEql rfl rfl) rfl rfl rfl rfl ?_
                        refine .runG rfl (yvFalse (yMove rfl) (h288)) rfl rfl rfl rfl ?_
                        refine .runG rfl (yMove rfl) rfl rfl rfl rfl ?_
                        refine .runG rfl (yLoadA (vs := [_, _]) rfl A23 (cOwn 7 rfl rfl)) rfl rfl rfl rfl ?_
                        refine .runG rfl (yFieldAddr rfl F23_1) rfl rfl rfl rfl ?_
                        refine .runG rfl (yLoad1 rfl O3 (cOwn 3 rfl rfl)) rfl rfl rfl rfl ?_
                        refine .runG rfl (yAdd rfl rfl (by omega)) rfl rfl rfl rfl ?_
                        refine .runG rfl (yFieldAddr rfl F23_1) rfl rfl rfl rfl ?_
                        refine .runG rfl (yLoad1 rfl O3 (cOwn 8 rfl rfl)) rfl rfl rfl rfl ?_
                        refine .runG rfl (yCall rfl (.c rfl (.c rfl .n)) C34 (fun w hw => spanL_any _ _ w)) rfl rfl rfl rfl ?_
                        refine .runG rfl (yCall rfl (.c rfl (.c rfl .n)) C39 (fun w hw => pend_any y p (p.st.getD n star0).e ((starH p n true).hi + 1, (p.st.getD n star0).n.2) n2 n3 n w (hw.blkAt 6 rfl) (hw.blkAt 5 rfl) (hm.eff0 hw) (by omega) hn false ⟨fun h => absurd h (by decide), fun h => absurd h ((hE1.khi h166).resolve_left h288)⟩)) rfl rfl rfl rfl ?_
                        refine .runG rfl (yNot rfl) rfl rfl rfl rfl ?_
                        refine .runG rfl (yPickF rfl rfl) rfl rfl rfl rfl ?_
                        refine .run rfl (yPickT rfl rfl) rfl rfl ?_
                        refine .run rfl (yMove rfl) rfl rfl ?_
                        refine .runG rfl (yCall rfl .n C14 (fun w hw => alive_any w)) rfl rfl rfl rfl ?_
                        refine .run rfl (yPickT rfl rfl) rfl rfl ?_
                        refine .run rfl (yAssign rfl) rfl rfl ?_
                        refine .done ?_
                        refine effDone closedSt (hLeft [1, 3, 19, 21, 38, 40, 57, 59, 63, 65, 68, 69, 70, 75] (by kernel_rfl) (.c (fun _ _ hs => hs.ef) (.c (fun _ _ hs => hs.ef) (.c (fun _ _ hs => hs.ef) (.c (fun _ _ hs => hs.ef) (.c (fun _ _ hs => hs.ef) (.c (fun _ _ hs => hs.ef) (.c (fun _ _ hs => hs.ef) (.c (fun _ _ hs => hs.ef) (.c (fun _ _ hs => hs.ef) (.c (fun _ _ hs => hs.ef) (.c (fun _ _ hs => hs.ef) (.c (fun _ _ hs => hs.ef) (.c (fun _ _ hs => hs.ef) (.c (fun _ _ hs => hs.ef) .n))))))))))))))) (by kernel_rfl) ?_
                        refine kThen ?_
                        refine kRet ?_
                        refine kThenR ?_
                        refine fRet rfl (.t rfl .n) (endRet ?_)
                        first | rfl | (simp [packV, *]; done)
                    · by_cases h288 : (starH p n true).hi = (p.st.getD n star0).n.2
                      · refine kDrawE [(1, none), (3, none), (19, none), (21, none), (38, none), (40, none), (44, none), (46, none), (48, none), (50, none), (51, none), (57, none), (59, none), (75, none)] [] [0, 1, 2, 3, 4, 5, 6, 7, 8, 9, 10, 11, 12, 13, 14, 15, 16, 17, 18, 19, 20, 21, 22, 23, 24, 25, 26, 27, 28, 29, 30, 31, 32, 33, 34, 35, 36, 37, 38, 39, 40, 41, 42, 43, 44, 45, 46, 47, 48, 49, 50, 51, 52, 53, 54, 55, 56, 57, 58, 59, 60, 61, 62, 63, 64, 65, 66, 67, 68, 69, 70, 71, 72, 73, 74, 75, 76, 77] 0 hMix (by kernel_rfl) ?_
                        refine .run rfl (yFieldAddr rfl F23_0) rfl rfl ?_
                        refine .run rfl (yLoad1 rfl O3 (cOwn 4 rfl rfl)) rfl rfl ?_
                        refine .run rfl (yFieldAddr rfl F23_0) rfl rfl ?_
                        refine .run rfl (yLoad1 rfl O3 (cOwn 7 rfl rfl)) rfl rfl ?_
                        refine .run rfl (yEql rfl rfl) rfl rfl ?_
                        refine .run rfl (yvTrue (yMove rfl) (h232)) rfl rfl ?_
                        refine .skip rfl rfl rfl rfl rfl rfl ?_
                        refine .skip rfl rfl rfl rfl rfl rfl ?_
                        refine .skip rfl rfl rfl rfl rfl rfl ?_
                        refine .skip rfl rfl rfl rfl rfl rfl ?_
                        refine .skip rfl rfl rfl rfl rfl rfl ?_
                        refine .skip rfl rfl rfl rfl rfl rfl ?_
                        refine .skip rfl rfl rfl rfl rfl rfl ?_
                        refine .skip rfl rfl rfl rfl rfl rfl ?_
                        refine .skip rfl rfl rfl rfl rfl rfl ?_
                        refine .skip rfl rfl rfl rfl rfl rfl ?_
                        refine .run rfl (yPickT rfl rfl) rfl rfl ?_
                        refine .run rfl (yMove rfl) rfl rfl ?_
                        refine .runG rfl (yFieldAddr rfl F23_1) rfl rfl rfl rfl ?_
                        refine .runG rfl (yLoad1 rfl O3 (cOwn 4 rfl rfl)) rfl rfl rfl rfl ?_
                        refine .runG rfl (yFieldAddr rfl F23_1) rfl rfl rfl rfl ?_
                        refine .runG rfl (yLoad1 rfl O3 (cOwn 7 rfl rfl)) rfl rfl rfl rfl ?_
                        refine .runG rfl (yEql rfl rfl) rfl rfl rfl rfl ?_
                        refine .runG rfl (yvTrue (yMove rfl) (h250)) rfl rfl rfl rfl ?_
                        refine .skip rfl rfl rfl rfl rfl rfl ?_
                        refine .skip rfl rfl rfl rfl rfl rfl ?_
                        refine .skip rfl rfl rfl rfl rfl rfl ?_
                        refine .skip rfl rfl rfl rfl rfl rfl ?_
                        refine .skip rfl rfl rfl rfl rfl rfl ?_
                        refine .skip rfl rfl rfl rfl rfl rfl ?_
                        refine .skip rfl rfl rfl rfl rfl rfl ?_
                        refine .skip rfl rfl rfl rfl rfl rfl ?_
                        refine .skip rfl rfl rfl rfl rfl rfl ?_
                        refine .skip rfl rfl rfl rfl rfl rfl ?_
                        refine .runG rfl (yPickT rfl rfl) rfl rfl rfl rfl ?_
                        refine .run rfl (yPickT rfl rfl) rfl rfl ?_
                        refine .run rfl (yMove rfl) rfl rfl ?_
                        refine .runG rfl (yFieldAddr rfl F23_0) rfl rfl rfl rfl ?_
                        refine .runG rfl (yLoad1 rfl O3 (cOwn 3 rfl rfl)) rfl rfl rfl rfl ?_
                        refine .runG rfl (yFieldAddr rfl F23_0) rfl rfl rfl rfl ?_
                        refine .runG rfl (yLoad1 rfl O3 (cOwn 8 rfl rfl)) rfl rfl rfl rfl ?_
                        refine .runG rfl (yEql rfl rfl) rfl rfl rfl rfl ?_
                        refine .runG rfl (yvFalse (yMove rfl) (h269)) rfl rfl rfl rfl ?_
                        refine .runG rfl (yMove rfl) rfl rfl rfl rfl ?_
                        refine .runG rfl (yLoadA (vs := [_, _]) rfl A23 (cOwn 7 rfl rfl)) rfl rfl rfl rfl ?_
                        refine .runG rfl (yFieldAddr rfl F23_0) rfl rfl rfl rfl ?_
                        refine .runG rfl (yLoad1 rfl O3 (cOwn 8 rfl rfl)) rfl rfl rfl rfl ?_
                        refine .runG rfl (yFieldAddr rfl F23_0) rfl rfl rfl rfl ?_
                        refine .runG rfl (yLoad1 rfl O3 (cOwn 3 rfl rfl)) rfl rfl rfl rfl ?_
                        refine .runG rfl (ySub rfl rfl (by omega)) rfl rfl rfl rfl ?_
                        refine .runG rfl (yCall rfl (.c rfl (.c rfl .n)) C34 (fun w hw => spanL_any _ _ w)) rfl rfl rfl rfl ?_
                        refine .runG rfl (yCall rfl (.c rfl (.c rfl .n)) C39 (fun w hw => pend_any y p (p.st.getD n star0).e ((p.st.getD n star0).n.1, (starH p n true).lo - 1) n2 n3 n w (hw.blkAt 6 rfl) (hw.blkAt 5 rfl) (hm.eff0 hw) (by omega) hn false ⟨fun h => absurd h (by decide), fun h => absurd h ((hE1.klo h166).resolve_left h269)⟩)) rfl rfl rfl rfl ?_
                        refine .runG rfl (yNot rfl) rfl rfl rfl rfl ?_
                        refine .runG rfl (yPickF rfl rfl) rfl rfl rfl rfl ?_
                        refine .run rfl (yPickT rfl rfl) rfl rfl ?_
                        refine .run rfl (yMove rfl) rfl rfl ?_
                        refine .runG rfl (yFieldAddr rfl F23_1) rfl rfl rfl rfl ?_
                        refine .runG rfl (yLoad1 rfl O3 (cOwn 3 rfl rfl)) rfl rfl rfl rfl ?_
                        refine .runG rfl (yFieldAddr rfl F23_1) rfl rfl rfl rfl ?_
                        refine .runG rfl (yLoad1 rfl O3 (cOwn 8 rfl rfl)) rfl rfl rfl rfl ?_
                        refine .runG rfl (yEql rfl rfl) rfl rfl rfl rfl ?_
                        refine .runG rfl (yvTrue (yMove rfl) (h288)) rfl rfl rfl rfl ?_
                        refine .skip rfl rfl rfl rfl rfl rfl ?_
                        refine .skip rfl rfl rfl rfl rfl rfl ?_
                        refine .skip rfl rfl rfl rfl rfl rfl ?_
                        refine .skip rfl rfl rfl rfl rfl rfl ?_
                        refine .skip rfl rfl rfl rfl rfl rfl ?_
                        refine .skip rfl rfl rfl rfl rfl rfl ?_
                        refine .skip rfl rfl rfl rfl rfl rfl ?_
                        refine .skip rfl rfl rfl rfl rfl rfl ?_
                        refine .skip rfl rfl rfl rfl rfl rfl ?_
                        refine .skip rfl rfl rfl rfl rfl rfl ?_
                        refine .runG rfl (yPickT rfl rfl) rfl rfl rfl rfl ?_
                        refine .run rfl (yPickT rfl rfl) rfl rfl ?_
                        refine .run rfl (yMove rfl) rfl rfl ?_
                        refine .runG rfl (yCall rfl .n C14 (fun w hw => alive_any w)) rfl rfl rfl rfl ?_
                        refine .run rfl (yPickT rfl rfl) rfl rfl ?_
                        refine .run rfl (yAssign rfl) rfl rfl ?_
                        refine .done ?_
                        refine effDone closedSt (hLeft [1, 3, 19, 21, 38, 40, 44, 46, 48, 50, 51, 57, 59, 75] (by kernel_rfl) (.c (fun _ _ hs => hs.ef) (.c (fun _ _ hs => hs.ef) (.c (fun _ _ hs => hs.ef) (.c (fun _ _ hs => hs.ef) (.c (fun _ _ hs => hs.ef) (.c (fun _ _ hs => hs.ef) (.c (fun _ _ hs => hs.ef) (.c (fun _ _ hs => hs.ef) (.c (fun _ _ hs => hs.ef) (.c (fun _ _ hs => hs.ef) (.c (fun _ _ hs => hs.ef) (.c (fun _ _ hs => hs.ef) (.c (fun _ _ hs => hs.ef) (.c (fun _ _ hs => hs.ef) .n))))))))))))))) (by kernel_rfl) ?_
                        refine kThen ?_
                        refine kRet ?_
                        refine kThenR ?_
                        refine fRet rfl (.t rfl .n) (endRet ?_)
                        first | rfl | (simp [packV, *]; done)
                      · refine kDrawE [(1, none), (3, none), (19, none), (21, none), (38, none), (40, none), (44, none), (46, none), (48, none), (50, none), (51, none), (57, none), (59, none), (63, none), (65, none), (68, none), (69, none), (70, none), (75, none)] [] [0, 1, 2, 3, 4, 5, 6, 7, 8, 9, 10, 11, 12, 13, 14, 15, 16, 17, 18, 19, 20, 21, 22, 23, 24, 25, 26, 27, 28, 29, 30, 31, 32, 33, 34, 35, 36, 37, 38, 39, 40, 41, 42, 43, 44, 45, 46, 47, 48, 49, 50, 51, 52, 53, 54, 55, 56, 57, 58, 59, 60, 61, 62, 63, 64, 65, 66, 67, 68, 69, 70, 71, 72, 73, 74, 75, 76, 77] 0 hMix (by kernel_rfl) ?_
                        refine .run rfl (yFieldAddr rfl F23_0) rfl rfl ?_
                        refine .run rfl (yLoad1 rfl O3 (cOwn 4 rfl rfl)) rfl rfl ?_
                        refine .run rfl (yFieldAddr rfl F23_0) rfl rfl ?_
                        refine .run rfl (yLoad1 rfl O3 (cOwn 7 rfl rfl)) rfl rfl ?_
                        refine .run rfl (yEql rfl rfl) rfl rfl ?_
                        refine .run rfl (yvTrue (yMove rfl) (h232)) rfl rfl ?_
                        refine .skip rfl rfl rfl rfl rfl rfl ?_
                        refine .skip rfl rfl rfl rfl rfl rfl ?_
                        refine .skip rfl rfl rfl rfl rfl rfl ?_
                        refine .skip rfl rfl rfl rfl rfl rfl ?_
                        refine .skip rfl rfl rfl rfl rfl rfl ?_
                        refine .skip rfl rfl rfl rfl rfl rfl ?_
                        refine .skip rfl rfl rfl rfl rfl rfl ?_
                        refine .skip rfl rfl rfl rfl rfl rfl ?_
                        refine .skip rfl rfl rfl rfl rfl rfl ?_
                        refine .skip rfl rfl rfl rfl rfl rfl ?_
                        refine .run rfl (yPickT rfl rfl) rfl rfl ?_
                        refine .run rfl (yMove rfl) rfl rfl ?_
                        refine .runG rfl (yFieldAddr rfl F23_1) rfl rfl rfl rfl ?_
                        refine .runG rfl (yLoad1 rfl O3 (cOwn 4 rfl rfl)) rfl rfl rfl rfl ?_
                        refine .runG rfl (yFieldAddr rfl F23_1) rfl rfl rfl rfl ?_
                        refine .runG rfl (yLoad1 rfl O3 (cOwn 7 rfl rfl)) rfl rfl rfl rfl ?_
                        refine .runG rfl (yEql rfl rfl) rfl rfl rfl rfl ?_
                        refine .runG rfl (yvTrue (yMove rfl) (h250)) rfl rfl rfl rfl ?_
                        refine .skip rfl rfl rfl rfl rfl rfl ?_
                        refine .skip rfl rfl rfl rfl rfl rfl ?_
                        refine .skip rfl rfl rfl rfl rfl rfl ?_
                        refine .skip rfl rfl rfl rfl rfl rfl ?_
                        refine .skip rfl rfl rfl rfl rfl rfl ?_
                        refine .skip rfl rfl rfl rfl rfl rfl ?_
                        refine .skip rfl rfl rfl rfl rfl rfl ?_
                        refine .skip rfl rfl rfl rfl rfl rfl ?_
                        refine .skip rfl rfl rfl rfl rfl rfl ?_
                        refine .skip rfl rfl rfl rfl rfl rfl ?_
                        refine .runG rfl (yPickT rfl rfl) rfl rfl rfl rfl ?_
                        refine .run rfl (yPickT rfl rfl) rfl rfl ?_
                        refine .run rfl (yMove rfl) rfl rfl ?_
                        refine .runG rfl (yFieldAddr rfl F23_0) rfl rfl rfl rfl ?_
                        refine .runG rfl (yLoad1 rfl O3 (cOwn 3 rfl rfl)) rfl rfl rfl rfl ?_
                        refine .runG rfl (yFieldAddr rfl F23_0) rfl rfl rfl rfl ?_
                        refine .runG rfl (yLoad1 rfl O3 (cOwn 8 rfl rfl)) rfl rfl rfl rfl ?_
                        refine .runG rfl (yEql rfl rfl) rfl rfl rfl rfl ?_
                        refine .runG rfl (yvFalse (yMove rfl) (h269)) rfl rfl rfl rfl ?_
                        refine .runG rfl (yMove rfl) rfl rfl rfl rfl ?_
                        refine .runG rfl (yLoadA (vs := [_, _]) rfl A23 (cOwn 7 rfl rfl)) rfl rfl rfl rfl ?_
                        refine .runG rfl (yFieldAddr rfl F23_0) rfl rfl rfl rfl ?_
                        refine .runG rfl (yLoad1 rfl O3 (cOwn 8 rfl rfl)) rfl rfl rfl rfl ?_
                        refine .runG rfl (yFieldAddr rfl F23_0) rfl rfl rfl rfl ?_
                        refine .runG rfl (yLoad1 rfl O3 (cOwn 3 rfl rfl)) rfl rfl rfl rfl ?_
                        refine .runG rfl (ySub rfl rfl (by omega)) rfl rfl rfl rfl ?_
                        refine .runG rfl (yCall rfl (.c rfl (.c rfl .n)) C34 (fun w hw => spanL_any _ _ w)) rfl rfl rfl rfl ?_
                        refine .runG rfl (yCall rfl (.c rfl (.c rfl .n)) C39 (fun w hw => pend_any y p (p.st.getD n star0).e ((p.st.getD n star0).n.1, (starH p n true).lo - 1) n2 n3 n w (hw.blkAt 6 rfl) (hw.blkAt 5 rfl) (hm.eff0 hw) (by omega) hn false ⟨fun h => absurd h (by decide), fun h => absurd h ((hE1.klo h166).resolve_left h269)⟩)) rfl rfl rfl rfl ?_
                        refine .runG rfl (yNot rfl) rfl rfl rfl rfl ?_
                        refine .runG rfl (yPickF rfl rfl) rfl rfl rfl rfl ?_
                        refine .run rfl (yPickT rfl rfl) rfl rfl ?_
                        refine .run rfl (yMove rfl) rfl rfl ?_
                        refine .runG rfl (yFieldAddr rfl F23_1) rfl rfl rfl rfl ?_
                        refine .runG rfl (yLoad1 rfl O3 (cOwn 3 rfl rfl)) rfl rfl rfl rfl ?_
                        refine .runG rfl (yFieldAddr rfl F23_1) rfl rfl rfl rfl ?_
                        refine .runG rfl (yLoad1 rfl O3 (cOwn 8 rfl rfl)) rfl rfl rfl rfl ?_
                        refine .runG rfl (yEql rfl rfl) rfl rfl rfl rfl ?_
                        refine .runG rfl (yvFalse (yMove rfl) (h288)) rfl rfl rfl rfl ?_
                        refine .runG rfl (yMove rfl) rfl rfl rfl rfl ?_
                        refine .runG rfl (yLoadA (vs := [_, _]) rfl A23 (cOwn 7 rfl rfl)) rfl rfl rfl rfl ?_
                        refine .runG rfl (yFieldAddr rfl F23_1) rfl rfl rfl rfl ?_
                        refine .runG rfl (yLoad1 rfl O3 (cOwn 3 rfl rfl)) rfl rfl rfl rfl ?_
                        refine .runG rfl (yAdd rfl rfl (by omega)) rfl rfl rfl rfl ?_
                        refine .runG rfl (yFieldAddr rfl F23_1) rfl rfl rfl rfl ?_
                        refine .runG rfl (yLoad1 rfl O3 (cOwn 8 rfl rfl)) rfl rfl rfl rfl ?_
                        refine .runG rfl (yCall rfl (.c rfl (.c rfl .n)) C34 (fun w hw => spanL_any _ _ w)) rfl rfl rfl rfl ?_
                        refine .runG rfl (yCall rfl (.c rfl (.c rfl .n)) C39 (fun w hw => pend_any y p (p.st.getD n star0).e ((starH p n true).hi + 1, (p.st.getD n star0).n.2) n2 n3 n w (hw.blkAt 6 rfl) (hw.blkAt 5 rfl) (hm.eff0 hw) (by omega) hn false ⟨fun h => absurd h (by decide), fun h => absurd h ((hE1.khi h166).resolve_left h288)⟩)) rfl rfl rfl rfl ?_
                        refine .runG rfl (yNot rfl) rfl rfl rfl rfl ?_
                        refine .runG rfl (yPickF rfl rfl) rfl rfl rfl rfl ?_
                        refine .run rfl (yPickT rfl rfl) rfl rfl ?_
                        refine .run rfl (yMove rfl) rfl rfl ?_
                        refine .runG rfl (yCall rfl .n C14 (fun w hw => alive_any w)) rfl rfl rfl rfl ?_
                        refine .run rfl (yPickT rfl rfl) rfl rfl ?_
                        refine .run rfl (yAssign rfl) rfl rfl ?_
                        refine .done ?_
                        refine effDone closedSt (hLeft [1, 3, 19, 21, 38, 40, 44, 46, 48, 50, 51, 57, 59, 63, 65, 68, 69, 70, 75] (by kernel_rfl) (.c (fun _ _ hs => hs.ef) (.c (fun _ _ hs => hs.ef) (.c (fun _ _ hs => hs.ef) (.c (fun _ _ hs => hs.ef) (.c (fun _ _ hs => hs.ef) (.c (fun _ _ hs => hs.ef) (.c (fun _ _ hs => hs.ef) (.c (fun _ _ hs => hs.ef) (.c (fun _ _ hs => hs.ef) (.c (fun _ _ hs => hs.ef) (.c (fun _ _ hs => hs.ef) (.c (fun _ _ hs => hs.ef) (.c (fun _ _ hs => hs.ef) (.c (fun _ _ hs => hs.ef) (.c (fun _ _ hs => hs.ef) (.c (fun _ _ hs => hs.ef) (.c (fun _ _ hs => hs.ef) (.c (fun _ _ hs => hs.ef) (.c (fun _ _ hs => hs.ef) .n)))))))))))))))))))) (by kernel_rfl) ?_
                        refine kThen ?_
                        refine kRet ?_
                        refine kThenR ?_
                        refine fRet rfl (.t rfl .n) (endRet ?_)
                        first | rfl | (simp [packV, *]; done)
                  · by_cases h269 : (starH p n true).lo = (p.st.getD n star0).n.1
                    · by_cases h288 : (starH p n true).hi = (p.st.getD n star0).n.2
                      · refine kDrawE [(1, none), (3, none), (19, none), (21, none), (26, none), (29, none), (30, none), (31, none), (32, none), (38, none), (40, none), (57, none), (59, none), (75, none)] [] [0, 1, 2, 3, 4, 5, 6, 7, 8, 9, 10, 11, 12, 13, 14, 15, 16, 17, 18, 19, 20, 21, 22, 23, 24, 25, 26, 27, 28, 29, 30, 31, 32, 33, 34, 35, 36, 37, 38, 39, 40, 41, 42, 43, 44, 45, 46, 47, 48, 49, 50, 51, 52, 53, 54, 55, 56, 57, 58, 59, 60, 61, 62, 63, 64, 65, 66, 67, 68, 69, 70, 71, 72, 73, 74, 75, 76, 77] 0 hMix (by kernel_rfl) ?_
                        refine .run rfl (yFieldAddr rfl F23_0) rfl rfl ?_
                        refine .run rfl (yLoad1 rfl O3 (cOwn 4 rfl rfl)) rfl rfl ?_
                        refine .run rfl (yFieldAddr rfl F23_0) rfl rfl ?_
                        refine .run rfl (yLoad1 rfl O3 (cOwn 7 rfl rfl)) rfl rfl ?_
                        refine .run rfl (yEql rfl rfl) rfl rfl ?_
                        refine .run rfl (yvTrue (yMove rfl) (h232)) rfl rfl ?_
                        refine .skip rfl rfl rfl rfl rfl rfl ?_
                        refine .skip rfl rfl rfl rfl rfl rfl ?_
                        refine .skip rfl rfl rfl rfl rfl rfl ?_
                        refine .skip rfl rfl rfl rfl rfl rfl ?_
                        refine .skip rfl rfl rfl rfl rfl rfl ?_
                        refine .skip rfl rfl rfl rfl rfl rfl ?_
                        refine .skip rfl rfl rfl rfl rfl rfl ?_
                        refine .skip rfl rfl rfl rfl rfl rfl ?_
                        refine .skip rfl rfl rfl rfl rfl rfl ?_
                        refine .skip rfl rfl rfl rfl rfl rfl ?_
                        refine .run rfl (yPickT rfl rfl) rfl rfl ?_
                        refine .run rfl (yMove rfl) rfl rfl ?_
                        refine .runG rfl (yFieldAddr rfl F23_1) rfl rfl rfl rfl ?_
                        refine .runG rfl (yLoad1 rfl O3 (cOwn 4 rfl rfl)) rfl rfl rfl rfl ?_
                        refine .runG rfl (yFieldAddr rfl F23_1) rfl rfl rfl rfl ?_
                        refine .runG rfl (yLoad1 rfl O3 (cOwn 7 rfl rfl)) rfl rfl rfl rfl ?_
                        refine .runG rfl (yEql rfl rfl) rfl rfl rfl rfl ?_
                        refine .runG rfl (yvFalse (yMove rfl) (h250)) rfl rfl rfl rfl ?_
                        refine .runG rfl (yMove rfl) rfl rfl rfl rfl ?_
                        refine .runG rfl (yFieldAddr rfl F23_1) rfl rfl rfl rfl ?_
                        refine .runG rfl (yLoad1 rfl O3 (cOwn 4 rfl rfl)) rfl rfl rfl rfl ?_
                        refine .runG rfl (yAdd rfl rfl (by omega)) rfl rfl rfl rfl ?_
                        refine .runG rfl (yFieldAddr rfl F23_1) rfl rfl rfl rfl ?_
                        refine .runG rfl (yLoad1 rfl O3 (cOwn 7 rfl rfl)) rfl rfl rfl rfl ?_
                        refine .runG rfl (yCall rfl (.c rfl (.c rfl .n)) C34 (fun w hw => spanL_any _ _ w)) rfl rfl rfl rfl ?_
                        refine .runG rfl (yLoadA (vs := [_, _]) rfl A23 (cOwn 8 rfl rfl)) rfl rfl rfl rfl ?_
                        refine .runG rfl (yCall rfl (.c rfl (.c rfl .n)) C39 (fun w hw => pend_any y p ((starH p n false).hi + 1, (p.st.getD n star0).e.2) (p.st.getD n star0).n n2 n3 n w (hw.blkAt 6 rfl) (hw.blkAt 5 rfl) (hm.eff0 hw) (by omega) hn false ⟨fun h => absurd h (by decide), fun h => absurd h ((hE0.khi h166).resolve_left h250)⟩)) rfl rfl rfl rfl ?_
                        refine .runG rfl (yNot rfl) rfl rfl rfl rfl ?_
                        refine .runG rfl (yPickF rfl rfl) rfl rfl rfl rfl ?_
                        refine .run rfl (yPickT rfl rfl) rfl rfl ?_
                        refine .run rfl (yMove rfl) rfl rfl ?_
                        refine .runG rfl (yFieldAddr rfl F23_0) rfl rfl rfl rfl ?_
                        refine .runG rfl (yLoad1 rfl O3 (cOwn 3 rfl rfl)) rfl rfl rfl rfl ?_
                        refine .runG rfl (yFieldAddr rfl F23_0) rfl rfl rfl rfl ?_
                        refine .runG rfl (yLoad1 rfl O3 (cOwn 8 rfl rfl)) rfl rfl rfl rfl ?_
                        refine .runG rfl (yEql rfl rfl) rfl rfl rfl rfl ?_
                        refine .runG rfl (yvTrue (yMove rfl) (h269)) rfl rfl rfl rfl ?_
                        refine .skip rfl rfl rfl rfl rfl rfl ?_
                        refine .skip rfl rfl rfl rfl rfl rfl ?_
                        refine .skip rfl rfl rfl rfl rfl rfl ?_
                        refine .skip rfl rfl rfl rfl rfl rfl ?_
                        refine .skip rfl rfl rfl rfl rfl rfl ?_
                        refine .skip rfl rfl rfl rfl rfl rfl ?_
                        refine .skip rfl rfl rfl rfl rfl rfl ?_
                        refine .skip rfl rfl rfl rfl rfl rfl ?_
                        refine .skip rfl rfl rfl rfl rfl rfl ?_
                        refine .skip rfl rfl rfl rfl rfl rfl ?_
                        refine .runG rfl (yPickT rfl rfl) rfl rfl rfl rfl ?_
                        refine .run rfl (yPickT rfl rfl) rfl rfl ?_
                        refine .run rfl (yMove rfl) rfl rfl ?_
                        refine .runG rfl (yFieldAddr rfl F23_1) rfl rfl rfl rfl ?_
                        refine .runG rfl (yLoad1 rfl O3 (cOwn 3 rfl rfl)) rfl rfl rfl rfl ?_
                        refine .runG rfl (yFieldAddr rfl F23_1) rfl rfl rfl rfl ?_
                        refine .runG rfl (yLoad1 rfl O3 (cOwn 8 rfl rfl)) rfl rfl rfl rfl ?_
                        refine .runG rfl (yEql rfl rfl) rfl rfl rfl rfl ?_
                        refine .runG rfl (yvTrue (yMove rfl) (h288)) rfl rfl rfl rfl ?_
                        refine .skip rfl rfl rfl rfl rfl rfl ?_
                        refine .skip rfl rfl rfl rfl rfl rfl ?_
                        refine .skip rfl rfl rfl rfl rfl rfl ?_
                        refine .skip rfl rfl rfl rfl rfl rfl ?_
                        refine .skip rfl rfl rfl rfl rfl rfl ?_
                        refine .skip rfl rfl rfl rfl rfl rfl ?_
                        refine .skip rfl rfl rfl rfl rfl rfl ?_
                        refine .skip rfl rfl rfl rfl rfl rfl ?_
                        refine .skip rfl rfl rfl rfl rfl rfl ?_
                        refine .skip rfl rfl rfl rfl rfl rfl ?_
                        refine .runG rfl (yPickT rfl rfl) rfl rfl rfl rfl ?_
                        refine .run rfl (yPickT rfl rfl) rfl rfl ?_
                        refine .run rfl (yMove rfl) rfl rfl ?_
                        refine .runG rfl (yCall rfl .n C14 (fun w hw => alive_any w)) rfl rfl rfl rfl ?_
                        refine .run rfl (yPickT rfl rfl) rfl rfl ?_
                        refine .run rfl (yAssign rfl) rfl rfl ?_
                        refine .done ?_
                        refine effDone closedSt (hLeft [1, 3, 19, 21, 26, 29, 30, 31, 32, 38, 40, 57, 59, 75] (by kernel_rfl) (.c (fun _ _ hs => hs.ef) (.c (fun _ _ hs => hs.ef) (.c (fun _ _ hs => hs.ef) (.c (fun _ _ hs => hs.ef) (.c (fun _ _ hs => hs.ef) (.c (fun _ _ hs => hs.ef) (.c (fun _ _ hs => hs.ef) (.c (fun _ _ hs => hs.ef) (.c (fun _ _ hs => hs.ef) (.c (fun _ _ hs => hs.ef) (.c (fun _ _ hs => hs.ef) (.c (fun _ _ hs => hs.ef) (.c (fun _ _ hs => hs.ef) (.c (fun _ _ hs => hs.ef) .n))))))))))))))) (by kernel_rfl) ?_
                        refine kThen ?_
                        refine kRet ?_
                        refine kThenR ?_
                        refine fRet rfl (.t rfl .n) (endRet ?_)
                        first | rfl | (simp [packV, *]; done)
                      · refine kDrawE [(1, none), (3, none), (19, none), (21, none), (26, none), (29, none), (30, none), (31, none), (32, none), (38, none), (40, none), (57, none), (59, none), (63, none), (65, none), (68, none), (69, none), (70, none), (75, none)] [] [0, 1, 2, 3, 4, 5, 6, 7, 8, 9, 10, 11, 12, 13, 14, 15, 16, 17, 18, 19, 20, 21, 22, 23, 24, 25, 26, 27, 28, 29, 30, 31, 32, 33, 34, 35, 36, 37, 38, 39, 40, 41, 42, 43, 44, 45, 46, 47, 48, 49, 50, 51, 52, 53, 54, 55, 56, 57, 58, 59, 60, 61, 62, 63, 64, 65, 66, 67, 68, 69, 70, 71, 72, 73, 74, 75, 76, 77] 0 hMix (by kernel_rfl) ?_
                        refine .run rfl (yFieldAddr rfl F23_0) rfl rfl ?_
                        refine .run rfl (yLoad1 rfl O3 (cOwn 4 rfl rfl)) rfl rfl ?_
                        refine .run rfl (yFieldAddr rfl F23_0) rfl rfl ?_
                        refine .run rfl (yLoad1 rfl O3 (cOwn 7 rfl rfl)) rfl rfl ?_
                        refine .run rfl (yEql rfl rfl) rfl rfl ?_
                        refine .run rfl (yvTrue (yMove rfl) (h232)) rfl rfl ?_
                        refine .skip rfl rfl rfl rfl rfl rfl ?_
                        refine .skip rfl rfl rfl rfl rfl rfl ?_
                        refine .skip rfl rfl rfl rfl rfl rfl ?_
                        refine .skip rfl rfl rfl rfl rfl rfl ?_
                        refine .skip rfl rfl rfl rfl rfl rfl ?_
                        refine .skip rfl rfl rfl rfl rfl rfl ?_
                        refine .skip rfl rfl rfl rfl rfl rfl ?_
                        refine .skip rfl rfl rfl rfl rfl rfl ?_
                        refine .skip rfl rfl rfl rfl rfl rfl ?_
                        refine .skip rfl rfl rfl rfl rfl rfl ?_
                        refine .run rfl (yPickT rfl rfl) rfl rfl ?_
                        refine .run rfl (yMove rfl) rfl rfl ?_
                        refine .runG rfl (yFieldAddr rfl F23_1) rfl rfl rfl rfl ?_
                        refine .runG rfl (yLoad1 rfl O3 (cOwn 4 rfl rfl)) rfl rfl rfl rfl ?_
                        refine .runG rfl (yFieldAddr rfl F23_1) rfl rfl rfl rfl ?_
                        refine .runG rfl (yLoad1 rfl O3 (cOwn 7 rfl rfl)) rfl rfl rfl rfl ?_
                        refine .runG rfl (yEql rfl rfl) rfl rfl rfl rfl ?_
                        refine .runG rfl (yvFalse (yMove rfl) (h250)) rfl rfl rfl rfl ?_
                        refine .runG rfl (yMove rfl) rfl rfl rfl rfl ?_
                        refine .runG rfl (yFieldAddr rfl F23_1) rfl rfl rfl rfl ?_
                        refine .runG rfl (yLoad1 rfl O3 (cOwn 4 rfl rfl)) rfl rfl rfl rfl ?_
                        refine .runG rfl (yAdd rfl rfl (by omega)) rfl rfl rfl rfl ?_
                        refine .runG rfl (yFieldAddr rfl F23_1) rfl rfl rfl rfl ?_
                        refine .runG rfl (yLoad1 rfl O3 (cOwn 7 rfl rfl)) rfl rfl rfl rfl ?_
                        refine .runG rfl (yCall rfl (.c rfl (.c rfl .n)) C34 (fun w hw => spanL_any _ _ w)) rfl rfl rfl rfl ?_
                        refine .runG rfl (yLoadA (vs := [_, _]) rfl A23 (cOwn 8 rfl rfl)) rfl rfl rfl rfl ?_
                        refine .runG rfl (yCall rfl (.c rfl (.c rfl .n)) C39 (fun w hw => pend_any y p ((starH p n false).hi + 1, (p.st.getD n star0).e.2) (p.st.getD n star0).n n2 n3 n w (hw.blkAt 6 rfl) (hw.blkAt 5 rfl) (hm.eff0 hw) (by omega) hn false ⟨fun h => absurd h (by decide), fun h => absurd h ((hE0.khi h166).resolve_left h250)⟩)) rfl rfl rfl rfl ?_
                        refine .runG rfl (yNot rfl) rfl rfl rfl rfl ?_
                        refine .runG rfl (yPickF rfl rfl) rfl rfl rfl rfl ?_
                        refine .run rfl (yPickT rfl rfl) rfl rfl ?_
                        refine .run rfl (yMove rfl) rfl rfl ?_
                        refine .runG rfl (yFieldAddr rfl F23_0) rfl rfl rfl rfl ?_
                        refine .runG rfl (yLoad1 rfl O3 (cOwn 3 rfl rfl)) rfl rfl rfl rfl ?_
                        refine .runG rfl (yFieldAddr rfl F23_0) rfl rfl rfl rfl ?_
                        refine .runG rfl (yLoad1 rfl O3 (cOwn 8 rfl rfl)) rfl rfl rfl rfl ?_
                        refine .runG rfl (yEql rfl rfl) rfl rfl rfl rfl ?_
                        refine .runG rfl (yvTrue (yMove rfl) (h269)) rfl rfl rfl rfl ?_
                        refine .skip rfl rfl rfl rfl rfl rfl ?_
                        refine .skip rfl rfl rfl rfl rfl rfl ?_
                        refine .skip rfl rfl rfl rfl rfl rfl ?_
                        refine .skip rfl rfl rfl rfl rfl rfl ?_
                        refine .skip rfl rfl rfl rfl rfl rfl ?_
                        refine .skip rfl rfl rfl rfl rfl rfl ?_
                        refine .skip rfl rfl rfl rfl rfl rfl ?_
                        refine .skip rfl rfl rfl rfl rfl rfl ?_
                        refine .skip rfl rfl rfl rfl rfl rfl ?_
                        refine .skip rfl rfl rfl rfl rfl rfl ?_
                        refine .runG rfl (yPickT rfl rfl) rfl rfl rfl rfl ?_
                        refine .run rfl (yPickT rfl rfl) rfl rfl ?_
                        refine .run rfl (yMove rfl) rfl rfl ?_
                        refine .runG rfl (yFieldAddr rfl F23_1) rfl rfl rfl rfl ?_
                        refine .runG rfl (yLoad1 rfl O3 (cOwn 3 rfl rfl)) rfl rfl rfl rfl ?_
                        refine .runG rfl (yFieldAddr rfl F23_1) rfl rfl rfl rfl ?_
                        refine .runG rfl (yLoad1 rfl O3 (cOwn 8 rfl rfl)) rfl rfl rfl rfl ?_
                        refine .runG rfl (yEql rfl rfl) rfl rfl rfl rfl ?_
                        refine .runG rfl (yvFalse (yMove rfl) (h288)) rfl rfl rfl rfl ?_
                        refine .runG rfl (yMove rfl) rfl rfl rfl rfl ?_
                        refine .runG rfl (yLoadA (vs := [_, _]) rfl A23 (cOwn 7 rfl rfl)) rfl rfl rfl rfl ?_
                        refine .runG rfl (yFieldAddr rfl F23_1) rfl rfl rfl rfl ?_
                        refine .runG rfl (yLoad1 rfl O3 (cOwn 3 rfl rfl)) rfl rfl rfl rfl ?_
                        refine .runG rfl (yAdd rfl rfl (by omega)) rfl rfl rfl rfl ?_
                        refine .runG rfl (yFieldAddr rfl F23_1) rfl rfl rfl rfl ?_
                        refine .runG rfl (yLoad1 rfl O3 (cOwn 8 rfl rfl)) rfl rfl rfl rfl ?_
                        refine .runG rfl (yCall rfl (.c rfl (.c rfl .n)) C34 (fun w hw => spanL_any _ _ w)) rfl rfl rfl rfl ?_
                        refine .runG rfl (yCall rfl (.c rfl (.c rfl .n)) C39 (fun w hw => pend_any y p (p.st.getD n star0).e ((starH p n true).hi + 1, (p.st.getD n star0).n.2) n2 n3 n w (hw.blkAt 6 rfl) (hw.blkAt 5 rfl) (hm.eff0 hw) (by omega) hn false ⟨fun h => absurd h (by decide), fun h => absurd h ((hE1.khi h166).resolve_left h288)⟩)) rfl rfl rfl rfl ?_
                        refine .runG rfl (yNot rfl) rfl rfl rfl rfl ?_
                        refine .runG rfl (yPickF rfl rfl) rfl rfl rfl rfl ?_
                        refine .run rfl (yPickT rfl rfl) rfl rfl ?_
                        refine .run rfl (yMove rfl) rfl rfl ?_
                        refine .runG rfl (yCall rfl .n C14 (fun w hw => alive_any w)) rfl rfl rfl rfl ?_
                        refine .run rfl (yPickT rfl rfl) rfl rfl ?_
                        refine .run rfl (yAssign rfl) rfl rfl ?_
                        refine .done ?_
                        refine effDone closedSt (hLeft [1, 3, 19, 21, 26, 29, 30, 31, 32, 38, 40, 57, 59, 63, 65, 68, 69, 70, 75] (by kernel_rfl) (.c (fun _ _ hs => hs.ef) (.c (fun _ _ hs => hs.ef) (.c (fun _ _ hs => hs.ef) (.c (fun _ _ hs => hs.ef) (.c (fun _ _ hs => hs.ef) (.c (fun _ _ hs => hs.ef) (.c (fun _ _ hs => hs.ef) (.c (fun _ _ hs => hs.ef) (.c (fun _ _ hs => hs.ef) (.c (fun _ _ hs => hs.ef) (.c (fun _ _ hs => hs.ef) (.c (fun _ _ hs => hs.ef) (.c (fun _ _ hs => hs.ef) (.c (fun _ _ hs => hs.ef) (.c (fun _ _ hs => hs.ef) (.c (fun _ _ hs => hs.ef) (.c (fun _ _ hs => hs.ef) (.c (fun _ _ hs => hs.ef) (.c (fun _ _ hs => hs.ef) .n)))))))))))))))))))) (by kernel_rfl) ?_
                        refine kThen ?_
                        refine kRet ?_
                        refine kThenR ?_
                        refine fRet rfl (.t rfl .n) (endRet ?_)
                        first | rfl | (simp [packV, *]; done)
                    · by_cases h288 : (starH p n true).hi = (p.st.getD n star0).n.2
                      · refine kDrawE [(1, none), (3, none), (19, none), (21, none), (26, none), (29, none), (30, none), (31, none), (32, none), (38, none), (40, none), (44, none), (46, none), (48, none), (50, none), (51, none), (57, none), (59, none), (75, none)] [] [0, 1, 2, 3, 4, 5, 6, 7, 8, 9, 10, 11, 12, 13, 14, 15, 16, 17, 18, 19, 20, 21, 22, 23, 24, 25, 26, 27, 28, 29, 30, 31, 32, 33, 34, 35, 36, 37, 38, 39, 40, 41, 42, 43, 44, 45, 46, 47, 48, 49, 50, 51, 52, 53, 54, 55, 56, 57, 58, 59, 60, 61, 62, 63, 64, 65, 66, 67, 68, 69, 70, 71, 72, 73, 74, 75, 76, 77] 0 hMix (by kernel_rfl) ?_
                        refine .run rfl (yFieldAddr rfl F23_0) rfl rfl ?_
                        refine .run rfl (yLoad1 rfl O3 (cOwn 4 rfl rfl)) rfl rfl ?_
                        refine .run rfl (yFieldAddr rfl F23_0) rfl rfl ?_
                        refine .run rfl (yLoad1 rfl O3 (cOwn 7 rfl rfl)) rfl rfl ?_
                        refine .run rfl (yEql rfl rfl) rfl rfl ?_
                        refine .run rfl (yvTrue (yMove rfl) (h232)) rfl rfl ?_
                        refine .skip rfl rfl rfl rfl rfl rfl ?_
                        refine .skip rfl rfl rfl rfl rfl rfl ?_
                        refine .skip rfl rfl rfl rfl rfl rfl ?_
                        refine .skip rfl rfl rfl rfl rfl rfl ?_
                        refine .skip rfl rfl rfl rfl rfl rfl ?_
                        refine .skip rfl rfl rfl rfl rfl rfl ?_
                        refine .skip rfl rfl rfl rfl rfl rfl ?_
                        refine .skip rfl rfl rfl rfl rfl rfl ?_
                        refine .skip rfl rfl rfl rfl rfl rfl ?_
                        refine .skip rfl rfl rfl rfl rfl rfl ?_
                        refine .run rfl (yPickT rfl rfl) rfl rfl ?_
                        refine .run rfl (yMove rfl) rfl rfl ?_
                        refine .runG rfl (yFieldAddr rfl F23_1) rfl rfl rfl rfl ?_
                        refine .runG rfl (yLoad1 rfl O3 (cOwn 4 rfl rfl)) rfl rfl rfl rfl ?_
                        refine .runG rfl (yFieldAddr rfl F23_1) rfl rfl rfl rfl ?_
                        refine .runG rfl (yLoad1 rfl O3 (cOwn 7 rfl rfl)) rfl rfl rfl rfl ?_
                        refine .runG rfl (yEql rfl rfl) rfl rfl rfl rfl ?_
                        refine .runG rfl (yvFalse (yMove rfl) (h250)) rfl rfl rfl rfl ?_
                        refine .runG rfl (yMove rfl) rfl rfl rfl rfl ?_
                        refine .runG rfl (yFieldAddr rfl F23_1) rfl rfl rfl rfl ?_
                        refine .runG rfl (yLoad1 rfl O3 (cOwn 4 rfl rfl)) rfl rfl rfl rfl ?_
                        refine .runG rfl (yAdd rfl rfl (by omega)) rfl rfl rfl rfl ?_
                        refine .runG rfl (yFieldAddr rfl F23_1) rfl rfl rfl rfl ?_
                        refine .runG rfl (yLoad1 rfl O3 (cOwn 7 rfl rfl)) rfl rfl rfl rfl ?_
                        refine .runG rfl (yCall rfl (.c rfl (.c rfl .n)) C34 (fun w hw => spanL_any _ _ w)) rfl rfl rfl rfl ?_
                        refine .runG rfl (yLoadA (vs := [_, _]) rfl A23 (cOwn 8 rfl rfl)) rfl rfl rfl rfl ?_
                        refine .runG rfl (yCall rfl (.c rfl (.c rfl .n)) C39 (fun w hw => pend_any y p ((starH p n false).hi + 1, (p.st.getD n star0).e.2) (p.st.getD n star0).n n2 n3 n w (hw.blkAt 6 rfl) (hw.blkAt 5 rfl) (hm.eff0 hw) (by omega) hn false ⟨fun h => absurd h (by decide), fun h => absurd h ((hE0.khi h166).resolve_left h250)⟩)) rfl rfl rfl rfl ?_
                        refine .runG rfl (yNot rfl) rfl rfl rfl rfl ?_
                        refine .runG rfl (yPickF rfl rfl) rfl rfl rfl rfl ?_
                        refine .run rfl (yPickT rfl rfl) rfl rfl ?_
                        refine .run rfl (yMove rfl) rfl rfl ?_
                        refine .runG rfl (yFieldAddr rfl F23_0) rfl rfl rfl rfl ?_
                        refine .runG rfl (yLoad1 rfl O3 (cOwn 3 rfl rfl)) rfl rfl rfl rfl ?_
                        refine .runG rfl (yFieldAddr rfl F23_0) rfl rfl rfl rfl ?_
                        refine .runG rfl (yLoad1 rfl O3 (cOwn 8 rfl rfl)) rfl rfl rfl rfl ?_
                        refine .runG rfl (yEql rfl rfl) rfl rfl rfl rfl ?_
                        refine .runG rfl (yvFalse (yMove rfl) (h269)) rfl rfl rfl rfl ?_
                        refine .runG rfl (yMove rfl) rfl rfl rfl rfl ?_
                        refine .runG rfl (yLoadA (vs := [_, _]) rfl A23 (cOwn 7 rfl rfl)) rfl rfl rfl rfl ?_
                        refine .runG rfl (yFieldAddr rfl F23_0) rfl rfl rfl rfl ?_
                        refine .runG rfl (yLoad1 rfl O3 (cOwn 8 rfl rfl)) rfl rfl rfl rfl ?_
                        refine .runG rfl (yFieldAddr rfl F23_0) rfl rfl rfl rfl ?_
                        refine .runG rfl (yLoad1 rfl O3 (cOwn 3 rfl rfl)) rfl rfl rfl rfl ?_
                        refine .runG rfl (ySub rfl rfl (by omega)) rfl rfl rfl rfl ?_
                        refine .runG rfl (yCall rfl (.c rfl (.c rfl .n)) C34 (fun w hw => spanL_any _ _ w)) rfl rfl rfl rfl ?_
                        refine .runG rfl (yCall rfl (.c rfl (.c rfl .n)) C39 (fun w hw => pend_any y p (p.st.getD n star0).e ((p.st.getD n star0).n.1, (starH p n true).lo - 1) n2 n3 n w (hw.blkAt 6 rfl) (hw.blkAt 5 rfl) (hm.eff0 hw) (by omega) hn false ⟨fun h => absurd h (by decide), fun h => absurd h ((hE1.klo h166).resolve_left h269)⟩)) rfl rfl rfl rfl ?_
                        refine .runG rfl (yNot rfl) rfl rfl rfl rfl ?_
                        refine .runG rfl (yPickF rfl rfl) rfl rfl rfl rfl ?_
                        refine .run rfl (yPickT rfl rfl) rfl rfl ?_
                        refine .run rfl (yMove rfl) rfl rfl ?_
                        refine .runG rfl (yFieldAddr rfl F23_1) rfl rfl rfl rfl ?_
                        refine .runG rfl (yLoad1 rfl O3 (cOwn 3 rfl rfl)) rfl rfl rfl rfl ?_
                        refine .runG rfl (yFieldAddr rfl F23_1) rfl rfl rfl rfl ?_
                        refine .runG rfl (yLoad1 rfl O3 (cOwn 8 rfl rfl)) rfl rfl rfl rfl ?_
                        refine .runG rfl (yEql rfl rfl) rfl rfl rfl rfl ?_
                        refine .runG rfl (yvTrue (yMove rfl) (h288)) rfl rfl rfl rfl ?_
                        refine .skip rfl rfl rfl rfl rfl rfl ?_
                        refine .skip rfl rfl rfl rfl rfl rfl ?_
                        refine .skip rfl rfl rfl rfl rfl rfl ?_
                        refine .skip rfl rfl rfl rfl rfl rfl ?_
                        refine .skip rfl rfl rfl rfl rfl rfl ?_
                        refine .skip rfl rfl rfl rfl rfl rfl ?_
                        refine .skip rfl rfl rfl rfl rfl rfl ?_
                        refine .skip rfl rfl rfl rfl rfl rfl ?_
                        refine .skip rfl rfl rfl rfl rfl rfl ?_
                        refine .skip rfl rfl rfl rfl rfl rfl ?_
                        refine .runG rfl (yPickT rfl rfl) rfl rfl rfl rfl ?_
                        refine .run rfl (yPickT rfl rfl) rfl rfl ?_
                        refine .run rfl (yMove rfl) rfl rfl ?_
                        refine .runG rfl (yCall rfl .n C14 (fun w hw => alive_any w)) rfl rfl rfl rfl ?_
                        refine .run rfl (yPickT rfl rfl) rfl rfl ?_
                        refine .run rfl (yAssign rfl) rfl rfl ?_
                        refine .done ?_
                        refine effDone closedSt (hLeft [1, 3, 19, 21, 26, 29, 30, 31, 32, 38, 40, 44, 46, 48, 50, 51, 57, 59, 75] (by kernel_rfl) (.c (fun _ _ hs => hs.ef) (.c (fun _ _ hs => hs.ef) (.c (fun _ _ hs => hs.ef) (.c (fun _ _ hs => hs.ef) (.c (fun _ _ hs => hs.ef) (.c (fun _ _ hs => hs.ef) (.c (fun _ _ hs => hs.ef) (.c (fun _ _ hs => hs.ef) (.c (fun _ _ hs => hs.ef) (.c (fun _ _ hs => hs.ef) (.c (fun _ _ hs => hs.ef) (.c (fun _ _ hs => hs.ef) (.c (fun _ _ hs => hs.ef) (.c (fun _ _ hs => hs.ef) (.c (fun _ _ hs => hs.ef) (.c (fun _ _ hs => hs.ef) (.c (fun _ _ hs => hs.ef) (.c (fun _ _ hs => hs.ef) (.c (fun _ _ hs => hs.ef) .n)))))))))))))))))))) (by kernel_rfl) ?_
                        refine kThen ?_
                        refine kRet ?_
                        refine kThenR ?_
                        refine fRet rfl (.t rfl .n) (endRet ?_)
                        first | rfl | (simp [packV, *]; done)
                      · refine kDrawE [(1, none), (3, none), (19, none), (21, none), (26, none), (29, none), (30, none), (31, none), (32, none), (38, none), (40, none), (44, none), (46, none), (48, none), (50, none), (51, none), (57, none), (59, none), (63, none), (65, none), (68, none), (69, none), (70, none), (75, none)] [] [0, 1, 2, 3, 4, 5, 6, 7, 8, 9, 10, 11, 12, 13, 14, 15, 16, 17, 18, 19, 20, 21, 22, 23, 24, 25, 26, 27, 28, 29, 30, 31, 32, 33, 34, 35, 36, 37, 38, 39, 40, 41, 42, 43, 44, 45, 46, 47, 48, 49, 50, 51, 52, 53, 54, 55, 56, 57, 58, 59, 60, 61, 62, 63, 64, 65, 66, 67, 68, 69, 70, 71, 72, 73, 74, 75, 76, 77] 0 hMix (by kernel_rfl) ?_
                        refine .run rfl (yFieldAddr rfl F23_0) rfl rfl ?_
                        refine .run rfl (yLoad1 rfl O3 (cOwn 4 rfl rfl)) rfl rfl ?_
                        refine .run rfl (yFieldAddr rfl F23_0) rfl rfl ?_
                        refine .run rfl (yLoad1 rfl O3 (cOwn 7 rfl rfl)) rfl rfl ?_
                        refine .run rfl (yEql rfl rfl) rfl rfl ?_
                        refine .run rfl (yvTrue (yMove rfl) (h232)) rfl rfl ?_
                        refine .skip rfl rfl rfl rfl rfl rfl ?_
                        refine .skip rfl rfl rfl rfl rfl rfl ?_
                        refine .skip rfl rfl rfl rfl rfl rfl ?_
                        refine .skip rfl rfl rfl rfl rfl rfl ?_
                        refine .skip rfl rfl rfl rfl rfl rfl ?_
                        refine .skip rfl rfl rfl rfl rfl rfl ?_
                        refine .skip rfl rfl rfl rfl rfl rfl ?_
                        refine .skip rfl rfl rfl rfl rfl rfl ?_
                        refine .skip rfl rfl rfl rfl rfl rfl ?_
                        refine .skip rfl rfl rfl rfl rfl rfl ?_
                        refine .run rfl (yPickT rfl rfl) rfl rfl ?_
                        refine .run rfl (yMove rfl) rfl rfl ?_
                        refine .runG rfl (yFieldAddr rfl F23_1) rfl rfl rfl rfl ?_
                        refine .runG rfl (yLoad1 rfl O3 (cOwn 4 rfl rfl)) rfl rfl rfl rfl ?_
                        refine .runG rfl (yFieldAddr rfl F23_1) rfl rfl rfl rfl ?_
                        refine .runG rfl (yLoad1 rfl O3 (cOwn 7 rfl rfl)) rfl rfl rfl rfl ?_
                        refine .runG rfl (yEql rfl rfl) rfl rfl rfl rfl ?_
                        refine .runG rfl (yvFalse (yMove rfl) (h250)) rfl rfl rfl rfl ?_
                        refine .runG rfl (yMove rfl) rfl rfl rfl rfl ?_
                        refine .runG rfl (yFieldAddr rfl F23_1) rfl rfl rfl rfl ?_
                        refine .runG rfl (yLoad1 rfl O3 (cOwn 4 rfl rfl)) rfl rfl rfl rfl ?_
                        refine .runG rfl (yAdd rfl rfl (by omega)) rfl rfl rfl rfl ?_
                        refine .runG rfl (yFieldAddr rfl F23_1) rfl rfl rfl rfl ?_
                        refine .runG rfl (yLoad1 rfl O3 (cOwn 7 rfl rfl)) rfl rfl rfl rfl ?_
                        refine .runG rfl (yCall rfl (.c rfl (.c rfl .n)) C34 (fun w hw => spanL_any _ _ w)) rfl rfl rfl rfl ?_
                        refine .runG rfl (yLoadA (vs := [_, _]) rfl A23 (cOwn 8 rfl rfl)) rfl rfl rfl rfl ?_
                        refine .runG rfl (yCall rfl (.c rfl (.c rfl .n)) C39 (fun w hw => pend_any y p ((starH p n false).hi + 1, (p.st.getD n star0).e.2) (p.st.getD n star0).n n2 n3 n w (hw.blkAt 6 rfl) (hw.blkAt 5 rfl) (hm.eff0 hw) (by omega) hn false ⟨fun h => absurd h (by decide), fun h => absurd h ((hE0.khi h166).resolve_left h250)⟩)) rfl rfl rfl rfl ?_
                        refine .runG rfl (yNot rfl) rfl rfl rfl rfl ?_
                        refine .runG rfl (yPickF rfl rfl) rfl rfl rfl rfl ?_
                        refine .run rfl (yPickT rfl rfl) rfl rfl ?_
                        refine .run rfl (yMove rfl) rfl rfl ?_
                        refine .runG rfl (yFieldAddr rfl F23_0) rfl rfl rfl rfl ?_
                        refine .runG rfl (yLoad1 rfl O3 (cOwn 3 rfl rfl)) rfl rfl rfl rfl ?_
                        refine .runG rfl (yFieldAddr rfl F23_0) rfl rfl rfl rfl ?_
                        refine .runG rfl (yLoad1 rfl O3 (cOwn 8 rfl rfl)) rfl rfl rfl rfl ?_
                        refine .runG rfl (yEql rfl rfl) rfl rfl rfl rfl ?_
                        refine .runG rfl (yvFalse (yMove rfl) (h269)) rfl rfl rfl rfl ?_
                        refine .runG rfl (yMove rfl) rfl rfl rfl rfl ?_
                        refine .runG rfl (yLoadA (vs := [_, _]) rfl A23 (cOwn 7 rfl rfl)) rfl rfl rfl rfl ?_
                        refine .runG rfl (yFieldAddr rfl F23_0) rfl rfl rfl rfl ?_
                        refine .runG rfl (yLoad1 rfl O3 (cOwn 8 rfl rfl)) rfl rfl rfl rfl ?_
                        refine .runG rfl (yFieldAddr rfl F23_0) rfl rfl rfl rfl ?_
                        refine .runG rfl (yLoad1 rfl O3 (cOwn 3 rfl rfl)) rfl rfl rfl rfl ?_
                        refine .runG rfl (ySub rfl rfl (by omega)) rfl rfl rfl rfl ?_
                        refine .runG rfl (yCall rfl (.c rfl (.c rfl .n)) C34 (fun w hw => spanL_any _ _ w)) rfl rfl rfl rfl ?_
                        refine .runG rfl (yCall rfl (.c rfl (.c rfl .n)) C39 (fun w hw => pend_any y p (p.st.getD n star0).e ((p.st.getD n star0).n.1, (starH p n true).lo - 1) n2 n3 n w (hw.blkAt 6 rfl) (hw.blkAt 5 rfl) (hm.eff0 hw) (by omega) hn false ⟨fun h => absurd h (by decide), fun h => absurd h ((hE1.klo h166).resolve_left h269)⟩)) rfl rfl rfl rfl ?_
                        refine .runG rfl (yNot rfl) rfl rfl rfl rfl ?_
                        refine .runG rfl (yPickF rfl rfl) rfl rfl rfl rfl ?_
                        refine .run rfl (yPickT rfl rfl) rfl rfl ?_
                        refine .run rfl (yMove rfl) rfl rfl ?_
                        refine .runG rfl (yFieldAddr rfl F23_1) rfl rfl rfl rfl ?_
                        refine .runG rfl (yLoad1 rfl O3 (cOwn 3 rfl rfl)) rfl rfl rfl rfl ?_
                        refine .runG rfl (yFieldAddr rfl F23_1) rfl rfl rfl rfl ?_
                        refine .runG rfl (yLoad1 rfl O3 (cOwn 8 rfl rfl)) rfl rfl rfl rfl ?_
                        refine .runG rfl (yEql rfl rfl) rfl rfl rfl rfl ?_
                        refine .runG rfl (yvFalse (yMove rfl) (h288)) rfl rfl rfl rfl ?_
                        refine .runG rfl (yMove rfl) rfl rfl rfl rfl ?_
                        refine .runG rfl (yLoadA (vs := [_, _]) rfl A23 (cOwn 7 rfl rfl)) rfl rfl rfl rfl ?_
                        refine .runG rfl (yFieldAddr rfl F23_1) rfl rfl rfl rfl ?_
                        refine .runG rfl (yLoad1 rfl O3 (cOwn 3 rfl rfl)) rfl rfl rfl rfl ?_
                        refine .runG rfl (yAdd rfl rfl (by omega)) rfl rfl rfl rfl ?_
                        refine .runG rfl (yFieldAddr rfl F23_1) rfl rfl rfl rfl ?_
                        refine .runG rfl (yLoad1 rfl O3 (cOwn 8 rfl rfl)) rfl rfl rfl rfl ?_
                        refine .runG rfl (yCall rfl (.c rfl (.c rfl .n)) C34 (fun w hw => spanL_any _ _ w)) rfl rfl rfl rfl ?_
                        refine .runG rfl (yCall rfl (.c rfl (.c rfl .n)) C39 (fun w hw => pend_any y p (p.st.getD n star0).e ((starH p n true).hi + 1, (p.st.getD n star0).n.2) n2 n3 n w (hw.blkAt 6 rfl) (hw.blkAt 5 rfl) (hm.eff0 hw) (by omega) hn false ⟨fun h => absurd h (by decide), fun h => absurd h ((hE1.khi h166).resolve_left h288)⟩)) rfl rfl rfl rfl ?_
                        refine .runG rfl (yNot rfl) rfl rfl rfl rfl ?_
                        refine .runG rfl (yPickF rfl rfl) rfl rfl rfl rfl ?_
                        refine .run rfl (yPickT rfl rfl) rfl rfl ?_
                        refine .run rfl (yMove rfl) rfl rfl ?_
                        refine .runG rfl (yCall rfl .n C14 (fun w hw => alive_any w)) rfl rfl rfl rfl ?_
                        refine .run rfl (yPickT rfl rfl) rfl rfl ?_
                        refine .run rfl (yAssign rfl) rfl rfl ?_
                        refine .done ?_
                        refine effDone closedSt (hLeft [1, 3, 19, 21, 26, 29, 30, 31, 32, 38, 40, 44, 46, 48, 50, 51, 57, 59, 63, 65, 68, 69, 70, 75] (by kernel_rfl) (.c (fun _ _ hs => hs.ef) (.c (fun _ _ hs => hs.ef) (.c (fun _ _ hs => hs.ef) (.c (fun _ _ hs => hs.ef) (.c (fun _ _ hs => hs.ef) (.c (fun _ _ hs => hs.ef) (.c (fun _ _ hs => hs.ef) (.c (fun _ _ hs => hs.ef) (.c (fun _ _ hs => hs.ef) (.c (fun _ _ hs => hs.ef) (.c (fun _ _ hs => hs.ef) (.c (fun _ _ hs => hs.ef) (.c (fun _ _ hs => hs.ef) (.c (fun _ _ hs => hs.ef) (.c (fun _ _ hs => hs.ef) (.c (fun _ _ hs => hs.ef) (.c (fun _ _ hs => hs.ef) (.c (fun _ _ hs => hs.ef) (.c (fun _ _ hs => hs.ef) (.c (fun _ _ hs => hs.ef) (.c (fun _ _ hs => hs.ef) (.c (fun _ _ hs => hs.ef) (.c (fun _ _ hs => hs.ef) (.c (fun _ _ hs => hs.ef) .n))))))))))))))))))))))))) (by kernel_rfl) ?_
                        refine kThen ?_
                        refine kRet ?_
                        refine kThenR ?_
                        refine fRet rfl (.t rfl .n) (endRet ?_)
                        first | rfl | (simp [packV, *]; done)
                · by_cases h250 : (starH p n false).hi = (p.st.getD n star0).e.2
                  · by_cases h269 : (starH p n true).lo = (p.st.getD n star0).n.1
                    · by_cases h288 : (starH p n true).hi = (p.st.getD n star0).n.2
                      · refine kDrawE [(1, none), (3, none), (8, none), (10, none), (12, none), (13, none), (14, none), (19, none), (21, none), (38, none), (40, none), (57, none), (59, none), (75, none)] [] [0, 1, 2, 3, 4, 5, 6, 7, 8, 9, 10, 11, 12, 13, 14, 15, 16, 17, 18, 19, 20, 21, 22, 23, 24, 25, 26, 27, 28, 29, 30, 31, 32, 33, 34, 35, 36, 37, 38, 39, 40, 41, 42, 43, 44, 45, 46, 47, 48, 49, 50, 51, 52, 53, 54, 55, 56, 57, 58, 59, 60, 61, 62, 63, 64, 65, 66, 67, 68, 69, 70, 71, 72, 73, 74, 75, 76, 77] 0 hMix (by kernel_rfl) ?_
                        refine .run rfl (yFieldAddr rfl F23_0) rfl rfl ?_
                        refine .run rfl (yLoad1 rfl O3 (cOwn 4 rfl rfl)) rfl rfl ?_
                        refine .run rfl (yFieldAddr rfl F23_0) rfl rfl ?_
                        refine .run rfl (yLoad1 rfl O3 (cOwn 7 rfl rfl)) rfl rfl ?_
                        refine .run rfl (yEql rfl rfl) rfl rfl ?_
                        refine .run rfl (yvFalse (yMove rfl) (h232)) rfl rfl ?_
                        refine .runG rfl (yMove rfl) rfl rfl rfl rfl ?_
                        refine .runG rfl (yFieldAddr rfl F23_0) rfl rfl rfl rfl ?_
                        refine .runG rfl (yLoad1 rfl O3 (cOwn 7 rfl rfl)) rfl rfl rfl rfl ?_
                        refine .runG rfl (yFieldAddr rfl F23_0) rfl rfl rfl rfl ?_
                        refine .runG rfl (yLoad1 rfl O3 (cOwn 4 rfl rfl)) rfl rfl rfl rfl ?_
                        refine .runG rfl (ySub rfl rfl (by omega)) rfl rfl rfl rfl ?_
                        refine .runG rfl (yCall rfl (.c rfl (.c rfl .n)) C34 (fun w hw => spanL_any _ _ w)) rfl rfl rfl rfl ?_
                        refine .runG rfl (yLoadA (vs := [_, _]) rfl A23 (cOwn 8 rfl rfl)) rfl rfl rfl rfl ?_
                        refine .runG rfl (yCall rfl (.c rfl (.c rfl .n)) C39 (fun w hw => pend_any y p ((p.st.getD n star0).e.1, (starH p n false).lo - 1) (p.st.getD n star0).n n2 n3 n w (hw.blkAt 6 rfl) (hw.blkAt 5 rfl) (hm.eff0 hw) (by omega) hn false ⟨fun h => absurd h (by decide), fun h => absurd h ((hE0.klo h166).resolve_left h232)⟩)) rfl rfl rfl rfl ?_
                        refine .runG rfl (yNot rfl) rfl rfl rfl rfl ?_
                        refine .run rfl (yPickF rfl rfl) rfl rfl ?_
                        refine .run rfl (yMove rfl) rfl rfl ?_
                        refine .runG rfl (yFieldAddr rfl F23_1) rfl rfl rfl rfl ?_
                        refine .runG rfl (yLoad1 rfl O3 (cOwn 4 rfl rfl)) rfl rfl rfl rfl ?_
                        refine .runG rfl (yFieldAddr rfl F23_1) rfl rfl rfl rfl ?_
                        refine .runG rfl (yLoad1 rfl O3 (cOwn 7 rfl rfl)) rfl rfl rfl rfl ?_
                        refine .runG rfl (yEql rfl rfl) rfl rfl rfl rfl ?_
                        refine .runG rfl (yvTrue (yMove rfl) (h250)) rfl rfl rfl rfl ?_
                        refine .skip rfl rfl rfl rfl rfl rfl ?_
                        refine .skip rfl rfl rfl rfl rfl rfl ?_
                        refine .skip rfl rfl rfl rfl rfl rfl ?_
                        refine .skip rfl rfl rfl rfl rfl rfl ?_
                        refine .skip rfl rfl rfl rfl rfl rfl ?_
                        refine .skip rfl rfl rfl rfl rfl rfl ?_
                        refine .skip rfl rfl rfl rfl rfl rfl ?_
                        refine .skip rfl rfl rfl rfl rfl rfl ?_
                        refine .skip rfl rfl rfl rfl rfl rfl ?_
                        refine .skip rfl rfl rfl rfl rfl rfl ?_
                        refine .runG rfl (yPickT rfl rfl) rfl rfl rfl rfl ?_
                        refine .run rfl (yPickT rfl rfl) rfl rfl ?_
                        refine .run rfl (yMove rfl) rfl rfl ?_
                        refine .runG rfl (yFieldAddr rfl F23_0) rfl rfl rfl rfl ?_
                        refine .runG rfl (yLoad1 rfl O3 (cOwn 3 rfl rfl)) rfl rfl rfl rfl ?_
                        refine .runG rfl (yFieldAddr rfl F23_0) rfl rfl rfl rfl ?_
                        refine .runG rfl (yLoad1 rfl O3 (cOwn 8 rfl rfl)) rfl rfl rfl rfl ?_
                        refine .runG rfl (yEql rfl rfl) rfl rfl rfl rfl ?_
                        refine .runG rfl (yvTrue (yMove rfl) (h269)) rfl rfl rfl rfl ?_
                        refine .skip rfl rfl rfl rfl rfl rfl ?_
                        refine .skip rfl rfl rfl rfl rfl rfl ?_
                        refine .skip rfl rfl rfl rfl rfl rfl ?_
                        refine .skip rfl rfl rfl rfl rfl rfl ?_
                        refine .skip rfl rfl rfl rfl rfl rfl ?_
                        refine .skip rfl rfl rfl rfl rfl rfl ?_
                        refine .skip rfl rfl rfl rfl rfl rfl ?_
                        refine .skip rfl rfl rfl rfl rfl rfl ?_
                        refine .skip rfl rfl rfl rfl rfl rfl ?_
                        refine .skip rfl rfl rfl rfl rfl rfl ?_
                        refine .runG rfl (yPickT rfl rfl) rfl rfl rfl rfl ?_
                        refine .run rfl (yPickT rfl rfl) rfl rfl ?_
                        refine .run rfl (yMove rfl) rfl rfl ?_
                        refine .runG rfl (yFieldAddr rfl F23_1) rfl rfl rfl rfl ?_
                        refine .runG rfl (yLoad1 rfl O3 (cOwn 3 rfl rfl)) rfl rfl rfl rfl ?_
                        refine .runG rfl (yFieldAddr rfl F23_1) rfl rfl rfl rfl ?_
                        refine .runG rfl (yLoad1 rfl O3 (cOwn 8 rfl rfl)) rfl rfl rfl rfl ?_
                        refine .runG rfl (yEql rfl rfl) rfl rfl rfl rfl ?_
                        refine .runG rfl (yvTrue (yMove rfl) (h288)) rfl rfl rfl rfl ?_
                        refine .skip rfl rfl rfl rfl rfl rfl ?_
                        refine .skip rfl rfl rfl rfl rfl rfl ?_
                        refine .skip rfl rfl rfl rfl rfl rfl ?_
                        refine .skip rfl rfl rfl rfl rfl rfl ?_
                        refine .skip rfl rfl rfl rfl rfl rfl ?_
                        refine .skip rfl rfl rfl rfl rfl rfl ?_
                        refine .skip rfl rfl rfl rfl rfl rfl ?_
                        refine .skip rfl rfl rfl rfl rfl rfl ?_
                        refine .skip rfl rfl rfl rfl rfl rfl ?_
                        refine .skip rfl rfl rfl rfl rfl rfl ?_
                        refine .runG rfl (yPickT rfl rfl) rfl rfl rfl rfl ?_
                        refine .run rfl (yPickT rfl rfl) rfl rfl ?_
                        refine .run rfl (yMove rfl) rfl rfl ?_
                        refine .runG rfl (yCall rfl .n C14 (fun w hw => alive_any w)) rfl rfl rfl rfl ?_
                        refine .run rfl (yPickT rfl rfl) rfl rfl ?_
                        refine .run rfl (yAssign rfl) rfl rfl ?_
                        refine .done ?_
                        refine effDone closedSt (hLeft [1, 3, 8, 10, 12, 13, 14, 19, 21, 38, 40, 57, 59, 75] (by kernel_rfl) (.c (fun _ _ hs => hs.ef) (.c (fun _ _ hs => hs.ef) (.c (fun _ _ hs => hs.ef) (.c (fun _ _ hs => hs.ef) (.c (fun _ _ hs => hs.ef) (.c (fun _ _ hs => hs.ef) (.c (fun _ _ hs => hs.ef) (.c (fun _ _ hs => hs.ef) (.c (fun _ _ hs => hs.ef) (.c (fun _ _ hs => hs.ef) (.c (fun _ _ hs => hs.ef) (.c (fun _ _ hs => hs.ef) (.c (fun _ _ hs => hs.ef) (.c (fun _ _ hs => hs.ef) .n))))))))))))))) (by kernel_rfl) ?_
                        refine kThen ?_
                        refine kRet ?_
                        refine kThenR ?_
                        refine fRet rfl (.t rfl .n) (endRet ?_)
                        first | rfl | (simp [packV, *]; done)
                      · refine kDrawE [(1, none), (3, none), (8, none), (10, none), (12, none), (13, none), (14, none), (19, none), (21, none), (38, none), (40, none), (57, none), (59, none), (63, none), (65, none), (68, none), (69, none), (70, none), (75, none)] [] [0, 1, 2, 3, 4, 5, 6, 7, 8, 9, 10, 11, 12, 13, 14, 15, 16, 17, 18, 19, 20, 21, 22, 23, 24, 25, 26, 27, 28, 29, 30, 31, 32, 33, 34, 35, 36, 37, 38, 39, 40, 41, 42, 43, 44, 45, 46, 47, 48, 49, 50, 51, 52, 53, 54, 55, 56, 57, 58, 59, 60, 61, 62, 63, 64, 65, 66, 67, 68, 69, 70, 71, 72, 73, 74, 75, 76, 77] 0 hMix (by kernel_rfl) ?_
                        refine .run rfl (yFieldAddr rfl F23_0) rfl rfl ?_
                        refine .run rfl (yLoad1 rfl O3 (cOwn 4 rfl rfl)) rfl rfl ?_
                        refine .run rfl (yFieldAddr rfl F23_0) rfl rfl ?_
                        refine .run rfl (yLoad1 rfl O3 (cOwn 7 rfl rfl)) rfl rfl ?_
                        refine .run rfl (yEql rfl rfl) rfl rfl ?_
                        refine .run rfl (yvFalse (yMove rfl) (h232)) rfl rfl ?_
                        refine .runG rfl (yMove rfl) rfl rfl rfl rfl ?_
                        refine .runG rfl (yFieldAddr rfl F23_0) rfl rfl rfl rfl ?_
                        refine .runG rfl (yLoad1 rfl O3 (cOwn 7 rfl rfl)) rfl rfl rfl rfl ?_
                        refine .runG rfl (yFieldAddr rfl F23_0) rfl rfl rfl rfl ?_
                        refine .runG rfl (yLoad1 rfl O3 (cOwn 4 rfl rfl)) rfl rfl rfl rfl ?_
                        refine .runG rfl (ySub rfl rfl (by omega)) rfl rfl rfl rfl ?_
                        refine .runG rfl (yCall rfl (.c rfl (.c rfl .n)) C34 (fun w hw => spanL_any _ _ w)) rfl rfl rfl rfl ?_
                        refine .runG rfl (yLoadA (vs := [_, _]) rfl A23 (cOwn 8 rfl rfl)) rfl rfl rfl rfl ?_
                        refine .runG rfl (yCall rfl (.c rfl (.c rfl .n)) C39 (fun w hw => pend_any y p ((p.st.getD n star0).e.1, (starH p n false).lo - 1) (p.st.getD n star0).n n2 n3 n w (hw.blkAt 6 rfl) (hw.blkAt 5 rfl) (hm.eff0 hw) (by omega) hn false ⟨fun h => absurd h (by decide), fun h => absurd h ((hE0.klo h166).resolve_left h232)⟩)) rfl rfl rfl rfl ?_
                        refine .runG rfl (yNot rfl) rfl rfl rfl rfl ?_
                        refine .run rfl (yPickF rfl rfl) rfl rfl ?_
                        refine .run rfl (yMove rfl) rfl rfl ?_
                        refine .runG rfl (yFieldAddr rfl F23_1) rfl rfl rfl rfl ?_
                        refine .runG rfl (yLoad1 rfl O3 (cOwn 4 rfl rfl)) rfl rfl rfl rfl ?_
                        refine .runG rfl (yFieldAddr rfl F23_1) rfl rfl rfl rfl ?_
                        refine .runG rfl (yLoad1 rfl O3 (cOwn 7 rfl rfl)) rfl rfl rfl rfl ?_
                        refine .runG rfl (yEql rfl rfl) rfl rfl rfl rfl ?_
                        refine .runG rfl (yvTrue (yMove rfl) (h250)) rfl rfl rfl rfl ?_
                        refine .skip rfl rfl rfl rfl rfl rfl ?_
                        refine .skip rfl rfl rfl rfl rfl rfl ?_
                        refine .skip rfl rfl rfl rfl rfl rfl ?_
                        refine .skip rfl rfl rfl rfl rfl rfl ?_
                        refine .skip rfl rfl rfl rfl rfl rfl ?_
                        refine .skip rfl rfl rfl rfl rfl rfl ?_
                        refine .skip rfl rfl rfl rfl rfl rfl ?_
                        refine .skip rfl rfl rfl rfl rfl rfl ?_
                        refine .skip rfl rfl rfl rfl rfl rfl ?_
                        refine .skip rfl rfl rfl rfl rfl rfl ?_
                        refine .runG rfl (yPickT rfl rfl) rfl rfl rfl rfl ?_
                        refine .run rfl (yPickT rfl rfl) rfl rfl ?_
                        refine .run rfl (yMove rfl) rfl rfl ?_
                        refine .runG rfl (yFieldAddr rfl F23_0) rfl rfl rfl rfl ?_
                        refine .runG rfl (yLoad1 rfl O3 (cOwn 3 rfl rfl)) rfl rfl rfl rfl ?_
                        refine .runG rfl (yFieldAddr rfl F23_0) rfl rfl rfl rfl ?_
                        refine .runG rfl (yLoad1 rfl O3 (cOwn 8 rfl rfl)) rfl rfl rfl rfl ?_
                        refine .runG rfl (yEql rfl rfl) rfl rfl rfl rfl ?_
                        refine .runG rfl (yvTrue (yMove rfl) (h269)) rfl rfl rfl rfl ?_
                        refine .skip rfl rfl rfl rfl rfl rfl ?_
                        refine .skip rfl rfl rfl rfl rfl rfl ?_
                        refine .skip rfl rfl rfl rfl rfl rfl ?_
                        refine .skip rfl rfl rfl rfl rfl rfl ?_
                        refine .skip rfl rfl rfl rfl rfl rfl ?_
                        refine .skip rfl rfl rfl rfl rfl rfl ?_
                        refine .skip rfl rfl rfl rfl rfl rfl ?_
                        refine .skip rfl rfl rfl rfl rfl rfl ?_
                        refine .skip rfl rfl rfl rfl rfl rfl ?_
                        refine .skip rfl rfl rfl rfl rfl rfl ?_
                        refine .runG rfl (yPickT rfl rfl) rfl rfl rfl rfl ?_
                        refine .run rfl (yPickT rfl rfl) rfl rfl ?_
                        refine .run rfl (yMove rfl) rfl rfl ?_
                        refine .runG rfl (yFieldAddr rfl F23_1) rfl rfl rfl rfl ?_
                        refine .runG rfl (yLoad1 rfl O3 (cOwn 3 rfl rfl)) rfl rfl rfl rfl ?_
                        refine .runG rfl (yFieldAddr rfl F23_1) rfl rfl rfl rfl ?_
                        refine .runG rfl (yLoad1 rfl O3 (cOwn 8 rfl rfl)) rfl rfl rfl rfl ?_
                        refine .runG rfl (yEql rfl rfl) rfl rfl rfl rfl ?_
                        refine .runG rfl (yvFalse (yMove rfl) (h288)) rfl rfl rfl rfl ?_
                        refine .runG rfl (yMove rfl) rfl rfl rfl rfl ?_
                        refine .runG rfl (yLoadA (vs := [_, _]) rfl A23 (cOwn 7 rfl rfl)) rfl rfl rfl rfl ?_
                        refine .runG rfl (yFieldAddr rfl F23_1) rfl rfl rfl rfl ?_
                        refine .runG rfl (yLoad1 rfl O3 (cOwn 3 rfl rfl)) rfl rfl rfl rfl ?_
                        refine .runG rfl (yAdd rfl rfl (by omega)) rfl rfl rfl rfl ?_
                        refine .runG rfl (yFieldAddr rfl F23_1) rfl rfl rfl rfl ?_
                        refine .runG rfl (yLoad1 rfl O3 (cOwn 8 rfl rfl)) rfl rfl rfl rfl ?_
                        refine .runG rfl (yCall rfl (.c rfl (.c rfl .n)) C34 (fun w hw => spanL_any _ _ w)) rfl rfl rfl rfl ?_
                        refine .runG rfl (yCall rfl (.c rfl (.c rfl .n)) C39 (fun w hw => pend_any y p (p.st.getD n star0).e ((starH p n true).hi + 1, (p.st.getD n star0).n.2) n2 n3 n w (hw.blkAt 6 rfl) (hw.blkAt 5 rfl) (hm.eff0 hw) (by omega) hn false ⟨fun h => absurd h (by decide), fun h => absurd h ((hE1.khi h166).resolve_left h288)⟩)) rfl rfl rfl rfl ?_
                        refine .runG rfl (yNot rfl) rfl rfl rfl rfl ?_
                        refine .runG rfl (yPickF rfl rfl) rfl rfl rfl rfl ?_
                        refine .run rfl (yPickT rfl rfl) rfl rfl ?_
                        refine .run rfl (yMove rfl) rfl rfl ?_
                        refine .runG rfl (yCall rfl .n C14 (fun w hw => alive_any w)) rfl rfl rfl rfl ?_
                        refine .run rfl (yPickT rfl rfl) rfl rfl ?_
                        refine .run rfl (yAssign rfl) rfl rfl ?_
                        refine .done ?_
                        refine effDone closedSt (hLeft [1, 3, 8, 10, 12, 13, 14, 19, 21, 38, 40, 57, 59, 63, 65, 68, 69, 70, 75] (by kernel_rfl) (.c (fun _ _ hs => hs.ef) (.c (fun _ _ hs => hs.ef) (.c (fun _ _ hs => hs.ef) (.c (fun _ _ hs => hs.ef) (.c (fun _ _ hs => hs.ef) (.c (fun _ _ hs => hs.ef) (.c (fun _ _ hs => hs.ef) (.c (fun _ _ hs => hs.ef) (.c (fun _ _ hs => hs.ef) (.c (fun _ _ hs => hs.ef) (.c (fun _ _ hs => hs.ef) (.c (fun _ _ hs => hs.ef) (.c (fun _ _ hs => hs.ef) (.c (fun _ _ hs => hs.ef) (.c (fun _ _ hs => hs.ef) (.c (fun _ _ hs => hs.ef) (.c (fun _ _ hs => hs.ef) (.c (fun _ _ hs => hs.ef) (.c (fun _ _ hs => hs.ef) .n)))))))))))))))))))) (by kernel_rfl) ?_
                        refine kThen ?_
                        refine kRet ?_
                        refine kThenR ?_
                        refine fRet rfl (.t rfl .n) (endRet ?_)
                        first | rfl | (simp [packV, *]; done)
                    · by_cases h288 : (starH p n true).hi = (p.st.getD n star0).n.2
                      · refine kDrawE [(1, none), (3, none), (8, none), (10, none), (12, none), (13, none), (14, none), (19, none), (21, none), (38, none), (40, none), (44, none), (46, none), (48, none), (50, none), (51, none), (57, none), (59, none), (75, none)] [] [0, 1, 2, 3, 4, 5, 6, 7, 8, 9, 10, 11, 12, 13, 14, 15, 16, 17, 18, 19, 20, 21, 22, 23, 24, 25, 26, 27, 28, 29, 30, 31, 32, 33, 34, 35, 36, 37, 38, 39, 40, 41, 42, 43, 44, 45, 46, 47, 48, 49, 50, 51, 52, 53, 54, 55, 56, 57, 58, 59, 60, 61, 62, 63, 64, 65, 66, 67, 68, 69, 70, 71, 72, 73, 74, 75, 76, 77] 0 hMix (by kernel_rfl) ?_
                        refine .run rfl (yFieldAddr rfl F23_0) rfl rfl ?_
                        refine .run rfl (yLoad1 rfl O3 (cOwn 4 rfl rfl)) rfl rfl ?_
                        refine .run rfl (yFieldAddr rfl F23_0) rfl rfl ?_
                        refine .run rfl (yLoad1 rfl O3 (cOwn 7 rfl rfl)) rfl rfl ?_
                        refine .run rfl (yEql rfl rfl) rfl rfl ?_
                        refine .run rfl (yvFalse (yMove rfl) (h232)) rfl rfl ?_
                        refine .runG rfl (yMove rfl) rfl rfl rfl rfl ?_
                        refine .runG rfl (yFieldAddr rfl F23_0) rfl rfl rfl rfl ?_
                        refine .runG rfl (yLoad1 rfl O3 (cOwn 7 rfl rfl)) rfl rfl rfl rfl ?_
                        refine .runG rfl (yFieldAddr rfl F23_0) rfl rfl rfl rfl ?_
                        refine .runG rfl (yLoad1 rfl O3 (cOwn 4 rfl rfl)) rfl rfl rfl rfl ?_
                        refine .runG rfl (ySub rfl rfl (by omega)) rfl rfl rfl rfl ?_
                        refine .runG rfl (yCall rfl (.c rfl (.c rfl .n)) C34 (fun w hw => spanL_any _ _ w)) rfl rfl rfl rfl ?_
                        refine .runG rfl (yLoadA (vs := [_, _]) rfl A23 (cOwn 8 rfl rfl)) rfl rfl rfl rfl ?_
                        refine .runG rfl (yCall rfl (.c rfl (.c rfl .n)) C39 (fun w hw => pend_any y p ((p.st.getD n star0).e.1, (starH p n false).lo - 1) (p.st.getD n star0).n n2 n3 n w (hw.blkAt 6 rfl) (hw.blkAt 5 rfl) (hm.eff0 hw) (by omega) hn false ⟨fun h => absurd h (by decide), fun h => absurd h ((hE0.klo h166).resolve_left h232)⟩)) rfl rfl rfl rfl ?_
                        refine .runG rfl (yNot rfl) rfl rfl rfl rfl ?_
                        refine .run rfl (yPickF rfl rfl) rfl rfl ?_
                        refine .run rfl (yMove rfl) rfl rfl ?_
                        refine .runG rfl (yFieldAddr rfl F23_1) rfl rfl rfl rfl ?_
                        refine .runG rfl (yLoad1 rfl O3 (cOwn 4 rfl rfl)) rfl rfl rfl rfl ?_
                        refine .runG rfl (yFieldAddr rfl F23_1) rfl rfl rfl rfl ?_
                        refine .runG rfl (yLoad1 rfl O3 (cOwn 7 rfl rfl)) rfl rfl rfl rfl ?_
                        refine .runG rfl (yEql rfl rfl) rfl rfl rfl rfl ?_
                        refine .runG rfl (yvTrue (yMove rfl) (h250)) rfl rfl rfl rfl ?_
                        refine .skip rfl rfl rfl rfl rfl rfl ?_
                        refine .skip rfl rfl rfl rfl rfl rfl ?_
                        refine .skip rfl rfl rfl rfl rfl rfl ?_
                        refine .skip rfl rfl rfl rfl rfl rfl ?_
                        refine .skip rfl rfl rfl rfl rfl rfl ?_
                        refine .skip rfl rfl rfl rfl rfl rfl ?_
                        refine .skip rfl rfl rfl rfl rfl rfl ?_
                        refine .skip rfl rfl rfl rfl rfl rfl ?_
                        refine .skip rfl rfl rfl rfl rfl rfl ?_
                        refine .skip rfl rfl rfl rfl rfl rfl ?_
                        refine .runG rfl (yPickT rfl rfl) rfl rfl rfl rfl ?_
                        refine .run rfl (yPickT rfl rfl) rfl rfl ?_
                        refine .run rfl (yMove rfl) rfl rfl ?_
                        refine .runG rfl (yFieldAddr rfl F23_0) rfl rfl rfl rfl ?_
                        refine .runG rfl (yLoad1 rfl O3 (cOwn 3 rfl rfl)) rfl rfl rfl rfl ?_
                        refine .runG rfl (yFieldAddr rfl F23_0) rfl rfl rfl rfl ?_
                        refine .runG rfl (yLoad1 rfl O3 (cOwn 8 rfl rfl)) rfl rfl rfl rfl ?_
                        refine .runG rfl (yEql rfl rfl) rfl rfl rfl rfl ?_
                        refine .runG rfl (yvFalse (yMove rfl) (h269)) rfl rfl rfl rfl ?_
                        refine .runG rfl (yMove rfl) rfl rfl rfl rfl ?_
                        refine .runG rfl (yLoadA (vs := [_, _]) rfl A23 (cOwn 7 rfl rfl)) rfl rfl rfl rfl ?_
                        refine .runG rfl (yFieldAddr rfl F23_0) rfl rfl rfl rfl ?_
                        refine .runG rfl (yLoad1 rfl O3 (cOwn 8 rfl rfl)) rfl rfl rfl rfl ?_
                        refine .runG rfl (yFieldAddr rfl F23_0) rfl rfl rfl rfl ?_
                        refine .runG rfl (yLoad1 rfl O3 (cOwn 3 rfl rfl)) rfl rfl rfl rfl ?_
                        refine .runG rfl (ySub rfl rfl (by omega)) rfl rfl rfl rfl ?_
                        refine .runG rfl (yCall rfl (.c rfl (.c rfl .n)) C34 (fun w hw => spanL_any _ _ w)) rfl rfl rfl rfl ?_
                        refine .runG rfl (yCall rfl (.c rfl (.c rfl .n)) C39 (fun w hw => pend_any y p (p.st.getD n star0).e ((p.st.getD n star0).n.1, (starH p n true).lo - 1) n2 n3 n w (hw.blkAt 6 rfl) (hw.blkAt 5 rfl) (hm.eff0 hw) (by omega) hn false ⟨fun h => absurd h (by decide), fun h => absurd h ((hE1.klo h166).resolve_left h269)⟩)) rfl rfl rfl rfl ?_
                        refine .runG rfl (yNot rfl) rfl rfl rfl rfl ?_
                        refine .runG rfl (yPickF rfl rfl) rfl rfl rfl rfl ?_
                        refine .run rfl (yPickT rfl rfl) rfl rfl ?_
                        refine .run rfl (yMove rfl) rfl rfl ?_
                        refine .runG rfl (yFieldAddr rfl F23_1) rfl rfl rfl rfl ?_
                        refine .runG rfl (yLoad1 rfl O3 (cOwn 3 rfl rfl)) rfl rfl rfl rfl ?_
                        refine .runG rfl (yFieldAddr rfl F23_1) rfl rfl rfl rfl ?_
                        refine .runG rfl (yLoad1 rfl O3 (cOwn 8 rfl rfl)) rfl rfl rfl rfl ?_
                        refine .runG rfl (yEql rfl rfl) rfl rfl rfl rfl ?_
                        refine .runG rfl (yvTrue (yMove rfl) (h288)) rfl rfl rfl rfl ?_
                        refine .skip rfl rfl rfl rfl rfl rfl ?_
                        refine .skip rfl rfl rfl rfl rfl rfl ?_
                        refine .skip rfl rfl rfl rfl rfl rfl ?_
                        refine .skip rfl rfl rfl rfl rfl rfl ?_
                        refine .skip rfl rfl rfl rfl rfl rfl ?_
                        refine .skip rfl rfl rfl rfl rfl rfl ?_
                        refine .skip rfl rfl rfl rfl rfl rfl ?_
                        refine .skip rfl rfl rfl rfl rfl rfl ?_
                        refine .skip rfl rfl rfl rfl rfl rfl ?_
                        refine .skip rfl rfl rfl rfl rfl rfl ?_
                        refine .runG rfl (yPickT rfl rfl) rfl rfl rfl rfl ?_
                        refine .run rfl (yPickT rfl rfl) rfl rfl ?_
                        refine .run rfl (yMove rfl) rfl rfl ?_
                        refine .runG rfl (yCall rfl .n C14 (fun w hw => alive_any w)) rfl rfl rfl rfl ?_
                        refine .run rfl (yPickT rfl rfl) rfl rfl ?_
                        refine .run rfl (yAssign rfl) rfl rfl ?_
                        refine .done ?_
                        refine effDone closedSt (hLeft [1, 3, 8, 10, 12, 13, 14, 19, 21, 38, 40, 44, 46, 48, 50, 51, 57, 59, 75] (by kernel_rfl) (.c (fun _ _ hs => hs.ef) (.c (fun _ _ hs => hs.ef) (.c (fun _ _ hs => hs.ef) (.c (fun _ _ hs => hs.ef) (.c (fun _ _ hs => hs.ef) (.c (fun _ _ hs => hs.ef) (.c (fun _ _ hs => hs.ef) (.c (fun _ _ hs => hs.ef) (.c (fun _ _ hs => hs.ef) (.c (fun _ _ hs => hs.ef) (.c (fun _ _ hs => hs.ef) (.c (fun _ _ hs => hs.ef) (.c (fun _ _ hs => hs.ef) (.c (fun _ _ hs => hs.ef) (.c (fun _ _ hs => hs.ef) (.c (fun _ _ hs => hs.ef) (.c (fun _ _ hs => hs.ef) (.c (fun _ _ hs => hs.ef) (.c (fun _ _ hs => hs.ef) .n)))))))))))))))))))) (by kernel_rfl) ?_
                        refine kThen ?_
                        refine kRet ?_
                        refine kThenR ?_
                        refine fRet rfl (.t rfl .n) (endRet ?_)
                        first | rfl | (simp [packV, *]; done)
                      · refine kDrawE [(1, none), (3, none), (8, none), (10, none), (12, none), (13, none), (14, none), (19, none), (21, none), (38, none), (40, none), (44, none), (46, none), (48, none), (50, none), (51, none), (57, none), (59, none), (63, none), (65, none), (68, none), (69, none), (70, none), (75, none)] [] [0, 1, 2, 3, 4, 5, 6, 7, 8, 9, 10, 11, 12, 13, 14, 15, 16, 17, 18, 19, 20, 21, 22, 23, 24, 25, 26, 27, 28, 29, 30, 31, 32, 33, 34, 35, 36, 37, 38, 39, 40, 41, 42, 43, 44, 45, 46, 47, 48, 49, 50, 51, 52, 53, 54, 55, 56, 57, 58, 59, 60, 61, 62, 63, 64, 65, 66, 67, 68, 69, 70, 71, 72, 73, 74, 75, 76, 77] 0 hMix (by kernel_rfl) ?_
                        refine .run rfl (yFieldAddr rfl F23_0) rfl rfl ?_
                        refine .run rfl (yLoad1 rfl O3 (cOwn 4 rfl rfl)) rfl rfl ?_
                        refine .run rfl (yFieldAddr rfl F23_0) rfl rfl ?_
                        refine .run rfl (yLoad1 rfl O3 (cOwn 7 rfl rfl)) rfl rfl ?_
                        refine .run rfl (yEql rfl rfl) rfl rfl ?_
                        refine .run rfl (yvFalse (yMove rfl) (h232)) rfl rfl ?_
                        refine .runG rfl (yMove rfl) rfl rfl rfl rfl ?_
                        refine .runG rfl (yFieldAddr rfl F23_0) rfl rfl rfl rfl ?_
                        refine .runG rfl (yLoad1 rfl O3 (cOwn 7 rfl rfl)) rfl rfl rfl rfl ?_
                        refine .runG rfl (yFieldAddr rfl F23_0) rfl rfl rfl rfl ?_
                        refine .runG rfl (yLoad1 rfl O3 (cOwn 4 rfl rfl)) rfl rfl rfl rfl ?_
                        refine .runG rfl (ySub rfl rfl (by omega)) rfl rfl rfl rfl ?_
                        refine .runG rfl (yCall rfl (.c rfl (.c rfl .n)) C34 (fun w hw => spanL_any _ _ w)) rfl rfl rfl rfl ?_
                        refine .runG rfl (yLoadA (vs := [_, _]) rfl A23 (cOwn 8 rfl rfl)) rfl rfl rfl rfl ?_
                        refine .runG rfl (yCall rfl (.c rfl (.c rfl .n)) C39 (fun w hw => pend_any y p ((p.st.getD n star0).e.1, (starH p n false).lo - 1) (p.st.getD n star0).n n2 n3 n w (hw.blkAt 6 rfl) (hw.blkAt 5 rfl) (hm.eff0 hw) (by omega) hn false ⟨fun h => absurd h (by decide), fun h => absurd h ((hE0.klo h166).resolve_left h232)⟩)) rfl rfl rfl rfl ?_
                        refine .runG rfl (yNot rfl) rfl rfl rfl rfl ?_
                        refine .run rfl (yPickF rfl rfl) rfl rfl ?_
                        refine .run rfl (yMove rfl) rfl rfl ?_
                        refine .runG rfl (yFieldAddr rfl F23_1) rfl rfl rfl rfl ?_
                        refine .runG rfl (yLoad1 rfl O3 (cOwn 4 rfl rfl)) rfl rfl rfl rfl ?_
                        refine .runG rfl (yFieldAddr rfl F23_1) rfl rfl rfl rfl ?_
                        refine .runG rfl (yLoad1 rfl O3 (cOwn 7 rfl rfl)) rfl rfl rfl rfl ?_
                        refine .runG rfl (yEql rfl rfl) rfl rfl rfl rfl ?_
                        refine .runG rfl (yvTrue (yMove rfl) (h250)) rfl rfl rfl rfl ?_
                        refine .skip rfl rfl rfl rfl rfl rfl ?_
                        refine .skip rfl rfl rfl rfl rfl rfl ?_
                        refine .skip rfl rfl rfl rfl rfl rfl ?_
                        refine .skip rfl rfl rfl rfl rfl rfl ?_
                        refine .skip rfl rfl rfl rfl rfl rfl ?_
                        refine .skip rfl rfl rfl rfl rfl rfl ?_
                        refine .skip rfl rfl rfl rfl rfl rfl ?_
                        refine .skip rfl rfl rfl rfl rfl rfl ?_
                        refine .skip rfl rfl rfl rfl rfl rfl ?_
                        refine .skip rfl rfl rfl rfl rfl rfl ?_
                        refine .runG rfl (yPickT rfl rfl) rfl rfl rfl rfl ?_
                        refine .run rfl (yPickT rfl rfl) rfl rfl ?_
                        refine .run rfl (yMove rfl) rfl rfl ?_
                        refine .runG rfl (yFieldAddr rfl F23_0) rfl rfl rfl rfl ?_
                        refine .runG rfl (yLoad1 rfl O3 (cOwn 3 rfl rfl)) rfl rfl rfl rfl ?_
                        refine .runG rfl (yFieldAddr rfl F23_0) rfl rfl rfl rfl ?_
                        refine .runG rfl (yLoad1 rfl O3 (cOwn 8 rfl rfl)) rfl rfl rfl rfl ?_
                        refine .runG rfl (yEql rfl rfl) rfl rfl rfl rfl ?_
                        refine .runG rfl (yvFalse (yMove rfl) (h269)) rfl rfl rfl rfl ?_
                        refine .runG rfl (yMove rfl) rfl rfl rfl rfl ?_
                        refine .runG rfl (yLoadA (vs := [_, _]) rfl A23 (cOwn 7 rfl rfl)) rfl rfl rfl rfl ?_
                        refine .runG rfl (yFieldAddr rfl F23_0) rfl rfl rfl rfl ?_
                        refine .runG rfl (yLoad1 rfl O3 (cOwn 8 rfl rfl)) rfl rfl rfl rfl ?_
                        refine .runG rfl (yFieldAddr rfl F23_0) rfl rfl rfl rfl ?_
                        refine .runG rfl (yLoad1 rfl O3 (cOwn 3 rfl rfl)) rfl rfl rfl rfl ?_
                        refine .runG rfl (ySub rfl rfl (by omega)) rfl rfl rfl rfl ?_
                        refine .runG rfl (yCall rfl (.c rfl (.c rfl .n)) C34 (fun w hw => spanL_any _ _ w)) rfl rfl rfl rfl ?_
                        refine .runG rfl (yCall rfl (.c rfl (.c rfl .n)) C39 (fun w hw => pend_any y p (p.st.getD n star0).e ((p.st.getD n star0).n.1, (starH p n true).lo - 1) n2 n3 n w (hw.blkAt 6 rfl) (hw.blkAt 5 rfl) (hm.eff0 hw) (by omega) hn false ⟨fun h => absurd h (by decide), fun h => absurd h ((hE1.klo h166).resolve_left h269)⟩)) rfl rfl rfl rfl ?_
                        refine .runG rfl (yNot rfl) rfl rfl rfl rfl ?_
                        refine .runG rfl (yPickF rfl rfl) rfl rfl rfl rfl ?_
                        refine .run rfl (yPickT rfl rfl) rfl rfl ?_
                        refine .run rfl (yMove rfl) rfl rfl ?_
                        refine .runG rfl (yFieldAddr rfl F23_1) rfl rfl rfl rfl ?_
                        refine .runG rfl (yLoad1 rfl O3 (cOwn 3 rfl rfl)) rfl rfl rfl rfl ?_
                        refine .runG rfl (yFieldAddr rfl F23_1) rfl rfl rfl rfl ?_
                        refine .runG rfl (yLoad1 rfl O3 (cOwn 8 rfl rfl)) rfl rfl rfl rfl ?_
                        refine .runG rfl (yEql rfl rfl) rfl rfl rfl rfl ?_
                        refine .runG rfl (yvFalse (yMove rfl) (h288)) rfl rfl rfl rfl ?_
                        refine .runG rfl (yMove rfl) rfl rfl rfl rfl ?_
                        refine .runG rfl (yLoadA (vs := [_, _]) rfl A23 (cOwn 7 rfl rfl)) rfl rfl rfl rfl ?_
                        refine .runG rfl (yFieldAddr rfl F23_1) rfl rfl rfl rfl ?_
                        refine .runG rfl (yLoad1 rfl O3 (cOwn 3 rfl rfl)) rfl rfl rfl rfl ?_
                        refine .runG rfl (yAdd rfl rfl (by omega)) rfl rfl rfl rfl ?_
                        refine .runG rfl (yFieldAddr rfl F23_1) rfl rfl rfl rfl ?_
                        refine .runG rfl (yLoad1 rfl O3 (cOwn 8 rfl rfl)) rfl rfl rfl rfl ?_
                        refine .runG rfl (yCall rfl (.c rfl (.c rfl .n)) C34 (fun w hw => spanL_any _ _ w)) rfl rfl rfl rfl ?_
                        refine .runG rfl (yCall rfl (.c rfl (.c rfl .n)) C39 (fun w hw => pend_any y p (p.st.getD n star0).e ((starH p n true).hi + 1, (p.st.getD n star0).n.2) n2 n3 n w (hw.blkAt 6 rfl) (hw.blkAt 5 rfl) (hm.eff0 hw) (by omega) hn false ⟨fun h => absurd h (by decide), fun h => absurd h ((hE1.khi h166).resolve_left h288)⟩)) rfl rfl rfl rfl ?_
                        refine .runG rfl (yNot rfl) rfl rfl rfl rfl ?_
                        refine .runG rfl (yPickF rfl rfl) rfl rfl rfl rfl ?_
                        refine .run rfl (yPickT rfl rfl) rfl rfl ?_
                        refine .run rfl (yMove rfl) rfl rfl ?_
                        refine .runG rfl (yCall rfl .n C14 (fun w hw => alive_any w)) rfl rfl rfl rfl ?_
                        refine .run rfl (yPickT rfl rfl) rfl rfl ?_
                        refine .run rfl (yAssign rfl) rfl rfl ?_
                        refine .done ?_
                        refine effDone closedSt (hLeft [1, 3, 8, 10, 12, 13, 14, 19, 21, 38, 40, 44, 46, 48, 50, 51, 57, 59, 63, 65, 68, 69, 70, 75] (by kernel_rfl) (.c (fun _ _ hs => hs.ef) (.c (fun _ _ hs => hs.ef) (.c (fun _ _ hs => hs.ef) (.c (fun _ _ hs => hs.ef) (.c (fun _ _ hs => hs.ef) (.c (fun _ _ hs => hs.ef) (.c (fun _ _ hs => hs.ef) (.c (fun _ _ hs => hs.ef) (.c (fun _ _ hs => hs.ef) (.c (fun _ _ hs => hs.ef) (.c (fun _ _ hs => hs.ef) (.c (fun _ _ hs => hs.ef) (.c (fun _ _ hs => hs.ef) (.c (fun _ _ hs => hs.ef) (.c (fun _ _ hs => hs.ef) (.c (fun _ _ hs => hs.ef) (.c (fun _ _ hs => hs.ef) (.c (fun _ _ hs => hs.ef) (.c (fun _ _ hs => hs.ef) (.c (fun _ _ hs => hs.ef) (.c (fun _ _ hs => hs.ef) (.c (fun _ _ hs => hs.ef) (.c (fun _ _ hs => hs.ef) (.c (fun _ _ hs => hs.ef) .n))))))))))))))))))))))))) (by kernel_rfl) ?_
                        refine kThen ?_
                        refine kRet ?_
                        refine kThenR ?_
                        refine fRet rfl (.t rfl .n) (endRet ?_)
                        first | rfl | (simp [packV, *]; done)
                  · by_cases h269 : (starH p n true).lo = (p.st.getD n star0).n.1
                    · by_cases h288 : (starH p n true).hi = (p.st.getD n star0).n.2
                      · refine kDrawE [(1, none), (3, none), (8, none), (10, none), (12, none), (13, none), (14, none), (19, none), (21, none), (26, none), (29, none), (30, none), (31, none), (32, none), (38, none), (40, none), (57, none), (59, none), (75, none)] [] [0, 1, 2, 3, 4, 5, 6, 7, 8, 9, 10, 11, 12, 13, 14, 15, 16, 17, 18, 19, 20, 21, 22, 23, 24, 25, 26, 27, 28, 29, 30, 31, 32, 33, 34, 35, 36, 37, 38, 39, 40, 41, 42, 43, 44, 45, 46, 47, 48, 49, 50, 51, 52, 53, 54, 55, 56, 57, 58, 59, 60, 61, 62, 63, 64, 65, 66, 67, 68, 69, 70, 71, 72, 73, 74, 75, 76, 77] 0 hMix (by kernel_rfl) ?_
                        refine .run rfl (yFieldAddr rfl F23_0) rfl rfl ?_
                        refine .run rfl (yLoad1 rfl O3 (cOwn 4 rfl rfl)) rfl rfl ?_
                        refine .run rfl (yFieldAddr rfl F23_0) rfl rfl ?_
                        refine .run rfl (yLoad1 rfl O3 (cOwn 7 rfl rfl)) rfl rfl ?_
                        refine .run rfl (yEql rfl rfl) rfl rfl ?_
                        refine .run rfl (yvFalse (yMove rfl) (h232)) rfl rfl ?_
                        refine .runG rfl (yMove rfl) rfl rfl rfl rfl ?_
                        refine .runG rfl (yFieldAddr rfl F23_0) rfl rfl rfl rfl ?_
                        refine .runG rfl (yLoad1 rfl O3 (cOwn 7 rfl rfl)) rfl rfl rfl rfl ?_
                        refine .runG rfl (yFieldAddr rfl F23_0) rfl rfl rfl rfl ?_
                        refine .runG rfl (yLoad1 rfl O3 (cOwn 4 rfl rfl)) rfl rfl rfl rfl ?_
                        refine .runG rfl (ySub rfl rfl (by omega)) rfl rfl rfl rfl ?_
                        refine .runG rfl (yCall rfl (.c rfl (.c rfl .n)) C34 (fun w hw => spanL_any _ _ w)) rfl rfl rfl rfl ?_
                        refine .runG rfl (yLoadA (vs := [_, _]) rfl A23 (cOwn 8 rfl rfl)) rfl rfl rfl rfl ?_
                        refine .runG rfl (yCall rfl (.c rfl (.c rfl .n)) C39 (fun w hw => pend_any y p ((p.st.getD n star0).e.1, (starH p n false).lo - 1) (p.st.getD n star0).n n2 n3 n w (hw.blkAt 6 rfl) (hw.blkAt 5 rfl) (hm.eff0 hw) (by omega) hn false ⟨fun h => absurd h (by decide), fun h => absurd h ((hE0.klo h166).resolve_left h232)⟩)) rfl rfl rfl rfl ?_
                        refine .runG rfl (yNot rfl) rfl rfl rfl rfl ?_
                        refine .run rfl (yPickF rfl rfl) rfl rfl ?_
                        refine .run rfl (yMove rfl) rfl rfl ?_
                        refine .runG rfl (yFieldAddr rfl F23_1) rfl rfl rfl rfl ?_
                        refine .runG rfl (yLoad1 rfl O3 (cOwn 4 rfl rfl)) rfl rfl rfl rfl ?_
                        refine .runG rfl (yFieldAddr rfl F23_1) rfl rfl rfl rfl ?_
                        refine .runG rfl (yLoad1 rfl O3 (cOwn 7 rfl rfl)) rfl rfl rfl rfl ?_
                        refine .runG rfl (yEql rfl rfl) rfl rfl rfl rfl ?_
                        refine .runG rfl (yvFalse (yMove rfl) (h250)) rfl rfl rfl rfl ?_
                        refine .runG rfl (yMove rfl) rfl rfl rfl rfl ?_
                        refine .runG rfl (yFieldAddr rfl F23_1) rfl rfl rfl rfl ?_
                        refine .runG rfl (yLoad1 rfl O3 (cOwn 4 rfl rfl)) rfl rfl rfl rfl ?_
                        refine .runG rfl (yAdd rfl rfl (by omega)) rfl rfl rfl rfl ?_
                        refine .runG rfl (yFieldAddr rfl F23_1) rfl rfl rfl rfl ?_
                        refine .runG rfl (yLoad1 rfl O3 (cOwn 7 rfl rfl)) rfl rfl rfl rfl ?_
                        refine .runG rfl (yCall rfl (.c rfl (.c rfl .n)) C34 (fun w hw => spanL_any _ _ w)) rfl rfl rfl rfl ?_
                        refine .runG rfl (yLoadA (vs := [_, _]) rfl A23 (cOwn 8 rfl rfl)) rfl rfl rfl rfl ?_
                        refine .runG rfl (yCall rfl (.c rfl (.c rfl .n)) C39 (fun w hw => pend_any y p ((starH p n false).hi + 1, (p.st.getD n star0).e.2) (p.st.getD n star0).n n2 n3 n w (hw.blkAt 6 rfl) (hw.blkAt 5 rfl) (hm.eff0 hw) (by omega) hn false ⟨fun h => absurd h (by decide), fun h => absurd h ((hE0.khi h166).resolve_left h250)⟩)) rfl rfl rfl rfl ?_
                        refine .runG rfl (yNot rfl) rfl rfl rfl rfl ?_
                        refine .runG rfl (yPickF rfl rfl) rfl rfl rfl rfl ?_
                        refine .run rfl (yPickT rfl rfl) rfl rfl ?_
                        refine .run rfl (yMove rfl) rfl rfl ?_
                        refine .runG rfl (yFieldAddr rfl F23_0) rfl rfl rfl rfl ?_
                        refine .runG rfl (yLoad1 rfl O3 (cOwn 3 rfl rfl)) rfl rfl rfl rfl ?_
                        refine .runG rfl (yFieldAddr rfl F23_0) rfl rfl rfl rfl ?_
                        refine .runG rfl (yLoad1 rfl O3 (cOwn 8 rfl rfl)) rfl rfl rfl rfl ?_
                        refine .runG rfl (yEql rfl rfl) rfl rfl rfl rfl ?_
                        refine .runG rfl (yvTrue (yMove rfl) (h269)) rfl rfl rfl rfl ?_
                        refine .skip rfl rfl rfl rfl rfl rfl ?_
                        refine .skip rfl rfl rfl rfl rfl rfl ?_
                        refine .skip rfl rfl rfl rfl rfl rfl ?_
                        refine .skip rfl rfl rfl rfl rfl rfl ?_
                        refine .skip rfl rfl rfl rfl rfl rfl ?_
                        refine .skip rfl rfl rfl rfl rfl rfl ?_
                        refine .skip rfl rfl rfl rfl rfl rfl ?_
                        refine .skip rfl rfl rfl rfl rfl rfl ?_
                        refine .skip rfl rfl rfl rfl rfl rfl ?_
                        refine .skip rfl rfl rfl rfl rfl rfl ?_
                        refine .runG rfl (yPickT rfl rfl) rfl rfl rfl rfl ?_
                        refine .run rfl (yPickT rfl rfl) rfl rfl ?_
                        refine .run rfl (yMove rfl) rfl rfl ?_
                        refine .runG rfl (yFieldAddr rfl F23_1) rfl rfl rfl rfl ?_
                        refine .runG rfl (yLoad1 rfl O3 (cOwn 3 rfl rfl)) rfl rfl rfl rfl ?_
                        refine .runG rfl (yFieldAddr rfl F23_1) rfl rfl rfl rfl ?_
                        refine .runG rfl (yLoad1 rfl O3 (cOwn 8 rfl rfl)) rfl rfl rfl rfl ?_
                        refine .runG rfl (yEql rfl rfl) rfl rfl rfl rfl ?_
                        refine .runG rfl (yvTrue (yMove rfl) (h288)) rfl rfl rfl rfl ?_
                        refine .skip rfl rfl rfl rfl rfl rfl ?_
                        refine .skip rfl rfl rfl rfl rfl rfl ?_
                        refine .skip rfl rfl rfl rfl rfl rfl ?_
                        refine .skip rfl rfl rfl rfl rfl rfl ?_
                        refine .skip rfl rfl rfl rfl rfl rfl ?_
                        refine .skip rfl rfl rfl rfl rfl rfl ?_
                        refine .skip rfl rfl rfl rfl rfl rfl ?_
                        refine .skip rfl rfl rfl rfl rfl rfl ?_
                        refine .skip rfl rfl rfl rfl rfl rfl ?_
                        refine .skip rfl rfl rfl rfl rfl rfl ?_
                        refine .runG rfl (yPickT rfl rfl) rfl rfl rfl rfl ?_
                        refine .run rfl (yPickT rfl rfl) rfl rfl ?_
                        refine .run rfl (yMove rfl) rfl rfl ?_
                        refine .runG rfl (yCall rfl .n C14 (fun w hw => alive_any w)) rfl rfl rfl rfl ?_
                        refine .run rfl (yPickT rfl rfl) rfl rfl ?_
                        refine .run rfl (yAssign rfl) rfl rfl ?_
                        refine .done ?_
                        refine effDone closedSt (hLeft [1, 3, 8, 10, 12, 13, 14, 19, 21, 26, 29, 30, 31, 32, 38, 40, 57, 59, 75] (by kernel_rfl) (.c (fun _ _ hs => hs.ef) (.c (fun _ _ hs => hs.ef) (.c (fun _ _ hs => hs.ef) (.c (fun _ _ hs => hs.ef) (.c (fun _ _ hs => hs.ef) (.c (fun _ _ hs => hs.ef) (.c (fun _ _ hs => hs.ef) (.c (fun _ _ hs => hs.ef) (.c (fun _ _ hs => hs.ef) (.c (fun _ _ hs => hs.ef) (.c (fun _ _ hs => hs.ef) (.c (fun _ _ hs => hs.ef) (.c (fun _ _ hs => hs.ef) (.c (fun _ _ hs => hs.ef) (.c (fun _ _ hs => hs.ef) (.c (fun _ _ hs => hs.ef) (.c (fun _ _ hs => hs.ef) (.c (fun _ _ hs => hs.ef) (.c (fun _ _ hs => hs.ef) .n)))))))))))))))))))) (by kernel_rfl) ?_
                        refine kThen ?_
                        refine kRet ?_
                        refine kThenR ?_
                        refine fRet rfl (.t rfl .n) (endRet ?_)
                        first | rfl | (simp [packV, *]; done)
                      · refine kDrawE [(1, none), (3, none), (8, none), (10, none), (12, none), (13, none), (14, none), (19, none), (21, none), (26, none), (29, none), (30, none), (31, none), (32, none), (38, none), (40, none), (57, none), (59, none), (63, none), (65, none), (68, none), (69, none), (70, none), (75, none)] [] [0, 1, 2, 3, 4, 5, 6, 7, 8, 9, 10, 11, 12, 13, 14, 15, 16, 17, 18, 19, 20, 21, 22, 23, 24, 25, 26, 27, 28, 29, 30, 31, 32, 33, 34, 35, 36, 37, 38, 39, 40, 41, 42, 43, 44, 45, 46, 47, 48, 49, 50, 51, 52, 53, 54, 55, 56, 57, 58, 59, 60, 61, 62, 63, 64, 65, 66, 67, 68, 69, 70, 71, 72, 73, 74, 75, 76, 77] 0 hMix (by kernel_rfl) ?_
                        refine .run rfl (yFieldAddr rfl F23_0) rfl rfl ?_
                        refine .run rfl (yLoad1 rfl O3 (cOwn 4 rfl rfl)) rfl rfl ?_
                        refine .run rfl (yFieldAddr rfl F23_0) rfl rfl ?_
                        refine .run rfl (yLoad1 rfl O3 (cOwn 7 rfl rfl)) rfl rfl ?_
                        refine .run rfl (yEql rfl rfl) rfl rfl ?_
                        refine .run rfl (yvFalse (yMove rfl) (h232)) rfl rfl ?_
                        refine .runG rfl (yMove rfl) rfl rfl rfl rfl ?_
                        refine .runG rfl (yFieldAddr rfl F23_0) rfl rfl rfl rfl ?_
                        refine .runG rfl (yLoad1 rfl O3 (cOwn 7 rfl rfl)) rfl rfl rfl rfl ?_
                        refine .runG rfl (yFieldAddr rfl F23_0) rfl rfl rfl rfl ?_
                        refine .runG rfl (yLoad1 rfl O3 (cOwn 4 rfl rfl)) rfl rfl rfl rfl ?_
                        refine .runG rfl (ySub rfl rfl (by omega)) rfl rfl rfl rfl ?_
                        refine .runG rfl (yCall rfl (.c rfl (.c rfl .n)) C34 (fun w hw => spanL_any _ _ w)) rfl rfl rfl rfl ?_
                        refine .runG rfl (yLoadA (vs := [_, _]) rfl A23 (cOwn 8 rfl rfl)) rfl rfl rfl rfl ?_
                        refine .runG rfl (yCall rfl (.c rfl (.c rfl .n)) C39 (fun w hw => pend_any y p ((p.st.getD n star0).e.1, (starH p n false).lo - 1) (p.st.getD n star0).n n2 n3 n w (hw.blkAt 6 rfl) (hw.blkAt 5 rfl) (hm.eff0 hw) (by omega) hn false ⟨fun h => absurd h (by decide), fun h => absurd h ((hE0.klo h166).resolve_left h232)⟩)) rfl rfl rfl rfl ?_
                        refine .runG rfl (yNot rfl) rfl rfl rfl rfl ?_
                        refine .run rfl (yPickF rfl rfl) rfl rfl ?_
                        refine .run rfl (yMove rfl) rfl rfl ?_
                        refine .runG rfl (yFieldAddr rfl F23_1) rfl rfl rfl rfl ?_
                        refine .runG rfl (yLoad1 rfl O3 (cOwn 4 rfl rfl)) rfl rfl rfl rfl ?_
                        refine .runG rfl (yFieldAddr rfl F23_1) rfl rfl rfl rfl ?_
                        refine .runG rfl (yLoad1 rfl O3 (cOwn 7 rfl rfl)) rfl rfl rfl rfl ?_
                        refine .runG rfl (yEql rfl rfl) rfl rfl rfl rfl ?_
                        refine .runG rfl (yvFalse (yMove rfl) (h250)) rfl rfl rfl rfl ?_
                        refine .runG rfl (yMove rfl) rfl rfl rfl rfl ?_
                        refine .runG rfl (yFieldAddr rfl F23_1) rfl rfl rfl rfl ?_
                        refine .runG rfl (yLoad1 rfl O3 (cOwn 4 rfl rfl)) rfl rfl rfl rfl ?_
                        refine .runG rfl (yAdd rfl rfl (by omega)) rfl rfl rfl rfl ?_
                        refine .runG rfl (yFieldAddr rfl F23_1) rfl rfl rfl rfl ?_
                        refine .runG rfl (yLoad1 rfl O3 (cOwn 7 rfl rfl)) rfl rfl rfl rfl ?_
                        refine .runG rfl (yCall rfl (.c rfl (.c rfl .n)) C34 (fun w hw => spanL_any _ _ w)) rfl rfl rfl rfl ?_
                        refine .runG rfl (yLoadA (vs := [_, _]) rfl A23 (cOwn 8 rfl rfl)) rfl rfl rfl rfl ?_
                        refine .runG rfl (yCall rfl (.c rfl (.c rfl .n)) C39 (fun w hw => pend_any y p ((starH p n false).hi + 1, (p.st.getD n star0).e.2) (p.st.getD n star0).n n2 n3 n w (hw.blkAt 6 rfl) (hw.blkAt 5 rfl) (hm.eff0 hw) (by omega) hn false ⟨fun h => absurd h (by decide), fun h => absurd h ((hE0.khi h166).resolve_left h250)⟩)) rfl rfl rfl rfl ?_
                        refine .runG rfl (yNot rfl) rfl rfl rfl rfl ?_
                        refine .runG rfl (yPickF rfl rfl) rfl rfl rfl rfl ?_
                        refine .run rfl (yPickT rfl rfl) rfl rfl ?_
                        refine .run rfl (yMove rfl) rfl rfl ?_
                        refine .runG rfl (yFieldAddr rfl F23_0) rfl rfl rfl rfl ?_
                        refine .runG rfl (yLoad1 rfl O3 (cOwn 3 rfl rfl)) rfl rfl rfl rfl ?_
                        refine .runG rfl (yFieldAddr rfl F23_0) rfl rfl rfl rfl ?_
                        refine .runG rfl (yLoad1 rfl O3 (cOwn 8 rfl rfl)) rfl rfl rfl rfl ?_
                        refine .runG rfl (yEql rfl rfl) rfl rfl rfl rfl ?_
                        refine .runG rfl (yvTrue (yMove rfl) (h269)) rfl rfl rfl rfl ?_
                        refine .skip rfl rfl rfl rfl rfl rfl ?_
                        refine .skip rfl rfl rfl rfl rfl rfl ?_
                        refine .skip rfl rfl rfl rfl rfl rfl ?_
                        refine .skip rfl rfl rfl rfl rfl rfl ?_
                        refine .skip rfl rfl rfl rfl rfl rfl ?_
                        refine .skip rfl rfl rfl rfl rfl rfl ?_
                        refine .skip rfl rfl rfl rfl rfl rfl ?_
                        refine .skip rfl rfl rfl rfl rfl rfl ?_
                        refine .skip rfl rfl rfl rfl rfl rfl ?_
                        refine .skip rfl rfl rfl rfl rfl rfl ?_
                        refine .runG rfl (yPickT rfl rfl) rfl rfl rfl rfl ?_
                        refine .run rfl (yPickT rfl rfl) rfl rfl ?_
                        refine .run rfl (yMove rfl) rfl rfl ?_
                        refine .runG rfl (yFieldAddr rfl F23_1) rfl rfl rfl rfl ?_
                        refine .runG rfl (yLoad1 rfl O3 (cOwn 3 rfl rfl)) rfl rfl rfl rfl ?_
                        refine .runG rfl (yFieldAddr rfl F23_1) rfl rfl rfl rfl ?_
                        refine .runG rfl (yLoad1 rfl O3 (cOwn 8 rfl rfl)) rfl rfl rfl rfl ?_
                        refine .runG rfl (yEql rfl rfl) rfl rfl rfl rfl ?_
                        refine .runG rfl (yvFalse (yMove rfl) (h288)) rfl rfl rfl rfl ?_
                        refine .runG rfl (yMove rfl) rfl rfl rfl rfl ?_
                        refine .runG rfl (yLoadA (vs := [_, _]) rfl A23 (cOwn 7 rfl rfl)) rfl rfl rfl rfl ?_
                        refine .runG rfl (yFieldAddr rfl F23_1) rfl rfl rfl rfl ?_
                        refine .runG rfl (yLoad1 rfl O3 (cOwn 3 rfl rfl)) rfl rfl rfl rfl ?_
                        refine .runG rfl (yAdd rfl rfl (by omega)) rfl rfl rfl rfl ?_
                        refine .runG rfl (yFieldAddr rfl F23_1) rfl rfl rfl rfl ?_
                        refine .runG rfl (yLoad1 rfl O3 (cOwn 8 rfl rfl)) rfl rfl rfl rfl ?_
                        refine .runG rfl (yCall rfl (.c rfl (.c rfl .n)) C34 (fun w hw => spanL_any _ _ w)) rfl rfl rfl rfl ?_
                        refine .runG rfl (yCall rfl (.c rfl (.c rfl .n)) C39 (fun w hw => pend_any y p (p.st.getD n star0).e ((starH p n true).hi + 1, (p.st.getD n star0).n.2) n2 n3 n w (hw.blkAt 6 rfl) (hw.blkAt 5 rfl) (hm.eff0 hw) (by omega) hn false ⟨fun h => absurd h (by decide), fun h => absurd h ((hE1.khi h166).resolve_left h288)⟩)) rfl rfl rfl rfl ?_
                        refine .runG rfl (yNot rfl) rfl rfl rfl rfl ?_
                        refine .runG rfl (yPickF rfl rfl) rfl rfl rfl rfl ?_
                        refine .run rfl (yPickT rfl rfl) rfl rfl ?_
                        refine .run rfl (yMove rfl) rfl rfl ?_
                        refine .runG rfl (yCall rfl .n C14 (fun w hw => alive_any w)) rfl rfl rfl rfl ?_
                        refine .run rfl (yPickT rfl rfl) rfl rfl ?_
                        refine .run rfl (yAssign rfl) rfl rfl ?_
                        refine .done ?_
                        refine effDone closedSt (hLeft [1, 3, 8, 10, 12, 13, 14, 19, 21, 26, 29, 30, 31, 32, 38, 40, 57, 59, 63, 65, 68, 69, 70, 75] (by kernel_rfl) (.c (fun _ _ hs => hs.ef) (.c (fun _ _ hs => hs.ef) (.c (fun _ _ hs => hs.ef) (.c (fun _ _ hs => hs.ef) (.c (fun _ _ hs => hs.ef) (.c (fun _ _ hs => hs.ef) (.c (fun _ _ hs => hs.ef) (.c (fun _ _ hs => hs.ef) (.c (fun _ _ hs => hs.ef) (.c (fun _ _ hs => hs.ef) (.c (fun _ _ hs => hs.ef) (.c (fun _ _ hs => hs.ef) (.c (fun _ _ hs => hs.ef) (.c (fun _ _ hs => hs.ef) (.c (fun _ _ hs => hs.ef) (.c (fun _ _ hs => hs.ef) (.c (fun _ _ hs => hs.ef) (.c (fun _ _ hs => hs.ef) (.c (fun _ _ hs => hs.ef) (.c (fun _ _ hs => hs.ef) (.c (fun _ _ hs => hs.ef) (.c (fun _ _ hs => hs.ef) (.c (fun _ _ hs => hs.ef) (.c (fun _ _ hs => hs.ef) .n))))))))))))))))))))))))) (by kernel_rfl) ?_
                        refine kThen ?_
                        refine kRet ?_
                        refine kThenR ?_
                        refine fRet rfl (.t rfl .n) (endRet ?_)
                        first | rfl | (simp [packV, *]; done)
                    · by_cases h288 : (starH p n true).hi = (p.st.getD n star0).n.2
                      · refine kDrawE [(1, none), (3, none), (8, none), (10, none), (12, none), (13, none), (14, none), (19, none), (21, none), (26, none), (29, none), (30, none), (31, none), (32, none), (38, none), (40, none), (44, none), (46, none), (48, none), (50, none), (51, none), (57, none), (59, none), (75, none)] [] [0, 1, 2, 3, 4, 5, 6, 7, 8, 9, 10, 11, 12, 13, 14, 15, 16, 17, 18, 19, 20, 21, 22, 23, 24, 25, 26, 27, 28, 29, 30, 31, 32, 33, 34, 35, 36, 37, 38, 39, 40, 41, 42, 43, 44, 45, 46, 47, 48, 49, 50, 51, 52, 53, 54, 55, 56, 57, 58, 59, 60, 61, 62, 63, 64, 65, 66, 67, 68, 69, 70, 71, 72, 73, 74, 75, 76, 77] 0 hMix (by kernel_rfl) ?_
                        refine .run rfl (yFieldAddr rfl F23_0) rfl rfl ?_
                        refine .run rfl (yLoad1 rfl O3 (cOwn 4 rfl rfl)) rfl rfl ?_
                        refine .run rfl (yFieldAddr rfl F23_0) rfl rfl ?_
                        refine .run rfl (yLoad1 rfl O3 (cOwn 7 rfl rfl)) rfl rfl ?_
                        refine .run rfl (yEql rfl rfl) rfl rfl ?_
                        refine .run rfl (yvFalse (yMove rfl) (h232)) rfl rfl ?_
                        refine .runG rfl (yMove rfl) rfl rfl rfl rfl ?_
                        refine .runG rfl (yFieldAddr rfl F23_0) rfl rfl rfl rfl ?_
                        refine .runG rfl (yLoad1 rfl O3 (cOwn 7 rfl rfl)) rfl rfl rfl rfl ?_
                        refine .runG rfl (yFieldAddr rfl F23_0) rfl rfl rfl rfl ?_
                        refine .runG rfl (yLoad1 rfl O3 (cOwn 4 rfl rfl)) rfl rfl rfl rfl ?_
                        refine .runG rfl (ySub rfl rfl (by omega)) rfl rfl rfl rfl ?_
                        refine .runG rfl (yCall rfl (.c rfl (.c rfl .n)) C34 (fun w hw => spanL_any _ _ w)) rfl rfl rfl rfl ?_
                        refine .runG rfl (yLoadA (vs := [_, _]) rfl A23 (cOwn 8 rfl rfl)) rfl rfl rfl rfl ?_
                        refine .runG rfl (yCall rfl (.c rfl (.c rfl .n)) C39 (fun w hw => pend_any y p ((p.st.getD n star0).e.1, (starH p n false).lo - 1) (p.st.getD n star0).n n2 n3 n w (hw.blkAt 6 rfl) (hw.blkAt 5 rfl) (hm.eff0 hw) (by omega) hn false ⟨fun h => absurd h (by decide), fun h => absurd h ((hE0.klo h166).resolve_left h232)⟩)) rfl rfl rfl rfl ?_
                        refine .runG rfl (yNot rfl) rfl rfl rfl rfl ?_
                        refine .run rfl (yPickF rfl rfl) rfl rfl ?_
                        refine .run rfl (yMove rfl) rfl rfl ?_
                        refine .runG rfl (yFieldAddr rfl F23_1) rfl rfl rfl rfl ?_
                        refine .runG rfl (yLoad1 rfl O3 (cOwn 4 rfl rfl)) rfl rfl rfl rfl ?_
                        refine .runG rfl (yFieldAddr rfl F23_1) rfl rfl rfl rfl ?_
                        refine .runG rfl (yLoad1 rfl O3 (cOwn 7 rfl rfl)) rfl rfl rfl rfl ?_
                        refine .runG rfl (yEql rfl rfl) rfl rfl rfl rfl ?_
                        refine .runG rfl (yvFalse (yMove rfl) (h250)) rfl rfl rfl rfl ?_
                        refine .runG rfl (yMove rfl) rfl rfl rfl rfl ?_
                        refine .runG rfl (yFieldAddr rfl F23_1) rfl rfl rfl rfl ?_
                        refine .runG rfl (yLoad1 rfl O3 (cOwn 4 rfl rfl)) rfl rfl rfl rfl ?_
                        refine .runG rfl (yAdd rfl rfl (by omega)) rfl rfl rfl rfl ?_
                        refine .runG rfl (yFieldAddr rfl F23_1) rfl rfl rfl rfl ?_
                        refine .runG rfl (yLoad1 rfl O3 (cOwn 7 rfl rfl)) rfl rfl rfl rfl ?_
                        refine .runG rfl (yCall rfl (.c rfl (.c rfl .n)) C34 (fun w hw => spanL_any _ _ w)) rfl rfl rfl rfl ?_
                        refine .runG rfl (yLoadA (vs := [_, _]) rfl A23 (cOwn 8 rfl rfl)) rfl rfl rfl rfl ?_
                        refine .runG rfl (yCall rfl (.c rfl (.c rfl .n)) C39 (fun w hw => pend_any y p ((starH p n false).hi + 1, (p.st.getD n star0).e.2) (p.st.getD n star0).n n2 n3 n w (hw.blkAt 6 rfl) (hw.blkAt 5 rfl) (hm.eff0 hw) (by omega) hn false ⟨fun h => absurd h (by decide), fun h => absurd h ((hE0.khi h166).resolve_left h250)⟩)) rfl rfl rfl rfl ?_
                        refine .runG rfl (yNot rfl) rfl rfl rfl rfl ?_
                        refine .runG rfl (yPickF rfl rfl) rfl rfl rfl rfl ?_
                        refine .run rfl (yPickT rfl rfl) rfl rfl ?_
                        refine .run rfl (yMove rfl) rfl rfl ?_
                        refine .runG rfl (yFieldAddr rfl F23_0) rfl rfl rfl rfl ?_
                        refine .runG rfl (yLoad1 rfl O3 (cOwn 3 rfl rfl)) rfl rfl rfl rfl ?_
                        refine .runG rfl (yFieldAddr rfl F23_0) rfl rfl rfl rfl ?_
                        refine .runG rfl (yLoad1 rfl O3 (cOwn 8 rfl rfl)) rfl rfl rfl rfl ?_
                        refine .runG rfl (yEql rfl rfl) rfl rfl rfl rfl ?_
                        refine .runG rfl (yvFalse (yMove rfl) (h269)) rfl rfl rfl rfl ?_
                        refine .runG rfl (yMove rfl) rfl rfl rfl rfl ?_
                        refine .runG rfl (yLoadA (vs := [_, _]) rfl A23 (cOwn 7 rfl rfl)) rfl rfl rfl rfl ?_
                        refine .runG rfl (yFieldAddr rfl F23_0) rfl rfl rfl rfl ?_
                        refine .runG rfl (yLoad1 rfl O3 (cOwn 8 rfl rfl)) rfl rfl rfl rfl ?_
                        refine .runG rfl (yFieldAddr rfl F23_0) rfl rfl rfl rfl ?_
                        refine .runG rfl (yLoad1 rfl O3 (cOwn 3 rfl rfl)) rfl rfl rfl rfl ?_
                        refine .runG rfl (ySub rfl rfl (by omega)) rfl rfl rfl rfl ?_
                        refine .runG rfl (yCall rfl (.c rfl (.c rfl .n)) C34 (fun w hw => spanL_any _ _ w)) rfl rfl rfl rfl ?_
                        refine .runG rfl (yCall rfl (.c rfl (.c rfl .n)) C39 (fun w hw => pend_any y p (p.st.getD n star0).e ((p.st.getD n star0).n.1, (starH p n true).lo - 1) n2 n3 n w (hw.blkAt 6 rfl) (hw.blkAt 5 rfl) (hm.eff0 hw) (by omega) hn false ⟨fun h => absurd h (by decide), fun h => absurd h ((hE1.klo h166).resolve_left h269)⟩)) rfl rfl rfl rfl ?_
                        refine .runG rfl (yNot rfl) rfl rfl rfl rfl ?_
                        refine .runG rfl (yPickF rfl rfl) rfl rfl rfl rfl ?_
                        refine .run rfl (yPickT rfl rfl) rfl rfl ?_
                        refine .run rfl (yMove rfl) rfl rfl ?_
                        refine .runG rfl (yFieldAddr rfl F23_1) rfl rfl rfl rfl ?_
                        refine .runG rfl (yLoad1 rfl O3 (cOwn 3 rfl rfl)) rfl rfl rfl rfl ?_
                        refine .runG rfl (yFieldAddr rfl F23_1) rfl rfl rfl rfl ?_
                        refine .runG rfl (yLoad1 rfl O3 (cOwn 8 rfl rfl)) rfl rfl rfl rfl ?_
                        refine .runG rfl (yEql rfl rfl) rfl rfl rfl rfl ?_
                        refine .runG rfl (yvTrue (yMove rfl) (h288)) rfl rfl rfl rfl ?_
                        refine .skip rfl rfl rfl rfl rfl rfl ?_
                        refine .skip rfl rfl rfl rfl rfl rfl ?_
                        refine .skip rfl rfl rfl rfl rfl rfl ?_
                        refine .skip rfl rfl rfl rfl rfl rfl ?_
                        refine .skip rfl rfl rfl rfl rfl rfl ?_
                        refine .skip rfl rfl rfl rfl rfl rfl ?_
                        refine .skip rfl rfl rfl rfl rfl rfl ?_
                        refine .skip rfl rfl rfl rfl rfl rfl ?_
                        refine .skip rfl rfl rfl rfl rfl rfl ?_
                        refine .skip rfl rfl rfl rfl rfl rfl ?_
                        refine .runG rfl (yPickT rfl rfl) rfl rfl rfl rfl ?_
                        refine .run rfl (yPickT rfl rfl) rfl rfl ?_
                        refine .run rfl (yMove rfl) rfl rfl ?_
                        refine .runG rfl (yCall rfl .n C14 (fun w hw => alive_any w)) rfl rfl rfl rfl ?_
                        refine .run rfl (yPickT rfl rfl) rfl rfl ?_
                        refine .run rfl (yAssign rfl) rfl rfl ?_
                        refine .done ?_
                        refine effDone closedSt (hLeft [1, 3, 8, 10, 12, 13, 14, 19, 21, 26, 29, 30, 31, 32, 38, 40, 44, 46, 48, 50, 51, 57, 59, 75] (by kernel_rfl) (.c (fun _ _ hs => hs.ef) (.c (fun _ _ hs => hs.ef) (.c (fun _ _ hs => hs.ef) (.c (fun _ _ hs => hs.ef) (.c (fun _ _ hs => hs.ef) (.c (fun _ _ hs => hs.ef) (.c (fun _ _ hs => hs.ef) (.c (fun _ _ hs => hs.ef) (.c (fun _ _ hs => hs.ef) (.c (fun _ _ hs => hs.ef) (.c (fun _ _ hs => hs.ef) (.c (fun _ _ hs => hs.ef) (.c (fun _ _ hs => hs.ef) (.c (fun _ _ hs => hs.ef) (.c (fun _ _ hs => hs.ef) (.c (fun _ _ hs => hs.ef) (.c (fun _ _ hs => hs.ef) (.c (fun _ _ hs => hs.ef) (.c (fun _ _ hs => hs.ef) (.c (fun _ _ hs => hs.ef) (.c (fun _ _ hs => hs.ef) (.c (fun _ _ hs => hs.ef) (.c (fun _ _ hs => hs.ef) (.c (fun _ _ hs => hs.ef) .n))))))))))))))))))))))))) (by kernel_rfl) ?_
                        refine kThen ?_
                        refine kRet ?_
                        refine kThenR ?_
                        refine fRet rfl (.t rfl .n) (endRet ?_)
                        first | rfl | (simp [packV, *]; done)
                      · refine kDrawE [(1, none), (3, none), (8, none), (10, none), (12, none), (13, none), (14, none), (19, none), (21, none), (26, none), (29, none), (30, none), (31, none), (32, none), (38, none), (40, none), (44, none), (46, none), (48, none), (50, none), (51, none), (57, none), (59, none), (63, none), (65, none), (68, none), (69, none), (70, none), (75, none)] [] [0, 1, 2, 3, 4, 5, 6, 7, 8, 9, 10, 11, 12, 13, 14, 15, 16, 17, 18, 19, 20, 21, 22, 23, 24, 25, 26, 27, 28, 29, 30, 31, 32, 33, 34, 35, 36, 37, 38, 39, 40, 41, 42, 43, 44, 45, 46, 47, 48, 49, 50, 51, 52, 53, 54, 55, 56, 57, 58, 59, 60, 61, 62, 63, 64, 65, 66, 67, 68, 69, 70, 71, 72, 73, 74, 75, 76, 77] 0 hMix (by kernel_rfl) ?_
                        refine .run rfl (yFieldAddr rfl F23_0) rfl rfl ?_
                        refine .run rfl (yLoad1 rfl O3 (cOwn 4 rfl rfl)) rfl rfl ?_
                        refine .run rfl (yFieldAddr rfl F23_0) rfl rfl ?_
                        refine .run rfl (yLoad1 rfl O3 (cOwn 7 rfl rfl)) rfl rfl ?_
                        refine .run rfl (yEql rfl rfl) rfl rfl ?_
                        refine .run rfl (yvFalse (yMove rfl) (h232)) rfl rfl ?_
                        refine .runG rfl (yMove rfl) rfl rfl rfl rfl ?_
                        refine .runG rfl (yFieldAddr rfl F23_0) rfl rfl rfl rfl ?_
                        refine .runG rfl (yLoad1 rfl O3 (cOwn 7 rfl rfl)) rfl rfl rfl rfl ?_
                        refine .runG rfl (yFieldAddr rfl F23_0) rfl rfl rfl rfl ?_
                        refine .runG rfl (yLoad1 rfl O3 (cOwn 4 rfl rfl)) rfl rfl rfl rfl ?_
                        refine .runG rfl (ySub rfl rfl (by omega)) rfl rfl rfl rfl ?_
                        refine .runG rfl (yCall rfl (.c rfl (.c rfl .n)) C34 (fun w hw => spanL_any _ _ w)) rfl rfl rfl rfl ?_
                        refine .runG rfl (yLoadA (vs := [_, _]) rfl A23 (cOwn 8 rfl rfl)) rfl rfl rfl rfl ?_
                        refine .runG rfl (yCall rfl (.c rfl (.c rfl .n)) C39 (fun w hw => pend_any y p ((p.st.getD n star0).e.1, (starH p n false).lo - 1) (p.st.getD n star0).n n2 n3 n w (hw.blkAt 6 rfl) (hw.blkAt 5 rfl) (hm.eff0 hw) (by omega) hn false ⟨fun h => absurd h (by decide), fun h => absurd h ((hE0.klo h166).resolve_left h232)⟩)) rfl rfl rfl rfl ?_
                        refine .runG rfl (yNot rfl) rfl rfl rfl rfl ?_
                        refine .run rfl (yPickF rfl rfl) rfl rfl ?_
                        refine .run rfl (yMove rfl) rfl rfl ?_
                        refine .runG rfl (yFieldAddr rfl F23_1) rfl rfl rfl rfl ?_
                        refine .runG rfl (yLoad1 rfl O3 (cOwn 4 rfl rfl)) rfl rfl rfl rfl ?_
                        refine .runG rfl (yFieldAddr rfl F23_1) rfl rfl rfl rfl ?_
                        refine .runG rfl (yLoad1 rfl O3 (cOwn 7 rfl rfl)) rfl rfl rfl rfl ?_
                        refine .runG rfl (yEql rfl rfl) rfl rfl rfl rfl ?_
                        refine .runG rfl (yvFalse (yMove rfl) (h250)) rfl rfl rfl rfl ?_
                        refine .runG rfl (yMove rfl) rfl rfl rfl rfl ?_
                        refine .runG rfl (yFieldAddr rfl F23_1) rfl rfl rfl rfl ?_
                        refine .runG rfl (yLoad1 rfl O3 (cOwn 4 rfl rfl)) rfl rfl rfl rfl ?_
                        refine .runG rfl (yAdd rfl rfl (by omega)) rfl rfl rfl rfl ?_
                        refine .runG rfl (yFieldAddr rfl F23_1) rfl rfl rfl rfl ?_
                        refine .runG rfl (yLoad1 rfl O3 (cOwn 7 rfl rfl)) rfl rfl rfl rfl ?_
                        refine .runG rfl (yCall rfl (.c rfl (.c rfl .n)) C34 (fun w hw => spanL_any _ _ w)) rfl rfl rfl rfl ?_
                        refine .runG rfl (yLoadA (vs := [_, _]) rfl A23 (cOwn 8 rfl rfl)) rfl rfl rfl rfl ?_
                        refine .runG rfl (yCall rfl (.c rfl (.c rfl .n)) C39 (fun w hw => pend_any y p ((starH p n false).hi + 1, (p.st.getD n star0).e.2) (p.st.getD n star0).n n2 n3 n w (hw.blkAt 6 rfl) (hw.blkAt 5 rfl) (hm.eff0 hw) (by omega) hn false ⟨fun h => absurd h (by decide), fun h => absurd h ((hE0.khi h166).resolve_left h250)⟩)) rfl rfl rfl rfl ?_
                        refine .runG rfl (yNot rfl) rfl rfl rfl rfl ?_
                        refine .runG rfl (yPickF rfl rfl) rfl rfl rfl rfl ?_
                        refine .run rfl (yPickT rfl rfl) rfl rfl ?_
                        refine .run rfl (yMove rfl) rfl rfl ?_
                        refine .runG rfl (yFieldAddr rfl F23_0) rfl rfl rfl rfl ?_
                        refine .runG rfl (yLoad1 rfl O3 (cOwn 3 rfl rfl)) rfl rfl rfl rfl ?_
                        refine .runG rfl (yFieldAddr rfl F23_0) rfl rfl rfl rfl ?_
                        refine .runG rfl (yLoad1 rfl O3 (cOwn 8 rfl rfl)) rfl rfl rfl rfl ?_
                        refine .runG rfl (yEql rfl rfl) rfl rfl rfl rfl ?_
                        refine .runG rfl (yvFalse (yMove rfl) (h269)) rfl rfl rfl rfl ?_
                        refine .runG rfl (yMove rfl) rfl rfl rfl rfl ?_
                        refine .runG rfl (yLoadA (vs := [_, _]) rfl A23 (cOwn 7 rfl rfl)) rfl rfl rfl rfl ?_
                        refine .runG rfl (yFieldAddr rfl F23_0) rfl rfl rfl rfl ?_
                        refine .runG rfl (yLoad1 rfl O3 (cOwn 8 rfl rfl)) rfl rfl rfl rfl ?_
                        refine .runG rfl (yFieldAddr rfl F23_0) rfl rfl rfl rfl ?_
                        refine .runG rfl (yLoad1 rfl O3 (cOwn 3 rfl rfl)) rfl rfl rfl rfl ?_
                        refine .runG rfl (ySub rfl rfl (by omega)) rfl rfl rfl rfl ?_
                        refine .runG rfl (yCall rfl (.c rfl (.c rfl .n)) C34 (fun w hw => spanL_any _ _ w)) rfl rfl rfl rfl ?_
                        refine .runG rfl (yCall rfl (.c rfl (.c rfl .n)) C39 (fun w hw => pend_any y p (p.st.getD n star0).e ((p.st.getD n star0).n.1, (starH p n true).lo - 1) n2 n3 n w (hw.blkAt 6 rfl) (hw.blkAt 5 rfl) (hm.eff0 hw) (by omega) hn false ⟨fun h => absurd h (by decide), fun h => absurd h ((hE1.klo h166).resolve_left h269)⟩)) rfl rfl rfl rfl ?_
                        refine .runG rfl (yNot rfl) rfl rfl rfl rfl ?_
                        refine .runG rfl (yPickF rfl rfl) rfl rfl rfl rfl ?_
                        refine .run rfl (yPickT rfl rfl) rfl rfl ?_
                        refine .run rfl (yMove rfl) rfl rfl ?_
                        refine .runG rfl (yFieldAddr rfl F23_1) rfl rfl rfl rfl ?_
                        refine .runG rfl (yLoad1 rfl O3 (cOwn 3 rfl rfl)) rfl rfl rfl rfl ?_
                        refine .runG rfl (yFieldAddr rfl F23_1) rfl rfl rfl rfl ?_
                        refine .runG rfl (yLoad1 rfl O3 (cOwn 8 rfl rfl)) rfl rfl rfl rfl ?_
                        refine .runG rfl (yEql rfl rfl) rfl rfl rfl rfl ?_
                        refine .runG rfl (yvFalse (yMove rfl) (h288)) rfl rfl rfl rfl ?_
                        refine .runG rfl (yMove rfl) rfl rfl rfl rfl ?_
                        refine .runG rfl (yLoadA (vs := [_, _]) rfl A23 (cOwn 7 rfl rfl)) rfl rfl rfl rfl ?_
                        refine .runG rfl (yFieldAddr rfl F23_1) rfl rfl rfl rfl ?_
                        refine .runG rfl (yLoad1 rfl O3 (cOwn 3 rfl rfl)) rfl rfl rfl rfl ?_
                        refine .runG rfl (yAdd rfl rfl (by omega)) rfl rfl rfl rfl ?_
                        refine .runG rfl (yFieldAddr rfl F23_1) rfl rfl rfl rfl ?_
                        refine .runG rfl (yLoad1 rfl O3 (cOwn 8 rfl rfl)) rfl rfl rfl rfl ?_
                        refine .runG rfl (yCall rfl (.c rfl (.c rfl .n)) C34 (fun w hw => spanL_any _ _ w)) rfl rfl rfl rfl ?_
                        refine .runG rfl (yCall rfl (.c rfl (.c rfl .n)) C39 (fun w hw => pend_any y p (p.st.getD n star0).e ((starH p n true).hi + 1, (p.st.getD n star0).n.2) n2 n3 n w (hw.blkAt 6 rfl) (hw.blkAt 5 rfl) (hm.eff0 hw) (by omega) hn false ⟨fun h => absurd h (by decide), fun h => absurd h ((hE1.khi h166).resolve_left h288)⟩)) rfl rfl rfl rfl ?_
                        refine .runG rfl (yNot rfl) rfl rfl rfl rfl ?_
                        refine .runG rfl (yPickF rfl rfl) rfl rfl rfl rfl ?_
                        refine .run rfl (yPickT rfl rfl) rfl rfl ?_
                        refine .run rfl (yMove rfl) rfl rfl ?_
                        refine .runG rfl (yCall rfl .n C14 (fun w hw => alive_any w)) rfl rfl rfl rfl ?_
                        refine .run rfl (yPickT rfl rfl) rfl rfl ?_
                        refine .run rfl (yAssign rfl) rfl rfl ?_
                        refine .done ?_
                        refine effDone closedSt (hLeft [1, 3, 8, 10, 12, 13, 14, 19, 21, 26, 29, 30, 31, 32, 38, 40, 44, 46, 48, 50, 51, 57, 59, 63, 65, 68, 69, 70, 75] (by kernel_rfl) (.c (fun _ _ hs => hs.ef) (.c (fun _ _ hs => hs.ef) (.c (fun _ _ hs => hs.ef) (.c (fun _ _ hs => hs.ef) (.c (fun _ _ hs => hs.ef) (.c (fun _ _ hs => hs.ef) (.c (fun _ _ hs => hs.ef) (.c (fun _ _ hs => hs.ef) (.c (fun _ _ hs => hs.ef) (.c (fun _ _ hs => hs.ef) (.c (fun _ _ hs => hs.ef) (.c (fun _ _ hs => hs.ef) (.c (fun _ _ hs => hs.ef) (.c (fun _ _ hs => hs.ef) (.c (fun _ _ hs => hs.ef) (.c (fun _ _ hs => hs.ef) (.c (fun _ _ hs => hs.ef) (.c (fun _ _ hs => hs.ef) (.c (fun _ _ hs => hs.ef) (.c (fun _ _ hs => hs.ef) (.c (fun _ _ hs => hs.ef) (.c (fun _ _ hs => hs.ef) (.c (fun _ _ hs => hs.ef) (.c (fun _ _ hs => hs.ef) (.c (fun _ _ hs => hs.ef) (.c (fun _ _ hs => hs.ef) (.c (fun _ _ hs => hs.ef) (.c (fun _ _ hs => hs.ef) (.c (fun _ _ hs => hs.ef) .n)))))))))))))))))))))))))))))) (by kernel_rfl) ?_
                        refine kThen ?_
                        refine kRet ?_
                        refine kThenR ?_
                        refine fRet rfl (.t rfl .n) (endRet ?_)
                        first | rfl | (simp [packV, *]; done)
              · refine lNil ?_
                refine kThen ?_
                refine kIfF rfl ?_
                refine kSkip ?_
                refine kThen ?_
                refine kSeq ?_
                refine kSeq ?_
                have hE0 := ends_u hp hn hne hb h166 false
                have hE1 := ends_u hp hn hne hb h166 true
                refine kDrawE [(2, none), (4, none), (5, none), (6, none), (7, none), (12, none), (14, none), (15, none), (16, none), (17, none), (22, none), (24, none), (26, none), (27, none), (28, none), (33, none), (35, none), (37, none), (38, none), (39, none)] [] [0, 1, 2, 3, 4, 5, 6, 7, 8, 9, 10, 11, 12, 13, 14, 15, 16, 17, 18, 19, 20, 21, 22, 23, 24, 25, 26, 27, 28, 29, 30, 31, 32, 33, 34, 35, 36, 37, 38, 39, 40, 41] 0 hMix (by kernel_rfl) ?_
                refine .run rfl (yMove rfl) rfl rfl ?_
                refine .run rfl (yFieldAddr rfl F23_0) rfl rfl ?_
                refine .run rfl (yLoad1 rfl O3 (cOwn 4 rfl rfl)) rfl rfl ?_
                refine .run rfl (yFieldAddr rfl F23_0) rfl rfl ?_
                refine .run rfl (yLoad1 rfl O3 (cOwn 4 rfl rfl)) rfl rfl ?_
                refine .run rfl (yCall rfl (.c rfl (.c rfl .n)) C34 (fun w hw => spanL_any _ _ w)) rfl rfl ?_
                refine .run rfl (yLoadA (vs := [_, _]) rfl A23 (cOwn 8 rfl rfl)) rfl rfl ?_
                refine .run rfl (yCall rfl (.c rfl (.c rfl .n)) C39 (fun w hw => pend_any y p ((starH p n false).lo, (starH p n false).lo) ((starH p n true).lo, (starH p n true).hi) n2 n3 n w (hw.blkAt 6 rfl) (hw.blkAt 5 rfl) (hm.eff0 hw) (by omega) hn true (⟨fun _ => hE0.lo, fun _ => rfl⟩))) rfl rfl ?_
                refine .run rfl (yNot rfl) rfl rfl ?_
                refine .run rfl (yMove rfl) rfl rfl ?_
                refine .runG rfl (yMove rfl) rfl rfl rfl rfl ?_
                refine .runG rfl (yFieldAddr rfl F23_1) rfl rfl rfl rfl ?_
                refine .runG rfl (yLoad1 rfl O3 (cOwn 4 rfl rfl)) rfl rfl rfl rfl ?_
                refine .runG rfl (yFieldAddr rfl F23_1) rfl rfl rfl rfl ?_
                refine .runG rfl (yLoad1 rfl O3 (cOwn 4 rfl rfl)) rfl rfl rfl rfl ?_
                refine .runG rfl (yCall rfl (.c rfl (.c rfl .n)) C34 (fun w hw => spanL_any _ _ w)) rfl rfl rfl rfl ?_
                refine .runG rfl (yLoadA (vs := [_, _]) rfl A23 (cOwn 8 rfl rfl)) rfl rfl rfl rfl ?_
                refine .runG rfl (yCall rfl (.c rfl (.c rfl .n)) C39 (fun w hw => pend_any y p ((starH p n false).hi, (starH p n false).hi) ((starH p n true).lo, (starH p n true).hi) n2 n3 n w (hw.blkAt 6 rfl) (hw.blkAt 5 rfl) (hm.eff0 hw) (by omega) hn true (⟨fun _ => hE0.hi, fun _ => rfl⟩))) rfl rfl rfl rfl ?_
                refine .runG rfl (yNot rfl) rfl rfl rfl rfl ?_
                refine .run rfl (yPickF rfl rfl) rfl rfl ?_
                refine .run rfl (yMove rfl) rfl rfl ?_
                refine .runG rfl (yMove rfl) rfl rfl rfl rfl ?_
                refine .runG rfl (yLoadA (vs := [_, _]) rfl A23 (cOwn 7 rfl rfl)) rfl rfl rfl rfl ?_
                refine .runG rfl (yFieldAddr rfl F23_0) rfl rfl rfl rfl ?_
                refine .runG rfl (yLoad1 rfl O3 (cOwn 3 rfl rfl)) rfl rfl rfl rfl ?_
                refine .runG rfl (yFieldAddr rfl F23_0) rfl rfl rfl rfl ?_
                refine .runG rfl (yLoad1 rfl O3 (cOwn 3 rfl rfl)) rfl rfl rfl rfl ?_
                refine .runG rfl (yCall rfl (.c rfl (.c rfl .n)) C34 (fun w hw => spanL_any _ _ w)) rfl rfl rfl rfl ?_
                refine .runG rfl (yCall rfl (.c rfl (.c rfl .n)) C39 (fun w hw => pend_any y p ((starH p n false).lo, (starH p n false).hi) ((starH p n true).lo, (starH p n true).lo) n2 n3 n w (hw.blkAt 6 rfl) (hw.blkAt 5 rfl) (hm.eff0 hw) (by omega) hn true (⟨fun _ => hE1.lo, fun _ => rfl⟩))) rfl rfl rfl rfl ?_
                refine .runG rfl (yNot rfl) rfl rfl rfl rfl ?_
                refine .run rfl (yPickF rfl rfl) rfl rfl ?_
                refine .run rfl (yMove rfl) rfl rfl ?_
                refine .runG rfl (yMove rfl) rfl rfl rfl rfl ?_
                refine .runG rfl (yLoadA (vs := [_, _]) rfl A23 (cOwn 7 rfl rfl)) rfl rfl rfl rfl ?_
                refine .runG rfl (yFieldAddr rfl F23_1) rfl rfl rfl rfl ?_
                refine .runG rfl (yLoad1 rfl O3 (cOwn 3 rfl rfl)) rfl rfl rfl rfl ?_
                refine .runG rfl (yFieldAddr rfl F23_1) rfl rfl rfl rfl ?_
                refine .runG rfl (yLoad1 rfl O3 (cOwn 3 rfl rfl)) rfl rfl rfl rfl ?_
                refine .runG rfl (yCall rfl (.c rfl (.c rfl .n)) C34 (fun w hw => spanL_any _ _ w)) rfl rfl rfl rfl ?_
                refine .runG rfl (yCall rfl (.c rfl (.c rfl .n)) C39 (fun w hw => pend_any y p ((starH p n false).lo, (starH p n false).hi) ((starH p n true).hi, (starH p n true).hi) n2 n3 n w (hw.blkAt 6 rfl) (hw.blkAt 5 rfl) (hm.eff0 hw) (by omega) hn true (⟨fun _ => hE1.hi, fun _ => rfl⟩))) rfl rfl rfl rfl ?_
                refine .runG rfl (yNot rfl) rfl rfl rfl rfl ?_
                refine .run rfl (yPickF rfl rfl) rfl rfl ?_
                refine .done ?_
                refine effDone closedSt (hLeft [2, 4, 5, 6, 7, 12, 14, 15, 16, 17, 22, 24, 26, 27, 28, 33, 35, 37, 38, 39] (by kernel_rfl) (.c (fun _ _ hs => hs.ef) (.c (fun _ _ hs => hs.ef) (.c (fun _ _ hs => hs.ef) (.c (fun _ _ hs => hs.ef) (.c (fun _ _ hs => hs.ef) (.c (fun _ _ hs => hs.ef) (.c (fun _ _ hs => hs.ef) (.c (fun _ _ hs => hs.ef) (.c (fun _ _ hs => hs.ef) (.c (fun _ _ hs => hs.ef) (.c (fun _ _ hs => hs.ef) (.c (fun _ _ hs => hs.ef) (.c (fun _ _ hs => hs.ef) (.c (fun _ _ hs => hs.ef) (.c (fun _ _ hs => hs.ef) (.c (fun _ _ hs => hs.ef) (.c (fun _ _ hs => hs.ef) (.c (fun _ _ hs => hs.ef) (.c (fun _ _ hs => hs.ef) (.c (fun _ _ hs => hs.ef) .n))))))))))))))))))))) (by kernel_rfl) ?_
                refine kThen ?_
                refine kIfF rfl ?_
                refine kSkip ?_
                refine kThen ?_
                refine kSeq ?_
                refine kSeq ?_
                refine kRegion rfl ?_
                refine lV (yFieldAddr rfl F26_1) rfl rfl ?_
                refine lV (yLoad1 rfl O24 (cOwn 6 rfl rfl)) rfl rfl ?_
                refine lV (yLoad1 rfl O3 (cOwn 5 rfl rfl)) rfl rfl ?_
                refine lV (yIndexS  rfl rfl S24 (hm.r) (hn)) rfl rfl ?_
                refine lV (yFieldAddr rfl F58_2) rfl rfl ?_
                refine lV (yLoad1 rfl O4 (cSl (hm.r) (hn) rfl)) rfl rfl ?_
                refine knownB (t := 226) (c := false) rfl (h166) ?_
                refine lNil ?_
                refine kThen ?_
                refine kIfF rfl ?_
                refine kSkip ?_
                refine kThen ?_
                refine kSeq ?_
                refine kDrawE [(2, none), (5, none), (7, none), (8, none), (9, none), (14, none), (17, none), (19, none), (20, none), (21, none), (26, none), (28, none), (31, none), (33, none), (34, none), (39, none), (41, none), (44, none), (46, none), (47, none), (51, none)] [] [0, 1, 2, 3, 4, 5, 6, 7, 8, 9, 10, 11, 12, 13, 14, 15, 16, 17, 18, 19, 20, 21, 22, 23, 24, 25, 26, 27, 28, 29, 30, 31, 32, 33, 34, 35, 36, 37, 38, 39, 40, 41, 42, 43, 44, 45, 46, 47, 48, 49, 50, 51, 52, 53] 0 hMix (by kernel_rfl) ?_
                refine .run rfl (yMove rfl) rfl rfl ?_
                refine .run rfl (yFieldAddr rfl F23_0) rfl rfl ?_
                refine .run rfl (yLoad1 rfl O3 (cOwn 4 rfl rfl)) rfl rfl ?_
                refine .run rfl (ySub rfl rfl (by omega)) rfl rfl ?_
                refine .run rfl (yFieldAddr rfl F23_0) rfl rfl ?_
                refine .run rfl (yLoad1 rfl O3 (cOwn 4 rfl rfl)) rfl rfl ?_
                refine .run rfl (ySub rfl rfl (by omega)) rfl rfl ?_
                refine .run rfl (yCall rfl (.c rfl (.c rfl .n)) C34 (fun w hw => spanL_any _ _ w)) rfl rfl ?_
                refine .run rfl (yLoadA (vs := [_, _]) rfl A23 (cOwn 0 rfl rfl)) rfl rfl ?_
                refine .run rfl (yCall rfl (.c rfl (.c rfl .n)) C39 (fun w hw => pend_any y p ((starH p n false).lo - 1, (starH p n false).lo - 1) allV n2 n3 n w (hw.blkAt 6 rfl) (hw.blkAt 5 rfl) (hm.eff0 hw) (by omega) hn false ⟨fun h => absurd h (by decide), fun h => absurd h (hE0.ulo h166)⟩)) rfl rfl ?_
                refine .run rfl (yNot rfl) rfl rfl ?_
                refine .run rfl (yMove rfl) rfl rfl ?_
                refine .runG rfl (yMove rfl) rfl rfl rfl rfl ?_
                refine .runG rfl (yFieldAddr rfl F23_1) rfl rfl rfl rfl ?_
                refine .runG rfl (yLoad1 rfl O3 (cOwn 4 rfl rfl)) rfl rfl rfl rfl ?_
                refine .runG rfl (yAdd rfl rfl (by omega)) rfl rfl rfl rfl ?_
                refine .runG rfl (yFieldAddr rfl F23_1) rfl rfl rfl rfl ?_
                refine .runG rfl (yLoad1 rfl O3 (cOwn 4 rfl rfl)) rfl rfl rfl rfl ?_
                refine .runG rfl (yAdd rfl rfl (by omega)) rfl rfl rfl rfl ?_
                refine .runG rfl (yCall rfl (.c rfl (.c rfl .n)) C34 (fun w hw => spanL_any _ _ w)) rfl rfl rfl rfl ?_
                refine .runG rfl (yLoadA (vs := [_, _]) rfl A23 (cOwn 0 rfl rfl)) rfl rfl rfl rfl ?_
                refine .runG rfl (yCall rfl (.c rfl (.c rfl .n)) C39 (fun w hw => pend_any y p ((starH p n false).hi + 1, (starH p n false).hi + 1) allV n2 n3 n w (hw.blkAt 6 rfl) (hw.blkAt 5 rfl) (hm.eff0 hw) (by omega) hn false ⟨fun h => absurd h (by decide), fun h => absurd h (hE0.uhi h166)⟩)) rfl rfl rfl rfl ?_
                refine .runG rfl (yNot rfl) rfl rfl rfl rfl ?_
                refine .run rfl (yPickT rfl rfl) rfl rfl ?_
                refine .run rfl (yMove rfl) rfl rfl ?_
                refine .runG rfl (yMove rfl) rfl rfl rfl rfl ?_
                refine .runG rfl (yLoadA (vs := [_, _]) rfl A23 (cOwn 0 rfl rfl)) rfl rfl rfl rfl ?_
                refine .runG rfl (yFieldAddr rfl F23_0) rfl rfl rfl rfl ?_
                refine .runG rfl (yLoad1 rfl O3 (cOwn 3 rfl rfl)) rfl rfl rfl rfl ?_
                refine .runG rfl (ySub rfl rfl (by omega)) rfl rfl rfl rfl ?_
                refine .runG rfl (yFieldAddr rfl F23_0) rfl rfl rfl rfl ?_
                refine .runG rfl (yLoad1 rfl O3 (cOwn 3 rfl rfl)) rfl rfl rfl rfl ?_
                refine .runG rfl (ySub rfl rfl (by omega)) rfl rfl rfl rfl ?_
                refine .runG rfl (yCall rfl (.c rfl (.c rfl .n)) C34 (fun w hw => spanL_any _ _ w)) rfl rfl rfl rfl ?_
                refine .runG rfl (yCall rfl (.c rfl (.c rfl .n)) C39 (fun w hw => pend_any y p allV ((starH p n true).lo - 1, (starH p n true).lo - 1) n2 n3 n w (hw.blkAt 6 rfl) (hw.blkAt 5 rfl) (hm.eff0 hw) (by omega) hn false ⟨fun h => absurd h (by decide), fun h => absurd h (hE1.ulo h166)⟩)) rfl rfl rfl rfl ?_
                refine .runG rfl (yNot rfl) rfl rfl rfl rfl ?_
                refine .run rfl (yPickT rfl rfl) rfl rfl ?_
                refine .run rfl (yMove rfl) rfl rfl ?_
                refine .runG rfl (yMove rfl) rfl rfl rfl rfl ?_
                refine .runG rfl (yLoadA (vs := [_, _]) rfl A23 (cOwn 0 rfl rfl)) rfl rfl rfl rfl ?_
                refine .runG rfl (yFieldAddr rfl F23_1) rfl rfl rfl rfl ?_
                refine .runG rfl (yLoad1 rfl O3 (cOwn 3 rfl rfl)) rfl rfl rfl rfl ?_
                refine .runG rfl (yAdd rfl rfl (by omega)) rfl rfl rfl rfl ?_
                refine .runG rfl (yFieldAddr rfl F23_1) rfl rfl rfl rfl ?_
                refine .runG rfl (yLoad1 rfl O3 (cOwn 3 rfl rfl)) rfl rfl rfl rfl ?_
                refine .runG rfl (yAdd rfl rfl (by omega)) rfl rfl rfl rfl ?_
                refine .runG rfl (yCall rfl (.c rfl (.c rfl .n)) C34 (fun w hw => spanL_any _ _ w)) rfl rfl rfl rfl ?_
                refine .runG rfl (yCall rfl (.c rfl (.c rfl .n)) C39 (fun w hw => pend_any y p allV ((starH p n true).hi + 1, (starH p n true).hi + 1) n2 n3 n w (hw.blkAt 6 rfl) (hw.blkAt 5 rfl) (hm.eff0 hw) (by omega) hn false ⟨fun h => absurd h (by decide), fun h => absurd h (hE1.uhi h166)⟩)) rfl rfl rfl rfl ?_
                refine .runG rfl (yNot rfl) rfl rfl rfl rfl ?_
                refine .run rfl (yPickT rfl rfl) rfl rfl ?_
                refine .run rfl (yMove rfl) rfl rfl ?_
                refine .runG rfl (yCall rfl .n C14 (fun w hw => alive_any w)) rfl rfl rfl rfl ?_
                refine .run rfl (yPickT rfl rfl) rfl rfl ?_
                refine .run rfl (yAssign rfl) rfl rfl ?_
                refine .done ?_
                refine effDone closedSt (hLeft [2, 5, 7, 8, 9, 14, 17, 19, 20, 21, 26, 28, 31, 33, 34, 39, 41, 44, 46, 47, 51] (by kernel_rfl) (.c (fun _ _ hs => hs.ef) (.c (fun _ _ hs => hs.ef) (.c (fun _ _ hs => hs.ef) (.c (fun _ _ hs => hs.ef) (.c (fun _ _ hs => hs.ef) (.c (fun _ _ hs => hs.ef) (.c (fun _ _ hs => hs.ef) (.c (fun _ _ hs => hs.ef) (.c (fun _ _ hs => hs.ef) (.c (fun _ _ hs => hs.ef) (.c (fun _ _ hs => hs.ef) (.c (fun _ _ hs => hs.ef) (.c (fun _ _ hs => hs.ef) (.c (fun _ _ hs => hs.ef) (.c (fun _ _ hs => hs.ef) (.c (fun _ _ hs => hs.ef) (.c (fun _ _ hs => hs.ef) (.c (fun _ _ hs => hs.ef) (.c (fun _ _ hs => hs.ef) (.c (fun _ _ hs => hs.ef) (.c (fun _ _ hs => hs.ef) .n)))))))))))))))))))))) (by kernel_rfl) ?_
                refine kThen ?_
                refine kRet ?_
                refine fRet rfl (.t rfl .n) (endRet ?_)
                first | rfl | (simp [packV, *]; done)

theorem pends_any (y : Option Addr × Nat) (p : Plt) (n : Int) (w : World) (hm : InP w y p) :
    Calls Try.prog 7 [.agg (pltC y p).toArray, i64 n].toArray w (Ret w (.bool true)) := by
  by_cases hp : PltOk p
  · by_cases he : toldE p (isStarB p n) = 0
    · obtain ⟨_, hne, _, k, rfl, hk⟩ := star_fine he
      exact pends_ok y p k w hm hp hk hne he
    · exact pends_err y p n w hm hp he
  · exact pends_bad y p n w hm hp
end Go.Proofs.Ytlcdohhhhlhpmaa
