/-
  Walks: PlateClash.
-/
import Derived.Test.YtlcdohhhhlhpmaaDc
namespace Go.Proofs.Ytlcdohhhhlhpmaa
open ZW

set_option maxRecDepth 100000 in
set_option maxHeartbeats 8000000 in
theorem pclash_ok (y : Option Addr × Nat) (p : Plt) (bits : Nat) (w : World) (hm : InP w y p) (hbits : bits < 65536) (hp : PltOk p) :
    Calls Try.prog 8 [.agg (pltC y p).toArray, .int .u16 (bits : Nat)].toArray w (Ret w (.bool true)) := by
  obtain ⟨c, d, e1, e2, hcs, hds, hall⟩ := clashL hp
  have hn := hp.n
  have hlt := setOk_lt (known_ok p) hn
  have hclt := subS_lt hcs hlt
  have hdlt := subS_lt hds hlt
  have hown : subS (bits &&& knownP p) (knownP p) := fun i hi => by rw [Nat.testBit_and, Bool.and_eq_true] at hi; exact hi.2
  have hL := hall _ hown
  have holt := subS_lt hown hlt
  have hlc := less_none hcs
  have hld := less_none hds
  refine fEnter Try.func8 rfl Try.ntmps8 rfl ?_
  refine kSeq ?_
  refine kRegion rfl ?_
  refine lE rfl ?_
  refine eBoxA rfl fun n2 => ?_
  refine lV (yAssign rfl) rfl rfl ?_
  refine lNil ?_
  refine kThen ?_
  refine kSeq ?_
  refine kSeq ?_
  refine kRegion rfl ?_
  refine lV (yFieldAddr rfl F26_1) rfl rfl ?_
  refine lV (yLoad1 rfl O24 (cOwn 0 rfl rfl)) rfl rfl ?_
  refine lV (yLen rfl S24) rfl rfl ?_
  refine lV (yGtr rfl rfl) rfl rfl ?_
  refine knownN (t := 21) rfl (by omega) ?_
  refine lNil ?_
  refine kThen ?_
  refine kIfF rfl ?_
  refine kSkip ?_
  refine kThen ?_
  refine kSeq ?_
  refine kRegion rfl ?_
  refine lV (yLoadA (vs := [_, _, _]) rfl A26 (cOwn 0 rfl rfl)) rfl rfl ?_
  refine lV (yCall rfl (.c rfl .n) C26 (fun w hw => clash_any y p w (hm.eff0 hw))) rfl rfl ?_
  refine same (t := 25) (u := outI ((c : Int), 0)) rfl (by rw [e1]) ?_
  refine lV (yMove rfl) rfl rfl ?_
  refine lV (yExtract rfl rfl) rfl rfl ?_
  refine lV (yExtract rfl rfl) rfl rfl ?_
  refine lV (yAssign rfl) rfl rfl ?_
  refine lV (yAssign rfl) rfl rfl ?_
  refine lNil ?_
  refine kThen ?_
  refine kSeq ?_
  refine kRegion rfl ?_
  refine lV (yLoadA (vs := [_, _, _]) rfl A26 (cOwn 0 rfl rfl)) rfl rfl ?_
  refine lV (yCall rfl (.c rfl .n) C28 (fun w hw => drop_any y p w (hm.eff0 hw))) rfl rfl ?_
  refine same (t := 30) (u := outI ((d : Int), 0)) rfl (by rw [e2]) ?_
  refine lV (yMove rfl) rfl rfl ?_
  refine lV (yExtract rfl rfl) rfl rfl ?_
  refine lV (yExtract rfl rfl) rfl rfl ?_
  refine lV (yAssign rfl) rfl rfl ?_
  refine lV (yAssign rfl) rfl rfl ?_
  refine lNil ?_
  refine kThen ?_
  refine kSeq ?_
  refine kRegion rfl ?_
  refine lV (yLoadA (vs := [_, _, _]) rfl A26 (cOwn 0 rfl rfl)) rfl rfl ?_
  refine lV (yCall rfl (.c rfl .n) C15 (fun w hw => scale_any y p w (hm.eff0 hw))) rfl rfl ?_
  refine lV (yMove rfl) rfl rfl ?_
  refine lV (yExtract rfl rfl) rfl rfl ?_
  refine lV (yExtract rfl rfl) rfl rfl ?_
  refine lE rfl ?_
  refine eAlloc Z23 fun n9 => ?_
  refine lE rfl ?_
  refine eStoreL 0 rfl rfl rfl rfl K23 rfl (rfl) ?_
  refine lV (yAssign rfl) rfl rfl ?_
  refine lNil ?_
  refine kThen ?_
  refine kSeq ?_
  refine kSeq ?_
  refine kRegion rfl ?_
  refine lV (yMove rfl) rfl rfl ?_
  refine lV (yNeq rfl rfl) rfl rfl ?_
  refine knownN (t := 39) rfl (by simp) ?_
  refine lV (yMove rfl) rfl rfl ?_
  refine lGY rfl rfl rfl (oV (yLoadA (vs := [_, _, _]) rfl A26 (cOwn 1 rfl rfl)) rfl ?_)
  refine lGY rfl rfl rfl (oV (yCall rfl (.c rfl .n) C23 (fun w hw => rplate_any y p w (hm.eff0 hw) (by omega))) rfl ?_)
  refine knownB (t := 42) (c := true) rfl (decide_eq_true hp) ?_
  refine lGY rfl rfl rfl (oV (yNot rfl) rfl ?_)
  refine lV (yPickF rfl rfl) rfl rfl ?_
  refine lNil ?_
  refine kThen ?_
  refine kIfF rfl ?_
  refine kSkip ?_
  refine kThen ?_
  refine kSeq ?_
  refine kRegion rfl ?_
  refine lV (yLoadA (vs := [_, _, _]) rfl A26 (cOwn 1 rfl rfl)) rfl rfl ?_
  refine lV (yCall rfl (.c rfl .n) C38 (fun w hw => rknown_any y p w (hm.eff0 hw) (by omega))) rfl rfl ?_
  refine lV (yAssign rfl) rfl rfl ?_
  refine lNil ?_
  refine kThen ?_
  refine kSeq ?_
  refine kSeq ?_
  refine kRegion rfl ?_
  refine lV (yMove rfl) rfl rfl ?_
  refine lV (yNeq rfl rfl) rfl rfl ?_
  refine knownN (t := 76) rfl (by simp) ?_
  refine lV (yMove rfl) rfl rfl ?_
  refine lGY rfl rfl rfl (oV (yMove rfl) rfl ?_)
  refine lGY rfl rfl rfl (oV (yLss rfl rfl) rfl ?_)
  refine knownN (t := 79) rfl (by omega) ?_
  refine lV (yPickF rfl rfl) rfl rfl ?_
  refine lV (yMove rfl) rfl rfl ?_
  refine lGY rfl rfl rfl (oV (yMove rfl) rfl ?_)
  refine lGY rfl rfl rfl (oV (yLss rfl rfl) rfl ?_)
  refine knownN (t := 83) rfl (by omega) ?_
  refine lV (yPickF rfl rfl) rfl rfl ?_
  refine lV (yMove rfl) rfl rfl ?_
  refine lGY rfl rfl rfl (oV (yMove rfl) rfl ?_)
  refine lGY rfl rfl rfl (oV (yMove rfl) rfl ?_)
  refine lGY rfl rfl rfl (oV (yAndNot rfl rfl rfl (by omega) (by omega)) rfl ?_)
  refine lGY rfl rfl rfl (oV (yNeq rfl rfl) rfl ?_)
  refine knownN (t := 89) rfl (by rw [hlc]; decide) ?_
  refine lV (yPickF rfl rfl) rfl rfl ?_
  refine lV (yMove rfl) rfl rfl ?_
  refine lGY rfl rfl rfl (oV (yMove rfl) rfl ?_)
  refine lGY rfl rfl rfl (oV (yMove rfl) rfl ?_)
  refine lGY rfl rfl rfl (oV (yAndNot rfl rfl rfl (by omega) (by omega)) rfl ?_)
  refine lGY rfl rfl rfl (oV (yNeq rfl rfl) rfl ?_)
  refine knownN (t := 95) rfl (by rw [hld]; decide) ?_
  refine lV (yPickF rfl rfl) rfl rfl ?_
  refine lV (yMove rfl) rfl rfl ?_
  refine lGY rfl rfl rfl (oV (yMove rfl) rfl ?_)
  refine lGY rfl rfl rfl (oV (yEql rfl rfl) rfl ?_)
  refine lGY rfl rfl rfl (oV (yMove rfl) rfl ?_)
  refine lGY rfl rfl rfl (oV (yEql rfl rfl) rfl ?_)
  refine lGY rfl rfl rfl (oV (yNeBool rfl rfl U4) rfl ?_)
  refine knownB (t := 102) (c := false) rfl (by rw [decide_eq_false_iff_not, ne_eq, Decidable.not_not, decide_eq_decide, hL.c0]; omega) ?_
  refine lV (yPickF rfl rfl) rfl rfl ?_
  refine lV (yMove rfl) rfl rfl ?_
  refine lGY rfl rfl rfl (oV (yMove rfl) rfl ?_)
  refine lGY rfl rfl rfl (oV (yEql rfl rfl) rfl ?_)
  refine lGY rfl rfl rfl (oV (yMove rfl) rfl ?_)
  refine lGY rfl rfl rfl (oV (yEql rfl rfl) rfl ?_)
  refine lGY rfl rfl rfl (oV (yNeBool rfl rfl U4) rfl ?_)
  refine knownB (t := 109) (c := false) rfl (by rw [decide_eq_false_iff_not, ne_eq, Decidable.not_not, decide_eq_decide, hL.d0]; omega) ?_
  refine lV (yPickF rfl rfl) rfl rfl ?_
  refine lV (yMove rfl) rfl rfl ?_
  refine lGY rfl rfl rfl (oV (yMove rfl) rfl ?_)
  refine lGY rfl rfl rfl (oV (yNeq rfl rfl) rfl ?_)
  refine split (t := 113) rfl (fun h113 => ?_) (fun h113 => ?_)
  · refine lGY rfl rfl rfl (oV (yMove rfl) rfl ?_)
    refine lGY rfl rfl rfl (oV (yMove rfl) rfl ?_)
    refine lGY rfl rfl rfl (oV (yMove rfl) rfl ?_)
    refine lGY rfl rfl rfl (oV (yAnd rfl rfl rfl (by omega) (by omega)) rfl ?_)
    refine lGY rfl rfl rfl (oV (yEql rfl rfl) rfl ?_)
    refine knownN (t := 118) rfl (by have := hL.cd (by omega); omega) ?_
    refine lGY rfl rfl rfl (oV (yPickT rfl rfl) rfl ?_)
    refine lV (yPickF rfl rfl) rfl rfl ?_
    refine lNil ?_
    refine kThen ?_
    refine kIfF rfl ?_
    refine kSkip ?_
    refine kThen ?_
    refine kSeq ?_
    refine kRegion rfl ?_
    refine lV (yMakeFunc .n (.c rfl .n)) rfl rfl ?_
    refine lV (yAssign rfl) rfl rfl ?_
    refine lNil ?_
    refine kThen ?_
    refine kSeq ?_
    refine kSeq ?_
    refine kRegion rfl ?_
    refine lV (yFieldAddr rfl F26_1) rfl rfl ?_
    refine lV (yLoad1 rfl O24 (cOwn 1 rfl rfl)) rfl rfl ?_
    refine lV (yLen rfl S24) rfl rfl ?_
    refine lV (yMove rfl) rfl rfl ?_
    refine lNil ?_
    refine kThen ?_
    refine kBlock ?_
    refine kLoopX (ι := Nat) (fun i => i ≤ p.st.length) (fun i => [(125, i64 (i : Nat))]) [(0, _), (1, _), (2, _), (18, _), (19, _), (20, _), (21, _), (24, _), (25, _), (23, _), (26, _), (27, _), (5, _), (6, _), (29, _), (30, _), (28, _), (31, _), (32, _), (7, _), (8, _), (34, _), (35, _), (33, _), (36, _), (37, _), (9, _), (10, _), (38, _), (39, _), (40, _), (41, _), (42, _), (43, _), (44, _), (73, _), (74, _), (11, _), (75, _), (76, _), (77, _), (78, _), (79, _), (80, _), (81, _), (82, _), (83, _), (84, _), (85, _), (86, _), (87, _), (88, _), (89, _), (90, _), (91, _), (92, _), (93, _), (94, _), (95, _), (96, _), (97, _), (98, _), (99, _), (100, _), (101, _), (102, _), (103, _), (104, _), (105, _), (106, _), (107, _), (108, _), (109, _), (110, _), (111, _), (112, _), (113, _), (114, _), (115, _), (116, _), (117, _), (118, _), (119, _), (120, _), (121, _), (12, _), (122, _), (123, _), (124, _)] (fun i => []) (fun i => []) [(n9, _), (n2, _)] (fun i => p.st.length - i) 0 (Nat.zero_le _) rfl (.c rfl .n) (.c rfl (.c rfl (.c rfl (.c rfl (.c rfl (.c rfl (.c rfl (.c rfl (.c rfl (.c rfl (.c rfl (.c rfl (.c rfl (.c rfl (.c rfl (.c rfl (.c rfl (.c rfl (.c rfl (.c rfl (.c rfl (.c rfl (.c rfl (.c rfl (.c rfl (.c rfl (.c rfl (.c rfl (.c rfl (.c rfl (.c rfl (.c rfl (.c rfl (.c rfl (.c rfl (.c rfl (.c rfl (.c rfl (.c rfl (.c rfl (.c rfl (.c rfl (.c rfl (.c rfl (.c rfl (.c rfl (.c rfl (.c rfl (.c rfl (.c rfl (.c rfl (.c rfl (.c rfl (.c rfl (.c rfl (.c rfl (.c rfl (.c rfl (.c rfl (.c rfl (.c rfl (.c rfl (.c rfl (.c rfl (.c rfl (.c rfl (.c rfl (.c rfl (.c rfl (.c rfl (.c rfl (.c rfl (.c rfl (.c rfl (.c rfl (.c rfl (.c rfl (.c rfl (.c rfl (.c rfl (.c rfl (.c rfl (.c rfl (.c rfl (.c rfl (.c rfl (.c rfl (.c rfl (.c rfl .n))))))))))))))))))))))))))))))))))))))))))))))))))))))))))))))))))))))))))))))))))))))))) (.c 0 rfl (.c 0 rfl .n)) ?_
    rintro i hi
    refine kSeq ?_
    refine kRegion rfl ?_
    refine lV (yLss rfl rfl) rfl rfl ?_
    refine lNil ?_
    refine kThen ?_
    refine kSeq ?_
    refine split (t := 126) rfl (fun h126 => ?_) (fun h126 => ?_)
    · refine kIfT rfl ?_
      refine kSkip ?_
      refine kThen ?_
      refine kSeq ?_
      refine kBlock ?_
      refine kSeq ?_
      refine kRegion rfl ?_
      refine lV (yMove rfl) rfl rfl ?_
      refine lV (yAssign rfl) rfl rfl ?_
      refine lNil ?_
      refine kThen ?_
      refine kSeq ?_
      refine kRegion rfl ?_
      refine lV (yMove rfl) rfl rfl ?_
      refine lV (yMove rfl) rfl rfl ?_
      refine lV (yShr rfl rfl rfl (by have := Nat.div_le_self c (2 ^ i); omega)) rfl rfl ?_
      refine lV (yAnd (b := 1) rfl rfl rfl (by have := Nat.div_le_self c (2 ^ i); omega) (by have := Nat.div_le_self c (2 ^ i); omega)) rfl rfl ?_
      refine lV (yEql rfl rfl) rfl rfl ?_
      refine lV (yMove rfl) rfl rfl ?_
      refine split (t := 133) rfl (fun h133 => ?_) (fun h133 => ?_)
      · have hbt := (bit1_iff c i).1 h133
        have hp2 : 2 ^ i ≤ 2 ^ 10 := Nat.pow_le_pow_right (by omega) (by omega)
        refine lGY rfl rfl rfl (oV (yMove rfl) rfl ?_)
        refine lGY rfl rfl rfl (oV (yMove rfl) rfl ?_)
        refine lGY rfl rfl rfl (oV (yMove rfl) rfl ?_)
        refine lGY rfl rfl rfl (oV (yShl (a := 1) rfl rfl rfl (by omega) (by omega)) rfl ?_)
        refine lGY rfl rfl rfl (oV (yAndNot rfl rfl rfl (by omega) (by omega)) rfl ?_)
        refine lGY rfl rfl rfl (oV (yCall rfl (.c rfl .n) C41 (fun w hw => pcan_any y p n2 (less c (1 * 2 ^ i)) w (hw.blkAt 1 rfl) (hm.eff0 hw) hp (subS_ok fun j hj => hcs j (less_self_sub _ _ j hj)) true ⟨fun _ => hL.one i hbt, fun _ => rfl⟩)) rfl ?_)
        refine lGY rfl rfl rfl (oV (yNot rfl) rfl ?_)
        refine lV (yPickT rfl rfl) rfl rfl ?_
        refine lNil ?_
        refine kThen ?_
        refine kIfF rfl ?_
        refine kSkip ?_
        refine kInN ?_
        refine kThen ?_
        refine kRegion rfl ?_
        refine lV (yAdd rfl rfl (by omega)) rfl rfl ?_
        refine lV (yMove rfl) rfl rfl ?_
        refine lNil ?_
        exact kRoundX (i + 1) (by omega) (by omega) rfl (.c rfl .n) (.c rfl (.c rfl (.c rfl (.c rfl (.c rfl (.c rfl (.c rfl (.c rfl (.c rfl (.c rfl (.c rfl (.c rfl (.c rfl (.c rfl (.c rfl (.c rfl (.c rfl (.c rfl (.c rfl (.c rfl (.c rfl (.c rfl (.c rfl (.c rfl (.c rfl (.c rfl (.c rfl (.c rfl (.c rfl (.c rfl (.c rfl (.c rfl (.c rfl (.c rfl (.c rfl (.c rfl (.c rfl (.c rfl (.c rfl (.c rfl (.c rfl (.c rfl (.c rfl (.c rfl (.c rfl (.c rfl (.c rfl (.c rfl (.c rfl (.c rfl (.c rfl (.c rfl (.c rfl (.c rfl (.c rfl (.c rfl (.c rfl (.c rfl (.c rfl (.c rfl (.c rfl (.c rfl (.c rfl (.c rfl (.c rfl (.c rfl (.c rfl (.c rfl (.c rfl (.c rfl (.c rfl (.c rfl (.c rfl (.c rfl (.c rfl (.c rfl (.c rfl (.c rfl (.c rfl (.c rfl (.c rfl (.c rfl (.c rfl (.c rfl (.c rfl (.c rfl (.c rfl (.c rfl (.c rfl .n))))))))))))))))))))))))))))))))))))))))))))))))))))))))))))))))))))))))))))))))))))))))) (.c 0 rfl (.c 0 rfl .n))
      · refine lGN rfl rfl rfl rfl rfl ?_
        refine lGN rfl rfl rfl rfl rfl ?_
        refine lGN rfl rfl rfl rfl rfl ?_
        refine lGN rfl rfl rfl rfl rfl ?_
        refine lGN rfl rfl rfl rfl rfl ?_
        refine lGN rfl rfl rfl rfl rfl ?_
        refine lGN rfl rfl rfl rfl rfl ?_
        refine lV (yPickF rfl rfl) rfl rfl ?_
        refine lNil ?_
        refine kThen ?_
        refine kIfF rfl ?_
        refine kSkip ?_
        refine kInN ?_
        refine kThen ?_
        refine kRegion rfl ?_
        refine lV (yAdd rfl rfl (by omega)) rfl rfl ?_
        refine lV (yMove rfl) rfl rfl ?_
        refine lNil ?_
        exact kRoundX (i + 1) (by omega) (by omega) rfl (.c rfl .n) (.c rfl (.c rfl (.c rfl (.c rfl (.c rfl (.c rfl (.c rfl (.c rfl (.c rfl (.c rfl (.c rfl (.c rfl (.c rfl (.c rfl (.c rfl (.c rfl (.c rfl (.c rfl (.c rfl (.c rfl (.c rfl (.c rfl (.c rfl (.c rfl (.c rfl (.c rfl (.c rfl (.c rfl (.c rfl (.c rfl (.c rfl (.c rfl (.c rfl (.c rfl (.c rfl (.c rfl (.c rfl (.c rfl (.c rfl (.c rfl (.c rfl (.c rfl (.c rfl (.c rfl (.c rfl (.c rfl (.c rfl (.c rfl (.c rfl (.c rfl (.c rfl (.c rfl (.c rfl (.c rfl (.c rfl (.c rfl (.c rfl (.c rfl (.c rfl (.c rfl (.c rfl (.c rfl (.c rfl (.c rfl (.c rfl (.c rfl (.c rfl (.c rfl (.c rfl (.c rfl (.c rfl (.c rfl (.c rfl (.c rfl (.c rfl (.c rfl (.c rfl (.c rfl (.c rfl (.c rfl (.c rfl (.c rfl (.c rfl (.c rfl (.c rfl (.c rfl (.c rfl (.c rfl (.c rfl .n))))))))))))))))))))))))))))))))))))))))))))))))))))))))))))))))))))))))))))))))))))))))) (.c 0 rfl (.c 0 rfl .n))
    · refine kIfF rfl ?_
      refine kExit ?_
      refine kThenX ?_
      refine kThenX ?_
      refine kInX ?_
      refine kThen ?_
      refine kSeq ?_
      refine kRegion rfl ?_
      refine lV (yMove rfl) rfl rfl ?_
      refine lV (yConvInt rfl U60 U3 (conv_ok (by omega))) rfl rfl ?_
      refine lV (yMove rfl) rfl rfl ?_
      refine lV (yAnd rfl rfl rfl (by omega) (by omega)) rfl rfl ?_
      refine lV (yAssign rfl) rfl rfl ?_
      refine lNil ?_
      refine kThen ?_
      refine kSeq ?_
      refine kRegion rfl ?_
      refine lV (yMove rfl) rfl rfl ?_
      refine lV (yCall rfl (.c rfl .n) C43 (fun w hw => size_any (bits &&& knownP p) w (by omega))) rfl rfl ?_
      refine lV (yMove rfl) rfl rfl ?_
      refine lV (yCall rfl (.c rfl .n) C43 (fun w hw => size_any d w (by omega))) rfl rfl ?_
      refine lV (yMove rfl) rfl rfl ?_
      refine lV (yCall rfl (.c rfl .n) C43 (fun w hw => size_any c w (by omega))) rfl rfl ?_
      refine lV (yAssign rfl) rfl rfl ?_
      refine lV (yAssign rfl) rfl rfl ?_
      refine lV (yAssign rfl) rfl rfl ?_
      refine lNil ?_
      refine kThen ?_
      refine kSeq ?_
      refine kSeq ?_
      refine kRegion rfl ?_
      refine lV (yMove rfl) rfl rfl ?_
      refine lV (yNeq rfl rfl) rfl rfl ?_
      refine lV (yMove rfl) rfl rfl ?_
      refine split (t := 155) rfl (fun h155 => ?_) (fun h155 => ?_)
      · refine lGY rfl rfl rfl (oV (yMove rfl) rfl ?_)
        refine lGY rfl rfl rfl (oV (yMove rfl) rfl ?_)
        refine lGY rfl rfl rfl (oV (yCall rfl (.c rfl .n) C41 (fun w hw => pcan_any y p n2 c w (hw.blkAt 1 rfl) (hm.eff0 hw) hp (subS_ok hcs) false ⟨fun h => absurd h (by decide), fun h => absurd (hL.bad (by omega)) h⟩)) rfl ?_)
        refine lV (yPickT rfl rfl) rfl rfl ?_
        refine lV (yMove rfl) rfl rfl ?_
        refine lGY rfl rfl rfl (oV (yMove rfl) rfl ?_)
        refine lGY rfl rfl rfl (oV (yMove rfl) rfl ?_)
        refine lGY rfl rfl rfl (oV (yMove rfl) rfl ?_)
        refine lGY rfl rfl rfl (oV (yAndNot rfl rfl rfl (by omega) (by omega)) rfl ?_)
        refine lGY rfl rfl rfl (oV (yCall rfl (.c rfl .n) C41 (fun w hw => pcan_any y p n2 (less (knownP p) d) w (hw.blkAt 1 rfl) (hm.eff0 hw) hp (less_ok p d) true ⟨fun _ => hL.rest, fun _ => rfl⟩)) rfl ?_)
        refine lGY rfl rfl rfl (oV (yNot rfl) rfl ?_)
        refine lV (yPickF rfl rfl) rfl rfl ?_
        refine lV (yMove rfl) rfl rfl ?_
        refine lGY rfl rfl rfl (oV (yMove rfl) rfl ?_)
        refine lGY rfl rfl rfl (oV (yMove rfl) rfl ?_)
        refine lGY rfl rfl rfl (oV (yMove rfl) rfl ?_)
        refine lGY rfl rfl rfl (oV (yAndNot rfl rfl rfl (by omega) (by omega)) rfl ?_)
        refine lGY rfl rfl rfl (oV (yCall rfl (.c rfl .n) C41 (fun w hw => pcan_any y p n2 (less (knownP p) (bits &&& knownP p)) w (hw.blkAt 1 rfl) (hm.eff0 hw) hp (less_ok p _) (decide (scalesP p (less (knownP p) (bits &&& knownP p)) ≠ [])) (by rw [decide_eq_true_eq]))) rfl ?_)
        refine lGY rfl rfl rfl (oV (yMove rfl) rfl ?_)
        refine split (t := 174) rfl (fun h174 => ?_) (fun h174 => ?_)
        · refine lGY rfl rfl rfl (oV (yMove rfl) rfl ?_)
          refine lGY rfl rfl rfl (oV (yMove rfl) rfl ?_)
          refine lGY rfl rfl rfl (oV (yLss rfl rfl) rfl ?_)
          refine knownN (t := 177) rfl (by have := hL.min h174; omega) ?_
          refine lGY rfl rfl rfl (oV (yMove rfl) rfl ?_)
          refine lGY rfl rfl rfl (oV (yMove rfl) rfl ?_)
          refine lGY rfl rfl rfl (oV (yMove rfl) rfl ?_)
          refine lGY rfl rfl rfl (oV (yEql rfl rfl) rfl ?_)
          refine lGY rfl rfl rfl (oV (yMove rfl) rfl ?_)
          refine split (t := 182) rfl (fun h182 => ?_) (fun h182 => ?_)
          · refine lGY rfl rfl rfl (oV (yMove rfl) rfl ?_)
            refine lGY rfl rfl rfl (oV (yMove rfl) rfl ?_)
            refine lGY rfl rfl rfl (oV (yLss rfl rfl) rfl ?_)
            refine knownN (t := 185) rfl (by have := hL.min h174; omega) ?_
            refine lGY rfl rfl rfl (oV (yPickT rfl rfl) rfl ?_)
            refine lGY rfl rfl rfl (oV (yPickF rfl rfl) rfl ?_)
            refine lGY rfl rfl rfl (oV (yPickT rfl rfl) rfl ?_)
            refine lV (yPickF rfl rfl) rfl rfl ?_
            refine lNil ?_
            refine kThen ?_
            refine kIfF rfl ?_
            refine kSkip ?_
            refine kThen ?_
            refine kSeq ?_
            refine kRegion rfl ?_
            refine lV (yMove rfl) rfl rfl ?_
            refine lV (yMove rfl) rfl rfl ?_
            refine lV (yCall rfl (.c rfl .n) C41 (fun w hw => pcan_any y p n2 (bits &&& knownP p) w (hw.blkAt 1 rfl) (hm.eff0 hw) hp (subS_ok hown) (decide (scalesP p (bits &&& knownP p) ≠ [])) (by rw [decide_eq_true_eq]))) rfl rfl ?_
            refine lV (yMove rfl) rfl rfl ?_
            refine split (t := 193) rfl (fun h193 => ?_) (fun h193 => ?_)
            · refine lGN rfl rfl rfl rfl rfl ?_
              refine lGN rfl rfl rfl rfl rfl ?_
              refine lGN rfl rfl rfl rfl rfl ?_
              refine lGU rfl rfl rfl rfl ?_
              refine lGU rfl rfl rfl rfl ?_
              refine lGU rfl rfl rfl rfl ?_
              refine lGU rfl rfl rfl rfl ?_
              refine lGU rfl rfl rfl rfl ?_
              refine lGU rfl rfl rfl rfl ?_
              refine lGU rfl rfl rfl rfl ?_
              refine lGU rfl rfl rfl rfl ?_
              refine lGU rfl rfl rfl rfl ?_
              refine lGU rfl rfl rfl rfl ?_
              refine lGU rfl rfl rfl rfl ?_
              refine lGU rfl rfl rfl rfl ?_
              refine lGU rfl rfl rfl rfl ?_
              refine lGN rfl rfl rfl rfl rfl ?_
              refine lV (yPickT rfl rfl) rfl rfl ?_
              refine lV (yMove rfl) rfl rfl ?_
              refine lGY rfl rfl rfl (oV (yCall rfl .n C14 (fun w hw => alive_any w)) rfl ?_)
              refine lV (yPickT rfl rfl) rfl rfl ?_
              refine lV (yAssign rfl) rfl rfl ?_
              refine lNil ?_
              refine kThen ?_
              refine kRet ?_
              refine fRet rfl (.t rfl .n) (endRet ?_)
              first | rfl | (simp [packV, *]; done)
            · refine lGY rfl rfl rfl (oV (yMove rfl) rfl ?_)
              refine lGY rfl rfl rfl (oV (yNeq rfl rfl) rfl ?_)
              refine known (t := 195) rfl (by have := hL.own.resolve_left h193; omega) ?_
              refine lGY rfl rfl rfl (oV (yMove rfl) rfl ?_)
              refine lGY rfl rfl rfl (oV (yMove rfl) rfl ?_)
              refine lGY rfl rfl rfl (oV (yMove rfl) rfl ?_)
              refine lGY rfl rfl rfl (oV (yGtr rfl rfl) rfl ?_)
              refine lGY rfl rfl rfl (oV (yMove rfl) rfl ?_)
              refine split (t := 200) rfl (fun h200 => ?_) (fun h200 => ?_)
              · refine lGN rfl rfl rfl rfl rfl ?_
                refine lGN rfl rfl rfl rfl rfl ?_
                refine lGN rfl rfl rfl rfl rfl ?_
                refine lGN rfl rfl rfl rfl rfl ?_
                refine lGU rfl rfl rfl rfl ?_
                refine lGU rfl rfl rfl rfl ?_
                refine lGU rfl rfl rfl rfl ?_
                refine lGN rfl rfl rfl rfl rfl ?_
                refine lGY rfl rfl rfl (oV (yPickT rfl rfl) rfl ?_)
                refine lGY rfl rfl rfl (oV (yPickT rfl rfl) rfl ?_)
                refine lV (yPickF rfl rfl) rfl rfl ?_
                refine lV (yMove rfl) rfl rfl ?_
                refine lGY rfl rfl rfl (oV (yCall rfl .n C14 (fun w hw => alive_any w)) rfl ?_)
                refine lV (yPickT rfl rfl) rfl rfl ?_
                refine lV (yAssign rfl) rfl rfl ?_
                refine lNil ?_
                refine kThen ?_
                refine kRet ?_
                refine fRet rfl (.t rfl .n) (endRet ?_)
                first | rfl | (simp [packV, *]; done)
              · refine lGY rfl rfl rfl (oV (yMove rfl) rfl ?_)
                refine lGY rfl rfl rfl (oV (yMove rfl) rfl ?_)
                refine lGY rfl rfl rfl (oV (yEql rfl rfl) rfl ?_)
                refine known (t := 203) rfl (by have := hL.own.resolve_left h193; omega) ?_
                refine lGY rfl rfl rfl (oV (yMove rfl) rfl ?_)
                refine lGY rfl rfl rfl (oV (yMove rfl) rfl ?_)
                refine lGY rfl rfl rfl (oV (yMove rfl) rfl ?_)
                refine lGY rfl rfl rfl (oV (yGeq rfl rfl) rfl ?_)
                refine known (t := 207) rfl (by have := hL.own.resolve_left h193; omega) ?_
                refine lGY rfl rfl rfl (oV (yPickT rfl rfl) rfl ?_)
                refine lGY rfl rfl rfl (oV (yPickF rfl rfl) rfl ?_)
                refine lGY rfl rfl rfl (oV (yPickT rfl rfl) rfl ?_)
                refine lV (yPickF rfl rfl) rfl rfl ?_
                refine lV (yMove rfl) rfl rfl ?_
                refine lGY rfl rfl rfl (oV (yCall rfl .n C14 (fun w hw => alive_any w)) rfl ?_)
                refine lV (yPickT rfl rfl) rfl rfl ?_
                refine lV (yAssign rfl) rfl rfl ?_
                refine lNil ?_
                refine kThen ?_
                refine kRet ?_
                refine fRet rfl (.t rfl .n) (endRet ?_)
                first | rfl | (simp [packV, *]; done)
          · refine lGN rfl rfl rfl rfl rfl ?_
            refine lGN rfl rfl rfl rfl rfl ?_
            refine lGN rfl rfl rfl rfl rfl ?_
            refine lGY rfl rfl rfl (oV (yPickF rfl rfl) rfl ?_)
            refine lGY rfl rfl rfl (oV (yPickF rfl rfl) rfl ?_)
            refine lGY rfl rfl rfl (oV (yPickT rfl rfl) rfl ?_)
            refine lV (yPickF rfl rfl) rfl rfl ?_
            refine lNil ?_
            refine kThen ?_
            refine kIfF rfl ?_
            refine kSkip ?_
            refine kThen ?_
            refine kSeq ?_
            refine kRegion rfl ?_
            refine lV (yMove rfl) rfl rfl ?_
            refine lV (yMove rfl) rfl rfl ?_
            refine lV (yCall rfl (.c rfl .n) C41 (fun w hw => pcan_any y p n2 (bits &&& knownP p) w (hw.blkAt 1 rfl) (hm.eff0 hw) hp (subS_ok hown) (decide (scalesP p (bits &&& knownP p) ≠ [])) (by rw [decide_eq_true_eq]))) rfl rfl ?_
            refine lV (yMove rfl) rfl rfl ?_
            refine split (t := 193) rfl (fun h193 => ?_) (fun h193 => ?_)
            · refine lGN rfl rfl rfl rfl rfl ?_
              refine lGN rfl rfl rfl rfl rfl ?_
              refine lGN rfl rfl rfl rfl rfl ?_
              refine lGU rfl rfl rfl rfl ?_
              refine lGU rfl rfl rfl rfl ?_
              refine lGU rfl rfl rfl rfl ?_
              refine lGU rfl rfl rfl rfl ?_
              refine lGU rfl rfl rfl rfl ?_
              refine lGU rfl rfl rfl rfl ?_
              refine lGU rfl rfl rfl rfl ?_
              refine lGU rfl rfl rfl rfl ?_
              refine lGU rfl rfl rfl rfl ?_
              refine lGU rfl rfl rfl rfl ?_
              refine lGU rfl rfl rfl rfl ?_
              refine lGU rfl rfl rfl rfl ?_
              refine lGU rfl rfl rfl rfl ?_
              refine lGN rfl rfl rfl rfl rfl ?_
              refine lV (yPickT rfl rfl) rfl rfl ?_
              refine lV (yMove rfl) rfl rfl ?_
              refine lGY rfl rfl rfl (oV (yCall rfl .n C14 (fun w hw => alive_any w)) rfl ?_)
              refine lV (yPickT rfl rfl) rfl rfl ?_
              refine lV (yAssign rfl) rfl rfl ?_
              refine lNil ?_
              refine kThen ?_
              refine kRet ?_
              refine fRet rfl (.t rfl .n) (endRet ?_)
              first | rfl | (simp [packV, *]; done)
            · refine lGY rfl rfl rfl (oV (yMove rfl) rfl ?_)
              refine lGY rfl rfl rfl (oV (yNeq rfl rfl) rfl ?_)
              refine known (t := 195) rfl (by have := hL.own.resolve_left h193; omega) ?_
              refine lGY rfl rfl rfl (oV (yMove rfl) rfl ?_)
              refine lGY rfl rfl rfl (oV (yMove rfl) rfl ?_)
              refine lGY rfl rfl rfl (oV (yMove rfl) rfl ?_)
              refine lGY rfl rfl rfl (oV (yGtr rfl rfl) rfl ?_)
              refine lGY rfl rfl rfl (oV (yMove rfl) rfl ?_)
              refine split (t := 200) rfl (fun h200 => ?_) (fun h200 => ?_)
              · refine lGN rfl rfl rfl rfl rfl ?_
                refine lGN rfl rfl rfl rfl rfl ?_
                refine lGN rfl rfl rfl rfl rfl ?_
                refine lGN rfl rfl rfl rfl rfl ?_
                refine lGU rfl rfl rfl rfl ?_
                refine lGU rfl rfl rfl rfl ?_
                refine lGU rfl rfl rfl rfl ?_
                refine lGN rfl rfl rfl rfl rfl ?_
                refine lGY rfl rfl rfl (oV (yPickT rfl rfl) rfl ?_)
                refine lGY rfl rfl rfl (oV (yPickT rfl rfl) rfl ?_)
                refine lV (yPickF rfl rfl) rfl rfl ?_
                refine lV (yMove rfl) rfl rfl ?_
                refine lGY rfl rfl rfl (oV (yCall rfl .n C14 (fun w hw => alive_any w)) rfl ?_)
                refine lV (yPickT rfl rfl) rfl rfl ?_
                refine lV (yAssign rfl) rfl rfl ?_
                refine lNil ?_
                refine kThen ?_
                refine kRet ?_
                refine fRet rfl (.t rfl .n) (endRet ?_)
                first | rfl | (simp [packV, *]; done)
              · refine lGY rfl rfl rfl (oV (yMove rfl) rfl ?_)
                refine lGY rfl rfl rfl (oV (yMove rfl) rfl ?_)
                refine lGY rfl rfl rfl (oV (yEql rfl rfl) rfl ?_)
                refine known (t := 203) rfl (by have := hL.own.resolve_left h193; omega) ?_
                refine lGY rfl rfl rfl (oV (yMove rfl) rfl ?_)
                refine lGY rfl rfl rfl (oV (yMove rfl) rfl ?_)
                refine lGY rfl rfl rfl (oV (yMove rfl) rfl ?_)
                refine lGY rfl rfl rfl (oV (yGeq rfl rfl) rfl ?_)
                refine known (t := 207) rfl (by have := hL.own.resolve_left h193; omega) ?_
                refine lGY rfl rfl rfl (oV (yPickT rfl rfl) rfl ?_)
                refine lGY rfl rfl rfl (oV (yPickF rfl rfl) rfl ?_)
                refine lGY rfl rfl rfl (oV (yPickT rfl rfl) rfl ?_)
                refine lV (yPickF rfl rfl) rfl rfl ?_
                refine lV (yMove rfl) rfl rfl ?_
                refine lGY rfl rfl rfl (oV (yCall rfl .n C14 (fun w hw => alive_any w)) rfl ?_)
                refine lV (yPickT rfl rfl) rfl rfl ?_
                refine lV (yAssign rfl) rfl rfl ?_
                refine lNil ?_
                refine kThen ?_
                refine kRet ?_
                refine fRet rfl (.t rfl .n) (endRet ?_)
                first | rfl | (simp [packV, *]; done)
        · refine lGN rfl rfl rfl rfl rfl ?_
          refine lGN rfl rfl rfl rfl rfl ?_
          refine lGN rfl rfl rfl rfl rfl ?_
          refine lGN rfl rfl rfl rfl rfl ?_
          refine lGU rfl rfl rfl rfl ?_
          refine lGU rfl rfl rfl rfl ?_
          refine lGU rfl rfl rfl rfl ?_
          refine lGU rfl rfl rfl rfl ?_
          refine lGU rfl rfl rfl rfl ?_
          refine lGU rfl rfl rfl rfl ?_
          refine lGU rfl rfl rfl rfl ?_
          refine lGU rfl rfl rfl rfl ?_
          refine lGN rfl rfl rfl rfl rfl ?_
          refine lGY rfl rfl rfl (oV (yPickF rfl rfl) rfl ?_)
          refine lV (yPickF rfl rfl) rfl rfl ?_
          refine lNil ?_
          refine kThen ?_
          refine kIfF rfl ?_
          refine kSkip ?_
          refine kThen ?_
          refine kSeq ?_
          refine kRegion rfl ?_
          refine lV (yMove rfl) rfl rfl ?_
          refine lV (yMove rfl) rfl rfl ?_
          refine lV (yCall rfl (.c rfl .n) C41 (fun w hw => pcan_any y p n2 (bits &&& knownP p) w (hw.blkAt 1 rfl) (hm.eff0 hw) hp (subS_ok hown) (decide (scalesP p (bits &&& knownP p) ≠ [])) (by rw [decide_eq_true_eq]))) rfl rfl ?_
          refine lV (yMove rfl) rfl rfl ?_
          refine split (t := 193) rfl (fun h193 => ?_) (fun h193 => ?_)
          · refine lGN rfl rfl rfl rfl rfl ?_
            refine lGN rfl rfl rfl rfl rfl ?_
            refine lGN rfl rfl rfl rfl rfl ?_
            refine lGU rfl rfl rfl rfl ?_
            refine lGU rfl rfl rfl rfl ?_
            refine lGU rfl rfl rfl rfl ?_
            refine lGU rfl rfl rfl rfl ?_
            refine lGU rfl rfl rfl rfl ?_
            refine lGU rfl rfl rfl rfl ?_
            refine lGU rfl rfl rfl rfl ?_
            refine lGU rfl rfl rfl rfl ?_
            refine lGU rfl rfl rfl rfl ?_
            refine lGU rfl rfl rfl rfl ?_
            refine lGU rfl rfl rfl rfl ?_
            refine lGU rfl rfl rfl rfl ?_
            refine lGU rfl rfl rfl rfl ?_
            refine lGN rfl rfl rfl rfl rfl ?_
            refine lV (yPickT rfl rfl) rfl rfl ?_
            refine lV (yMove rfl) rfl rfl ?_
            refine lGY rfl rfl rfl (oV (yCall rfl .n C14 (fun w hw => alive_any w)) rfl ?_)
            refine lV (yPickT rfl rfl) rfl rfl ?_
            refine lV (yAssign rfl) rfl rfl ?_
            refine lNil ?_
            refine kThen ?_
            refine kRet ?_
            refine fRet rfl (.t rfl .n) (endRet ?_)
            first | rfl | (simp [packV, *]; done)
          · refine lGY rfl rfl rfl (oV (yMove rfl) rfl ?_)
            refine lGY rfl rfl rfl (oV (yNeq rfl rfl) rfl ?_)
            refine known (t := 195) rfl (by have := hL.own.resolve_left h193; omega) ?_
            refine lGY rfl rfl rfl (oV (yMove rfl) rfl ?_)
            refine lGY rfl rfl rfl (oV (yMove rfl) rfl ?_)
            refine lGY rfl rfl rfl (oV (yMove rfl) rfl ?_)
            refine lGY rfl rfl rfl (oV (yGtr rfl rfl) rfl ?_)
            refine lGY rfl rfl rfl (oV (yMove rfl) rfl ?_)
            refine split (t := 200) rfl (fun h200 => ?_) (fun h200 => ?_)
            · refine lGN rfl rfl rfl rfl rfl ?_
              refine lGN rfl rfl rfl rfl rfl ?_
              refine lGN rfl rfl rfl rfl rfl ?_
              refine lGN rfl rfl rfl rfl rfl ?_
              refine lGU rfl rfl rfl rfl ?_
              refine lGU rfl rfl rfl rfl ?_
              refine lGU rfl rfl rfl rfl ?_
              refine lGN rfl rfl rfl rfl rfl ?_
              refine lGY rfl rfl rfl (oV (yPickT rfl rfl) rfl ?_)
              refine lGY rfl rfl rfl (oV (yPickT rfl rfl) rfl ?_)
              refine lV (yPickF rfl rfl) rfl rfl ?_
              refine lV (yMove rfl) rfl rfl ?_
              refine lGY rfl rfl rfl (oV (yCall rfl .n C14 (fun w hw => alive_any w)) rfl ?_)
              refine lV (yPickT rfl rfl) rfl rfl ?_
              refine lV (yAssign rfl) rfl rfl ?_
              refine lNil ?_
              refine kThen ?_
              refine kRet ?_
              refine fRet rfl (.t rfl .n) (endRet ?_)
              first | rfl | (simp [packV, *]; done)
            · refine lGY rfl rfl rfl (oV (yMove rfl) rfl ?_)
              refine lGY rfl rfl rfl (oV (yMove rfl) rfl ?_)
              refine lGY rfl rfl rfl (oV (yEql rfl rfl) rfl ?_)
              refine known (t := 203) rfl (by have := hL.own.resolve_left h193; omega) ?_
              refine lGY rfl rfl rfl (oV (yMove rfl) rfl ?_)
              refine lGY rfl rfl rfl (oV (yMove rfl) rfl ?_)
              refine lGY rfl rfl rfl (oV (yMove rfl) rfl ?_)
              refine lGY rfl rfl rfl (oV (yGeq rfl rfl) rfl ?_)
              refine known (t := 207) rfl (by have := hL.own.resolve_left h193; omega) ?_
              refine lGY rfl rfl rfl (oV (yPickT rfl rfl) rfl ?_)
              refine lGY rfl rfl rfl (oV (yPickF rfl rfl) rfl ?_)
              refine lGY rfl rfl rfl (oV (yPickT rfl rfl) rfl ?_)
              refine lV (yPickF rfl rfl) rfl rfl ?_
              refine lV (yMove rfl) rfl rfl ?_
              refine lGY rfl rfl rfl (oV (yCall rfl .n C14 (fun w hw => alive_any w)) rfl ?_)
              refine lV (yPickT rfl rfl) rfl rfl ?_
              refine lV (yAssign rfl) rfl rfl ?_
              refine lNil ?_
              refine kThen ?_
              refine kRet ?_
              refine fRet rfl (.t rfl .n) (endRet ?_)
              first | rfl | (simp [packV, *]; done)
      · refine lGN rfl rfl rfl rfl rfl ?_
        refine lGN rfl rfl rfl rfl rfl ?_
        refine lGN rfl rfl rfl rfl rfl ?_
        refine lV (yPickF rfl rfl) rfl rfl ?_
        refine lV (yMove rfl) rfl rfl ?_
        refine lGY rfl rfl rfl (oV (yMove rfl) rfl ?_)
        refine lGY rfl rfl rfl (oV (yMove rfl) rfl ?_)
        refine lGY rfl rfl rfl (oV (yMove rfl) rfl ?_)
        refine lGY rfl rfl rfl (oV (yAndNot rfl rfl rfl (by omega) (by omega)) rfl ?_)
        refine lGY rfl rfl rfl (oV (yCall rfl (.c rfl .n) C41 (fun w hw => pcan_any y p n2 (less (knownP p) d) w (hw.blkAt 1 rfl) (hm.eff0 hw) hp (less_ok p d) true ⟨fun _ => hL.rest, fun _ => rfl⟩)) rfl ?_)
        refine lGY rfl rfl rfl (oV (yNot rfl) rfl ?_)
        refine lV (yPickF rfl rfl) rfl rfl ?_
        refine lV (yMove rfl) rfl rfl ?_
        refine lGY rfl rfl rfl (oV (yMove rfl) rfl ?_)
        refine lGY rfl rfl rfl (oV (yMove rfl) rfl ?_)
        refine lGY rfl rfl rfl (oV (yMove rfl) rfl ?_)
        refine lGY rfl rfl rfl (oV (yAndNot rfl rfl rfl (by omega) (by omega)) rfl ?_)
        refine lGY rfl rfl rfl (oV (yCall rfl (.c rfl .n) C41 (fun w hw => pcan_any y p n2 (less (knownP p) (bits &&& knownP p)) w (hw.blkAt 1 rfl) (hm.eff0 hw) hp (less_ok p _) (decide (scalesP p (less (knownP p) (bits &&& knownP p)) ≠ [])) (by rw [decide_eq_true_eq]))) rfl ?_)
        refine lGY rfl rfl rfl (oV (yMove rfl) rfl ?_)
        refine split (t := 174) rfl (fun h174 => ?_) (fun h174 => ?_)
        · refine lGY rfl rfl rfl (oV (yMove rfl) rfl ?_)
          refine lGY rfl rfl rfl (oV (yMove rfl) rfl ?_)
          refine lGY rfl rfl rfl (oV (yLss rfl rfl) rfl ?_)
          refine knownN (t := 177) rfl (by have := hL.min h174; omega) ?_
          refine lGY rfl rfl rfl (oV (yMove rfl) rfl ?_)
          refine lGY rfl rfl rfl (oV (yMove rfl) rfl ?_)
          refine lGY rfl rfl rfl (oV (yMove rfl) rfl ?_)
          refine lGY rfl rfl rfl (oV (yEql rfl rfl) rfl ?_)
          refine lGY rfl rfl rfl (oV (yMove rfl) rfl ?_)
          refine split (t := 182) rfl (fun h182 => ?_) (fun h182 => ?_)
          · refine lGY rfl rfl rfl (oV (yMove rfl) rfl ?_)
            refine lGY rfl rfl rfl (oV (yMove rfl) rfl ?_)
            refine lGY rfl rfl rfl (oV (yLss rfl rfl) rfl ?_)
            refine knownN (t := 185) rfl (by have := hL.min h174; omega) ?_
            refine lGY rfl rfl rfl (oV (yPickT rfl rfl) rfl ?_)
            refine lGY rfl rfl rfl (oV (yPickF rfl rfl) rfl ?_)
            refine lGY rfl rfl rfl (oV (yPickT rfl rfl) rfl ?_)
            refine lV (yPickF rfl rfl) rfl rfl ?_
            refine lNil ?_
            refine kThen ?_
            refine kIfF rfl ?_
            refine kSkip ?_
            refine kThen ?_
            refine kSeq ?_
            refine kRegion rfl ?_
            refine lV (yMove rfl) rfl rfl ?_
            refine lV (yMove rfl) rfl rfl ?_
            refine lV (yCall rfl (.c rfl .n) C41 (fun w hw => pcan_any y p n2 (bits &&& knownP p) w (hw.blkAt 1 rfl) (hm.eff0 hw) hp (subS_ok hown) (decide (scalesP p (bits &&& knownP p) ≠ [])) (by rw [decide_eq_true_eq]))) rfl rfl ?_
            refine lV (yMove rfl) rfl rfl ?_
            refine split (t := 193) rfl (fun h193 => ?_) (fun h193 => ?_)
            · refine lGN rfl rfl rfl rfl rfl ?_
              refine lGN rfl rfl rfl rfl rfl ?_
              refine lGN rfl rfl rfl rfl rfl ?_
              refine lGU rfl rfl rfl rfl ?_
              refine lGU rfl rfl rfl rfl ?_
              refine lGU rfl rfl rfl rfl ?_
              refine lGU rfl rfl rfl rfl ?_
              refine lGU rfl rfl rfl rfl ?_
              refine lGU rfl rfl rfl rfl ?_
              refine lGU rfl rfl rfl rfl ?_
              refine lGU rfl rfl rfl rfl ?_
              refine lGU rfl rfl rfl rfl ?_
              refine lGU rfl rfl rfl rfl ?_
              refine lGU rfl rfl rfl rfl ?_
              refine lGU rfl rfl rfl rfl ?_
              refine lGU rfl rfl rfl rfl ?_
              refine lGN rfl rfl rfl rfl rfl ?_
              refine lV (yPickT rfl rfl) rfl rfl ?_
              refine lV (yMove rfl) rfl rfl ?_
              refine lGY rfl rfl rfl (oV (yCall rfl .n C14 (fun w hw => alive_any w)) rfl ?_)
              refine lV (yPickT rfl rfl) rfl rfl ?_
              refine lV (yAssign rfl) rfl rfl ?_
              refine lNil ?_
              refine kThen ?_
              refine kRet ?_
              refine fRet rfl (.t rfl .n) (endRet ?_)
              first | rfl | (simp [packV, *]; done)
            · refine lGY rfl rfl rfl (oV (yMove rfl) rfl ?_)
              refine lGY rfl rfl rfl (oV (yNeq rfl rfl) rfl ?_)
              refine known (t := 195) rfl (by have := hL.own.resolve_left h193; omega) ?_
              refine lGY rfl rfl rfl (oV (yMove rfl) rfl ?_)
              refine lGY rfl rfl rfl (oV (yMove rfl) rfl ?_)
              refine lGY rfl rfl rfl (oV (yMove rfl) rfl ?_)
              refine lGY rfl rfl rfl (oV (yGtr rfl rfl) rfl ?_)
              refine lGY rfl rfl rfl (oV (yMove rfl) rfl ?_)
              refine split (t := 200) rfl (fun h200 => ?_) (fun h200 => ?_)
              · refine lGN rfl rfl rfl rfl rfl ?_
                refine lGN rfl rfl rfl rfl rfl ?_
                refine lGN rfl rfl rfl rfl rfl ?_
                refine lGN rfl rfl rfl rfl rfl ?_
                refine lGU rfl rfl rfl rfl ?_
                refine lGU rfl rfl rfl rfl ?_
                refine lGU rfl rfl rfl rfl ?_
                refine lGN rfl rfl rfl rfl rfl ?_
                refine lGY rfl rfl rfl (oV (yPickT rfl rfl) rfl ?_)
                refine lGY rfl rfl rfl (oV (yPickT rfl rfl) rfl ?_)
                refine lV (yPickF rfl rfl) rfl rfl ?_
                refine lV (yMove rfl) rfl rfl ?_
                refine lGY rfl rfl rfl (oV (yCall rfl .n C14 (fun w hw => alive_any w)) rfl ?_)
                refine lV (yPickT rfl rfl) rfl rfl ?_
                refine lV (yAssign rfl) rfl rfl ?_
                refine lNil ?_
                refine kThen ?_
                refine kRet ?_
                refine fRet rfl (.t rfl .n) (endRet ?_)
                first | rfl | (simp [packV, *]; done)
              · refine lGY rfl rfl rfl (oV (yMove rfl) rfl ?_)
                refine lGY rfl rfl rfl (oV (yMove rfl) rfl ?_)
                refine lGY rfl rfl rfl (oV (yEql rfl rfl) rfl ?_)
                refine known (t := 203) rfl (by have := hL.own.resolve_left h193; omega) ?_
                refine lGY rfl rfl rfl (oV (yMove rfl) rfl ?_)
                refine lGY rfl rfl rfl (oV (yMove rfl) rfl ?_)
                refine lGY rfl rfl rfl (oV (yMove rfl) rfl ?_)
                refine lGY rfl rfl rfl (oV (yGeq rfl rfl) rfl ?_)
                refine known (t := 207) rfl (by have := hL.own.resolve_left h193; omega) ?_
                refine lGY rfl rfl rfl (oV (yPickT rfl rfl) rfl ?_)
                refine lGY rfl rfl rfl (oV (yPickF rfl rfl) rfl ?_)
                refine lGY rfl rfl rfl (oV (yPickT rfl rfl) rfl ?_)
                refine lV (yPickF rfl rfl) rfl rfl ?_
                refine lV (yMove rfl) rfl rfl ?_
                refine lGY rfl rfl rfl (oV (yCall rfl .n C14 (fun w hw => alive_any w)) rfl ?_)
                refine lV (yPickT rfl rfl) rfl rfl ?_
                refine lV (yAssign rfl) rfl rfl ?_
                refine lNil ?_
                refine kThen ?_
                refine kRet ?_
                refine fRet rfl (.t rfl .n) (endRet ?_)
                first | rfl | (simp [packV, *]; done)
          · refine lGN rfl rfl rfl rfl rfl ?_
            refine lGN rfl rfl rfl rfl rfl ?_
            refine lGN rfl rfl rfl rfl rfl ?_
            refine lGY rfl rfl rfl (oV (yPickF rfl rfl) rfl ?_)
            refine lGY rfl rfl rfl (oV (yPickF rfl rfl) rfl ?_)
            refine lGY rfl rfl rfl (oV (yPickT rfl rfl) rfl ?_)
            refine lV (yPickF rfl rfl) rfl rfl ?_
            refine lNil ?_
            refine kThen ?_
            refine kIfF rfl ?_
            refine kSkip ?_
            refine kThen ?_
            refine kSeq ?_
            refine kRegion rfl ?_
            refine lV (yMove rfl) rfl rfl ?_
            refine lV (yMove rfl) rfl rfl ?_
            refine lV (yCall rfl (.c rfl .n) C41 (fun w hw => pcan_any y p n2 (bits &&& knownP p) w (hw.blkAt 1 rfl) (hm.eff0 hw) hp (subS_ok hown) (decide (scalesP p (bits &&& knownP p) ≠ [])) (by rw [decide_eq_true_eq]))) rfl rfl ?_
            refine lV (yMove rfl) rfl rfl ?_
            refine split (t := 193) rfl (fun h193 => ?_) (fun h193 => ?_)
            · refine lGN rfl rfl rfl rfl rfl ?_
              refine lGN rfl rfl rfl rfl rfl ?_
              refine lGN rfl rfl rfl rfl rfl ?_
              refine lGU rfl rfl rfl rfl ?_
              refine lGU rfl rfl rfl rfl ?_
              refine lGU rfl rfl rfl rfl ?_
              refine lGU rfl rfl rfl rfl ?_
              refine lGU rfl rfl rfl rfl ?_
              refine lGU rfl rfl rfl rfl ?_
              refine lGU rfl rfl rfl rfl ?_
              refine lGU rfl rfl rfl rfl ?_
              refine lGU rfl rfl rfl rfl ?_
              refine lGU rfl rfl rfl rfl ?_
              refine lGU rfl rfl rfl rfl ?_
              refine lGU rfl rfl rfl rfl ?_
              refine lGU rfl rfl rfl rfl ?_
              refine lGN rfl rfl rfl rfl rfl ?_
              refine lV (yPickT rfl rfl) rfl rfl ?_
              refine lV (yMove rfl) rfl rfl ?_
              refine lGY rfl rfl rfl (oV (yCall rfl .n C14 (fun w hw => alive_any w)) rfl ?_)
              refine lV (yPickT rfl rfl) rfl rfl ?_
              refine lV (yAssign rfl) rfl rfl ?_
              refine lNil ?_
              refine kThen ?_
              refine kRet ?_
              refine fRet rfl (.t rfl .n) (endRet ?_)
              first | rfl | (simp [packV, *]; done)
            · refine lGY rfl rfl rfl (oV (yMove rfl) rfl ?_)
              refine lGY rfl rfl rfl (oV (yNeq rfl rfl) rfl ?_)
              refine known (t := 195) rfl (by have := hL.own.resolve_left h193; omega) ?_
              refine lGY rfl rfl rfl (oV (yMove rfl) rfl ?_)
              refine lGY rfl rfl rfl (oV (yMove rfl) rfl ?_)
              refine lGY rfl rfl rfl (oV (yMove rfl) rfl ?_)
              refine lGY rfl rfl rfl (oV (yGtr rfl rfl) rfl ?_)
              refine lGY rfl rfl rfl (oV (yMove rfl) rfl ?_)
              refine split (t := 200) rfl (fun h200 => ?_) (fun h200 => ?_)
              · refine lGN rfl rfl rfl rfl rfl ?_
                refine lGN rfl rfl rfl rfl rfl ?_
                refine lGN rfl rfl rfl rfl rfl ?_
                refine lGN rfl rfl rfl rfl rfl ?_
                refine lGU rfl rfl rfl rfl ?_
                refine lGU rfl rfl rfl rfl ?_
                refine lGU rfl rfl rfl rfl ?_
                refine lGN rfl rfl rfl rfl rfl ?_
                refine lGY rfl rfl rfl (oV (yPickT rfl rfl) rfl ?_)
                refine lGY rfl rfl rfl (oV (yPickT rfl rfl) rfl ?_)
                refine lV (yPickF rfl rfl) rfl rfl ?_
                refine lV (yMove rfl) rfl rfl ?_
                refine lGY rfl rfl rfl (oV (yCall rfl .n C14 (fun w hw => alive_any w)) rfl ?_)
                refine lV (yPickT rfl rfl) rfl rfl ?_
                refine lV (yAssign rfl) rfl rfl ?_
                refine lNil ?_
                refine kThen ?_
                refine kRet ?_
                refine fRet rfl (.t rfl .n) (endRet ?_)
                first | rfl | (simp [packV, *]; done)
              · refine lGY rfl rfl rfl (oV (yMove rfl) rfl ?_)
                refine lGY rfl rfl rfl (oV (yMove rfl) rfl ?_)
                refine lGY rfl rfl rfl (oV (yEql rfl rfl) rfl ?_)
                refine known (t := 203) rfl (by have := hL.own.resolve_left h193; omega) ?_
                refine lGY rfl rfl rfl (oV (yMove rfl) rfl ?_)
                refine lGY rfl rfl rfl (oV (yMove rfl) rfl ?_)
                refine lGY rfl rfl rfl (oV (yMove rfl) rfl ?_)
                refine lGY rfl rfl rfl (oV (yGeq rfl rfl) rfl ?_)
                refine known (t := 207) rfl (by have := hL.own.resolve_left h193; omega) ?_
                refine lGY rfl rfl rfl (oV (yPickT rfl rfl) rfl ?_)
                refine lGY rfl rfl rfl (oV (yPickF rfl rfl) rfl ?_)
                refine lGY rfl rfl rfl (oV (yPickT rfl rfl) rfl ?_)
                refine lV (yPickF rfl rfl) rfl rfl ?_
                refine lV (yMove rfl) rfl rfl ?_
                refine lGY rfl rfl rfl (oV (yCall rfl .n C14 (fun w hw => alive_any w)) rfl ?_)
                refine lV (yPickT rfl rfl) rfl rfl ?_
                refine lV (yAssign rfl) rfl rfl ?_
                refine lNil ?_
                refine kThen ?_
                refine kRet ?_
                refine fRet rfl (.t rfl .n) (endRet ?_)
                first | rfl | (simp [packV, *]; done)
        · refine lGN rfl rfl rfl rfl rfl ?_
          refine lGN rfl rfl rfl rfl rfl ?_
          refine lGN rfl rfl rfl rfl rfl ?_
          refine lGN rfl rfl rfl rfl rfl ?_
          refine lGU rfl rfl rfl rfl ?_
          refine lGU rfl rfl rfl rfl ?_
          refine lGU rfl rfl rfl rfl ?_
          refine lGU rfl rfl rfl rfl ?_
          refine lGU rfl rfl rfl rfl ?_
          refine lGU rfl rfl rfl rfl ?_
          refine lGU rfl rfl rfl rfl ?_
          refine lGU rfl rfl rfl rfl ?_
          refine lGN rfl rfl rfl rfl rfl ?_
          refine lGY rfl rfl rfl (oV (yPickF rfl rfl) rfl ?_)
          refine lV (yPickF rfl rfl) rfl rfl ?_
          refine lNil ?_
          refine kThen ?_
          refine kIfF rfl ?_
          refine kSkip ?_
          refine kThen ?_
          refine kSeq ?_
          refine kRegion rfl ?_
          refine lV (yMove rfl) rfl rfl ?_
          refine lV (yMove rfl) rfl rfl ?_
          refine lV (yCall rfl (.c rfl .n) C41 (fun w hw => pcan_any y p n2 (bits &&& knownP p) w (hw.blkAt 1 rfl) (hm.eff0 hw) hp (subS_ok hown) (decide (scalesP p (bits &&& knownP p) ≠ [])) (by rw [decide_eq_true_eq]))) rfl rfl ?_
          refine lV (yMove rfl) rfl rfl ?_
          refine split (t := 193) rfl (fun h193 => ?_) (fun h193 => ?_)
          · refine lGN rfl rfl rfl rfl rfl ?_
            refine lGN rfl rfl rfl rfl rfl ?_
            refine lGN rfl rfl rfl rfl rfl ?_
            refine lGU rfl rfl rfl rfl ?_
            refine lGU rfl rfl rfl rfl ?_
            refine lGU rfl rfl rfl rfl ?_
            refine lGU rfl rfl rfl rfl ?_
            refine lGU rfl rfl rfl rfl ?_
            refine lGU rfl rfl rfl rfl ?_
            refine lGU rfl rfl rfl rfl ?_
            refine lGU rfl rfl rfl rfl ?_
            refine lGU rfl rfl rfl rfl ?_
            refine lGU rfl rfl rfl rfl ?_
            refine lGU rfl rfl rfl rfl ?_
            refine lGU rfl rfl rfl rfl ?_
            refine lGU rfl rfl rfl rfl ?_
            refine lGN rfl rfl rfl rfl rfl ?_
            refine lV (yPickT rfl rfl) rfl rfl ?_
            refine lV (yMove rfl) rfl rfl ?_
            refine lGY rfl rfl rfl (oV (yCall rfl .n C14 (fun w hw => alive_any w)) rfl ?_)
            refine lV (yPickT rfl rfl) rfl rfl ?_
            refine lV (yAssign rfl) rfl rfl ?_
            refine lNil ?_
            refine kThen ?_
            refine kRet ?_
            refine fRet rfl (.t rfl .n) (endRet ?_)
            first | rfl | (simp [packV, *]; done)
          · refine lGY rfl rfl rfl (oV (yMove rfl) rfl ?_)
            refine lGY rfl rfl rfl (oV (yNeq rfl rfl) rfl ?_)
            refine known (t := 195) rfl (by have := hL.own.resolve_left h193; omega) ?_
            refine lGY rfl rfl rfl (oV (yMove rfl) rfl ?_)
            refine lGY rfl rfl rfl (oV (yMove rfl) rfl ?_)
            refine lGY rfl rfl rfl (oV (yMove rfl) rfl ?_)
            refine lGY rfl rfl rfl (oV (yGtr rfl rfl) rfl ?_)
            refine lGY rfl rfl rfl (oV (yMove rfl) rfl ?_)
            refine split (t := 200) rfl (fun h200 => ?_) (fun h200 => ?_)
            · refine lGN rfl rfl rfl rfl rfl ?_
              refine lGN rfl rfl rfl rfl rfl ?_
              refine lGN rfl rfl rfl rfl rfl ?_
              refine lGN rfl rfl rfl rfl rfl ?_
              refine lGU rfl rfl rfl rfl ?_
              refine lGU rfl rfl rfl rfl ?_
              refine lGU rfl rfl rfl rfl ?_
              refine lGN rfl rfl rfl rfl rfl ?_
              refine lGY rfl rfl rfl (oV (yPickT rfl rfl) rfl ?_)
              refine lGY rfl rfl rfl (oV (yPickT rfl rfl) rfl ?_)
              refine lV (yPickF rfl rfl) rfl rfl ?_
              refine lV (yMove rfl) rfl rfl ?_
              refine lGY rfl rfl rfl (oV (yCall rfl .n C14 (fun w hw => alive_any w)) rfl ?_)
              refine lV (yPickT rfl rfl) rfl rfl ?_
              refine lV (yAssign rfl) rfl rfl ?_
              refine lNil ?_
              refine kThen ?_
              refine kRet ?_
              refine fRet rfl (.t rfl .n) (endRet ?_)
              first | rfl | (simp [packV, *]; done)
            · refine lGY rfl rfl rfl (oV (yMove rfl) rfl ?_)
              refine lGY rfl rfl rfl (oV (yMove rfl) rfl ?_)
              refine lGY rfl rfl rfl (oV (yEql rfl rfl) rfl ?_)
              refine known (t := 203) rfl (by have := hL.own.resolve_left h193; omega) ?_
              refine lGY rfl rfl rfl (oV (yMove rfl) rfl ?_)
              refine lGY rfl rfl rfl (oV (yMove rfl) rfl ?_)
              refine lGY rfl rfl rfl (oV (yMove rfl) rfl ?_)
              refine lGY rfl rfl rfl (oV (yGeq rfl rfl) rfl ?_)
              refine known (t := 207) rfl (by have := hL.own.resolve_left h193; omega) ?_
              refine lGY rfl rfl rfl (oV (yPickT rfl rfl) rfl ?_)
              refine lGY rfl rfl rfl (oV (yPickF rfl rfl) rfl ?_)
              refine lGY rfl rfl rfl (oV (yPickT rfl rfl) rfl ?_)
              refine lV (yPickF rfl rfl) rfl rfl ?_
              refine lV (yMove rfl) rfl rfl ?_
              refine lGY rfl rfl rfl (oV (yCall rfl .n C14 (fun w hw => alive_any w)) rfl ?_)
              refine lV (yPickT rfl rfl) rfl rfl ?_
              refine lV (yAssign rfl) rfl rfl ?_
              refine lNil ?_
              refine kThen ?_
              refine kRet ?_
              refine fRet rfl (.t rfl .n) (endRet ?_)
              first | rfl | (simp [packV, *]; done)
  · refine lGY rfl rfl rfl (oV (yMove rfl) rfl ?_)
    refine lGN rfl rfl rfl rfl rfl ?_
    refine lGN rfl rfl rfl rfl rfl ?_
    refine lGN rfl rfl rfl rfl rfl ?_
    refine lGN rfl rfl rfl rfl rfl ?_
    refine lGY rfl rfl rfl (oV (yPickF rfl rfl) rfl ?_)
    refine lV (yPickF rfl rfl) rfl rfl ?_
    refine lNil ?_
    refine kThen ?_
    refine kIfF rfl ?_
    refine kSkip ?_
    refine kThen ?_
    refine kSeq ?_
    refine kRegion rfl ?_
    refine lV (yMakeFunc .n (.c rfl .n)) rfl rfl ?_
    refine lV (yAssign rfl) rfl rfl ?_
    refine lNil ?_
    refine kThen ?_
    refine kSeq ?_
    refine kSeq ?_
    refine kRegion rfl ?_
    refine lV (yFieldAddr rfl F26_1) rfl rfl ?_
    refine lV (yLoad1 rfl O24 (cOwn 1 rfl rfl)) rfl rfl ?_
    refine lV (yLen rfl S24) rfl rfl ?_
    refine lV (yMove rfl) rfl rfl ?_
    refine lNil ?_
    refine kThen ?_
    refine kBlock ?_
    refine kLoopX (ι := Nat) (fun i => i ≤ p.st.length) (fun i => [(125, i64 (i : Nat))]) [(0, _), (1, _), (2, _), (18, _), (19, _), (20, _), (21, _), (24, _), (25, _), (23, _), (26, _), (27, _), (5, _), (6, _), (29, _), (30, _), (28, _), (31, _), (32, _), (7, _), (8, _), (34, _), (35, _), (33, _), (36, _), (37, _), (9, _), (10, _), (38, _), (39, _), (40, _), (41, _), (42, _), (43, _), (44, _), (73, _), (74, _), (11, _), (75, _), (76, _), (77, _), (78, _), (79, _), (80, _), (81, _), (82, _), (83, _), (84, _), (85, _), (86, _), (87, _), (88, _), (89, _), (90, _), (91, _), (92, _), (93, _), (94, _), (95, _), (96, _), (97, _), (98, _), (99, _), (100, _), (101, _), (102, _), (103, _), (104, _), (105, _), (106, _), (107, _), (108, _), (109, _), (110, _), (111, _), (112, _), (113, _), (114, _), (119, _), (120, _), (121, _), (12, _), (122, _), (123, _), (124, _)] (fun i => []) (fun i => []) [(n9, _), (n2, _)] (fun i => p.st.length - i) 0 (Nat.zero_le _) rfl (.c rfl .n) (.c rfl (.c rfl (.c rfl (.c rfl (.c rfl (.c rfl (.c rfl (.c rfl (.c rfl (.c rfl (.c rfl (.c rfl (.c rfl (.c rfl (.c rfl (.c rfl (.c rfl (.c rfl (.c rfl (.c rfl (.c rfl (.c rfl (.c rfl (.c rfl (.c rfl (.c rfl (.c rfl (.c rfl (.c rfl (.c rfl (.c rfl (.c rfl (.c rfl (.c rfl (.c rfl (.c rfl (.c rfl (.c rfl (.c rfl (.c rfl (.c rfl (.c rfl (.c rfl (.c rfl (.c rfl (.c rfl (.c rfl (.c rfl (.c rfl (.c rfl (.c rfl (.c rfl (.c rfl (.c rfl (.c rfl (.c rfl (.c rfl (.c rfl (.c rfl (.c rfl (.c rfl (.c rfl (.c rfl (.c rfl (.c rfl (.c rfl (.c rfl (.c rfl (.c rfl (.c rfl (.c rfl (.c rfl (.c rfl (.c rfl (.c rfl (.c rfl (.c rfl (.c rfl (.c rfl (.c rfl (.c rfl (.c rfl (.c rfl (.c rfl (.c rfl .n))))))))))))))))))))))))))))))))))))))))))))))))))))))))))))))))))))))))))))))))))))) (.c 0 rfl (.c 0 rfl .n)) ?_
    rintro i hi
    refine kSeq ?_
    refine kRegion rfl ?_
    refine lV (yLss rfl rfl) rfl rfl ?_
    refine lNil ?_
    refine kThen ?_
    refine kSeq ?_
    refine split (t := 126) rfl (fun h126 => ?_) (fun h126 => ?_)
    · refine kIfT rfl ?_
      refine kSkip ?_
      refine kThen ?_
      refine kSeq ?_
      refine kBlock ?_
      refine kSeq ?_
      refine kRegion rfl ?_
      refine lV (yMove rfl) rfl rfl ?_
      refine lV (yAssign rfl) rfl rfl ?_
      refine lNil ?_
      refine kThen ?_
      refine kSeq ?_
      refine kRegion rfl ?_
      refine lV (yMove rfl) rfl rfl ?_
      refine lV (yMove rfl) rfl rfl ?_
      refine lV (yShr rfl rfl rfl (by have := Nat.div_le_self c (2 ^ i); omega)) rfl rfl ?_
      refine lV (yAnd (b := 1) rfl rfl rfl (by have := Nat.div_le_self c (2 ^ i); omega) (by have := Nat.div_le_self c (2 ^ i); omega)) rfl rfl ?_
      refine lV (yEql rfl rfl) rfl rfl ?_
      refine lV (yMove rfl) rfl rfl ?_
      refine split (t := 133) rfl (fun h133 => ?_) (fun h133 => ?_)
      · have hbt := (bit1_iff c i).1 h133
        have hp2 : 2 ^ i ≤ 2 ^ 10 := Nat.pow_le_pow_right (by omega) (by omega)
        refine lGY rfl rfl rfl (oV (yMove rfl) rfl ?_)
        refine lGY rfl rfl rfl (oV (yMove rfl) rfl ?_)
        refine lGY rfl rfl rfl (oV (yMove rfl) rfl ?_)
        refine lGY rfl rfl rfl (oV (yShl (a := 1) rfl rfl rfl (by omega) (by omega)) rfl ?_)
        refine lGY rfl rfl rfl (oV (yAndNot rfl rfl rfl (by omega) (by omega)) rfl ?_)
        refine lGY rfl rfl rfl (oV (yCall rfl (.c rfl .n) C41 (fun w hw => pcan_any y p n2 (less c (1 * 2 ^ i)) w (hw.blkAt 1 rfl) (hm.eff0 hw) hp (subS_ok fun j hj => hcs j (less_self_sub _ _ j hj)) true ⟨fun _ => hL.one i hbt, fun _ => rfl⟩)) rfl ?_)
        refine lGY rfl rfl rfl (oV (yNot rfl) rfl ?_)
        refine lV (yPickT rfl rfl) rfl rfl ?_
        refine lNil ?_
        refine kThen ?_
        refine kIfF rfl ?_
        refine kSkip ?_
        refine kInN ?_
        refine kThen ?_
        refine kRegion rfl ?_
        refine lV (yAdd rfl rfl (by omega)) rfl rfl ?_
        refine lV (yMove rfl) rfl rfl ?_
        refine lNil ?_
        exact kRoundX (i + 1) (by omega) (by omega) rfl (.c rfl .n) (.c rfl (.c rfl (.c rfl (.c rfl (.c rfl (.c rfl (.c rfl (.c rfl (.c rfl (.c rfl (.c rfl (.c rfl (.c rfl (.c rfl (.c rfl (.c rfl (.c rfl (.c rfl (.c rfl (.c rfl (.c rfl (.c rfl (.c rfl (.c rfl (.c rfl (.c rfl (.c rfl (.c rfl (.c rfl (.c rfl (.c rfl (.c rfl (.c rfl (.c rfl (.c rfl (.c rfl (.c rfl (.c rfl (.c rfl (.c rfl (.c rfl (.c rfl (.c rfl (.c rfl (.c rfl (.c rfl (.c rfl (.c rfl (.c rfl (.c rfl (.c rfl (.c rfl (.c rfl (.c rfl (.c rfl (.c rfl (.c rfl (.c rfl (.c rfl (.c rfl (.c rfl (.c rfl (.c rfl (.c rfl (.c rfl (.c rfl (.c rfl (.c rfl (.c rfl (.c rfl (.c rfl (.c rfl (.c rfl (.c rfl (.c rfl (.c rfl (.c rfl (.c rfl (.c rfl (.c rfl (.c rfl (.c rfl (.c rfl (.c rfl (.c rfl .n))))))))))))))))))))))))))))))))))))))))))))))))))))))))))))))))))))))))))))))))))))) (.c 0 rfl (.c 0 rfl .n))
      · refine lGN rfl rfl rfl rfl rfl ?_
        refine lGN rfl rfl rfl rfl rfl ?_
        refine lGN rfl rfl rfl rfl rfl ?_
        refine lGN rfl rfl rfl rfl rfl ?_
        refine lGN rfl rfl rfl rfl rfl ?_
        refine lGN rfl rfl rfl rfl rfl ?_
        refine lGN rfl rfl rfl rfl rfl ?_
        refine lV (yPickF rfl rfl) rfl rfl ?_
        refine lNil ?_
        refine kThen ?_
        refine kIfF rfl ?_
        refine kSkip ?_
        refine kInN ?_
        refine kThen ?_
        refine kRegion rfl ?_
        refine lV (yAdd rfl rfl (by omega)) rfl rfl ?_
        refine lV (yMove rfl) rfl rfl ?_
        refine lNil ?_
        exact kRoundX (i + 1) (by omega) (by omega) rfl (.c rfl .n) (.c rfl (.c rfl (.c rfl (.c rfl (.c rfl (.c rfl (.c rfl (.c rfl (.c rfl (.c rfl (.c rfl (.c rfl (.c rfl (.c rfl (.c rfl (.c rfl (.c rfl (.c rfl (.c rfl (.c rfl (.c rfl (.c rfl (.c rfl (.c rfl (.c rfl (.c rfl (.c rfl (.c rfl (.c rfl (.c rfl (.c rfl (.c rfl (.c rfl (.c rfl (.c rfl (.c rfl (.c rfl (.c rfl (.c rfl (.c rfl (.c rfl (.c rfl (.c rfl (.c rfl (.c rfl (.c rfl (.c rfl (.c rfl (.c rfl (.c rfl (.c rfl (.c rfl (.c rfl (.c rfl (.c rfl (.c rfl (.c rfl (.c rfl (.c rfl (.c rfl (.c rfl (.c rfl (.c rfl (.c rfl (.c rfl (.c rfl (.c rfl (.c rfl (.c rfl (.c rfl (.c rfl (.c rfl (.c rfl (.c rfl (.c rfl (.c rfl (.c rfl (.c rfl (.c rfl (.c rfl (.c rfl (.c rfl (.c rfl (.c rfl (.c rfl .n))))))))))))))))))))))))))))))))))))))))))))))))))))))))))))))))))))))))))))))))))))) (.c 0 rfl (.c 0 rfl .n))
    · refine kIfF rfl ?_
      refine kExit ?_
      refine kThenX ?_
      refine kThenX ?_
      refine kInX ?_
      refine kThen ?_
      refine kSeq ?_
      refine kRegion rfl ?_
      refine lV (yMove rfl) rfl rfl ?_
      refine lV (yConvInt rfl U60 U3 (conv_ok (by omega))) rfl rfl ?_
      refine lV (yMove rfl) rfl rfl ?_
      refine lV (yAnd rfl rfl rfl (by omega) (by omega)) rfl rfl ?_
      refine lV (yAssign rfl) rfl rfl ?_
      refine lNil ?_
      refine kThen ?_
      refine kSeq ?_
      refine kRegion rfl ?_
      refine lV (yMove rfl) rfl rfl ?_
      refine lV (yCall rfl (.c rfl .n) C43 (fun w hw => size_any (bits &&& knownP p) w (by omega))) rfl rfl ?_
      refine lV (yMove rfl) rfl rfl ?_
      refine lV (yCall rfl (.c rfl .n) C43 (fun w hw => size_any d w (by omega))) rfl rfl ?_
      refine lV (yMove rfl) rfl rfl ?_
      refine lV (yCall rfl (.c rfl .n) C43 (fun w hw => size_any c w (by omega))) rfl rfl ?_
      refine lV (yAssign rfl) rfl rfl ?_
      refine lV (yAssign rfl) rfl rfl ?_
      refine lV (yAssign rfl) rfl rfl ?_
      refine lNil ?_
      refine kThen ?_
      refine kSeq ?_
      refine kSeq ?_
      refine kRegion rfl ?_
      refine lV (yMove rfl) rfl rfl ?_
      refine lV (yNeq rfl rfl) rfl rfl ?_
      refine lV (yMove rfl) rfl rfl ?_
      refine split (t := 155) rfl (fun h155 => ?_) (fun h155 => ?_)
      · refine lGY rfl rfl rfl (oV (yMove rfl) rfl ?_)
        refine lGY rfl rfl rfl (oV (yMove rfl) rfl ?_)
        refine lGY rfl rfl rfl (oV (yCall rfl (.c rfl .n) C41 (fun w hw => pcan_any y p n2 c w (hw.blkAt 1 rfl) (hm.eff0 hw) hp (subS_ok hcs) false ⟨fun h => absurd h (by decide), fun h => absurd (hL.bad (by omega)) h⟩)) rfl ?_)
        refine lV (yPickT rfl rfl) rfl rfl ?_
        refine lV (yMove rfl) rfl rfl ?_
        refine lGY rfl rfl rfl (oV (yMove rfl) rfl ?_)
        refine lGY rfl rfl rfl (oV (yMove rfl) rfl ?_)
        refine lGY rfl rfl rfl (oV (yMove rfl) rfl ?_)
        refine lGY rfl rfl rfl (oV (yAndNot rfl rfl rfl (by omega) (by omega)) rfl ?_)
        refine lGY rfl rfl rfl (oV (yCall rfl (.c rfl .n) C41 (fun w hw => pcan_any y p n2 (less (knownP p) d) w (hw.blkAt 1 rfl) (hm.eff0 hw) hp (less_ok p d) true ⟨fun _ => hL.rest, fun _ => rfl⟩)) rfl ?_)
        refine lGY rfl rfl rfl (oV (yNot rfl) rfl ?_)
        refine lV (yPickF rfl rfl) rfl rfl ?_
        refine lV (yMove rfl) rfl rfl ?_
        refine lGY rfl rfl rfl (oV (yMove rfl) rfl ?_)
        refine lGY rfl rfl rfl (oV (yMove rfl) rfl ?_)
        refine lGY rfl rfl rfl (oV (yMove rfl) rfl ?_)
        refine lGY rfl rfl rfl (oV (yAndNot rfl rfl rfl (by omega) (by omega)) rfl ?_)
        refine lGY rfl rfl rfl (oV (yCall rfl (.c rfl .n) C41 (fun w hw => pcan_any y p n2 (less (knownP p) (bits &&& knownP p)) w (hw.blkAt 1 rfl) (hm.eff0 hw) hp (less_ok p _) (decide (scalesP p (less (knownP p) (bits &&& knownP p)) ≠ [])) (by rw [decide_eq_true_eq]))) rfl ?_)
        refine lGY rfl rfl rfl (oV (yMove rfl) rfl ?_)
        refine split (t := 174) rfl (fun h174 => ?_) (fun h174 => ?_)
        · refine lGY rfl rfl rfl (oV (yMove rfl) rfl ?_)
          refine lGY rfl rfl rfl (oV (yMove rfl) rfl ?_)
          refine lGY rfl rfl rfl (oV (yLss rfl rfl) rfl ?_)
          refine knownN (t := 177) rfl (by have := hL.min h174; omega) ?_
          refine lGY rfl rfl rfl (oV (yMove rfl) rfl ?_)
          refine lGY rfl rfl rfl (oV (yMove rfl) rfl ?_)
          refine lGY rfl rfl rfl (oV (yMove rfl) rfl ?_)
          refine lGY rfl rfl rfl (oV (yEql rfl rfl) rfl ?_)
          refine lGY rfl rfl rfl (oV (yMove rfl) rfl ?_)
          refine split (t := 182) rfl (fun h182 => ?_) (fun h182 => ?_)
          · refine lGY rfl rfl rfl (oV (yMove rfl) rfl ?_)
            refine lGY rfl rfl rfl (oV (yMove rfl) rfl ?_)
            refine lGY rfl rfl rfl (oV (yLss rfl rfl) rfl ?_)
            refine knownN (t := 185) rfl (by have := hL.min h174; omega) ?_
            refine lGY rfl rfl rfl (oV (yPickT rfl rfl) rfl ?_)
            refine lGY rfl rfl rfl (oV (yPickF rfl rfl) rfl ?_)
            refine lGY rfl rfl rfl (oV (yPickT rfl rfl) rfl ?_)
            refine lV (yPickF rfl rfl) rfl rfl ?_
            refine lNil ?_
            refine kThen ?_
            refine kIfF rfl ?_
            refine kSkip ?_
            refine kThen ?_
            refine kSeq ?_
            refine kRegion rfl ?_
            refine lV (yMove rfl) rfl rfl ?_
            refine lV (yMove rfl) rfl rfl ?_
            refine lV (yCall rfl (.c rfl .n) C41 (fun w hw => pcan_any y p n2 (bits &&& knownP p) w (hw.blkAt 1 rfl) (hm.eff0 hw) hp (subS_ok hown) (decide (scalesP p (bits &&& knownP p) ≠ [])) (by rw [decide_eq_true_eq]))) rfl rfl ?_
            refine lV (yMove rfl) rfl rfl ?_
            refine split (t := 193) rfl (fun h193 => ?_) (fun h193 => ?_)
            · refine lGN rfl rfl rfl rfl rfl ?_
              refine lGN rfl rfl rfl rfl rfl ?_
              refine lGN rfl rfl rfl rfl rfl ?_
              refine lGU rfl rfl rfl rfl ?_
              refine lGU rfl rfl rfl rfl ?_
              refine lGU rfl rfl rfl rfl ?_
              refine lGU rfl rfl rfl rfl ?_
              refine lGU rfl rfl rfl rfl ?_
              refine lGU rfl rfl rfl rfl ?_
              refine lGU rfl rfl rfl rfl ?_
              refine lGU rfl rfl rfl rfl ?_
              refine lGU rfl rfl rfl rfl ?_
              refine lGU rfl rfl rfl rfl ?_
              refine lGU rfl rfl rfl rfl ?_
              refine lGU rfl rfl rfl rfl ?_
              refine lGU rfl rfl rfl rfl ?_
              refine lGN rfl rfl rfl rfl rfl ?_
              refine lV (yPickT rfl rfl) rfl rfl ?_
              refine lV (yMove rfl) rfl rfl ?_
              refine lGY rfl rfl rfl (oV (yCall rfl .n C14 (fun w hw => alive_any w)) rfl ?_)
              refine lV (yPickT rfl rfl) rfl rfl ?_
              refine lV (yAssign rfl) rfl rfl ?_
              refine lNil ?_
              refine kThen ?_
              refine kRet ?_
              refine fRet rfl (.t rfl .n) (endRet ?_)
              first | rfl | (simp [packV, *]; done)
            · refine lGY rfl rfl rfl (oV (yMove rfl) rfl ?_)
              refine lGY rfl rfl rfl (oV (yNeq rfl rfl) rfl ?_)
              refine known (t := 195) rfl (by have := hL.own.resolve_left h193; omega) ?_
              refine lGY rfl rfl rfl (oV (yMove rfl) rfl ?_)
              refine lGY rfl rfl rfl (oV (yMove rfl) rfl ?_)
              refine lGY rfl rfl rfl (oV (yMove rfl) rfl ?_)
              refine lGY rfl rfl rfl (oV (yGtr rfl rfl) rfl ?_)
              refine lGY rfl rfl rfl (oV (yMove rfl) rfl ?_)
              refine split (t := 200) rfl (fun h200 => ?_) (fun h200 => ?_)
              · refine lGN rfl rfl rfl rfl rfl ?_
                refine lGN rfl rfl rfl rfl rfl ?_
                refine lGN rfl rfl rfl rfl rfl ?_
                refine lGN rfl rfl rfl rfl rfl ?_
                refine lGU rfl rfl rfl rfl ?_
                refine lGU rfl rfl rfl rfl ?_
                refine lGU rfl rfl rfl rfl ?_
                refine lGN rfl rfl rfl rfl rfl ?_
                refine lGY rfl rfl rfl (oV (yPickT rfl rfl) rfl ?_)
                refine lGY rfl rfl rfl (oV (yPickT rfl rfl) rfl ?_)
                refine lV (yPickF rfl rfl) rfl rfl ?_
                refine lV (yMove rfl) rfl rfl ?_
                refine lGY rfl rfl rfl (oV (yCall rfl .n C14 (fun w hw => alive_any w)) rfl ?_)
                refine lV (yPickT rfl rfl) rfl rfl ?_
                refine lV (yAssign rfl) rfl rfl ?_
                refine lNil ?_
                refine kThen ?_
                refine kRet ?_
                refine fRet rfl (.t rfl .n) (endRet ?_)
                first | rfl | (simp [packV, *]; done)
              · refine lGY rfl rfl rfl (oV (yMove rfl) rfl ?_)
                refine lGY rfl rfl rfl (oV (yMove rfl) rfl ?_)
                refine lGY rfl rfl rfl (oV (yEql rfl rfl) rfl ?_)
                refine known (t := 203) rfl (by have := hL.own.resolve_left h193; omega) ?_
                refine lGY rfl rfl rfl (oV (yMove rfl) rfl ?_)
                refine lGY rfl rfl rfl (oV (yMove rfl) rfl ?_)
                refine lGY rfl rfl rfl (oV (yMove rfl) rfl ?_)
                refine lGY rfl rfl rfl (oV (yGeq rfl rfl) rfl ?_)
                refine known (t := 207) rfl (by have := hL.own.resolve_left h193; omega) ?_
                refine lGY rfl rfl rfl (oV (yPickT rfl rfl) rfl ?_)
                refine lGY rfl rfl rfl (oV (yPickF rfl rfl) rfl ?_)
                refine lGY rfl rfl rfl (oV (yPickT rfl rfl) rfl ?_)
                refine lV (yPickF rfl rfl) rfl rfl ?_
                refine lV (yMove rfl) rfl rfl ?_
                refine lGY rfl rfl rfl (oV (yCall rfl .n C14 (fun w hw => alive_any w)) rfl ?_)
                refine lV (yPickT rfl rfl) rfl rfl ?_
                refine lV (yAssign rfl) rfl rfl ?_
                refine lNil ?_
                refine kThen ?_
                refine kRet ?_
                refine fRet rfl (.t rfl .n) (endRet ?_)
                first | rfl | (simp [packV, *]; done)
          · refine lGN rfl rfl rfl rfl rfl ?_
            refine lGN rfl rfl rfl rfl rfl ?_
            refine lGN rfl rfl rfl rfl rfl ?_
            refine lGY rfl rfl rfl (oV (yPickF rfl rfl) rfl ?_)
            refine lGY rfl rfl rfl (oV (yPickF rfl rfl) rfl ?_)
            refine lGY rfl rfl rfl (oV (yPickT rfl rfl) rfl ?_)
            refine lV (yPickF rfl rfl) rfl rfl ?_
            refine lNil ?_
            refine kThen ?_
            refine kIfF rfl ?_
            refine kSkip ?_
            refine kThen ?_
            refine kSeq ?_
            refine kRegion rfl ?_
            refine lV (yMove rfl) rfl rfl ?_
            refine lV (yMove rfl) rfl rfl ?_
            refine lV (yCall rfl (.c rfl .n) C41 (fun w hw => pcan_any y p n2 (bits &&& knownP p) w (hw.blkAt 1 rfl) (hm.eff0 hw) hp (subS_ok hown) (decide (scalesP p (bits &&& knownP p) ≠ [])) (by rw [decide_eq_true_eq]))) rfl rfl ?_
            refine lV (yMove rfl) rfl rfl ?_
            refine split (t := 193) rfl (fun h193 => ?_) (fun h193 => ?_)
            · refine lGN rfl rfl rfl rfl rfl ?_
              refine lGN rfl rfl rfl rfl rfl ?_
              refine lGN rfl rfl rfl rfl rfl ?_
              refine lGU rfl rfl rfl rfl ?_
              refine lGU rfl rfl rfl rfl ?_
              refine lGU rfl rfl rfl rfl ?_
              refine lGU rfl rfl rfl rfl ?_
              refine lGU rfl rfl rfl rfl ?_
              refine lGU rfl rfl rfl rfl ?_
              refine lGU rfl rfl rfl rfl ?_
              refine lGU rfl rfl rfl rfl ?_
              refine lGU rfl rfl rfl rfl ?_
              refine lGU rfl rfl rfl rfl ?_
              refine lGU rfl rfl rfl rfl ?_
              refine lGU rfl rfl rfl rfl ?_
              refine lGU rfl rfl rfl rfl ?_
              refine lGN rfl rfl rfl rfl rfl ?_
              refine lV (yPickT rfl rfl) rfl rfl ?_
              refine lV (yMove rfl) rfl rfl ?_
              refine lGY rfl rfl rfl (oV (yCall rfl .n C14 (fun w hw => alive_any w)) rfl ?_)
              refine lV (yPickT rfl rfl) rfl rfl ?_
              refine lV (yAssign rfl) rfl rfl ?_
              refine lNil ?_
              refine kThen ?_
              refine kRet ?_
              refine fRet rfl (.t rfl .n) (endRet ?_)
              first | rfl | (simp [packV, *]; done)
            · refine lGY rfl rfl rfl (oV (yMove rfl) rfl ?_)
              refine lGY rfl rfl rfl (oV (yNeq rfl rfl) rfl ?_)
              refine known (t := 195) rfl (by have := hL.own.resolve_left h193; omega) ?_
              refine lGY rfl rfl rfl (oV (yMove rfl) rfl ?_)
              refine lGY rfl rfl rfl (oV (yMove rfl) rfl ?_)
              refine lGY rfl rfl rfl (oV (yMove rfl) rfl ?_)
              refine lGY rfl rfl rfl (oV (yGtr rfl rfl) rfl ?_)
              refine lGY rfl rfl rfl (oV (yMove rfl) rfl ?_)
              refine split (t := 200) rfl (fun h200 => ?_) (fun h200 => ?_)
              · refine lGN rfl rfl rfl rfl rfl ?_
                refine lGN rfl rfl rfl rfl rfl ?_
                refine lGN rfl rfl rfl rfl rfl ?_
                refine lGN rfl rfl rfl rfl rfl ?_
                refine lGU rfl rfl rfl rfl ?_
                refine lGU rfl rfl rfl rfl ?_
                refine lGU rfl rfl rfl rfl ?_
                refine lGN rfl rfl rfl rfl rfl ?_
                refine lGY rfl rfl rfl (oV (yPickT rfl rfl) rfl ?_)
                refine lGY rfl rfl rfl (oV (yPickT rfl rfl) rfl ?_)
                refine lV (yPickF rfl rfl) rfl rfl ?_
                refine lV (yMove rfl) rfl rfl ?_
                refine lGY rfl rfl rfl (oV (yCall rfl .n C14 (fun w hw => alive_any w)) rfl ?_)
                refine lV (yPickT rfl rfl) rfl rfl ?_
                refine lV (yAssign rfl) rfl rfl ?_
                refine lNil ?_
                refine kThen ?_
                refine kRet ?_
                refine fRet rfl (.t rfl .n) (endRet ?_)
                first | rfl | (simp [packV, *]; done)
              · refine lGY rfl rfl rfl (oV (yMove rfl) rfl ?_)
                refine lGY rfl rfl rfl (oV (yMove rfl) rfl ?_)
                refine lGY rfl rfl rfl (oV (yEql rfl rfl) rfl ?_)
                refine known (t := 203) rfl (by have := hL.own.resolve_left h193; omega) ?_
                refine lGY rfl rfl rfl (oV (yMove rfl) rfl ?_)
                refine lGY rfl rfl rfl (oV (yMove rfl) rfl ?_)
                refine lGY rfl rfl rfl (oV (yMove rfl) rfl ?_)
                refine lGY rfl rfl rfl (oV (yGeq rfl rfl) rfl ?_)
                refine known (t := 207) rfl (by have := hL.own.resolve_left h193; omega) ?_
                refine lGY rfl rfl rfl (oV (yPickT rfl rfl) rfl ?_)
                refine lGY rfl rfl rfl (oV (yPickF rfl rfl) rfl ?_)
                refine lGY rfl rfl rfl (oV (yPickT rfl rfl) rfl ?_)
                refine lV (yPickF rfl rfl) rfl rfl ?_
                refine lV (yMove rfl) rfl rfl ?_
                refine lGY rfl rfl rfl (oV (yCall rfl .n C14 (fun w hw => alive_any w)) rfl ?_)
                refine lV (yPickT rfl rfl) rfl rfl ?_
                refine lV (yAssign rfl) rfl rfl ?_
                refine lNil ?_
                refine kThen ?_
                refine kRet ?_
                refine fRet rfl (.t rfl .n) (endRet ?_)
                first | rfl | (simp [packV, *]; done)
        · refine lGN rfl rfl rfl rfl rfl ?_
          refine lGN rfl rfl rfl rfl rfl ?_
          refine lGN rfl rfl rfl rfl rfl ?_
          refine lGN rfl rfl rfl rfl rfl ?_
          refine lGU rfl rfl rfl rfl ?_
          refine lGU rfl rfl rfl rfl ?_
          refine lGU rfl rfl rfl rfl ?_
          refine lGU rfl rfl rfl rfl ?_
          refine lGU rfl rfl rfl rfl ?_
          refine lGU rfl rfl rfl rfl ?_
          refine lGU rfl rfl rfl rfl ?_
          refine lGU rfl rfl rfl rfl ?_
          refine lGN rfl rfl rfl rfl rfl ?_
          refine lGY rfl rfl rfl (oV (yPickF rfl rfl) rfl ?_)
          refine lV (yPickF rfl rfl) rfl rfl ?_
          refine lNil ?_
          refine kThen ?_
          refine kIfF rfl ?_
          refine kSkip ?_
          refine kThen ?_
          refine kSeq ?_
          refine kRegion rfl ?_
          refine lV (yMove rfl) rfl rfl ?_
          refine lV (yMove rfl) rfl rfl ?_
          refine lV (yCall rfl (.c rfl .n) C41 (fun w hw => pcan_any y p n2 (bits &&& knownP p) w (hw.blkAt 1 rfl) (hm.eff0 hw) hp (subS_ok hown) (decide (scalesP p (bits &&& knownP p) ≠ [])) (by rw [decide_eq_true_eq]))) rfl rfl ?_
          refine lV (yMove rfl) rfl rfl ?_
          refine split (t := 193) rfl (fun h193 => ?_) (fun h193 => ?_)
          · refine lGN rfl rfl rfl rfl rfl ?_
            refine lGN rfl rfl rfl rfl rfl ?_
            refine lGN rfl rfl rfl rfl rfl ?_
            refine lGU rfl rfl rfl rfl ?_
            refine lGU rfl rfl rfl rfl ?_
            refine lGU rfl rfl rfl rfl ?_
            refine lGU rfl rfl rfl rfl ?_
            refine lGU rfl rfl rfl rfl ?_
            refine lGU rfl rfl rfl rfl ?_
            refine lGU rfl rfl rfl rfl ?_
            refine lGU rfl rfl rfl rfl ?_
            refine lGU rfl rfl rfl rfl ?_
            refine lGU rfl rfl rfl rfl ?_
            refine lGU rfl rfl rfl rfl ?_
            refine lGU rfl rfl rfl rfl ?_
            refine lGU rfl rfl rfl rfl ?_
            refine lGN rfl rfl rfl rfl rfl ?_
            refine lV (yPickT rfl rfl) rfl rfl ?_
            refine lV (yMove rfl) rfl rfl ?_
            refine lGY rfl rfl rfl (oV (yCall rfl .n C14 (fun w hw => alive_any w)) rfl ?_)
            refine lV (yPickT rfl rfl) rfl rfl ?_
            refine lV (yAssign rfl) rfl rfl ?_
            refine lNil ?_
            refine kThen ?_
            refine kRet ?_
            refine fRet rfl (.t rfl .n) (endRet ?_)
            first | rfl | (simp [packV, *]; done)
          · refine lGY rfl rfl rfl (oV (yMove rfl) rfl ?_)
            refine lGY rfl rfl rfl (oV (yNeq rfl rfl) rfl ?_)
            refine known (t := 195) rfl (by have := hL.own.resolve_left h193; omega) ?_
            refine lGY rfl rfl rfl (oV (yMove rfl) rfl ?_)
            refine lGY rfl rfl rfl (oV (yMove rfl) rfl ?_)
            refine lGY rfl rfl rfl (oV (yMove rfl) rfl ?_)
            refine lGY rfl rfl rfl (oV (yGtr rfl rfl) rfl ?_)
            refine lGY rfl rfl rfl (oV (yMove rfl) rfl ?_)
            refine split (t := 200) rfl (fun h200 => ?_) (fun h200 => ?_)
            · refine lGN rfl rfl rfl rfl rfl ?_
              refine lGN rfl rfl rfl rfl rfl ?_
              refine lGN rfl rfl rfl rfl rfl ?_
              refine lGN rfl rfl rfl rfl rfl ?_
              refine lGU rfl rfl rfl rfl ?_
              refine lGU rfl rfl rfl rfl ?_
              refine lGU rfl rfl rfl rfl ?_
              refine lGN rfl rfl rfl rfl rfl ?_
              refine lGY rfl rfl rfl (oV (yPickT rfl rfl) rfl ?_)
              refine lGY rfl rfl rfl (oV (yPickT rfl rfl) rfl ?_)
              refine lV (yPickF rfl rfl) rfl rfl ?_
              refine lV (yMove rfl) rfl rfl ?_
              refine lGY rfl rfl rfl (oV (yCall rfl .n C14 (fun w hw => alive_any w)) rfl ?_)
              refine lV (yPickT rfl rfl) rfl rfl ?_
              refine lV (yAssign rfl) rfl rfl ?_
              refine lNil ?_
              refine kThen ?_
              refine kRet ?_
              refine fRet rfl (.t rfl .n) (endRet ?_)
              first | rfl | (simp [packV, *]; done)
            · refine lGY rfl rfl rfl (oV (yMove rfl) rfl ?_)
              refine lGY rfl rfl rfl (oV (yMove rfl) rfl ?_)
              refine lGY rfl rfl rfl (oV (yEql rfl rfl) rfl ?_)
              refine known (t := 203) rfl (by have := hL.own.resolve_left h193; omega) ?_
              refine lGY rfl rfl rfl (oV (yMove rfl) rfl ?_)
              refine lGY rfl rfl rfl (oV (yMove rfl) rfl ?_)
              refine lGY rfl rfl rfl (oV (yMove rfl) rfl ?_)
              refine lGY rfl rfl rfl (oV (yGeq rfl rfl) rfl ?_)
              refine known (t := 207) rfl (by have := hL.own.resolve_left h193; omega) ?_
              refine lGY rfl rfl rfl (oV (yPickT rfl rfl) rfl ?_)
              refine lGY rfl rfl rfl (oV (yPickF rfl rfl) rfl ?_)
              refine lGY rfl rfl rfl (oV (yPickT rfl rfl) rfl ?_)
              refine lV (yPickF rfl rfl) rfl rfl ?_
              refine lV (yMove rfl) rfl rfl ?_
              refine lGY rfl rfl rfl (oV (yCall rfl .n C14 (fun w hw => alive_any w)) rfl ?_)
              refine lV (yPickT rfl rfl) rfl rfl ?_
              refine lV (yAssign rfl) rfl rfl ?_
              refine lNil ?_
              refine kThen ?_
              refine kRet ?_
              refine fRet rfl (.t rfl .n) (endRet ?_)
              first | rfl | (simp [packV, *]; done)
      · refine lGN rfl rfl rfl rfl rfl ?_
        refine lGN rfl rfl rfl rfl rfl ?_
        refine lGN rfl rfl rfl rfl rfl ?_
        refine lV (yPickF rfl rfl) rfl rfl ?_
        refine lV (yMove rfl) rfl rfl ?_
        refine lGY rfl rfl rfl (oV (yMove rfl) rfl ?_)
        refine lGY rfl rfl rfl (oV (yMove rfl) rfl ?_)
        refine lGY rfl rfl rfl (oV (yMove rfl) rfl ?_)
        refine lGY rfl rfl rfl (oV (yAndNot rfl rfl rfl (by omega) (by omega)) rfl ?_)
        refine lGY rfl rfl rfl (oV (yCall rfl (.c rfl .n) C41 (fun w hw => pcan_any y p n2 (less (knownP p) d) w (hw.blkAt 1 rfl) (hm.eff0 hw) hp (less_ok p d) true ⟨fun _ => hL.rest, fun _ => rfl⟩)) rfl ?_)
        refine lGY rfl rfl rfl (oV (yNot rfl) rfl ?_)
        refine lV (yPickF rfl rfl) rfl rfl ?_
        refine lV (yMove rfl) rfl rfl ?_
        refine lGY rfl rfl rfl (oV (yMove rfl) rfl ?_)
        refine lGY rfl rfl rfl (oV (yMove rfl) rfl ?_)
        refine lGY rfl rfl rfl (oV (yMove rfl) rfl ?_)
        refine lGY rfl rfl rfl (oV (yAndNot rfl rfl rfl (by omega) (by omega)) rfl ?_)
        refine lGY rfl rfl rfl (oV (yCall rfl (.c rfl .n) C41 (fun w hw => pcan_any y p n2 (less (knownP p) (bits &&& knownP p)) w (hw.blkAt 1 rfl) (hm.eff0 hw) hp (less_ok p _) (decide (scalesP p (less (knownP p) (bits &&& knownP p)) ≠ [])) (by rw [decide_eq_true_eq]))) rfl ?_)
        refine lGY rfl rfl rfl (oV (yMove rfl) rfl ?_)
        refine split (t := 174) rfl (fun h174 => ?_) (fun h174 => ?_)
        · refine lGY rfl rfl rfl (oV (yMove rfl) rfl ?_)
          refine lGY rfl rfl rfl (oV (yMove rfl) rfl ?_)
          refine lGY rfl rfl rfl (oV (yLss rfl rfl) rfl ?_)
          refine knownN (t := 177) rfl (by have := hL.min h174; omega) ?_
          refine lGY rfl rfl rfl (oV (yMove rfl) rfl ?_)
          refine lGY rfl rfl rfl (oV (yMove rfl) rfl ?_)
          refine lGY rfl rfl rfl (oV (yMove rfl) rfl ?_)
          refine lGY rfl rfl rfl (oV (yEql rfl rfl) rfl ?_)
          refine lGY rfl rfl rfl (oV (yMove rfl) rfl ?_)
          refine split (t := 182) rfl (fun h182 => ?_) (fun h182 => ?_)
          · refine lGY rfl rfl rfl (oV (yMove rfl) rfl ?_)
            refine lGY rfl rfl rfl (oV (yMove rfl) rfl ?_)
            refine lGY rfl rfl rfl (oV (yLss rfl rfl) rfl ?_)
            refine knownN (t := 185) rfl (by have := hL.min h174; omega) ?_
            refine lGY rfl rfl rfl (oV (yPickT rfl rfl) rfl ?_)
            refine lGY rfl rfl rfl (oV (yPickF rfl rfl) rfl ?_)
            refine lGY rfl rfl rfl (oV (yPickT rfl rfl) rfl ?_)
            refine lV (yPickF rfl rfl) rfl rfl ?_
            refine lNil ?_
            refine kThen ?_
            refine kIfF rfl ?_
            refine kSkip ?_
            refine kThen ?_
            refine kSeq ?_
            refine kRegion rfl ?_
            refine lV (yMove rfl) rfl rfl ?_
            refine lV (yMove rfl) rfl rfl ?_
            refine lV (yCall rfl (.c rfl .n) C41 (fun w hw => pcan_any y p n2 (bits &&& knownP p) w (hw.blkAt 1 rfl) (hm.eff0 hw) hp (subS_ok hown) (decide (scalesP p (bits &&& knownP p) ≠ [])) (by rw [decide_eq_true_eq]))) rfl rfl ?_
            refine lV (yMove rfl) rfl rfl ?_
            refine split (t := 193) rfl (fun h193 => ?_) (fun h193 => ?_)
            · refine lGN rfl rfl rfl rfl rfl ?_
              refine lGN rfl rfl rfl rfl rfl ?_
              refine lGN rfl rfl rfl rfl rfl ?_
              refine lGU rfl rfl rfl rfl ?_
              refine lGU rfl rfl rfl rfl ?_
              refine lGU rfl rfl rfl rfl ?_
              refine lGU rfl rfl rfl rfl ?_
              refine lGU rfl rfl rfl rfl ?_
              refine lGU rfl rfl rfl rfl ?_
              refine lGU rfl rfl rfl rfl ?_
              refine lGU rfl rfl rfl rfl ?_
              refine lGU rfl rfl rfl rfl ?_
              refine lGU rfl rfl rfl rfl ?_
              refine lGU rfl rfl rfl rfl ?_
              refine lGU rfl rfl rfl rfl ?_
              refine lGU rfl rfl rfl rfl ?_
              refine lGN rfl rfl rfl rfl rfl ?_
              refine lV (yPickT rfl rfl) rfl rfl ?_
              refine lV (yMove rfl) rfl rfl ?_
              refine lGY rfl rfl rfl (oV (yCall rfl .n C14 (fun w hw => alive_any w)) rfl ?_)
              refine lV (yPickT rfl rfl) rfl rfl ?_
              refine lV (yAssign rfl) rfl rfl ?_
              refine lNil ?_
              refine kThen ?_
              refine kRet ?_
              refine fRet rfl (.t rfl .n) (endRet ?_)
              first | rfl | (simp [packV, *]; done)
            · refine lGY rfl rfl rfl (oV (yMove rfl) rfl ?_)
              refine lGY rfl rfl rfl (oV (yNeq rfl rfl) rfl ?_)
              refine known (t := 195) rfl (by have := hL.own.resolve_left h193; omega) ?_
              refine lGY rfl rfl rfl (oV (yMove rfl) rfl ?_)
              refine lGY rfl rfl rfl (oV (yMove rfl) rfl ?_)
              refine lGY rfl rfl rfl (oV (yMove rfl) rfl ?_)
              refine lGY rfl rfl rfl (oV (yGtr rfl rfl) rfl ?_)
              refine lGY rfl rfl rfl (oV (yMove rfl) rfl ?_)
              refine split (t := 200) rfl (fun h200 => ?_) (fun h200 => ?_)
              · refine lGN rfl rfl rfl rfl rfl ?_
                refine lGN rfl rfl rfl rfl rfl ?_
                refine lGN rfl rfl rfl rfl rfl ?_
                refine lGN rfl rfl rfl rfl rfl ?_
                refine lGU rfl rfl rfl rfl ?_
                refine lGU rfl rfl rfl rfl ?_
                refine lGU rfl rfl rfl rfl ?_
                refine lGN rfl rfl rfl rfl rfl ?_
                refine lGY rfl rfl rfl (oV (yPickT rfl rfl) rfl ?_)
                refine lGY rfl rfl rfl (oV (yPickT rfl rfl) rfl ?_)
                refine lV (yPickF rfl rfl) rfl rfl ?_
                refine lV (yMove rfl) rfl rfl ?_
                refine lGY rfl rfl rfl (oV (yCall rfl .n C14 (fun w hw => alive_any w)) rfl ?_)
                refine lV (yPickT rfl rfl) rfl rfl ?_
                refine lV (yAssign rfl) rfl rfl ?_
                refine lNil ?_
                refine kThen ?_
                refine kRet ?_
                refine fRet rfl (.t rfl .n) (endRet ?_)
                first | rfl | (simp [packV, *]; done)
              · refine lGY rfl rfl rfl (oV (yMove rfl) rfl ?_)
                refine lGY rfl rfl rfl (oV (yMove rfl) rfl ?_)
                refine lGY rfl rfl rfl (oV (yEql rfl rfl) rfl ?_)
                refine known (t := 203) rfl (by have := hL.own.resolve_left h193; omega) ?_
                refine lGY rfl rfl rfl (oV (yMove rfl) rfl ?_)
                refine lGY rfl rfl rfl (oV (yMove rfl) rfl ?_)
                refine lGY rfl rfl rfl (oV (yMove rfl) rfl ?_)
                refine lGY rfl rfl rfl (oV (yGeq rfl rfl) rfl ?_)
                refine known (t := 207) rfl (by have := hL.own.resolve_left h193; omega) ?_
                refine lGY rfl rfl rfl (oV (yPickT rfl rfl) rfl ?_)
                refine lGY rfl rfl rfl (oV (yPickF rfl rfl) rfl ?_)
                refine lGY rfl rfl rfl (oV (yPickT rfl rfl) rfl ?_)
                refine lV (yPickF rfl rfl) rfl rfl ?_
                refine lV (yMove rfl) rfl rfl ?_
                refine lGY rfl rfl rfl (oV (yCall rfl .n C14 (fun w hw => alive_any w)) rfl ?_)
                refine lV (yPickT rfl rfl) rfl rfl ?_
                refine lV (yAssign rfl) rfl rfl ?_
                refine lNil ?_
                refine kThen ?_
                refine kRet ?_
                refine fRet rfl (.t rfl .n) (endRet ?_)
                first | rfl | (simp [packV, *]; done)
          · refine lGN rfl rfl rfl rfl rfl ?_
            refine lGN rfl rfl rfl rfl rfl ?_
            refine lGN rfl rfl rfl rfl rfl ?_
            refine lGY rfl rfl rfl (oV (yPickF rfl rfl) rfl ?_)
            refine lGY rfl rfl rfl (oV (yPickF rfl rfl) rfl ?_)
            refine lGY rfl rfl rfl (oV (yPickT rfl rfl) rfl ?_)
            refine lV (yPickF rfl rfl) rfl rfl ?_
            refine lNil ?_
            refine kThen ?_
            refine kIfF rfl ?_
            refine kSkip ?_
            refine kThen ?_
            refine kSeq ?_
            refine kRegion rfl ?_
            refine lV (yMove rfl) rfl rfl ?_
            refine lV (yMove rfl) rfl rfl ?_
            refine lV (yCall rfl (.c rfl .n) C41 (fun w hw => pcan_any y p n2 (bits &&& knownP p) w (hw.blkAt 1 rfl) (hm.eff0 hw) hp (subS_ok hown) (decide (scalesP p (bits &&& knownP p) ≠ [])) (by rw [decide_eq_true_eq]))) rfl rfl ?_
            refine lV (yMove rfl) rfl rfl ?_
            refine split (t := 193) rfl (fun h193 => ?_) (fun h193 => ?_)
            · refine lGN rfl rfl rfl rfl rfl ?_
              refine lGN rfl rfl rfl rfl rfl ?_
              refine lGN rfl rfl rfl rfl rfl ?_
              refine lGU rfl rfl rfl rfl ?_
              refine lGU rfl rfl rfl rfl ?_
              refine lGU rfl rfl rfl rfl ?_
              refine lGU rfl rfl rfl rfl ?_
              refine lGU rfl rfl rfl rfl ?_
              refine lGU rfl rfl rfl rfl ?_
              refine lGU rfl rfl rfl rfl ?_
              refine lGU rfl rfl rfl rfl ?_
              refine lGU rfl rfl rfl rfl ?_
              refine lGU rfl rfl rfl rfl ?_
              refine lGU rfl rfl rfl rfl ?_
              refine lGU rfl rfl rfl rfl ?_
              refine lGU rfl rfl rfl rfl ?_
              refine lGN rfl rfl rfl rfl rfl ?_
              refine lV (yPickT rfl rfl) rfl rfl ?_
              refine lV (yMove rfl) rfl rfl ?_
              refine lGY rfl rfl rfl (oV (yCall rfl .n C14 (fun w hw => alive_any w)) rfl ?_)
              refine lV (yPickT rfl rfl) rfl rfl ?_
              refine lV (yAssign rfl) rfl rfl ?_
              refine lNil ?_
              refine kThen ?_
              refine kRet ?_
              refine fRet rfl (.t rfl .n) (endRet ?_)
              first | rfl | (simp [packV, *]; done)
            · refine lGY rfl rfl rfl (oV (yMove rfl) rfl ?_)
              refine lGY rfl rfl rfl (oV (yNeq rfl rfl) rfl ?_)
              refine known (t := 195) rfl (by have := hL.own.resolve_left h193; omega) ?_
              refine lGY rfl rfl rfl (oV (yMove rfl) rfl ?_)
              refine lGY rfl rfl rfl (oV (yMove rfl) rfl ?_)
              refine lGY rfl rfl rfl (oV (yMove rfl) rfl ?_)
              refine lGY rfl rfl rfl (oV (yGtr rfl rfl) rfl ?_)
              refine lGY rfl rfl rfl (oV (yMove rfl) rfl ?_)
              refine split (t := 200) rfl (fun h200 => ?_) (fun h200 => ?_)
              · refine lGN rfl rfl rfl rfl rfl ?_
                refine lGN rfl rfl rfl rfl rfl ?_
                refine lGN rfl rfl rfl rfl rfl ?_
                refine lGN rfl rfl rfl rfl rfl ?_
                refine lGU rfl rfl rfl rfl ?_
                refine lGU rfl rfl rfl rfl ?_
                refine lGU rfl rfl rfl rfl ?_
                refine lGN rfl rfl rfl rfl rfl ?_
                refine lGY rfl rfl rfl (oV (yPickT rfl rfl) rfl ?_)
                refine lGY rfl rfl rfl (oV (yPickT rfl rfl) rfl ?_)
                refine lV (yPickF rfl rfl) rfl rfl ?_
                refine lV (yMove rfl) rfl rfl ?_
                refine lGY rfl rfl rfl (oV (yCall rfl .n C14 (fun w hw => alive_any w)) rfl ?_)
                refine lV (yPickT rfl rfl) rfl rfl ?_
                refine lV (yAssign rfl) rfl rfl ?_
                refine lNil ?_
                refine kThen ?_
                refine kRet ?_
                refine fRet rfl (.t rfl .n) (endRet ?_)
                first | rfl | (simp [packV, *]; done)
              · refine lGY rfl rfl rfl (oV (yMove rfl) rfl ?_)
                refine lGY rfl rfl rfl (oV (yMove rfl) rfl ?_)
                refine lGY rfl rfl rfl (oV (yEql rfl rfl) rfl ?_)
                refine known (t := 203) rfl (by have := hL.own.resolve_left h193; omega) ?_
                refine lGY rfl rfl rfl (oV (yMove rfl) rfl ?_)
                refine lGY rfl rfl rfl (oV (yMove rfl) rfl ?_)
                refine lGY rfl rfl rfl (oV (yMove rfl) rfl ?_)
                refine lGY rfl rfl rfl (oV (yGeq rfl rfl) rfl ?_)
                refine known (t := 207) rfl (by have := hL.own.resolve_left h193; omega) ?_
                refine lGY rfl rfl rfl (oV (yPickT rfl rfl) rfl ?_)
                refine lGY rfl rfl rfl (oV (yPickF rfl rfl) rfl ?_)
                refine lGY rfl rfl rfl (oV (yPickT rfl rfl) rfl ?_)
                refine lV (yPickF rfl rfl) rfl rfl ?_
                refine lV (yMove rfl) rfl rfl ?_
                refine lGY rfl rfl rfl (oV (yCall rfl .n C14 (fun w hw => alive_any w)) rfl ?_)
                refine lV (yPickT rfl rfl) rfl rfl ?_
                refine lV (yAssign rfl) rfl rfl ?_
                refine lNil ?_
                refine kThen ?_
                refine kRet ?_
                refine fRet rfl (.t rfl .n) (endRet ?_)
                first | rfl | (simp [packV, *]; done)
        · refine lGN rfl rfl rfl rfl rfl ?_
          refine lGN rfl rfl rfl rfl rfl ?_
          refine lGN rfl rfl rfl rfl rfl ?_
          refine lGN rfl rfl rfl rfl rfl ?_
          refine lGU rfl rfl rfl rfl ?_
          refine lGU rfl rfl rfl rfl ?_
          refine lGU rfl rfl rfl rfl ?_
          refine lGU rfl rfl rfl rfl ?_
          refine lGU rfl rfl rfl rfl ?_
          refine lGU rfl rfl rfl rfl ?_
          refine lGU rfl rfl rfl rfl ?_
          refine lGU rfl rfl rfl rfl ?_
          refine lGN rfl rfl rfl rfl rfl ?_
          refine lGY rfl rfl rfl (oV (yPickF rfl rfl) rfl ?_)
          refine lV (yPickF rfl rfl) rfl rfl ?_
          refine lNil ?_
          refine kThen ?_
          refine kIfF rfl ?_
          refine kSkip ?_
          refine kThen ?_
          refine kSeq ?_
          refine kRegion rfl ?_
          refine lV (yMove rfl) rfl rfl ?_
          refine lV (yMove rfl) rfl rfl ?_
          refine lV (yCall rfl (.c rfl .n) C41 (fun w hw => pcan_any y p n2 (bits &&& knownP p) w (hw.blkAt 1 rfl) (hm.eff0 hw) hp (subS_ok hown) (decide (scalesP p (bits &&& knownP p) ≠ [])) (by rw [decide_eq_true_eq]))) rfl rfl ?_
          refine lV (yMove rfl) rfl rfl ?_
          refine split (t := 193) rfl (fun h193 => ?_) (fun h193 => ?_)
          · refine lGN rfl rfl rfl rfl rfl ?_
            refine lGN rfl rfl rfl rfl rfl ?_
            refine lGN rfl rfl rfl rfl rfl ?_
            refine lGU rfl rfl rfl rfl ?_
            refine lGU rfl rfl rfl rfl ?_
            refine lGU rfl rfl rfl rfl ?_
            refine lGU rfl rfl rfl rfl ?_
            refine lGU rfl rfl rfl rfl ?_
            refine lGU rfl rfl rfl rfl ?_
            refine lGU rfl rfl rfl rfl ?_
            refine lGU rfl rfl rfl rfl ?_
            refine lGU rfl rfl rfl rfl ?_
            refine lGU rfl rfl rfl rfl ?_
            refine lGU rfl rfl rfl rfl ?_
            refine lGU rfl rfl rfl rfl ?_
            refine lGU rfl rfl rfl rfl ?_
            refine lGN rfl rfl rfl rfl rfl ?_
            refine lV (yPickT rfl rfl) rfl rfl ?_
            refine lV (yMove rfl) rfl rfl ?_
            refine lGY rfl rfl rfl (oV (yCall rfl .n C14 (fun w hw => alive_any w)) rfl ?_)
            refine lV (yPickT rfl rfl) rfl rfl ?_
            refine lV (yAssign rfl) rfl rfl ?_
            refine lNil ?_
            refine kThen ?_
            refine kRet ?_
            refine fRet rfl (.t rfl .n) (endRet ?_)
            first | rfl | (simp [packV, *]; done)
          · refine lGY rfl rfl rfl (oV (yMove rfl) rfl ?_)
            refine lGY rfl rfl rfl (oV (yNeq rfl rfl) rfl ?_)
            refine known (t := 195) rfl (by have := hL.own.resolve_left h193; omega) ?_
            refine lGY rfl rfl rfl (oV (yMove rfl) rfl ?_)
            refine lGY rfl rfl rfl (oV (yMove rfl) rfl ?_)
            refine lGY rfl rfl rfl (oV (yMove rfl) rfl ?_)
            refine lGY rfl rfl rfl (oV (yGtr rfl rfl) rfl ?_)
            refine lGY rfl rfl rfl (oV (yMove rfl) rfl ?_)
            refine split (t := 200) rfl (fun h200 => ?_) (fun h200 => ?_)
            · refine lGN rfl rfl rfl rfl rfl ?_
              refine lGN rfl rfl rfl rfl rfl ?_
              refine lGN rfl rfl rfl rfl rfl ?_
              refine lGN rfl rfl rfl rfl rfl ?_
              refine lGU rfl rfl rfl rfl ?_
              refine lGU rfl rfl rfl rfl ?_
              refine lGU rfl rfl rfl rfl ?_
              refine lGN rfl rfl rfl rfl rfl ?_
              refine lGY rfl rfl rfl (oV (yPickT rfl rfl) rfl ?_)
              refine lGY rfl rfl rfl (oV (yPickT rfl rfl) rfl ?_)
              refine lV (yPickF rfl rfl) rfl rfl ?_
              refine lV (yMove rfl) rfl rfl ?_
              refine lGY rfl rfl rfl (oV (yCall rfl .n C14 (fun w hw => alive_any w)) rfl ?_)
              refine lV (yPickT rfl rfl) rfl rfl ?_
              refine lV (yAssign rfl) rfl rfl ?_
              refine lNil ?_
              refine kThen ?_
              refine kRet ?_
              refine fRet rfl (.t rfl .n) (endRet ?_)
              first | rfl | (simp [packV, *]; done)
            · refine lGY rfl rfl rfl (oV (yMove rfl) rfl ?_)
              refine lGY rfl rfl rfl (oV (yMove rfl) rfl ?_)
              refine lGY rfl rfl rfl (oV (yEql rfl rfl) rfl ?_)
              refine known (t := 203) rfl (by have := hL.own.resolve_left h193; omega) ?_
              refine lGY rfl rfl rfl (oV (yMove rfl) rfl ?_)
              refine lGY rfl rfl rfl (oV (yMove rfl) rfl ?_)
              refine lGY rfl rfl rfl (oV (yMove rfl) rfl ?_)
              refine lGY rfl rfl rfl (oV (yGeq rfl rfl) rfl ?_)
              refine known (t := 207) rfl (by have := hL.own.resolve_left h193; omega) ?_
              refine lGY rfl rfl rfl (oV (yPickT rfl rfl) rfl ?_)
              refine lGY rfl rfl rfl (oV (yPickF rfl rfl) rfl ?_)
              refine lGY rfl rfl rfl (oV (yPickT rfl rfl) rfl ?_)
              refine lV (yPickF rfl rfl) rfl rfl ?_
              refine lV (yMove rfl) rfl rfl ?_
              refine lGY rfl rfl rfl (oV (yCall rfl .n C14 (fun w hw => alive_any w)) rfl ?_)
              refine lV (yPickT rfl rfl) rfl rfl ?_
              refine lV (yAssign rfl) rfl rfl ?_
              refine lNil ?_
              refine kThen ?_
              refine kRet ?_
              refine fRet rfl (.t rfl .n) (endRet ?_)
              first | rfl | (simp [packV, *]; done)
end Go.Proofs.Ytlcdohhhhlhpmaa
