/-
  A watch; walks: a watch is opened.
-/
import Derived.Test.YtiaaidcdoenloaaQa
namespace Go.Proofs.Ytiaaidcdoenloaa
open ZW

/-- A watch. -/
structure Wat where
  errs : List (Int × Int)
  eyeS : Int × Int
  images : Int
  eyes : Int
  habit : Int × Int
  looks : List (Int × Int × Int)
/-- Where the slices of a watch lie. -/
structure WLoc where
  ea : Option Addr
  ec : Nat
  la : Option Addr
  lc : Nat
/-- The screw of a watch, as a measure of nothing. -/
abbrev Wat.m (W : Wat) : Meas := ⟨W.errs, W.eyeS, 0, (0, 0), []⟩
abbrev WLoc.l (y : WLoc) : Loc := ⟨y.ea, y.ec, none, 0⟩
abbrev lookC (l : List (Int × Int × Int)) (i : Nat) : List Value := [i64 (l.getD i (0, 0, 0)).1, i64 (l.getD i (0, 0, 0)).2.1, i64 (l.getD i (0, 0, 0)).2.2]
abbrev watC (y : WLoc) (W : Wat) : List Value := [.slice y.ea W.errs.length y.ec, i64 W.eyeS.1, i64 W.eyeS.2, i64 W.images, i64 W.eyes, i64 W.habit.1, i64 W.habit.2, .slice y.la W.looks.length y.lc]
/-- In this world the slices of a watch hold it. -/
structure InW (w : World) (y : WLoc) (W : Wat) : Prop where
  e : SlE w y.ea W.errs.length 2 (errC W.errs)
  l : SlE w y.la W.looks.length 3 (lookC W.looks)
theorem InW.eff {w w' : World} {L : Heap} {y : WLoc} {W : Wat} (h : InW w y W) (he : Eff w [] L w') : InW w' y W := ⟨h.e.eff0 he, h.l.eff0 he⟩
theorem InW.m {w : World} {y : WLoc} {W : Wat} (h : InW w y W) : InM w y.l W.m := ⟨h.e, SlE.nil⟩

def lookOk (W : Wat) (x : Int × Int × Int) : Prop := readOk W.m x.2.2 ∧ (0 ≤ x.1 ∧ x.1 ≤ W.eyes - 1) ∧ (0 ≤ x.2.1 ∧ x.2.1 ≤ W.images - 1)
instance (W : Wat) (x : Int × Int × Int) : Decidable (lookOk W x) := inferInstanceAs (Decidable (_ ∧ _))
structure WatOk (W : Wat) : Prop where
  s : ScrewOk W.m
  i : 1 ≤ W.images ∧ W.images ≤ 6
  e : 1 ≤ W.eyes ∧ W.eyes ≤ 4
  h : -200 ≤ W.habit.1 ∧ W.habit.1 ≤ 0
  k : 0 ≤ W.habit.2 ∧ W.habit.2 ≤ 200
  n : W.looks.length ≤ 12
  l : ∀ x ∈ W.looks, lookOk W x
instance (W : Wat) : Decidable (WatOk W) := decidable_of_iff (ScrewOk W.m ∧ (1 ≤ W.images ∧ W.images ≤ 6) ∧ (1 ≤ W.eyes ∧ W.eyes ≤ 4) ∧ (-200 ≤ W.habit.1 ∧ W.habit.1 ≤ 0) ∧ (0 ≤ W.habit.2 ∧ W.habit.2 ≤ 200) ∧ W.looks.length ≤ 12 ∧ ∀ x ∈ W.looks, lookOk W x)
  ⟨fun h => ⟨h.1, h.2.1, h.2.2.1, h.2.2.2.1, h.2.2.2.2.1, h.2.2.2.2.2.1, h.2.2.2.2.2.2⟩, fun h => ⟨h.s, h.i, h.e, h.h, h.k, h.n, h.l⟩⟩
abbrev look0 : Int × Int × Int := (0, 0, 0)
theorem travelE_iff (m : Meas) (n : Int) : (travelE m n).2 = 0 ↔ ScrewOk m ∧ readOk m n := by
  unfold travelE
  split
  · rename_i h; exact ⟨fun h => by simp at h, fun hx => absurd hx.1 h⟩
  · rename_i h
    split
    · rename_i h'; exact ⟨fun h => by simp at h, fun hx => absurd hx.2 h'⟩
    · rename_i h'; exact ⟨fun _ => ⟨by simpa using h, by simpa using h'⟩, fun _ => rfl⟩
theorem travelE_eq {m : Meas} {n : Int} (h : (travelE m n).2 = 0) : (travelE m n).1 = travelP m n := by
  obtain ⟨h1, h2⟩ := (travelE_iff m n).1 h
  unfold travelE
  rw [if_neg (not_not_intro h1), if_neg (not_not_intro h2)]
theorem screw_iff {m : Meas} : (travelE m 0).2 = 0 ↔ ScrewOk m := by
  rw [travelE_iff]
  exact ⟨fun h => h.1, fun h => ⟨h, by have := h.n; unfold readOk; omega⟩⟩
/-- The travels of all looks. -/
def travs (W : Wat) : List (Int × Int) := W.looks.map fun x => travelP W.m x.2.2
theorem travs_length (W : Wat) : (travs W).length = W.looks.length := by simp [travs]
theorem travs_get (W : Wat) {i : Nat} (hi : i < W.looks.length) : (travs W).getD i (0, 0) = travelP W.m (W.looks.getD i look0).2.2 := by
  rw [← List.getElem_eq_getD (h := by rw [travs_length]; exact hi), ← List.getElem_eq_getD (h := hi)]
  simp [travs]
theorem travs_take (W : Wat) {i : Nat} (hi : i < W.looks.length) : ((travs W).take (i + 1)).map rowE = ((travs W).take i).map rowE ++ [rowE (travelP W.m (W.looks.getD i look0).2.2)] := by
  have hl : i < (travs W).length := by rw [travs_length]; exact hi
  rw [← travs_get W hi, List.take_add_one, List.map_append, List.getElem?_eq_getElem hl, ← List.getElem_eq_getD (h := hl)]
  rfl

/-! ### A watch that is looked at -/
abbrev wtC (y : WLoc) (W : Wat) (g : Own) (n : Nat) : List Value := [.slice y.ea W.errs.length y.ec, i64 W.eyeS.1, i64 W.eyeS.2, i64 W.images, i64 W.eyes, i64 W.habit.1, i64 W.habit.2, .slice y.la W.looks.length y.lc, osV g n]
abbrev openL (y : WLoc) (W : Wat) (x : Nat × Own) : Heap := [(x.1, blk (wtC y W x.2 W.looks.length) 78)] ++ osL 24 x.2
/-- What comes of opening a watch. -/
def OpenR (w : World) (y : WLoc) (W : Wat) : Ending → World → Prop := fun e w' =>
  (WatOk W ∧ RetX w (fun x : Nat × Own => OS 2 x.2 ((travs W).map rowE)) (fun x => .pointer (some ⟨x.1, 0, none⟩)) (fun _ => []) (openL y W) e w') ∨ (¬ WatOk W ∧ Pan w (failV 1) e w')

set_option maxRecDepth 100000 in
set_option maxHeartbeats 4000000 in
theorem open_all (y : WLoc) (W : Wat) (w : World) (hm : InW w y W) (hL : W.looks.length ≤ 1000000) : Calls Try.prog 47 [.agg (watC y W).toArray].toArray w (OpenR w y W) := by
  refine fEnter Try.func47 rfl Try.ntmps47 rfl ?_
  refine kSeq ?_
  refine kRegion rfl ?_
  refine lE rfl ?_
  refine eBoxA rfl fun n1 => ?_
  refine lV (yAssign rfl) rfl rfl ?_
  refine lNil ?_
  refine kThen ?_
  refine kSeq ?_
  refine kRegion rfl ?_
  refine lV (yLoadA (vs := [_, _, _, _, _, _, _, _]) rfl A29 (cOwn 0 rfl rfl)) rfl rfl ?_
  refine lV (yBuild (.c rfl .n) (fun w => B78_0 w)) rfl rfl ?_
  refine lE rfl ?_
  refine eBoxA rfl fun n13 => ?_
  refine lV (yAssign rfl) rfl rfl ?_
  refine lNil ?_
  refine kThen ?_
  refine kSeq ?_
  refine kRegion rfl ?_
  refine lV (yFieldAddr rfl F29_1) rfl rfl ?_
  refine lV (yLoad1 rfl O3 (cOwn 1 rfl rfl)) rfl rfl ?_
  refine lV (yCall rfl (.c rfl (.c rfl (.c rfl .n))) C49 (fun w hw => ewithin_any _ _ _ w)) rfl rfl ?_
  refine lV (yMove rfl) rfl rfl ?_
  refine splitB (t := 17) rfl (fun h17 => ?_) (fun h17 => ?_)
  · refine lGY rfl rfl rfl (oV (yFieldAddr rfl F29_2) rfl ?_)
    refine lGY rfl rfl rfl (oV (yLoad1 rfl O3 (cOwn 1 rfl rfl)) rfl ?_)
    refine lGY rfl rfl rfl (oV (yCall rfl (.c rfl (.c rfl (.c rfl .n))) C49 (fun w hw => ewithin_any _ _ _ w)) rfl ?_)
    refine lV (yPickT rfl rfl) rfl rfl ?_
    refine lV (yMove rfl) rfl rfl ?_
    refine splitB (t := 22) rfl (fun h22 => ?_) (fun h22 => ?_)
    · refine lGY rfl rfl rfl (oV (yFieldAddr rfl F29_4) rfl ?_)
      refine lGY rfl rfl rfl (oV (yLoad1 rfl O27 (cOwn 1 rfl rfl)) rfl ?_)
      refine lGY rfl rfl rfl (oV (yLen rfl S27) rfl ?_)
      refine lGY rfl rfl rfl (oV (yLeq rfl rfl) rfl ?_)
      refine lV (yPickT rfl rfl) rfl rfl ?_
      refine lV (yAssign rfl) rfl rfl ?_
      refine lNil ?_
      refine kThen ?_
      refine kSeq ?_
      refine kRegion rfl ?_
      refine lV (yMove rfl) rfl rfl ?_
      refine lV (yMove rfl) rfl rfl ?_
      refine split (t := 29) rfl (fun h29 => ?_) (fun h29 => ?_)
      · refine lGY rfl rfl rfl (oV (yFieldAddr rfl F29_3) rfl ?_)
        refine lGY rfl rfl rfl (oV (yFieldAddr rfl F24_0) rfl ?_)
        refine lGY rfl rfl rfl (oV (yLoad1 rfl O3 (cOwn 1 rfl rfl)) rfl ?_)
        refine lGY rfl rfl rfl (oV (yCall rfl (.c rfl (.c rfl (.c rfl .n))) C49 (fun w hw => ewithin_any _ _ _ w)) rfl ?_)
        refine lV (yPickT rfl rfl) rfl rfl ?_
        refine lV (yMove rfl) rfl rfl ?_
        refine splitB (t := 35) rfl (fun h35 => ?_) (fun h35 => ?_)
        · refine lGY rfl rfl rfl (oV (yFieldAddr rfl F29_3) rfl ?_)
          refine lGY rfl rfl rfl (oV (yFieldAddr rfl F24_1) rfl ?_)
          refine lGY rfl rfl rfl (oV (yLoad1 rfl O3 (cOwn 1 rfl rfl)) rfl ?_)
          refine lGY rfl rfl rfl (oV (yCall rfl (.c rfl (.c rfl (.c rfl .n))) C49 (fun w hw => ewithin_any _ _ _ w)) rfl ?_)
          refine lV (yPickT rfl rfl) rfl rfl ?_
          refine splitB (t := 40) rfl (fun h40 => ?_) (fun h40 => ?_)
          · refine lV (yCall rfl (.c rfl (.c rfl .n)) C48 (fun w hw => must_ok 1 w)) rfl rfl ?_
            refine lNil ?_
            refine kThen ?_
            refine kSeq ?_
            refine kRegion rfl ?_
            refine lV (yFieldAddr rfl F29_0) rfl rfl ?_
            refine lV (yLoadA (vs := [_, _, _]) rfl A26 (cOwn 1 rfl rfl)) rfl rfl ?_
            refine lV (yCall rfl (.c rfl (.c rfl .n)) C31 (fun w hw => travelX_any y.l W.m 0 w (hm.eff hw).m)) rfl rfl ?_
            refine lV (yMove rfl) rfl rfl ?_
            refine lV (yExtract rfl rfl) rfl rfl ?_
            refine lV (yExtract rfl rfl) rfl rfl ?_
            refine lE rfl ?_
            refine eAlloc Z24 fun n5 => ?_
            refine lE rfl ?_
            refine eStoreL 0 rfl rfl rfl rfl K24 rfl (rfl) ?_
            refine lV (yAssign rfl) rfl rfl ?_
            refine lNil ?_
            refine kThen ?_
            refine kSeq ?_
            refine kRegion rfl ?_
            refine lV (yMove rfl) rfl rfl ?_
            refine lV (yEql rfl rfl) rfl rfl ?_
            refine split (t := 49) rfl (fun h49 => ?_) (fun h49 => ?_)
            · refine lV (yCall rfl (.c rfl (.c rfl .n)) C48 (fun w hw => must_ok 1 w)) rfl rfl ?_
              refine lNil ?_
              refine kThen ?_
              refine kSeq ?_
              refine kSeq ?_
              refine kRegion rfl ?_
              refine lV (yFieldAddr rfl F29_4) rfl rfl ?_
              refine lV (yLoad1 rfl O27 (cOwn 2 rfl rfl)) rfl rfl ?_
              refine lV (yLen rfl S27) rfl rfl ?_
              refine lV (yMove rfl) rfl rfl ?_
              refine lNil ?_
              refine kThen ?_
              refine kBlock ?_
              refine kLoopX (ι := Nat × Own × List (List Value)) (fun x => x.1 ≤ W.looks.length ∧ x.2.2 = ((travs W).take x.1).map rowE ∧ OS 2 x.2.1 x.2.2 ∧ ∀ j, j < x.1 → lookOk W (W.looks.getD j look0)) (fun x => [(54, i64 (x.1 : Nat))]) [(0, _), (1, _), (2, _), (11, _), (12, _), (13, _), (3, _), (14, _), (15, _), (16, _), (17, _), (18, _), (19, _), (20, _), (21, _), (22, _), (23, _), (24, _), (25, _), (26, _), (27, _), (4, _), (28, _), (29, _), (30, _), (31, _), (32, _), (33, _), (34, _), (35, _), (36, _), (37, _), (38, _), (39, _), (40, _), (41, _), (43, _), (44, _), (45, _), (42, _), (46, _), (47, _), (5, _), (6, _), (48, _), (49, _), (50, _), (51, _), (52, _), (53, _)] (fun x => []) (fun x => ([(n13, blk (wtC y W x.2.1 x.2.2.length) 78)] ++ osL 24 x.2.1)) [(n1, _)] (fun x => W.looks.length - x.1) (0, .e none, []) (⟨Nat.zero_le _, by simp, OS.empty, fun j hj => absurd hj (by omega)⟩) rfl (.c rfl .n) (.c rfl (.c rfl (.c rfl (.c rfl (.c rfl (.c rfl (.c rfl (.c rfl (.c rfl (.c rfl (.c rfl (.c rfl (.c rfl (.c rfl (.c rfl (.c rfl (.c rfl (.c rfl (.c rfl (.c rfl (.c rfl (.c rfl (.c rfl (.c rfl (.c rfl (.c rfl (.c rfl (.c rfl (.c rfl (.c rfl (.c rfl (.c rfl (.c rfl (.c rfl (.c rfl (.c rfl (.c rfl (.c rfl (.c rfl (.c rfl (.c rfl (.c rfl (.c rfl (.c rfl (.c rfl (.c rfl (.c rfl (.c rfl (.c rfl (.c rfl .n)))))))))))))))))))))))))))))))))))))))))))))))))) (.c 2 rfl (.c 1 rfl (.d 0 .n))) ?_
              rintro ⟨i, g, es⟩ ⟨hi, hes, hg, hok⟩
              dsimp only at hi hes hg hok ⊢
              refine kSeq ?_
              refine kRegion rfl ?_
              refine lV (yLss rfl rfl) rfl rfl ?_
              refine lNil ?_
              refine kThen ?_
              refine kSeq ?_
              refine split (t := 55) rfl (fun h55 => ?_) (fun h55 => ?_)
              · refine kIfT rfl ?_
                refine kSkip ?_
                refine kThen ?_
                refine kSeq ?_
                refine kBlock ?_
                refine kSeq ?_
                refine kRegion rfl ?_
                refine lV (yIndexS  rfl rfl S27 (hm.l.r) ((by omega))) rfl rfl ?_
                refine lV (yLoadA (vs := [_, _, _]) rfl A47 (cSl0 (hm.l.r) ((by omega)) rfl)) rfl rfl ?_
                refine lE rfl ?_
                refine eAlloc Z47 fun n8 => ?_
                refine lE rfl ?_
                refine eStoreL 0 rfl rfl rfl rfl K47 rfl (rfl) ?_
                refine lNil ?_
                refine kThen ?_
                refine kSeq ?_
                refine kRegion rfl ?_
                refine lV (yFieldAddr rfl F29_0) rfl rfl ?_
                refine lV (yLoadA (vs := [_, _, _]) rfl A26 (cOwn 1 rfl rfl)) rfl rfl ?_
                refine lV (yFieldAddr rfl F47_2) rfl rfl ?_
                refine lV (yLoad1 rfl O3 (cOwn 0 rfl rfl)) rfl rfl ?_
                refine lV (yCall rfl (.c rfl (.c rfl .n)) C31 (fun w hw => travelX_any y.l W.m _ w (hm.eff hw).m)) rfl rfl ?_
                refine lV (yMove rfl) rfl rfl ?_
                refine lV (yExtract rfl rfl) rfl rfl ?_
                refine lV (yExtract rfl rfl) rfl rfl ?_
                refine lE rfl ?_
                refine eAlloc Z24 fun n9 => ?_
                refine lE rfl ?_
                refine eStoreL 0 rfl rfl rfl rfl K24 rfl (rfl) ?_
                refine lV (yAssign rfl) rfl rfl ?_
                refine lNil ?_
                refine kThen ?_
                refine kSeq ?_
                refine kRegion rfl ?_
                refine lV (yMove rfl) rfl rfl ?_
                refine lV (yEql rfl rfl) rfl rfl ?_
                refine lV (yMove rfl) rfl rfl ?_
                refine split (t := 68) rfl (fun h68 => ?_) (fun h68 => ?_)
                · refine lGY rfl rfl rfl (oV (yFieldAddr rfl F47_0) rfl ?_)
                  refine lGY rfl rfl rfl (oV (yLoad1 rfl O3 (cOwn 1 rfl rfl)) rfl ?_)
                  refine lGY rfl rfl rfl (oV (yFieldAddr rfl F29_2) rfl ?_)
                  refine lGY rfl rfl rfl (oV (yLoad1 rfl O3 (cOwn 2 rfl rfl)) rfl ?_)
                  refine lGY rfl rfl rfl (oV (ySub rfl rfl (by have := of_decide_eq_true h22; omega)) rfl ?_)
                  refine lGY rfl rfl rfl (oV (yCall rfl (.c rfl (.c rfl (.c rfl .n))) C49 (fun w hw => ewithin_any _ _ _ w)) rfl ?_)
                  refine lV (yPickT rfl rfl) rfl rfl ?_
                  refine lV (yMove rfl) rfl rfl ?_
                  refine splitB (t := 76) rfl (fun h76 => ?_) (fun h76 => ?_)
                  · refine lGY rfl rfl rfl (oV (yFieldAddr rfl F47_1) rfl ?_)
                    refine lGY rfl rfl rfl (oV (yLoad1 rfl O3 (cOwn 1 rfl rfl)) rfl ?_)
                    refine lGY rfl rfl rfl (oV (yFieldAddr rfl F29_1) rfl ?_)
                    refine lGY rfl rfl rfl (oV (yLoad1 rfl O3 (cOwn 2 rfl rfl)) rfl ?_)
                    refine lGY rfl rfl rfl (oV (ySub rfl rfl (by have := of_decide_eq_true h17; omega)) rfl ?_)
                    refine lGY rfl rfl rfl (oV (yCall rfl (.c rfl (.c rfl (.c rfl .n))) C49 (fun w hw => ewithin_any _ _ _ w)) rfl ?_)
                    refine lV (yPickT rfl rfl) rfl rfl ?_
                    refine splitB (t := 83) rfl (fun h83 => ?_) (fun h83 => ?_)
                    · refine lV (yCall rfl (.c rfl (.c rfl .n)) C48 (fun w hw => must_ok 1 w)) rfl rfl ?_
                      refine lNil ?_
                      refine kThen ?_
                      rw [travelE_eq h68]
                      refine kDrawE [(4, none), (5, none)] [] [0, 1, 2, 3, 4, 5, 8, 9] 3 hMix (by kernel_rfl) ?_
                      refine .run rfl (yMove rfl) rfl rfl ?_
                      refine .run rfl (yMove rfl) rfl rfl ?_
                      refine .run rfl (yNilCheckP rfl) rfl rfl ?_
                      refine .run rfl (yFieldAddr rfl F78_1) rfl rfl ?_
                      refine .run rfl (yLoad1 rfl O22 (cOwn 3 rfl rfl)) rfl rfl ?_
                      refine .run rfl (yLoadA (vs := [_, _]) rfl A24 (cOwn 0 rfl rfl)) rfl rfl ?_
                      refine .run rfl (yNilCheckP rfl) rfl rfl ?_
                      refine .run rfl (yFieldAddr rfl F78_1) rfl rfl ?_
                      refine .done ?_
                      refine effStep 6 [] (by kernel_rfl) closedSt (hLeft [4, 5] (by kernel_rfl) (.c (fun _ _ hs => hs.ef) (.c (fun _ _ hs => hs.ef) .n))) ?_
                      refine .c ?_ .n
                      refine effOne rfl (gNone rfl (fBuildSlice (.c rfl .n) (fun w => BS22_1_0 w))) ?_
                      refine effStep 7 [] (by kernel_rfl) (closedEx fun n91 => closedSt) (hLeft [4] (by kernel_rfl) (.c (fun _ _ ⟨n91, hs⟩ => hs.ef.sub (.c 1 rfl (.c 1 rfl (.c 1 rfl (.c 1 rfl (.d 0 .r)))))) .n)) ?_
                      refine .c ?_ .n
                      refine effOne rfl (opEx fun n91 => (gNone rfl (fAppend (gs := g) [(n91, _), (n9, _), (n8, _), (n1, _), (n13, _)] [rowE (travelP W.m (W.looks.getD i look0).2.2)] AP22 rfl rfl .r hg rfl (by simp) (SlN.own 0 rfl rfl) (by simp [rowE]; exact ⟨rfl, rfl⟩) (by simp [hes, travs]; omega) (by simp [hes, travs]; omega)))) ?_
                      refine effStep 10 [] (by kernel_rfl) (closedEx fun n91 => (closedEx fun h => closedSt)) (hLeft [] (by kernel_rfl) .n) ?_
                      refine .c ?_ .n
                      refine effOne rfl (opEx fun n91 => (opEx fun h => (gNone rfl (fStoreL 4 rfl rfl rfl rfl K22 rfl (rfl))))) ?_
                      refine effDone (closedEx fun n91 => (closedEx fun h => closedSt)) (hLeft [] (by kernel_rfl) .n) (by kernel_rfl) ?_
                      refine trEx fun n91 => ?_
                      refine trEx fun h => ?_
                      refine kInN ?_
                      refine kThen ?_
                      refine kRegion rfl ?_
                      refine lV (yAdd rfl rfl (by omega)) rfl rfl ?_
                      refine lV (yMove rfl) rfl rfl ?_
                      refine lNil ?_
                      exact kRoundX (i + 1, h.1, es ++ [rowE (travelP W.m (W.looks.getD i look0).2.2)]) (⟨by dsimp only; omega, by dsimp only; rw [travs_take W (by omega), hes], h.2, fun j hj => by rcases Nat.lt_or_ge j i with h | h; (· exact hok j h); (obtain rfl : j = i := (by omega)); exact ⟨((travelE_iff _ _).1 h68).2, of_decide_eq_true h76, of_decide_eq_true h83⟩⟩) (by dsimp only; omega) rfl (.c rfl .n) (.c rfl (.c rfl (.c rfl (.c rfl (.c rfl (.c rfl (.c rfl (.c rfl (.c rfl (.c rfl (.c rfl (.c rfl (.c rfl (.c rfl (.c rfl (.c rfl (.c rfl (.c rfl (.c rfl (.c rfl (.c rfl (.c rfl (.c rfl (.c rfl (.c rfl (.c rfl (.c rfl (.c rfl (.c rfl (.c rfl (.c rfl (.c rfl (.c rfl (.c rfl (.c rfl (.c rfl (.c rfl (.c rfl (.c rfl (.c rfl (.c rfl (.c rfl (.c rfl (.c rfl (.c rfl (.c rfl (.c rfl (.c rfl (.c rfl (.c rfl .n)))))))))))))))))))))))))))))))))))))))))))))))))) (.c 3 rfl (.c 3 rfl (.d 0 (.d 0 (.d 0 .r)))))
                    · refine lE rfl ?_
                      refine eCallP rfl (.c rfl (.c rfl .n)) C48 (fun w hw => must_pan 1 w) ?_
                      refine kThenP ?_
                      refine kInP ?_
                      refine kThenP ?_
                      refine kThenP ?_
                      refine kInP ?_
                      refine kThenP ?_
                      exact fPan (fun w' hw => .inr ⟨fun h => by first | exact of_decide_eq_false h17 h.i | exact of_decide_eq_false h22 h.e | (have := h.n; omega) | exact of_decide_eq_false h35 h.h | exact of_decide_eq_false h40 h.k | exact h49 (screw_iff.2 h.s) | exact h68 ((travelE_iff _ _).2 ⟨h.s, (h.l _ (getD_mem (i := i) (by omega) look0)).1⟩) | exact of_decide_eq_false h76 (h.l _ (getD_mem (i := i) (by omega) look0)).2.1 | exact of_decide_eq_false h83 (h.l _ (getD_mem (i := i) (by omega) look0)).2.2, endPan rfl w' hw⟩)
                  · refine lGN rfl rfl rfl rfl rfl ?_
                    refine lGN rfl rfl rfl rfl rfl ?_
                    refine lGN rfl rfl rfl rfl rfl ?_
                    refine lGN rfl rfl rfl rfl rfl ?_
                    refine lGN rfl rfl rfl rfl rfl ?_
                    refine lGN rfl rfl rfl rfl rfl ?_
                    refine lV (yPickF rfl rfl) rfl rfl ?_
                    refine lE rfl ?_
                    refine eCallP rfl (.c rfl (.c rfl .n)) C48 (fun w hw => must_pan 1 w) ?_
                    refine kThenP ?_
                    refine kInP ?_
                    refine kThenP ?_
                    refine kThenP ?_
                    refine kInP ?_
                    refine kThenP ?_
                    exact fPan (fun w' hw => .inr ⟨fun h => by first | exact of_decide_eq_false h17 h.i | exact of_decide_eq_false h22 h.e | (have := h.n; omega) | exact of_decide_eq_false h35 h.h | exact of_decide_eq_false h40 h.k | exact h49 (screw_iff.2 h.s) | exact h68 ((travelE_iff _ _).2 ⟨h.s, (h.l _ (getD_mem (i := i) (by omega) look0)).1⟩) | exact of_decide_eq_false h76 (h.l _ (getD_mem (i := i) (by omega) look0)).2.1 | exact of_decide_eq_false h83 (h.l _ (getD_mem (i := i) (by omega) look0)).2.2, endPan rfl w' hw⟩)
                · refine lGN rfl rfl rfl rfl rfl ?_
                  refine lGN rfl rfl rfl rfl rfl ?_
                  refine lGN rfl rfl rfl rfl rfl ?_
                  refine lGN rfl rfl rfl rfl rfl ?_
                  refine lGN rfl rfl rfl rfl rfl ?_
                  refine lGN rfl rfl rfl rfl rfl ?_
                  refine lV (yPickF rfl rfl) rfl rfl ?_
                  refine lV (yMove rfl) rfl rfl ?_
                  refine lGN rfl rfl rfl rfl rfl ?_
                  refine lGN rfl rfl rfl rfl rfl ?_
                  refine lGN rfl rfl rfl rfl rfl ?_
                  refine lGN rfl rfl rfl rfl rfl ?_
                  refine lGN rfl rfl rfl rfl rfl ?_
                  refine lGN rfl rfl rfl rfl rfl ?_
                  refine lV (yPickF rfl rfl) rfl rfl ?_
                  refine lE rfl ?_
                  refine eCallP rfl (.c rfl (.c rfl .n)) C48 (fun w hw => must_pan 1 w) ?_
                  refine kThenP ?_
                  refine kInP ?_
                  refine kThenP ?_
                  refine kThenP ?_
                  refine kInP ?_
                  refine kThenP ?_
                  exact fPan (fun w' hw => .inr ⟨fun h => by first | exact of_decide_eq_false h17 h.i | exact of_decide_eq_false h22 h.e | (have := h.n; omega) | exact of_decide_eq_false h35 h.h | exact of_decide_eq_false h40 h.k | exact h49 (screw_iff.2 h.s) | exact h68 ((travelE_iff _ _).2 ⟨h.s, (h.l _ (getD_mem (i := i) (by omega) look0)).1⟩) | exact of_decide_eq_false h76 (h.l _ (getD_mem (i := i) (by omega) look0)).2.1 | exact of_decide_eq_false h83 (h.l _ (getD_mem (i := i) (by omega) look0)).2.2, endPan rfl w' hw⟩)
              · refine kIfF rfl ?_
                refine kExit ?_
                refine kThenX ?_
                refine kThenX ?_
                refine kInX ?_
                refine kThen ?_
                refine kSeq ?_
                refine kRegion rfl ?_
                refine lV (yMove rfl) rfl rfl ?_
                refine lV (yAssign rfl) rfl rfl ?_
                refine lNil ?_
                refine kThen ?_
                refine kRet ?_
                refine fRet rfl (.t rfl .n) ?_
                have hl : es = (travs W).map rowE := by rw [hes, List.take_of_length_le (by rw [travs_length]; omega)]
                have hn : es.length = W.looks.length := by rw [hl, List.length_map, travs_length]
                rw [hn]
                exact fun w' hw' => .inl ⟨⟨screw_iff.1 h49, of_decide_eq_true h17, of_decide_eq_true h22, of_decide_eq_true h35, of_decide_eq_true h40, by omega, fun x hx => (by obtain ⟨j, hj, rfl⟩ := List.mem_iff_getElem.1 hx; have := hok j (by omega); rwa [← List.getElem_eq_getD (h := hj)] at this)⟩, endX (n13, g) (hl ▸ hg) rfl rfl (.d 0 .r) w' hw'⟩
            · refine lE rfl ?_
              refine eCallP rfl (.c rfl (.c rfl .n)) C48 (fun w hw => must_pan 1 w) ?_
              refine kThenP ?_
              exact fPan (fun w' hw => .inr ⟨fun h => by first | exact of_decide_eq_false h17 h.i | exact of_decide_eq_false h22 h.e | (have := h.n; omega) | exact of_decide_eq_false h35 h.h | exact of_decide_eq_false h40 h.k | exact h49 (screw_iff.2 h.s) | exact h68 ((travelE_iff _ _).2 ⟨h.s, (h.l _ (getD_mem (i := i) (by omega) look0)).1⟩) | exact of_decide_eq_false h76 (h.l _ (getD_mem (i := i) (by omega) look0)).2.1 | exact of_decide_eq_false h83 (h.l _ (getD_mem (i := i) (by omega) look0)).2.2, endPan rfl w' hw⟩)
          · refine lE rfl ?_
            refine eCallP rfl (.c rfl (.c rfl .n)) C48 (fun w hw => must_pan 1 w) ?_
            refine kThenP ?_
            exact fPan (fun w' hw => .inr ⟨fun h => by first | exact of_decide_eq_false h17 h.i | exact of_decide_eq_false h22 h.e | (have := h.n; omega) | exact of_decide_eq_false h35 h.h | exact of_decide_eq_false h40 h.k | exact h49 (screw_iff.2 h.s) | exact h68 ((travelE_iff _ _).2 ⟨h.s, (h.l _ (getD_mem (i := i) (by omega) look0)).1⟩) | exact of_decide_eq_false h76 (h.l _ (getD_mem (i := i) (by omega) look0)).2.1 | exact of_decide_eq_false h83 (h.l _ (getD_mem (i := i) (by omega) look0)).2.2, endPan rfl w' hw⟩)
        · refine lGN rfl rfl rfl rfl rfl ?_
          refine lGN rfl rfl rfl rfl rfl ?_
          refine lGN rfl rfl rfl rfl rfl ?_
          refine lGN rfl rfl rfl rfl rfl ?_
          refine lV (yPickF rfl rfl) rfl rfl ?_
          refine lE rfl ?_
          refine eCallP rfl (.c rfl (.c rfl .n)) C48 (fun w hw => must_pan 1 w) ?_
          refine kThenP ?_
          exact fPan (fun w' hw => .inr ⟨fun h => by first | exact of_decide_eq_false h17 h.i | exact of_decide_eq_false h22 h.e | (have := h.n; omega) | exact of_decide_eq_false h35 h.h | exact of_decide_eq_false h40 h.k | exact h49 (screw_iff.2 h.s) | exact h68 ((travelE_iff _ _).2 ⟨h.s, (h.l _ (getD_mem (i := i) (by omega) look0)).1⟩) | exact of_decide_eq_false h76 (h.l _ (getD_mem (i := i) (by omega) look0)).2.1 | exact of_decide_eq_false h83 (h.l _ (getD_mem (i := i) (by omega) look0)).2.2, endPan rfl w' hw⟩)
      · refine lGN rfl rfl rfl rfl rfl ?_
        refine lGN rfl rfl rfl rfl rfl ?_
        refine lGN rfl rfl rfl rfl rfl ?_
        refine lGN rfl rfl rfl rfl rfl ?_
        refine lV (yPickF rfl rfl) rfl rfl ?_
        refine lV (yMove rfl) rfl rfl ?_
        refine lGN rfl rfl rfl rfl rfl ?_
        refine lGN rfl rfl rfl rfl rfl ?_
        refine lGN rfl rfl rfl rfl rfl ?_
        refine lGN rfl rfl rfl rfl rfl ?_
        refine lV (yPickF rfl rfl) rfl rfl ?_
        refine lE rfl ?_
        refine eCallP rfl (.c rfl (.c rfl .n)) C48 (fun w hw => must_pan 1 w) ?_
        refine kThenP ?_
        exact fPan (fun w' hw => .inr ⟨fun h => by first | exact of_decide_eq_false h17 h.i | exact of_decide_eq_false h22 h.e | (have := h.n; omega) | exact of_decide_eq_false h35 h.h | exact of_decide_eq_false h40 h.k | exact h49 (screw_iff.2 h.s) | exact h68 ((travelE_iff _ _).2 ⟨h.s, (h.l _ (getD_mem (i := i) (by omega) look0)).1⟩) | exact of_decide_eq_false h76 (h.l _ (getD_mem (i := i) (by omega) look0)).2.1 | exact of_decide_eq_false h83 (h.l _ (getD_mem (i := i) (by omega) look0)).2.2, endPan rfl w' hw⟩)
    · refine lGN rfl rfl rfl rfl rfl ?_
      refine lGN rfl rfl rfl rfl rfl ?_
      refine lGN rfl rfl rfl rfl rfl ?_
      refine lGN rfl rfl rfl rfl rfl ?_
      refine lV (yPickF rfl rfl) rfl rfl ?_
      refine lV (yAssign rfl) rfl rfl ?_
      refine lNil ?_
      refine kThen ?_
      refine kSeq ?_
      refine kRegion rfl ?_
      refine lV (yMove rfl) rfl rfl ?_
      refine lV (yMove rfl) rfl rfl ?_
      refine lGN rfl rfl rfl rfl rfl ?_
      refine lGN rfl rfl rfl rfl rfl ?_
      refine lGN rfl rfl rfl rfl rfl ?_
      refine lGN rfl rfl rfl rfl rfl ?_
      refine lV (yPickF rfl rfl) rfl rfl ?_
      refine lV (yMove rfl) rfl rfl ?_
      refine lGN rfl rfl rfl rfl rfl ?_
      refine lGN rfl rfl rfl rfl rfl ?_
      refine lGN rfl rfl rfl rfl rfl ?_
      refine lGN rfl rfl rfl rfl rfl ?_
      refine lV (yPickF rfl rfl) rfl rfl ?_
      refine lE rfl ?_
      refine eCallP rfl (.c rfl (.c rfl .n)) C48 (fun w hw => must_pan 1 w) ?_
      refine kThenP ?_
      exact fPan (fun w' hw => .inr ⟨fun h => by first | exact of_decide_eq_false h17 h.i | exact of_decide_eq_false h22 h.e | (have := h.n; omega) | exact of_decide_eq_false h35 h.h | exact of_decide_eq_false h40 h.k | exact h49 (screw_iff.2 h.s) | exact h68 ((travelE_iff _ _).2 ⟨h.s, (h.l _ (getD_mem (i := i) (by omega) look0)).1⟩) | exact of_decide_eq_false h76 (h.l _ (getD_mem (i := i) (by omega) look0)).2.1 | exact of_decide_eq_false h83 (h.l _ (getD_mem (i := i) (by omega) look0)).2.2, endPan rfl w' hw⟩)
  · refine lGN rfl rfl rfl rfl rfl ?_
    refine lGN rfl rfl rfl rfl rfl ?_
    refine lGN rfl rfl rfl rfl rfl ?_
    refine lV (yPickF rfl rfl) rfl rfl ?_
    refine lV (yMove rfl) rfl rfl ?_
    refine lGN rfl rfl rfl rfl rfl ?_
    refine lGN rfl rfl rfl rfl rfl ?_
    refine lGN rfl rfl rfl rfl rfl ?_
    refine lGN rfl rfl rfl rfl rfl ?_
    refine lV (yPickF rfl rfl) rfl rfl ?_
    refine lV (yAssign rfl) rfl rfl ?_
    refine lNil ?_
    refine kThen ?_
    refine kSeq ?_
    refine kRegion rfl ?_
    refine lV (yMove rfl) rfl rfl ?_
    refine lV (yMove rfl) rfl rfl ?_
    refine lGN rfl rfl rfl rfl rfl ?_
    refine lGN rfl rfl rfl rfl rfl ?_
    refine lGN rfl rfl rfl rfl rfl ?_
    refine lGN rfl rfl rfl rfl rfl ?_
    refine lV (yPickF rfl rfl) rfl rfl ?_
    refine lV (yMove rfl) rfl rfl ?_
    refine lGN rfl rfl rfl rfl rfl ?_
    refine lGN rfl rfl rfl rfl rfl ?_
    refine lGN rfl rfl rfl rfl rfl ?_
    refine lGN rfl rfl rfl rfl rfl ?_
    refine lV (yPickF rfl rfl) rfl rfl ?_
    refine lE rfl ?_
    refine eCallP rfl (.c rfl (.c rfl .n)) C48 (fun w hw => must_pan 1 w) ?_
    refine kThenP ?_
    exact fPan (fun w' hw => .inr ⟨fun h => by first | exact of_decide_eq_false h17 h.i | exact of_decide_eq_false h22 h.e | (have := h.n; omega) | exact of_decide_eq_false h35 h.h | exact of_decide_eq_false h40 h.k | exact h49 (screw_iff.2 h.s) | exact h68 ((travelE_iff _ _).2 ⟨h.s, (h.l _ (getD_mem (i := i) (by omega) look0)).1⟩) | exact of_decide_eq_false h76 (h.l _ (getD_mem (i := i) (by omega) look0)).2.1 | exact of_decide_eq_false h83 (h.l _ (getD_mem (i := i) (by omega) look0)).2.2, endPan rfl w' hw⟩)
theorem open_any (y : WLoc) (W : Wat) (w : World) (hm : InW w y W) (hM : WatOk W) : Calls Try.prog 47 [.agg (watC y W).toArray].toArray w
    (RetX w (fun x : Nat × Own => OS 2 x.2 ((travs W).map rowE)) (fun x => .pointer (some ⟨x.1, 0, none⟩)) (fun _ => []) (openL y W)) :=
  (open_all y W w hm (by have := hM.n; omega)).mono fun _ _ h => h.elim (fun h => h.2) (fun h => absurd hM h.1)
theorem open_bad (y : WLoc) (W : Wat) (w : World) (hm : InW w y W) (hL : W.looks.length ≤ 1000000) (hM : ¬ WatOk W) : Calls Try.prog 47 [.agg (watC y W).toArray].toArray w (Pan w (failV 1)) :=
  (open_all y W w hm hL).mono fun _ _ h => h.elim (fun h => absurd h.1 hM) (fun h => h.2)
/-- In this world a watch that is looked at lies at nm. -/
structure InWt (w : World) (nm : Nat) (y : WLoc) (W : Wat) (g : Own) : Prop where
  b : w.heap[nm]? = some (blk (wtC y W g W.looks.length) 78)
  t : SlE w (osA g) W.looks.length 2 (fun i => rowE ((travs W).getD i (0, 0)))
  m : InW w y W
theorem InWt.eff {w w' : World} {L : Heap} {nm : Nat} {y : WLoc} {W : Wat} {g : Own} (h : InWt w nm y W g) (he : Eff w [] L w') : InWt w' nm y W g := ⟨Eff.old' he h.b, h.t.eff0 he, h.m.eff he⟩
theorem InWt.mk' {w0 w : World} {nm : Nat} {y : WLoc} {W : Wat} {g : Own} {L : Heap} (hx : OS 2 g ((travs W).map rowE)) (hm : InW w0 y W) (hw : Eff w0 [] L w) (hs : SubP (osL 24 g) L) (hb : w.heap[nm]? = some (blk (wtC y W g W.looks.length) 78)) : InWt w nm y W g :=
  ⟨hb, (OS.rowsE (0, 0) hx hw hs).congr (travs_length W).symm fun _ _ => rfl, hm.eff hw⟩
end Go.Proofs.Ytiaaidcdoenloaa
