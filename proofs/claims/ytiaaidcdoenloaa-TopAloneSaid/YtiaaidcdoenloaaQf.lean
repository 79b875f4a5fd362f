/-
  Walks: Habit, Between, Place, Sure.
-/
import Derived.Test.YtiaaidcdoenloaaQe
namespace Go.Proofs.Ytiaaidcdoenloaa
open ZW

/-! ### There is a truth -/
theorem habs_known {X : Wat} {S E : Nat} {m : DMap} (h : Best 0 (linksP X S E) m) {i : Nat} (hi : i < X.eyes.toNat) : ∃ a, m (1 + i) = some a := by
  obtain ⟨d, hd, _⟩ := h.own
  obtain ⟨b, hb, _⟩ := h.still (0, 1 + i, (habOf X E i).2) (List.mem_append_left _ (habs_mem.2 ⟨i, hi, by simp [tieP]⟩)) d hd
  exact ⟨b, hb⟩
theorem look_eye {X : Wat} (hM : WatOk X) {i : Nat} (hi : i < X.looks.length) : (X.looks.getD i look0).1.toNat < X.eyes.toNat := by
  have := (hM.l _ (getD_mem hi look0)).2.1; omega
theorem links_src {X : Wat} (hM : WatOk X) {S E : Nat} {m : DMap} (h : Best 0 (linksP X S E) m) : ∀ x ∈ linksP X S E, ∃ a, m x.1 = some a := by
  intro x hx
  rcases List.mem_append.1 hx with hx | hx
  · obtain ⟨i, hi, hx⟩ := habs_mem.1 hx
    rcases tieP_mem hx with rfl | rfl
    · obtain ⟨d, hd, _⟩ := h.own; exact ⟨d, hd⟩
    · exact habs_known h hi
  · obtain ⟨i, hi, hs, hx'⟩ := loks_mem.1 hx
    obtain ⟨a, ha⟩ := habs_known h (look_eye hM hi)
    rcases tieP_mem hx' with rfl | rfl
    · exact ⟨a, ha⟩
    · obtain ⟨b, hb, _⟩ := h.still (1 + (X.looks.getD i look0).1.toNat, 1 + X.eyes.toNat + (X.looks.getD i look0).2.1.toNat, ((travs X).getD i (0, 0)).2) (List.mem_append_right _ (loks_mem.2 ⟨i, hi, hs, by simp [lookLnk, tieP]⟩)) a ha
      exact ⟨b, hb⟩
/-- Looks can be right just if there is a truth. -/
theorem can_pot {X : Wat} (hM : WatOk X) (S E : Nat) : canB X S E = true ↔ ∃ q, Pot (linksP X S E) q := by
  unfold canB
  constructor
  · intro h
    obtain ⟨m, hm⟩ := Option.isSome_iff_exists.1 h
    have hb := far_known hm
    exact ⟨_, hb.pot (links_src hM hb)⟩
  · rintro ⟨q, hq⟩
    obtain ⟨m, hm⟩ := far_some (s := 0) hq
    rw [hm]; rfl

/-- By which numbers the one can be greater than the other one; none: there is no truth. -/
def betwP (X : Wat) (i k : Nat) : Option ((Int × Int) × Bool) := match farP i (allL X), farP k (allL X) with
  | some m, some n => some ((-((n i).getD 0), (m k).getD 0), (m k).isSome)
  | _, _ => none
theorem betw_zero {X : Wat} (h : ¬ canB X (allS X) (allE X) = true) (k : Nat) : betwP X 0 k = none := by
  unfold betwP
  have : farP 0 (allL X) = none := by simpa [canB] using h
  rw [this]
theorem betw_some {X : Wat} (hM : WatOk X) (h : canB X (allS X) (allE X) = true) (i k : Nat) : (betwP X i k).isSome = true := by
  obtain ⟨q, hq⟩ := (can_pot hM _ _).1 h
  obtain ⟨m, hm⟩ := far_some (s := i) hq
  obtain ⟨n, hn⟩ := far_some (s := k) hq
  unfold betwP
  rw [hm, hn]; rfl
theorem betw_not' {X : Wat} {i k : Nat} : betwP X i k = none ↔ farP i (allL X) = none ∨ farP k (allL X) = none := by
  unfold betwP
  cases farP i (allL X) <;> cases farP k (allL X) <;> simp
theorem betw_yes (nm : Nat) (y : WLoc) (X : Wat) (G : Own) (a b : Thing) (w : World) (hX : InWt w nm y X G) (hM : WatOk X) (ha : a.ok) (hb : b.ok) (h : (betwP X (a.num X.eyes.toNat) (b.num X.eyes.toNat)).isSome = true) :
    Calls Try.prog 50 [.pointer (some ⟨nm, 0, none⟩), thV a, thV b].toArray w (Ret w (.tuple [.agg [i64 ((betwP X (a.num X.eyes.toNat) (b.num X.eyes.toNat)).get h).1.1, i64 ((betwP X (a.num X.eyes.toNat) (b.num X.eyes.toNat)).get h).1.2].toArray, .bool ((betwP X (a.num X.eyes.toNat) (b.num X.eyes.toNat)).get h).2].toArray)) :=
  (betw_any nm y X G a b w hX hM ha hb).mono fun _ _ hr => by
    rcases hr with ⟨m, n, h1, h2, h3⟩ | ⟨h1, _⟩
    · have e : ∀ hh, (betwP X (a.num X.eyes.toNat) (b.num X.eyes.toNat)).get hh = ((-((n (a.num X.eyes.toNat)).getD 0), (m (b.num X.eyes.toNat)).getD 0), (m (b.num X.eyes.toNat)).isSome) := fun hh => by
        have : betwP X (a.num X.eyes.toNat) (b.num X.eyes.toNat) = some ((-((n (a.num X.eyes.toNat)).getD 0), (m (b.num X.eyes.toNat)).getD 0), (m (b.num X.eyes.toNat)).isSome) := by unfold betwP; rw [h1, h2]
        simp only [this, Option.get_some]
      rw [e h]; exact h3
    · rw [betw_not'.2 h1] at h; cases h
theorem betw_no (nm : Nat) (y : WLoc) (X : Wat) (G : Own) (a b : Thing) (w : World) (hX : InWt w nm y X G) (hM : WatOk X) (ha : a.ok) (hb : b.ok) (h : betwP X (a.num X.eyes.toNat) (b.num X.eyes.toNat) = none) :
    Calls Try.prog 50 [.pointer (some ⟨nm, 0, none⟩), thV a, thV b].toArray w (Pan w (failV 10)) :=
  (betw_any nm y X G a b w hX hM ha hb).mono fun _ _ hr => by
    rcases hr with ⟨m, n, h1, h2, h3⟩ | ⟨_, h2⟩
    · rcases betw_not'.1 h with h | h
      · rw [h1] at h; cases h
      · rw [h2] at h; cases h
    · exact h2

def habitE (X : Wat) (a : Int) : (Int × Int) × Int :=
  if ¬ WatOk X then ((0, 0), 1) else if ¬ (0 ≤ a ∧ a ≤ X.eyes - 1) then ((0, 0), 2) else match betwP X 0 (1 + a.toNat) with
  | none => ((0, 0), 10)
  | some r => (r.1, 0)
def betwE (X : Wat) (a b : Int) : (Int × Int) × Int :=
  if ¬ WatOk X then ((0, 0), 1) else if ¬ ((0 ≤ a ∧ a ≤ X.eyes - 1) ∧ (0 ≤ b ∧ b ≤ X.eyes - 1)) then ((0, 0), 2) else match betwP X (1 + a.toNat) (1 + b.toNat) with
  | none => ((0, 0), 10)
  | some r => (r.1, 0)
def placeE (X : Wat) (a : Int) : (Int × Int) × Int :=
  if ¬ WatOk X then ((0, 0), 1) else if ¬ (0 ≤ a ∧ a ≤ X.images - 1) then ((0, 0), 2) else match betwP X 0 (1 + X.eyes.toNat + a.toNat) with
  | none => ((0, 0), 10)
  | some r => if r.2 = true then (r.1, 0) else ((0, 0), 12)
/-- The habit of a measurer, where there is a truth. -/
def habP (X : Wat) (m : Nat) : Int × Int := ((betwP X 0 (1 + m)).getD ((0, 0), false)).1
def sureW (X : Wat) (n : Nat) : Nat := (List.range n).foldl (fun s m => if 0 < (habP X m).1 ∨ (habP X m).2 < 0 then s ||| 1 * 2 ^ m else s) 0
theorem sureW_succ (X : Wat) (n : Nat) : sureW X (n + 1) = if 0 < (habP X n).1 ∨ (habP X n).2 < 0 then sureW X n ||| 1 * 2 ^ n else sureW X n := range_foldl_succ _ _ _
def sureE (X : Wat) : Int × Int := if ¬ WatOk X then (0, 1) else if ¬ canB X (allS X) (allE X) = true then (0, 10) else (((sureW X X.eyes.toNat : Nat) : Int), 0)
abbrev outI (r : Int × Int) : Value := .tuple [i64 r.1, i64 r.2].toArray

set_option maxRecDepth 100000 in
set_option maxHeartbeats 4000000 in
theorem habit_any (y : WLoc) (X : Wat) (a : Int) (w : World) (hm : InW w y X) (hL : X.looks.length ≤ 1000000) : Calls Try.prog 15 [.agg (watC y X).toArray, i64 a].toArray w (Ret w (outC (habitE X a))) := by
  refine fEnter Try.func15 rfl Try.ntmps15 rfl ?_
  refine kSeq ?_
  refine kRegion rfl ?_
  refine lE rfl ?_
  refine eBoxA rfl fun n2 => ?_
  refine lE rfl ?_
  refine eAlloc Z24 fun n4 => ?_
  refine lE rfl ?_
  refine eAlloc Z32 fun n5 => ?_
  refine lNil ?_
  refine kThen ?_
  refine kSeq ?_
  refine kRegion rfl ?_
  refine lE rfl ?_
  refine eDefer rfl (.c rfl .n) ?_
  refine lNil ?_
  refine kThen ?_
  refine kSeq ?_
  by_cases hM : WatOk X
  · refine kRegion rfl ?_
    refine lV (yLoadA (vs := [_, _, _, _, _, _, _, _]) rfl A29 (cOwn 2 rfl rfl)) rfl rfl ?_
    refine lE rfl ?_
    refine eCallO rfl (.c rfl .n) C47 (fun w hw => open_any y X w (hm.eff hw) hM) fun x hx => ?_
    obtain ⟨nm, g⟩ := x
    dsimp only at hx ⊢
    have hE := hM.e
    refine lV (yAssign rfl) rfl rfl ?_
    refine lNil ?_
    refine kThen ?_
    refine kSeq ?_
    by_cases hA : 0 ≤ a ∧ a ≤ X.eyes - 1
    · refine kRegion rfl ?_
      refine lV (yMove rfl) rfl rfl ?_
      refine lV (yMove rfl) rfl rfl ?_
      refine lV (yNilCheckP rfl) rfl rfl ?_
      refine lV (yFieldAddr rfl F78_0) rfl rfl ?_
      refine lV (yFieldAddr rfl F29_2) rfl rfl ?_
      refine lV (yLoad1 rfl O3 (cOwn 3 rfl rfl)) rfl rfl ?_
      refine lV (ySub rfl rfl (by omega)) rfl rfl ?_
      refine lV (yCall rfl (.c rfl (.c rfl (.c rfl .n))) C49 (fun w hw => ewithin_any _ _ _ w)) rfl rfl ?_
      refine knownB (t := 16) (c := true) rfl (decide_eq_true hA) ?_
      refine lV (yCall rfl (.c rfl (.c rfl .n)) C48 (fun w hw => must_ok 2 w)) rfl rfl ?_
      refine lNil ?_
      refine kThen ?_
      refine kSeq ?_
      by_cases hB : (betwP X 0 (1 + a.toNat)).isSome = true
      · refine kRegion rfl ?_
        refine lV (yMove rfl) rfl rfl ?_
        refine lV (yBuild .n (fun w => B82_ w)) rfl rfl ?_
        refine lV (yMakeInterface rfl I82) rfl rfl ?_
        refine lV (yMove rfl) rfl rfl ?_
        refine same (t := 22) (u := i64 ((a.toNat : Nat) : Int)) rfl (by rw [Int.toNat_of_nonneg hA.1]) ?_
        refine lV (yBuild (.c rfl .n) (fun w => B84_0 w)) rfl rfl ?_
        refine lV (yMakeInterface rfl I84) rfl rfl ?_
        refine lV (yCall rfl (.c rfl (.c rfl (.c rfl .n))) C50 (fun w hw => betw_yes nm y X g .zero (.habit a.toNat) w (InWt.mk' hx hm hw (.d 0 (.d 0 (.d 0 (.d 0 .r)))) (hw.blkAt 3 rfl)) hM trivial (show a.toNat ≤ 1000 by omega) hB)) rfl rfl ?_
        refine lV (yMove rfl) rfl rfl ?_
        refine lV (yExtract rfl rfl) rfl rfl ?_
        refine lV (yExtract rfl rfl) rfl rfl ?_
        refine lE rfl ?_
        refine eStoreL 1 rfl rfl rfl rfl K24 rfl (rfl) ?_
        refine lNil ?_
        refine kThen ?_
        refine kSeq ?_
        refine kRegion rfl ?_
        refine lV (yLoadA (vs := [_, _]) rfl A24 (cOwn 1 rfl rfl)) rfl rfl ?_
        refine lE rfl ?_
        refine eStoreL 1 rfl rfl rfl rfl K24 rfl (rfl) ?_
        refine lE rfl ?_
        refine eStoreL 0 rfl rfl rfl rfl K32 rfl (rfl) ?_
        refine lNil ?_
        refine kThen ?_
        refine kRet ?_
        refine fRetE rfl (.cA (us := [_, _]) rfl A24 (cOwn 1 rfl rfl) (.c1 rfl O32 (cOwn 0 rfl rfl) .n)) (endRet ?_)
        obtain ⟨r, hr⟩ := Option.isSome_iff_exists.1 hB
        simp only [packV, habitE, if_neg (not_not_intro hM), if_neg (not_not_intro hA), hr, Thing.num, Option.get_some]
      · refine kRegion rfl ?_
        refine lV (yMove rfl) rfl rfl ?_
        refine lV (yBuild .n (fun w => B82_ w)) rfl rfl ?_
        refine lV (yMakeInterface rfl I82) rfl rfl ?_
        refine lV (yMove rfl) rfl rfl ?_
        refine same (t := 22) (u := i64 ((a.toNat : Nat) : Int)) rfl (by rw [Int.toNat_of_nonneg hA.1]) ?_
        refine lV (yBuild (.c rfl .n) (fun w => B84_0 w)) rfl rfl ?_
        refine lV (yMakeInterface rfl I84) rfl rfl ?_
        refine lE rfl ?_
        refine eCallP rfl (.c rfl (.c rfl (.c rfl .n))) C50 (fun w hw => betw_no nm y X g .zero (.habit a.toNat) w (InWt.mk' hx hm hw (.d 0 (.d 0 (.d 0 (.d 0 .r)))) (hw.blkAt 3 rfl)) hM trivial (show a.toNat ≤ 1000 by omega) (Option.not_isSome_iff_eq_none.1 hB)) ?_
        refine kThenP ?_
        refine fPanE 0 rfl rfl (.cA (us := [_, _]) rfl A24 (cOwn 1 rfl rfl) (.c1 rfl O32 (cOwn 0 rfl rfl) .n)) (endRet ?_)
        have hB' : betwP X 0 (1 + a.toNat) = none := by simpa using hB
        simp only [packV, habitE, if_neg (not_not_intro hM), if_neg (not_not_intro hA), hB']
    · refine kRegion rfl ?_
      refine lV (yMove rfl) rfl rfl ?_
      refine lV (yMove rfl) rfl rfl ?_
      refine lV (yNilCheckP rfl) rfl rfl ?_
      refine lV (yFieldAddr rfl F78_0) rfl rfl ?_
      refine lV (yFieldAddr rfl F29_2) rfl rfl ?_
      refine lV (yLoad1 rfl O3 (cOwn 3 rfl rfl)) rfl rfl ?_
      refine lV (ySub rfl rfl (by omega)) rfl rfl ?_
      refine lV (yCall rfl (.c rfl (.c rfl (.c rfl .n))) C49 (fun w hw => ewithin_any _ _ _ w)) rfl rfl ?_
      refine knownB (t := 16) (c := false) rfl (decide_eq_false hA) ?_
      refine lE rfl ?_
      refine eCallP rfl (.c rfl (.c rfl .n)) C48 (fun w hw => must_pan 2 w) ?_
      refine kThenP ?_
      refine fPanE 0 rfl rfl (.cA (us := [_, _]) rfl A24 (cOwn 1 rfl rfl) (.c1 rfl O32 (cOwn 0 rfl rfl) .n)) (endRet ?_)
      simp only [packV, habitE, if_neg (not_not_intro hM), if_pos hA]
  · refine kRegion rfl ?_
    refine lV (yLoadA (vs := [_, _, _, _, _, _, _, _]) rfl A29 (cOwn 2 rfl rfl)) rfl rfl ?_
    refine lE rfl ?_
    refine eCallP rfl (.c rfl .n) C47 (fun w hw => open_bad y X w (hm.eff hw) hL hM) ?_
    refine kThenP ?_
    refine fPanE 0 rfl rfl (.cA (us := [_, _]) rfl A24 (cOwn 1 rfl rfl) (.c1 rfl O32 (cOwn 0 rfl rfl) .n)) (endRet ?_)
    simp only [packV, habitE, if_pos hM]

set_option maxRecDepth 100000 in
set_option maxHeartbeats 4000000 in
theorem between_any (y : WLoc) (X : Wat) (a b : Int) (w : World) (hm : InW w y X) (hL : X.looks.length ≤ 1000000) : Calls Try.prog 17 [.agg (watC y X).toArray, i64 a, i64 b].toArray w (Ret w (outC (betwE X a b))) := by
  refine fEnter Try.func17 rfl Try.ntmps17 rfl ?_
  refine kSeq ?_
  refine kRegion rfl ?_
  refine lE rfl ?_
  refine eBoxA rfl fun n3 => ?_
  refine lE rfl ?_
  refine eAlloc Z24 fun n6 => ?_
  refine lE rfl ?_
  refine eAlloc Z32 fun n7 => ?_
  refine lNil ?_
  refine kThen ?_
  refine kSeq ?_
  refine kRegion rfl ?_
  refine lE rfl ?_
  refine eDefer rfl (.c rfl .n) ?_
  refine lNil ?_
  refine kThen ?_
  refine kSeq ?_
  by_cases hM : WatOk X
  · refine kRegion rfl ?_
    refine lV (yLoadA (vs := [_, _, _, _, _, _, _, _]) rfl A29 (cOwn 2 rfl rfl)) rfl rfl ?_
    refine lE rfl ?_
    refine eCallO rfl (.c rfl .n) C47 (fun w hw => open_any y X w (hm.eff hw) hM) fun x hx => ?_
    obtain ⟨nm, g⟩ := x
    dsimp only at hx ⊢
    have hE := hM.e
    refine lV (yAssign rfl) rfl rfl ?_
    refine lNil ?_
    refine kThen ?_
    refine kSeq ?_
    by_cases hA : (0 ≤ a ∧ a ≤ X.eyes - 1) ∧ (0 ≤ b ∧ b ≤ X.eyes - 1)
    · refine kRegion rfl ?_
      refine lV (yMove rfl) rfl rfl ?_
      refine lV (yMove rfl) rfl rfl ?_
      refine lV (yNilCheckP rfl) rfl rfl ?_
      refine lV (yFieldAddr rfl F78_0) rfl rfl ?_
      refine lV (yFieldAddr rfl F29_2) rfl rfl ?_
      refine lV (yLoad1 rfl O3 (cOwn 3 rfl rfl)) rfl rfl ?_
      refine lV (ySub rfl rfl (by omega)) rfl rfl ?_
      refine lV (yCall rfl (.c rfl (.c rfl (.c rfl .n))) C49 (fun w hw => ewithin_any _ _ _ w)) rfl rfl ?_
      refine knownB (t := 18) (c := true) rfl (decide_eq_true hA.1) ?_
      refine lV (yMove rfl) rfl rfl ?_
      refine lGY rfl rfl rfl (oV (yMove rfl) rfl ?_)
      refine lGY rfl rfl rfl (oV (yMove rfl) rfl ?_)
      refine lGY rfl rfl rfl (oV (yNilCheckP rfl) rfl ?_)
      refine lGY rfl rfl rfl (oV (yFieldAddr rfl F78_0) rfl ?_)
      refine lGY rfl rfl rfl (oV (yFieldAddr rfl F29_2) rfl ?_)
      refine lGY rfl rfl rfl (oV (yLoad1 rfl O3 (cOwn 3 rfl rfl)) rfl ?_)
      refine lGY rfl rfl rfl (oV (ySub rfl rfl (by omega)) rfl ?_)
      refine lGY rfl rfl rfl (oV (yCall rfl (.c rfl (.c rfl (.c rfl .n))) C49 (fun w hw => ewithin_any _ _ _ w)) rfl ?_)
      refine knownB (t := 27) (c := true) rfl (decide_eq_true hA.2) ?_
      refine lV (yPickT rfl rfl) rfl rfl ?_
      refine lV (yCall rfl (.c rfl (.c rfl .n)) C48 (fun w hw => must_ok 2 w)) rfl rfl ?_
      refine lNil ?_
      refine kThen ?_
      refine kSeq ?_
      by_cases hB : (betwP X (1 + a.toNat) (1 + b.toNat)).isSome = true
      · refine kRegion rfl ?_
        refine lV (yMove rfl) rfl rfl ?_
        refine lV (yMove rfl) rfl rfl ?_
        refine same (t := 32) (u := i64 ((a.toNat : Nat) : Int)) rfl (by rw [Int.toNat_of_nonneg hA.1.1]) ?_
        refine lV (yBuild (.c rfl .n) (fun w => B84_0 w)) rfl rfl ?_
        refine lV (yMakeInterface rfl I84) rfl rfl ?_
        refine lV (yMove rfl) rfl rfl ?_
        refine same (t := 35) (u := i64 ((b.toNat : Nat) : Int)) rfl (by rw [Int.toNat_of_nonneg hA.2.1]) ?_
        refine lV (yBuild (.c rfl .n) (fun w => B84_0 w)) rfl rfl ?_
        refine lV (yMakeInterface rfl I84) rfl rfl ?_
        refine lV (yCall rfl (.c rfl (.c rfl (.c rfl .n))) C50 (fun w hw => betw_yes nm y X g (.habit a.toNat) (.habit b.toNat) w (InWt.mk' hx hm hw (.d 0 (.d 0 (.d 0 (.d 0 .r)))) (hw.blkAt 3 rfl)) hM (show a.toNat ≤ 1000 by omega) (show b.toNat ≤ 1000 by omega) hB)) rfl rfl ?_
        refine lV (yMove rfl) rfl rfl ?_
        refine lV (yExtract rfl rfl) rfl rfl ?_
        refine lV (yExtract rfl rfl) rfl rfl ?_
        refine lE rfl ?_
        refine eStoreL 1 rfl rfl rfl rfl K24 rfl (rfl) ?_
        refine lNil ?_
        refine kThen ?_
        refine kSeq ?_
        refine kRegion rfl ?_
        refine lV (yLoadA (vs := [_, _]) rfl A24 (cOwn 1 rfl rfl)) rfl rfl ?_
        refine lE rfl ?_
        refine eStoreL 1 rfl rfl rfl rfl K24 rfl (rfl) ?_
        refine lE rfl ?_
        refine eStoreL 0 rfl rfl rfl rfl K32 rfl (rfl) ?_
        refine lNil ?_
        refine kThen ?_
        refine kRet ?_
        refine fRetE rfl (.cA (us := [_, _]) rfl A24 (cOwn 1 rfl rfl) (.c1 rfl O32 (cOwn 0 rfl rfl) .n)) (endRet ?_)
        obtain ⟨r, hr⟩ := Option.isSome_iff_exists.1 hB
        simp only [packV, betwE, if_neg (not_not_intro hM), if_neg (not_not_intro hA), hr, Thing.num, Option.get_some]
      · refine kRegion rfl ?_
        refine lV (yMove rfl) rfl rfl ?_
        refine lV (yMove rfl) rfl rfl ?_
        refine same (t := 32) (u := i64 ((a.toNat : Nat) : Int)) rfl (by rw [Int.toNat_of_nonneg hA.1.1]) ?_
        refine lV (yBuild (.c rfl .n) (fun w => B84_0 w)) rfl rfl ?_
        refine lV (yMakeInterface rfl I84) rfl rfl ?_
        refine lV (yMove rfl) rfl rfl ?_
        refine same (t := 35) (u := i64 ((b.toNat : Nat) : Int)) rfl (by rw [Int.toNat_of_nonneg hA.2.1]) ?_
        refine lV (yBuild (.c rfl .n) (fun w => B84_0 w)) rfl rfl ?_
        refine lV (yMakeInterface rfl I84) rfl rfl ?_
        refine lE rfl ?_
        refine eCallP rfl (.c rfl (.c rfl (.c rfl .n))) C50 (fun w hw => betw_no nm y X g (.habit a.toNat) (.habit b.toNat) w (InWt.mk' hx hm hw (.d 0 (.d 0 (.d 0 (.d 0 .r)))) (hw.blkAt 3 rfl)) hM (show a.toNat ≤ 1000 by omega) (show b.toNat ≤ 1000 by omega) (Option.not_isSome_iff_eq_none.1 hB)) ?_
        refine kThenP ?_
        refine fPanE 0 rfl rfl (.cA (us := [_, _]) rfl A24 (cOwn 1 rfl rfl) (.c1 rfl O32 (cOwn 0 rfl rfl) .n)) (endRet ?_)
        have hB' : betwP X (1 + a.toNat) (1 + b.toNat) = none := by simpa using hB
        simp only [packV, betwE, if_neg (not_not_intro hM), if_neg (not_not_intro hA), hB']
    · refine kRegion rfl ?_
      refine lV (yMove rfl) rfl rfl ?_
      refine lV (yMove rfl) rfl rfl ?_
      refine lV (yNilCheckP rfl) rfl rfl ?_
      refine lV (yFieldAddr rfl F78_0) rfl rfl ?_
      refine lV (yFieldAddr rfl F29_2) rfl rfl ?_
      refine lV (yLoad1 rfl O3 (cOwn 3 rfl rfl)) rfl rfl ?_
      refine lV (ySub rfl rfl (by omega)) rfl rfl ?_
      refine lV (yCall rfl (.c rfl (.c rfl (.c rfl .n))) C49 (fun w hw => ewithin_any _ _ _ w)) rfl rfl ?_
      refine lV (yMove rfl) rfl rfl ?_
      refine splitB (t := 19) rfl (fun h19 => ?_) (fun h19 => ?_)
      · refine lGY rfl rfl rfl (oV (yMove rfl) rfl ?_)
        refine lGY rfl rfl rfl (oV (yMove rfl) rfl ?_)
        refine lGY rfl rfl rfl (oV (yNilCheckP rfl) rfl ?_)
        refine lGY rfl rfl rfl (oV (yFieldAddr rfl F78_0) rfl ?_)
        refine lGY rfl rfl rfl (oV (yFieldAddr rfl F29_2) rfl ?_)
        refine lGY rfl rfl rfl (oV (yLoad1 rfl O3 (cOwn 3 rfl rfl)) rfl ?_)
        refine lGY rfl rfl rfl (oV (ySub rfl rfl (by omega)) rfl ?_)
        refine lGY rfl rfl rfl (oV (yCall rfl (.c rfl (.c rfl (.c rfl .n))) C49 (fun w hw => ewithin_any _ _ _ w)) rfl ?_)
        refine lV (yPickT rfl rfl) rfl rfl ?_
        refine splitB (t := 28) rfl (fun h28 => ?_) (fun h28 => ?_)
        · exact absurd ⟨of_decide_eq_true h19, of_decide_eq_true h28⟩ hA
        · refine lE rfl ?_
          refine eCallP rfl (.c rfl (.c rfl .n)) C48 (fun w hw => must_pan 2 w) ?_
          refine kThenP ?_
          refine fPanE 0 rfl rfl (.cA (us := [_, _]) rfl A24 (cOwn 1 rfl rfl) (.c1 rfl O32 (cOwn 0 rfl rfl) .n)) (endRet ?_)
          simp only [packV, betwE, if_neg (not_not_intro hM), if_pos hA]
      · refine lGN rfl rfl rfl rfl rfl ?_
        refine lGN rfl rfl rfl rfl rfl ?_
        refine lGN rfl rfl rfl rfl rfl ?_
        refine lGN rfl rfl rfl rfl rfl ?_
        refine lGN rfl rfl rfl rfl rfl ?_
        refine lGN rfl rfl rfl rfl rfl ?_
        refine lGN rfl rfl rfl rfl rfl ?_
        refine lGN rfl rfl rfl rfl rfl ?_
        refine lV (yPickF rfl rfl) rfl rfl ?_
        refine lE rfl ?_
        refine eCallP rfl (.c rfl (.c rfl .n)) C48 (fun w hw => must_pan 2 w) ?_
        refine kThenP ?_
        refine fPanE 0 rfl rfl (.cA (us := [_, _]) rfl A24 (cOwn 1 rfl rfl) (.c1 rfl O32 (cOwn 0 rfl rfl) .n)) (endRet ?_)
        simp only [packV, betwE, if_neg (not_not_intro hM), if_pos hA]
  · refine kRegion rfl ?_
    refine lV (yLoadA (vs := [_, _, _, _, _, _, _, _]) rfl A29 (cOwn 2 rfl rfl)) rfl rfl ?_
    refine lE rfl ?_
    refine eCallP rfl (.c rfl .n) C47 (fun w hw => open_bad y X w (hm.eff hw) hL hM) ?_
    refine kThenP ?_
    refine fPanE 0 rfl rfl (.cA (us := [_, _]) rfl A24 (cOwn 1 rfl rfl) (.c1 rfl O32 (cOwn 0 rfl rfl) .n)) (endRet ?_)
    simp only [packV, betwE, if_pos hM]

set_option maxRecDepth 100000 in
set_option maxHeartbeats 4000000 in
theorem place_any (y : WLoc) (X : Wat) (a : Int) (w : World) (hm : InW w y X) (hL : X.looks.length ≤ 1000000) : Calls Try.prog 19 [.agg (watC y X).toArray, i64 a].toArray w (Ret w (outC (placeE X a))) := by
  refine fEnter Try.func19 rfl Try.ntmps19 rfl ?_
  refine kSeq ?_
  refine kRegion rfl ?_
  refine lE rfl ?_
  refine eBoxA rfl fun n2 => ?_
  refine lE rfl ?_
  refine eAlloc Z24 fun n4 => ?_
  refine lE rfl ?_
  refine eAlloc Z32 fun n5 => ?_
  refine lNil ?_
  refine kThen ?_
  refine kSeq ?_
  refine kRegion rfl ?_
  refine lE rfl ?_
  refine eDefer rfl (.c rfl .n) ?_
  refine lNil ?_
  refine kThen ?_
  refine kSeq ?_
  by_cases hM : WatOk X
  · refine kRegion rfl ?_
    refine lV (yLoadA (vs := [_, _, _, _, _, _, _, _]) rfl A29 (cOwn 2 rfl rfl)) rfl rfl ?_
    refine lE rfl ?_
    refine eCallO rfl (.c rfl .n) C47 (fun w hw => open_any y X w (hm.eff hw) hM) fun x hx => ?_
    obtain ⟨nm, g⟩ := x
    dsimp only at hx ⊢
    have hE := hM.e
    have hI := hM.i
    refine lV (yAssign rfl) rfl rfl ?_
    refine lNil ?_
    refine kThen ?_
    refine kSeq ?_
    by_cases hA : 0 ≤ a ∧ a ≤ X.images - 1
    · refine kRegion rfl ?_
      refine lV (yMove rfl) rfl rfl ?_
      refine lV (yMove rfl) rfl rfl ?_
      refine lV (yNilCheckP rfl) rfl rfl ?_
      refine lV (yFieldAddr rfl F78_0) rfl rfl ?_
      refine lV (yFieldAddr rfl F29_1) rfl rfl ?_
      refine lV (yLoad1 rfl O3 (cOwn 3 rfl rfl)) rfl rfl ?_
      refine lV (ySub rfl rfl (by omega)) rfl rfl ?_
      refine lV (yCall rfl (.c rfl (.c rfl (.c rfl .n))) C49 (fun w hw => ewithin_any _ _ _ w)) rfl rfl ?_
      refine knownB (t := 17) (c := true) rfl (decide_eq_true hA) ?_
      refine lV (yCall rfl (.c rfl (.c rfl .n)) C48 (fun w hw => must_ok 2 w)) rfl rfl ?_
      refine lNil ?_
      refine kThen ?_
      refine kSeq ?_
      by_cases hB : (betwP X 0 (1 + X.eyes.toNat + a.toNat)).isSome = true
      · refine kRegion rfl ?_
        refine lV (yMove rfl) rfl rfl ?_
        refine lV (yBuild .n (fun w => B82_ w)) rfl rfl ?_
        refine lV (yMakeInterface rfl I82) rfl rfl ?_
        refine lV (yMove rfl) rfl rfl ?_
        refine same (t := 23) (u := i64 ((a.toNat : Nat) : Int)) rfl (by rw [Int.toNat_of_nonneg hA.1]) ?_
        refine lV (yBuild (.c rfl .n) (fun w => B90_0 w)) rfl rfl ?_
        refine lV (yMakeInterface rfl I90) rfl rfl ?_
        refine lV (yCall rfl (.c rfl (.c rfl (.c rfl .n))) C50 (fun w hw => betw_yes nm y X g .zero (.place a.toNat) w (InWt.mk' hx hm hw (.d 0 (.d 0 (.d 0 (.d 0 .r)))) (hw.blkAt 3 rfl)) hM trivial (show a.toNat ≤ 1000 by omega) hB)) rfl rfl ?_
        refine lV (yMove rfl) rfl rfl ?_
        refine lV (yExtract rfl rfl) rfl rfl ?_
        refine lV (yExtract rfl rfl) rfl rfl ?_
        refine lE rfl ?_
        refine eStoreL 1 rfl rfl rfl rfl K24 rfl (rfl) ?_
        refine lV (yAssign rfl) rfl rfl ?_
        refine lNil ?_
        refine kThen ?_
        refine kSeq ?_
        refine kSeq ?_
        refine kRegion rfl ?_
        refine lV (yMove rfl) rfl rfl ?_
        refine lV (yNot rfl) rfl rfl ?_
        refine splitB (t := 30) rfl (fun h30 => ?_) (fun h30 => ?_)
        · refine lNil ?_
          refine kThen ?_
          refine kIfT rfl ?_
          refine kSeq ?_
          refine kRegion rfl ?_
          refine lV (yBuild .n (fun w => B24_ w)) rfl rfl ?_
          refine lE rfl ?_
          refine eStoreL 1 rfl rfl rfl rfl K24 rfl (rfl) ?_
          refine lE rfl ?_
          refine eStoreL 0 rfl rfl rfl rfl K32 rfl (rfl) ?_
          refine lNil ?_
          refine kThen ?_
          refine kRet ?_
          refine kThenR ?_
          refine fRetE rfl (.cA (us := [_, _]) rfl A24 (cOwn 1 rfl rfl) (.c1 rfl O32 (cOwn 0 rfl rfl) .n)) (endRet ?_)
          obtain ⟨r, hr⟩ := Option.isSome_iff_exists.1 hB
          simp only [hr, Thing.num, Option.get_some, Bool.not_eq_true'] at h30
          simp only [packV, placeE, if_neg (not_not_intro hM), if_neg (not_not_intro hA), hr, h30, Bool.false_eq_true, if_false]
        · refine lNil ?_
          refine kThen ?_
          refine kIfF rfl ?_
          refine kSkip ?_
          refine kThen ?_
          refine kSeq ?_
          refine kRegion rfl ?_
          refine lV (yLoadA (vs := [_, _]) rfl A24 (cOwn 1 rfl rfl)) rfl rfl ?_
          refine lE rfl ?_
          refine eStoreL 1 rfl rfl rfl rfl K24 rfl (rfl) ?_
          refine lE rfl ?_
          refine eStoreL 0 rfl rfl rfl rfl K32 rfl (rfl) ?_
          refine lNil ?_
          refine kThen ?_
          refine kRet ?_
          refine fRetE rfl (.cA (us := [_, _]) rfl A24 (cOwn 1 rfl rfl) (.c1 rfl O32 (cOwn 0 rfl rfl) .n)) (endRet ?_)
          obtain ⟨r, hr⟩ := Option.isSome_iff_exists.1 hB
          simp only [hr, Thing.num, Option.get_some, Bool.not_eq_false'] at h30
          simp only [packV, placeE, if_neg (not_not_intro hM), if_neg (not_not_intro hA), hr, Thing.num, Option.get_some, h30, if_true]
      · refine kRegion rfl ?_
        refine lV (yMove rfl) rfl rfl ?_
        refine lV (yBuild .n (fun w => B82_ w)) rfl rfl ?_
        refine lV (yMakeInterface rfl I82) rfl rfl ?_
        refine lV (yMove rfl) rfl rfl ?_
        refine same (t := 23) (u := i64 ((a.toNat : Nat) : Int)) rfl (by rw [Int.toNat_of_nonneg hA.1]) ?_
        refine lV (yBuild (.c rfl .n) (fun w => B90_0 w)) rfl rfl ?_
        refine lV (yMakeInterface rfl I90) rfl rfl ?_
        refine lE rfl ?_
        refine eCallP rfl (.c rfl (.c rfl (.c rfl .n))) C50 (fun w hw => betw_no nm y X g .zero (.place a.toNat) w (InWt.mk' hx hm hw (.d 0 (.d 0 (.d 0 (.d 0 .r)))) (hw.blkAt 3 rfl)) hM trivial (show a.toNat ≤ 1000 by omega) (Option.not_isSome_iff_eq_none.1 hB)) ?_
        refine kThenP ?_
        refine fPanE 0 rfl rfl (.cA (us := [_, _]) rfl A24 (cOwn 1 rfl rfl) (.c1 rfl O32 (cOwn 0 rfl rfl) .n)) (endRet ?_)
        have hB' : betwP X 0 (1 + X.eyes.toNat + a.toNat) = none := by simpa using hB
        simp only [packV, placeE, if_neg (not_not_intro hM), if_neg (not_not_intro hA), hB']
    · refine kRegion rfl ?_
      refine lV (yMove rfl) rfl rfl ?_
      refine lV (yMove rfl) rfl rfl ?_
      refine lV (yNilCheckP rfl) rfl rfl ?_
      refine lV (yFieldAddr rfl F78_0) rfl rfl ?_
      refine lV (yFieldAddr rfl F29_1) rfl rfl ?_
      refine lV (yLoad1 rfl O3 (cOwn 3 rfl rfl)) rfl rfl ?_
      refine lV (ySub rfl rfl (by omega)) rfl rfl ?_
      refine lV (yCall rfl (.c rfl (.c rfl (.c rfl .n))) C49 (fun w hw => ewithin_any _ _ _ w)) rfl rfl ?_
      refine knownB (t := 17) (c := false) rfl (decide_eq_false hA) ?_
      refine lE rfl ?_
      refine eCallP rfl (.c rfl (.c rfl .n)) C48 (fun w hw => must_pan 2 w) ?_
      refine kThenP ?_
      refine fPanE 0 rfl rfl (.cA (us := [_, _]) rfl A24 (cOwn 1 rfl rfl) (.c1 rfl O32 (cOwn 0 rfl rfl) .n)) (endRet ?_)
      simp only [packV, placeE, if_neg (not_not_intro hM), if_pos hA]
  · refine kRegion rfl ?_
    refine lV (yLoadA (vs := [_, _, _, _, _, _, _, _]) rfl A29 (cOwn 2 rfl rfl)) rfl rfl ?_
    refine lE rfl ?_
    refine eCallP rfl (.c rfl .n) C47 (fun w hw => open_bad y X w (hm.eff hw) hL hM) ?_
    refine kThenP ?_
    refine fPanE 0 rfl rfl (.cA (us := [_, _]) rfl A24 (cOwn 1 rfl rfl) (.c1 rfl O32 (cOwn 0 rfl rfl) .n)) (endRet ?_)
    simp only [packV, placeE, if_pos hM]

theorem or_lt {a b n : Nat} (h : a < 2 ^ n) (h' : b < 2 ^ n) : a ||| b < 2 ^ n := Nat.or_lt_two_pow h h'
theorem sureW_lt (X : Wat) : ∀ n, sureW X n < 2 ^ n
  | 0 => by simp [sureW]
  | n + 1 => by
    have ih := sureW_lt X n
    rw [sureW_succ, Nat.pow_succ]
    split
    · rw [← Nat.pow_succ]; exact or_lt (by rw [Nat.pow_succ]; omega) (by rw [Nat.pow_succ]; have := Nat.two_pow_pos n; omega)
    · omega
theorem habP_get {X : Wat} {m : Nat} (h : (betwP X 0 (1 + m)).isSome = true) : ((betwP X 0 (1 + m)).get h).1 = habP X m := by
  obtain ⟨r, hr⟩ := Option.isSome_iff_exists.1 h
  unfold habP
  simp only [hr, Option.get_some, Option.getD_some]

set_option maxRecDepth 100000 in
set_option maxHeartbeats 4000000 in
theorem sure_any (y : WLoc) (X : Wat) (w : World) (hm : InW w y X) (hL : X.looks.length ≤ 1000000) : Calls Try.prog 21 [.agg (watC y X).toArray].toArray w (Ret w (outI (sureE X))) := by
  refine fEnter Try.func21 rfl Try.ntmps21 rfl ?_
  refine kSeq ?_
  refine kRegion rfl ?_
  refine lE rfl ?_
  refine eBoxA rfl fun n1 => ?_
  refine lV (yAssign rfl) rfl rfl ?_
  refine lE rfl ?_
  refine eAlloc Z32 fun n3 => ?_
  refine lNil ?_
  refine kThen ?_
  refine kSeq ?_
  refine kRegion rfl ?_
  refine lE rfl ?_
  refine eDefer rfl (.c rfl .n) ?_
  refine lNil ?_
  refine kThen ?_
  refine kSeq ?_
  by_cases hM : WatOk X
  · refine kRegion rfl ?_
    refine lV (yLoadA (vs := [_, _, _, _, _, _, _, _]) rfl A29 (cOwn 1 rfl rfl)) rfl rfl ?_
    refine lE rfl ?_
    refine eCallO rfl (.c rfl .n) C47 (fun w hw => open_any y X w (hm.eff hw) hM) fun x hx => ?_
    obtain ⟨nm, g⟩ := x
    dsimp only at hx ⊢
    have hE := hM.e
    obtain ⟨e, he⟩ : ∃ e : Nat, X.eyes = (e : Nat) := ⟨X.eyes.toNat, by omega⟩
    have he' : X.eyes.toNat = e := by omega
    refine lV (yAssign rfl) rfl rfl ?_
    refine lNil ?_
    refine kThen ?_
    refine kSeq ?_
    refine kSeq ?_
    by_cases hf : canB X (allS X) (allE X) = true
    · refine kRegion rfl ?_
      refine lV (yMove rfl) rfl rfl ?_
      refine lV (yNilCheckP rfl) rfl rfl ?_
      refine lV (yFieldAddr rfl F78_0) rfl rfl ?_
      refine lV (yFieldAddr rfl F29_2) rfl rfl ?_
      refine lV (yLoad1 rfl O3 (cOwn 2 rfl rfl)) rfl rfl ?_
      refine same (t := 14) (u := i64 (e : Nat)) rfl (by rw [he]) ?_
      refine lV (yMove rfl) rfl rfl ?_
      refine lNil ?_
      refine kThen ?_
      refine kBlock ?_
      refine kLoopX (ι := Nat × Nat) (fun x => x.1 ≤ e ∧ x.2 = sureW X x.1) (fun x => [(15, i64 (x.1 : Nat)), (2, i64 (x.2 : Nat))]) [(0, _), (1, _), (3, _), (8, _), (9, _), (4, _), (10, _), (11, _), (12, _), (13, _), (14, _)] (fun x => []) (fun x => osL 24 g) [(n3, _), (n1, _), (nm, _)] (fun x => e - x.1) (0, 0) (⟨Nat.zero_le _, rfl⟩) rfl (.c rfl (.c rfl .n)) (.c rfl (.c rfl (.c rfl (.c rfl (.c rfl (.c rfl (.c rfl (.c rfl (.c rfl (.c rfl (.c rfl .n))))))))))) (.c 0 rfl (.c 0 rfl (.c 0 rfl .r))) ?_
      rintro ⟨m, s⟩ ⟨hme, hs⟩
      dsimp only at hme hs ⊢
      have hB := betw_some hM hf 0 (1 + m)
      have hslt := sureW_lt X m
      rw [← hs] at hslt
      have hpm : 2 ^ m ≤ 2 ^ 4 := Nat.pow_le_pow_right (by omega) (by omega)
      refine kSeq ?_
      refine kRegion rfl ?_
      refine lV (yLss rfl rfl) rfl rfl ?_
      refine lNil ?_
      refine kThen ?_
      refine kSeq ?_
      refine split (t := 16) rfl (fun h16 => ?_) (fun h16 => ?_)
      · refine kIfT rfl ?_
        refine kSkip ?_
        refine kThen ?_
        refine kSeq ?_
        refine kBlock ?_
        refine kSeq ?_
        refine kRegion rfl ?_
        refine lV (yMove rfl) rfl rfl ?_
        refine lV (yAssign rfl) rfl rfl ?_
        refine lNil ?_
        refine kThen ?_
        refine kSeq ?_
        refine kRegion rfl ?_
        refine lV (yMove rfl) rfl rfl ?_
        refine lV (yBuild .n (fun w => B82_ w)) rfl rfl ?_
        refine lV (yMakeInterface rfl I82) rfl rfl ?_
        refine lV (yMove rfl) rfl rfl ?_
        refine lV (yBuild (.c rfl .n) (fun w => B84_0 w)) rfl rfl ?_
        refine lV (yMakeInterface rfl I84) rfl rfl ?_
        refine lV (yCall rfl (.c rfl (.c rfl (.c rfl .n))) C50 (fun w hw => betw_yes nm y X g .zero (.habit m) w (InWt.mk' hx hm hw (.d 0 (.d 0 (.d 0 .r))) (hw.blkAt 2 rfl)) hM trivial (show m ≤ 1000 by omega) hB)) rfl rfl ?_
        refine lV (yMove rfl) rfl rfl ?_
        refine lV (yExtract rfl rfl) rfl rfl ?_
        refine lV (yExtract rfl rfl) rfl rfl ?_
        refine lE rfl ?_
        refine eAlloc Z24 fun n6 => ?_
        refine lE rfl ?_
        refine eStoreL 0 rfl rfl rfl rfl K24 rfl (rfl) ?_
        refine lV (yAssign rfl) rfl rfl ?_
        refine lNil ?_
        refine kThen ?_
        refine kSeq ?_
        refine kRegion rfl ?_
        refine lV (yFieldAddr rfl F24_0) rfl rfl ?_
        refine lV (yLoad1 rfl O3 (cOwn 0 rfl rfl)) rfl rfl ?_
        refine lV (yGtr rfl rfl) rfl rfl ?_
        refine lV (yMove rfl) rfl rfl ?_
        refine split (t := 31) rfl (fun h31 => ?_) (fun h31 => ?_)
        · refine lGN rfl rfl rfl rfl rfl ?_
          refine lGN rfl rfl rfl rfl rfl ?_
          refine lGN rfl rfl rfl rfl rfl ?_
          refine lV (yPickT rfl rfl) rfl rfl ?_
          refine lNil ?_
          refine kThen ?_
          refine kIfT rfl ?_
          refine kRegion rfl ?_
          refine lV (yMove rfl) rfl rfl ?_
          refine lV (yMove rfl) rfl rfl ?_
          refine lV (yShl (a := 1) rfl rfl rfl (by omega) (by omega)) rfl rfl ?_
          refine lV (yOr rfl rfl rfl (by omega) (by omega)) rfl rfl ?_
          refine lV (yAssign rfl) rfl rfl ?_
          refine lNil ?_
          refine kInN ?_
          refine kThen ?_
          refine kRegion rfl ?_
          refine lV (yAdd rfl rfl (by omega)) rfl rfl ?_
          refine lV (yMove rfl) rfl rfl ?_
          refine lNil ?_
          exact kRoundX (m + 1, s ||| 1 * 2 ^ m) (⟨by dsimp only; omega, by have h' : 0 < (habP X m).1 := (by rw [← habP_get hB]; exact h31); dsimp only; rw [sureW_succ, ← hs, if_pos (.inl h')]⟩) (by dsimp only; omega) rfl (.c rfl (.c rfl .n)) (.c rfl (.c rfl (.c rfl (.c rfl (.c rfl (.c rfl (.c rfl (.c rfl (.c rfl (.c rfl (.c rfl .n))))))))))) (.c 1 rfl (.c 1 rfl (.c 1 rfl (.d 0 .r))))
        · refine lGY rfl rfl rfl (oV (yFieldAddr rfl F24_1) rfl ?_)
          refine lGY rfl rfl rfl (oV (yLoad1 rfl O3 (cOwn 0 rfl rfl)) rfl ?_)
          refine lGY rfl rfl rfl (oV (yLss rfl rfl) rfl ?_)
          refine lV (yPickF rfl rfl) rfl rfl ?_
          refine lNil ?_
          refine kThen ?_
          refine split (t := 35) rfl (fun h35 => ?_) (fun h35 => ?_)
          · refine kIfT rfl ?_
            refine kRegion rfl ?_
            refine lV (yMove rfl) rfl rfl ?_
            refine lV (yMove rfl) rfl rfl ?_
            refine lV (yShl (a := 1) rfl rfl rfl (by omega) (by omega)) rfl rfl ?_
            refine lV (yOr rfl rfl rfl (by omega) (by omega)) rfl rfl ?_
            refine lV (yAssign rfl) rfl rfl ?_
            refine lNil ?_
            refine kInN ?_
            refine kThen ?_
            refine kRegion rfl ?_
            refine lV (yAdd rfl rfl (by omega)) rfl rfl ?_
            refine lV (yMove rfl) rfl rfl ?_
            refine lNil ?_
            exact kRoundX (m + 1, s ||| 1 * 2 ^ m) (⟨by dsimp only; omega, by have h' : (habP X m).2 < 0 := (by rw [← habP_get hB]; exact h35); dsimp only; rw [sureW_succ, ← hs, if_pos (.inr h')]⟩) (by dsimp only; omega) rfl (.c rfl (.c rfl .n)) (.c rfl (.c rfl (.c rfl (.c rfl (.c rfl (.c rfl (.c rfl (.c rfl (.c rfl (.c rfl (.c rfl .n))))))))))) (.c 1 rfl (.c 1 rfl (.c 1 rfl (.d 0 .r))))
          · refine kIfF rfl ?_
            refine kSkip ?_
            refine kInN ?_
            refine kThen ?_
            refine kRegion rfl ?_
            refine lV (yAdd rfl rfl (by omega)) rfl rfl ?_
            refine lV (yMove rfl) rfl rfl ?_
            refine lNil ?_
            exact kRoundX (m + 1, s) (⟨by dsimp only; omega, by have h1 : ¬ 0 < (habP X m).1 := (by rw [← habP_get hB]; exact h31); have h2 : ¬ (habP X m).2 < 0 := (by rw [← habP_get hB]; exact h35); dsimp only; rw [sureW_succ, ← hs, if_neg (fun h => h.elim h1 h2)]⟩) (by dsimp only; omega) rfl (.c rfl (.c rfl .n)) (.c rfl (.c rfl (.c rfl (.c rfl (.c rfl (.c rfl (.c rfl (.c rfl (.c rfl (.c rfl (.c rfl .n))))))))))) (.c 1 rfl (.c 1 rfl (.c 1 rfl (.d 0 .r))))
      · refine kIfF rfl ?_
        refine kExit ?_
        refine kThenX ?_
        refine kThenX ?_
        refine kInX ?_
        refine kThen ?_
        refine kSeq ?_
        refine kRegion rfl ?_
        refine lV (yMove rfl) rfl rfl ?_
        refine lV (yAssign rfl) rfl rfl ?_
        refine lE rfl ?_
        refine eStoreL 0 rfl rfl rfl rfl K32 rfl (rfl) ?_
        refine lNil ?_
        refine kThen ?_
        refine kRet ?_
        refine fRetE rfl (.t rfl (.c1 rfl O32 (cOwn 0 rfl rfl) .n)) (endRet ?_)
        obtain rfl : m = e := by omega
        simp only [packV, sureE, if_neg (not_not_intro hM), if_neg (not_not_intro hf), he', hs]
    · refine kRegion rfl ?_
      refine lV (yMove rfl) rfl rfl ?_
      refine lV (yNilCheckP rfl) rfl rfl ?_
      refine lV (yFieldAddr rfl F78_0) rfl rfl ?_
      refine lV (yFieldAddr rfl F29_2) rfl rfl ?_
      refine lV (yLoad1 rfl O3 (cOwn 2 rfl rfl)) rfl rfl ?_
      refine same (t := 14) (u := i64 (e : Nat)) rfl (by rw [he]) ?_
      refine lV (yMove rfl) rfl rfl ?_
      refine lNil ?_
      refine kThen ?_
      refine kBlock ?_
      refine kLoopX (ι := Unit) (fun _ => True) (fun _ => [(15, i64 0), (2, i64 0)]) [(0, _), (1, _), (3, _), (8, _), (9, _), (4, _), (10, _), (11, _), (12, _), (13, _), (14, _)] (fun _ => []) (fun _ => osL 24 g) [(n3, _), (n1, _), (nm, _)] (fun _ => 0) () (trivial) rfl (.c rfl (.c rfl .n)) (.c rfl (.c rfl (.c rfl (.c rfl (.c rfl (.c rfl (.c rfl (.c rfl (.c rfl (.c rfl (.c rfl .n))))))))))) (.c 0 rfl (.c 0 rfl (.c 0 rfl .r))) ?_
      rintro _ _
      have hB := betw_zero hf (1 + 0)
      refine kSeq ?_
      refine kRegion rfl ?_
      refine lV (yLss rfl rfl) rfl rfl ?_
      refine lNil ?_
      refine kThen ?_
      refine kSeq ?_
      refine split (t := 16) rfl (fun h16 => ?_) (fun h16 => ?_)
      · refine kIfT rfl ?_
        refine kSkip ?_
        refine kThen ?_
        refine kSeq ?_
        refine kBlock ?_
        refine kSeq ?_
        refine kRegion rfl ?_
        refine lV (yMove rfl) rfl rfl ?_
        refine lV (yAssign rfl) rfl rfl ?_
        refine lNil ?_
        refine kThen ?_
        refine kSeq ?_
        refine kRegion rfl ?_
        refine lV (yMove rfl) rfl rfl ?_
        refine lV (yBuild .n (fun w => B82_ w)) rfl rfl ?_
        refine lV (yMakeInterface rfl I82) rfl rfl ?_
        refine lV (yMove rfl) rfl rfl ?_
        refine lV (yBuild (.c rfl .n) (fun w => B84_0 w)) rfl rfl ?_
        refine lV (yMakeInterface rfl I84) rfl rfl ?_
        refine lE rfl ?_
        refine eCallP rfl (.c rfl (.c rfl (.c rfl .n))) C50 (fun w hw => betw_no nm y X g .zero (.habit 0) w (InWt.mk' hx hm hw (.d 0 (.d 0 (.d 0 .r))) (hw.blkAt 2 rfl)) hM trivial (show 0 ≤ 1000 by omega) hB) ?_
        refine kThenP ?_
        refine kInP ?_
        refine kThenP ?_
        refine kThenP ?_
        refine kInP ?_
        refine kThenP ?_
        refine fPanE 0 rfl rfl (.t rfl (.c1 rfl O32 (cOwn 0 rfl rfl) .n)) (endRet ?_)
        simp only [packV, sureE, if_neg (not_not_intro hM), if_pos hf]
      · exact absurd h16 (by omega)
  · refine kRegion rfl ?_
    refine lV (yLoadA (vs := [_, _, _, _, _, _, _, _]) rfl A29 (cOwn 1 rfl rfl)) rfl rfl ?_
    refine lE rfl ?_
    refine eCallP rfl (.c rfl .n) C47 (fun w hw => open_bad y X w (hm.eff hw) hL hM) ?_
    refine kThenP ?_
    refine fPanE 0 rfl rfl (.t rfl (.c1 rfl O32 (cOwn 0 rfl rfl) .n)) (endRet ?_)
    simp only [packV, sureE, if_pos hM]
end Go.Proofs.Ytiaaidcdoenloaa
