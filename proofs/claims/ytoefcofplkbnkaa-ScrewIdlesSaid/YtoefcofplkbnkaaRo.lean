/-
  Walk: ScrewIdles.
-/
import Derived.Test.YtoefcofplkbnkaaRn
namespace Go.Proofs.Ytoefcofplkbnkaa
open ZW

/-! ### In which positions images were measured -/
def wV (m : Meas) (g k : Nat) : Nat := (if anyW m true g k then 2 else 0) ||| (if anyW m false g k then 1 else 0)
theorem wV_lt (m : Meas) (g k : Nat) : wV m g k < 4 := by
  unfold wV
  cases anyW m true g k <;> cases anyW m false g k <;> decide
abbrev wayC (m : Meas) (k : Nat) : List Value := (List.range m.images.toNat).map fun g => i64 ((wV m g k : Nat) : Int)
theorem way_0 (m : Meas) : List.replicate m.images.toNat (Value.int .i64 0) = wayC m 0 := by
  refine List.ext_getElem (by simp) fun i h1 h2 => ?_
  simp [wV, anyW]
theorem way_sub {m : Meas} {g k : Nat} (h : g < m.images.toNat) : sub (wayC m k) (0 + ((g : Nat) : Int).toNat * 1) 1 = some [i64 ((wV m g k : Nat) : Int)] := by
  refine sub_one _ _ _ ?_
  simp [h]
theorem way_fits {m : Meas} {g k : Nat} (h : g < m.images.toNat) : Nat.ble (0 + ((g : Nat) : Int).toNat * 1 + 1) (wayC m k).length = true := by
  simp; omega
theorem way_wr {m : Meas} {g k v : Nat} (h : g < m.images.toNat) (hv : v = wV m g (k + 1)) (ho : ∀ g', g' ≠ g → wV m g' (k + 1) = wV m g' k) : wr (wayC m k) (0 + ((g : Nat) : Int).toNat * 1) [i64 ((v : Nat) : Int)] = wayC m (k + 1) := by
  rw [wr_one]
  refine List.ext_getElem (by simp) fun i h1 h2 => ?_
  rw [List.getElem_set]
  simp only [List.getElem_map, List.getElem_range]
  by_cases hi : i = g
  · subst hi
    rw [if_pos (by simp), hv]
  · rw [if_neg (by simp; omega), ho i hi]
theorem wV_other {m : Meas} {k g' : Nat} (h : (setAt m k).1 ≠ (g' : Nat)) : wV m g' (k + 1) = wV m g' k := by
  unfold wV
  rw [anyW_succ, anyW_succ]
  simp [h]
theorem wV_rev {m : Meas} {k g : Nat} (h : (setAt m k).1 = (g : Nat)) (hr : (setAt m k).2.2 = true) : wV m g k ||| 2 = wV m g (k + 1) := by
  unfold wV
  rw [anyW_succ, anyW_succ, hr]
  simp only [h, decide_true, Bool.true_and, BEq.rfl, Bool.or_true]
  have : (true == false) = false := rfl
  rw [this, Bool.or_false]
  cases anyW m true g k <;> cases anyW m false g k <;> rfl
theorem wV_plain {m : Meas} {k g : Nat} (h : (setAt m k).1 = (g : Nat)) (hr : (setAt m k).2.2 = false) : wV m g k ||| 1 = wV m g (k + 1) := by
  unfold wV
  rw [anyW_succ, anyW_succ, hr]
  simp only [h, decide_true, Bool.true_and, BEq.rfl, Bool.or_true]
  have : (false == true) = false := rfl
  rw [this, Bool.or_false]
  cases anyW m true g k <;> cases anyW m false g k <;> rfl
theorem way_T {m : Meas} (hM : MeasOk m) {g : Nat} (h : ((wV m g m.sets.length : Nat) : Int) = 1) : (onceX m).testBit g = true := by
  rw [onceX_bit hM]
  unfold wV at h
  cases h1 : anyW m true g m.sets.length <;> cases h2 : anyW m false g m.sets.length <;> rw [h1, h2] at h <;> first | rfl | exact absurd h (by decide)
theorem way_F {m : Meas} (hM : MeasOk m) {g : Nat} (h : ¬ ((wV m g m.sets.length : Nat) : Int) = 1) : (onceX m).testBit g = decide (((wV m g m.sets.length : Nat) : Int) = 2) := by
  rw [onceX_bit hM]
  unfold wV at h ⊢
  cases h1 : anyW m true g m.sets.length <;> cases h2 : anyW m false g m.sets.length <;> rw [h1, h2] at h <;> first | rfl | exact absurd rfl h
theorem idle_code {m : Meas} (hM : MeasOk m) : (idleE m).2 = (sumE m).2 := by
  by_cases ho : okF m
  · rw [idleE_ok hM ho, sumE_ok hM ho]
  · rw [sumE_clash hM ho]
    unfold idleE
    rw [if_neg (not_not_intro hM), if_pos fun h => ho ((can_eq hM _).1 h)]
theorem idleE_clash {m : Meas} (hM : MeasOk m) (ho : ¬ okF m) : idleE m = (0, 10) := by
  unfold idleE
  rw [if_neg (not_not_intro hM), if_pos fun h => ho ((can_eq hM _).1 h)]
abbrev lessS (m : Meas) (n : Nat) : Nat := less (fullS m) (1 * 2 ^ n)
theorem bit_dec (s i : Nat) : decide (((s / 2 ^ i &&& 1 : Nat) : Int) = 1) = s.testBit i := by
  have := bit_iff s i
  by_cases h : s.testBit i = true
  · rw [h]; exact decide_eq_true (this.2 h)
  · have h2 : s.testBit i = false := by simpa using h
    rw [h2]; exact decide_eq_false fun k => h (this.1 k)
theorem and_not_one {a : Nat} (h : ¬ ((a &&& 1 : Nat) : Int) = 1) : ((a &&& 1 : Nat) : Int) = 0 := by
  have : a &&& 1 = a % 2 := Nat.and_one_is_mod a
  rw [this] at h ⊢
  omega
set_option maxHeartbeats 4000000 in
set_option maxRecDepth 100000 in
theorem idles_any (y : Loc) (m : Meas) (w : World) (hm : InM w y m) : Calls Try.prog 11 [.agg (measC y m).toArray].toArray w (Ret w (.bool true)) := by
  refine fEnter Try.func11 rfl Try.ntmps11 rfl ?_
  refine kSeq ?_
  refine kRegion rfl ?_
  refine lE rfl ?_
  refine eBoxA rfl fun n1 => ?_
  refine lV (yAssign rfl) rfl rfl ?_
  refine lNil ?_
  refine kThen ?_
  refine kSeq ?_
  refine kSeq ?_
  refine kRegion rfl ?_
  refine lV (yLoadA (vs := [_, _, _, _, _, _, _]) rfl A29 (cOwn 0 rfl rfl)) rfl rfl ?_
  refine lV (yCall rfl (.c rfl .n) C13 (fun w hw => great_any y m w)) rfl rfl ?_
  refine lV (yMove rfl) rfl rfl ?_
  refine splitB (t := 32) rfl (fun h32 => ?_) (fun h32 => ?_)
  · refine lGN rfl rfl rfl rfl rfl ?_
    refine lGN rfl rfl rfl rfl rfl ?_
    refine lGN rfl rfl rfl rfl rfl ?_
    refine lV (yPickT rfl rfl) rfl rfl ?_
    refine lNil ?_
    refine kThen ?_
    refine kIfT rfl ?_
    refine kSeq ?_
    refine kRegion rfl ?_
    refine lV (yCall rfl .n C15 (fun w hw => alive_any w)) rfl rfl ?_
    refine lV (yAssign rfl) rfl rfl ?_
    refine lNil ?_
    refine kThen ?_
    refine kRet ?_
    refine kThenR ?_
    refine fRet rfl (.t rfl .n) (endRet ?_)
    first | rfl | (simp [packV, *]; done)
  · have hG := of_decide_eq_false h32
    have hn : m.errs.length ≤ 1000000 := by unfold greatP at hG; omega
    refine lGY rfl rfl rfl (oV (yLoadA (vs := [_, _, _, _, _, _, _]) rfl A29 (cOwn 0 rfl rfl)) rfl ?_)
    refine lGY rfl rfl rfl (oV (yCall rfl (.c rfl .n) C28 (fun w hw => rmeasure_any y m w (hm.eff hw) hn)) rfl ?_)
    refine lGY rfl rfl rfl (oV (yNot rfl) rfl ?_)
    refine lV (yPickF rfl rfl) rfl rfl ?_
    refine lNil ?_
    refine kThen ?_
    refine splitB (t := 36) rfl (fun h36 => ?_) (fun h36 => ?_)
    · refine kIfT rfl ?_
      refine kSeq ?_
      refine kRegion rfl ?_
      refine lV (yCall rfl .n C15 (fun w hw => alive_any w)) rfl rfl ?_
      refine lV (yAssign rfl) rfl rfl ?_
      refine lNil ?_
      refine kThen ?_
      refine kRet ?_
      refine kThenR ?_
      refine fRet rfl (.t rfl .n) (endRet ?_)
      first | rfl | (simp [packV, *]; done)
    · refine kIfF rfl ?_
      refine kSkip ?_
      refine kThen ?_
      refine kSeq ?_
      have hM := notF h36
      have hN := hM.n
      have hI := hM.i
      have hF := fullS_lt hM
      have hX := onceX_lt hM
      have hX6 : 2 ^ m.images.toNat ≤ 2 ^ 6 := Nat.pow_le_pow_right (by omega) (by omega)
      have hil := idleW_lt m m.sets.length
      have hpp : 1 * 2 ^ m.sets.length ≤ 2 ^ 12 := by rw [Nat.one_mul]; exact Nat.pow_le_pow_right (by omega) hN
      have hp0 := Nat.two_pow_pos m.sets.length
      refine kRegion rfl ?_
      refine lV (yLoadA (vs := [_, _, _, _, _, _, _]) rfl A29 (cOwn 0 rfl rfl)) rfl rfl ?_
      refine lV (yCall rfl (.c rfl .n) C35 (fun w hw => idle_any y m w (hm.eff hw))) rfl rfl ?_
      refine lV (yMove rfl) rfl rfl ?_
      refine lV (yExtract rfl rfl) rfl rfl ?_
      refine lV (yExtract rfl rfl) rfl rfl ?_
      refine lV (yAssign rfl) rfl rfl ?_
      refine lV (yAssign rfl) rfl rfl ?_
      refine lNil ?_
      refine kThen ?_
      refine kSeq ?_
      refine kRegion rfl ?_
      refine lV (yLoadA (vs := [_, _, _, _, _, _, _]) rfl A29 (cOwn 0 rfl rfl)) rfl rfl ?_
      refine lV (yCall rfl (.c rfl .n) C39 (fun w hw => once_any y m w (hm.eff hw))) rfl rfl ?_
      refine same (t := 45) (u := outI (((onceX m : Nat) : Int), 0)) rfl (by rw [onceE_eq, if_neg (not_not_intro hM)]) ?_
      refine lV (yMove rfl) rfl rfl ?_
      refine lV (yExtract rfl rfl) rfl rfl ?_
      refine lV (yExtract rfl rfl) rfl rfl ?_
      refine lV (yAssign rfl) rfl rfl ?_
      refine lV (yAssign rfl) rfl rfl ?_
      refine lNil ?_
      refine kThen ?_
      refine kSeq ?_
      refine kRegion rfl ?_
      refine lV (yLoadA (vs := [_, _, _, _, _, _, _]) rfl A29 (cOwn 0 rfl rfl)) rfl rfl ?_
      refine lV (yCall rfl (.c rfl .n) C18 (fun w hw => sum_any y m w (hm.eff hw))) rfl rfl ?_
      refine lV (yMove rfl) rfl rfl ?_
      refine lV (yExtract rfl rfl) rfl rfl ?_
      refine lV (yExtract rfl rfl) rfl rfl ?_
      refine lE rfl ?_
      refine eAlloc Z24 fun n7 => ?_
      refine lE rfl ?_
      refine eStoreL 0 rfl rfl rfl rfl K24 rfl (rfl) ?_
      refine lV (yAssign rfl) rfl rfl ?_
      refine lNil ?_
      refine kThen ?_
      refine kSeq ?_
      refine kSeq ?_
      refine kRegion rfl ?_
      refine lV (yMove rfl) rfl rfl ?_
      refine lV (yNeq rfl rfl) rfl rfl ?_
      refine knownN (t := 54) rfl (fun h => h rfl) ?_
      refine lV (yMove rfl) rfl rfl ?_
      refine lGY rfl rfl rfl (oV (yMove rfl) rfl ?_)
      refine lGY rfl rfl rfl (oV (yMove rfl) rfl ?_)
      refine lGY rfl rfl rfl (oV (yNeq rfl rfl) rfl ?_)
      refine knownN (t := 58) rfl (fun h => h (idle_code hM)) ?_
      refine lV (yPickF rfl rfl) rfl rfl ?_
      refine lV (yMove rfl) rfl rfl ?_
      refine lGY rfl rfl rfl (oV (yMove rfl) rfl ?_)
      refine lGY rfl rfl rfl (oV (yLss rfl rfl) rfl ?_)
      refine knownN (t := 62) rfl (by omega) ?_
      refine lV (yPickF rfl rfl) rfl rfl ?_
      refine lV (yMove rfl) rfl rfl ?_
      refine lGY rfl rfl rfl (oV (yMove rfl) rfl ?_)
      refine lGY rfl rfl rfl (oV (yFieldAddr rfl F29_1) rfl ?_)
      refine lGY rfl rfl rfl (oV (yLoad1 rfl O3 (cOwn 1 rfl rfl)) rfl ?_)
      refine same (t := 67) (u := i64 ((m.images.toNat : Nat) : Int)) rfl (by congr 1; omega) ?_
      refine lGY rfl rfl rfl (oV (yShr rfl rfl rfl (by omega)) rfl ?_)
      refine lGY rfl rfl rfl (oV (yNeq rfl rfl) rfl ?_)
      refine knownN (t := 69) rfl (by rw [Nat.div_eq_of_lt hX]; decide) ?_
      refine lV (yPickF rfl rfl) rfl rfl ?_
      refine lNil ?_
      refine kThen ?_
      refine kIfF rfl ?_
      refine kSkip ?_
      refine kThen ?_
      refine kSeq ?_
      refine kRegion rfl ?_
      refine lV (yFieldAddr rfl F29_1) rfl rfl ?_
      refine lV (yLoad1 rfl O3 (cOwn 1 rfl rfl)) rfl rfl ?_
      refine same (t := 72) (u := i64 ((m.images.toNat : Nat) : Int)) rfl (by congr 1; omega) ?_
      refine lE rfl ?_
      refine eMakeSlice U41 (by kernel_rfl) rfl rfl (by omega) fun nW => ?_
      refine lV (yAssign rfl) rfl rfl ?_
      refine lNil ?_
      rw [way_0]
      refine kThen ?_
      refine kSeq ?_
      refine kSeq ?_
      refine kRegion rfl ?_
      refine lV (yFieldAddr rfl F29_3) rfl rfl ?_
      refine lV (yLoad1 rfl O27 (cOwn 2 rfl rfl)) rfl rfl ?_
      refine lV (yLen rfl S27) rfl rfl ?_
      refine lV (yMove rfl) rfl rfl ?_
      refine lNil ?_
      refine kThen ?_
      refine kBlock ?_
      refine kLoopX (ι := Nat) (fun k => k ≤ m.sets.length) (fun k => [(77, i64 (k : Nat))]) [(0, _), (1, _), (2, _), (30, _), (31, _), (32, _), (33, _), (34, _), (35, _), (36, _), (39, _), (40, _), (38, _), (41, _), (42, _), (3, _), (4, _), (44, _), (45, _), (43, _), (46, _), (47, _), (5, _), (6, _), (49, _), (50, _), (48, _), (51, _), (52, _), (7, _), (8, _), (53, _), (54, _), (55, _), (56, _), (57, _), (58, _), (59, _), (60, _), (61, _), (62, _), (63, _), (64, _), (65, _), (66, _), (67, _), (68, _), (69, _), (70, _), (71, _), (72, _), (73, _), (9, _), (74, _), (75, _), (76, _)] (fun k => []) (fun k => [(nW, blk (wayC m k) 3)]) [(n7, _), (n1, _)] (fun k => m.sets.length - k) 0 (Nat.zero_le _) rfl (.c rfl .n) (.c rfl (.c rfl (.c rfl (.c rfl (.c rfl (.c rfl (.c rfl (.c rfl (.c rfl (.c rfl (.c rfl (.c rfl (.c rfl (.c rfl (.c rfl (.c rfl (.c rfl (.c rfl (.c rfl (.c rfl (.c rfl (.c rfl (.c rfl (.c rfl (.c rfl (.c rfl (.c rfl (.c rfl (.c rfl (.c rfl (.c rfl (.c rfl (.c rfl (.c rfl (.c rfl (.c rfl (.c rfl (.c rfl (.c rfl (.c rfl (.c rfl (.c rfl (.c rfl (.c rfl (.c rfl (.c rfl (.c rfl (.c rfl (.c rfl (.c rfl (.c rfl (.c rfl (.c rfl (.c rfl (.c rfl (.c rfl .n)))))))))))))))))))))))))))))))))))))))))))))))))))))))) (.c 1 rfl (.c 1 rfl (.c 0 rfl .n))) ?_
      rintro k hk
      refine kSeq ?_
      refine kRegion rfl ?_
      refine lV (yLss rfl rfl) rfl rfl ?_
      refine lNil ?_
      refine kThen ?_
      refine kSeq ?_
      refine split (t := 78) rfl (fun h78 => ?_) (fun h78 => ?_)
      · refine kIfT rfl ?_
        refine kSkip ?_
        refine kThen ?_
        refine kSeq ?_
        refine kBlock ?_
        refine kSeq ?_
        have him := img_lt hM (i := k) (by omega)
        have him2 := (hM.a _ (setAt_mem (m := m) (i := k) (by omega))).1
        have hge : (((setAt m k).1.toNat : Nat) : Int) = (setAt m k).1 := Int.toNat_of_nonneg him.1
        have hgl : (setAt m k).1.toNat < m.images.toNat := by omega
        have hw4 := wV_lt m (setAt m k).1.toNat k
        refine kRegion rfl ?_
        refine lV (yIndexS  rfl rfl S27 (hm.s.r) ((by omega))) rfl rfl ?_
        refine lV (yLoadA (vs := [_, _, _]) rfl A49 (cSl0 (hm.s.r) ((by omega)) rfl)) rfl rfl ?_
        refine lE rfl ?_
        refine eAlloc Z49 fun n11 => ?_
        refine lE rfl ?_
        refine eStoreL 0 rfl rfl rfl rfl K49 rfl (rfl) ?_
        refine lNil ?_
        refine kThen ?_
        refine kSeq ?_
        refine kRegion rfl ?_
        refine lV (yFieldAddr rfl F49_2) rfl rfl ?_
        refine lV (yLoad1 rfl O4 (cOwn 0 rfl rfl)) rfl rfl ?_
        refine lNil ?_
        refine kThen ?_
        refine splitB (t := 82) rfl (fun h82 => ?_) (fun h82 => ?_)
        · refine kIfT rfl ?_
          refine kRegion rfl ?_
          refine lV (yMove rfl) rfl rfl ?_
          refine lV (yFieldAddr rfl F49_0) rfl rfl ?_
          refine lV (yLoad1 rfl O3 (cOwn 0 rfl rfl)) rfl rfl ?_
          refine same (t := 85) (u := i64 (((setAt m k).1.toNat : Nat) : Int)) rfl (by rw [hge]; rfl) ?_
          refine lV (yIndexSl rfl rfl S41 (by omega) (by omega)) rfl rfl ?_
          refine lV (yLoad1 rfl O3 (cOwn 3 rfl (way_sub hgl))) rfl rfl ?_
          refine lV (yOr (b := 2) rfl rfl rfl (by omega) (by omega)) rfl rfl ?_
          refine lV (yIndexSl rfl rfl S41 (by omega) (by omega)) rfl rfl ?_
          refine lE rfl ?_
          refine eStoreL 3 rfl rfl rfl rfl K3 rfl (way_fits hgl) ?_
          refine lNil ?_
          rw [way_wr hgl (wV_rev hge.symm h82) fun g' hg' => wV_other (by rw [← hge]; omega)]
          refine kInN ?_
          refine kThen ?_
          refine kRegion rfl ?_
          refine lV (yAdd rfl rfl (by omega)) rfl rfl ?_
          refine lV (yMove rfl) rfl rfl ?_
          refine lNil ?_
          exact kRoundX (k + 1) (by omega) (by omega) rfl (.c rfl .n) (.c rfl (.c rfl (.c rfl (.c rfl (.c rfl (.c rfl (.c rfl (.c rfl (.c rfl (.c rfl (.c rfl (.c rfl (.c rfl (.c rfl (.c rfl (.c rfl (.c rfl (.c rfl (.c rfl (.c rfl (.c rfl (.c rfl (.c rfl (.c rfl (.c rfl (.c rfl (.c rfl (.c rfl (.c rfl (.c rfl (.c rfl (.c rfl (.c rfl (.c rfl (.c rfl (.c rfl (.c rfl (.c rfl (.c rfl (.c rfl (.c rfl (.c rfl (.c rfl (.c rfl (.c rfl (.c rfl (.c rfl (.c rfl (.c rfl (.c rfl (.c rfl (.c rfl (.c rfl (.c rfl (.c rfl (.c rfl .n)))))))))))))))))))))))))))))))))))))))))))))))))))))))) (.c 1 rfl (.c 1 rfl (.c 1 rfl .n)))
        · refine kIfF rfl ?_
          refine kRegion rfl ?_
          refine lV (yMove rfl) rfl rfl ?_
          refine lV (yFieldAddr rfl F49_0) rfl rfl ?_
          refine lV (yLoad1 rfl O3 (cOwn 0 rfl rfl)) rfl rfl ?_
          refine same (t := 92) (u := i64 (((setAt m k).1.toNat : Nat) : Int)) rfl (by rw [hge]; rfl) ?_
          refine lV (yIndexSl rfl rfl S41 (by omega) (by omega)) rfl rfl ?_
          refine lV (yLoad1 rfl O3 (cOwn 3 rfl (way_sub hgl))) rfl rfl ?_
          refine lV (yOr (b := 1) rfl rfl rfl (by omega) (by omega)) rfl rfl ?_
          refine lV (yIndexSl rfl rfl S41 (by omega) (by omega)) rfl rfl ?_
          refine lE rfl ?_
          refine eStoreL 3 rfl rfl rfl rfl K3 rfl (way_fits hgl) ?_
          refine lNil ?_
          rw [way_wr hgl (wV_plain hge.symm h82) fun g' hg' => wV_other (by rw [← hge]; omega)]
          refine kInN ?_
          refine kThen ?_
          refine kRegion rfl ?_
          refine lV (yAdd rfl rfl (by omega)) rfl rfl ?_
          refine lV (yMove rfl) rfl rfl ?_
          refine lNil ?_
          exact kRoundX (k + 1) (by omega) (by omega) rfl (.c rfl .n) (.c rfl (.c rfl (.c rfl (.c rfl (.c rfl (.c rfl (.c rfl (.c rfl (.c rfl (.c rfl (.c rfl (.c rfl (.c rfl (.c rfl (.c rfl (.c rfl (.c rfl (.c rfl (.c rfl (.c rfl (.c rfl (.c rfl (.c rfl (.c rfl (.c rfl (.c rfl (.c rfl (.c rfl (.c rfl (.c rfl (.c rfl (.c rfl (.c rfl (.c rfl (.c rfl (.c rfl (.c rfl (.c rfl (.c rfl (.c rfl (.c rfl (.c rfl (.c rfl (.c rfl (.c rfl (.c rfl (.c rfl (.c rfl (.c rfl (.c rfl (.c rfl (.c rfl (.c rfl (.c rfl (.c rfl (.c rfl .n)))))))))))))))))))))))))))))))))))))))))))))))))))))))) (.c 1 rfl (.c 1 rfl (.c 1 rfl .n)))
      · refine kIfF rfl ?_
        refine kExit ?_
        refine kThenX ?_
        refine kThenX ?_
        refine kInX ?_
        refine kThen ?_
        refine kSeq ?_
        refine kSeq ?_
        obtain rfl : k = m.sets.length := by omega
        refine kRegion rfl ?_
        refine lV (yMove rfl) rfl rfl ?_
        refine lV (yLen rfl S41) rfl rfl ?_
        refine lV (yMove rfl) rfl rfl ?_
        refine lNil ?_
        refine kThen ?_
        refine kBlock ?_
        refine kLoopX (ι := Nat) (fun i => i ≤ m.images.toNat) (fun i => [(100, i64 (i : Nat))]) [(0, _), (1, _), (30, _), (31, _), (32, _), (33, _), (34, _), (35, _), (36, _), (39, _), (40, _), (38, _), (41, _), (42, _), (3, _), (4, _), (44, _), (45, _), (43, _), (46, _), (47, _), (5, _), (6, _), (49, _), (50, _), (48, _), (51, _), (52, _), (7, _), (8, _), (53, _), (54, _), (55, _), (56, _), (57, _), (58, _), (59, _), (60, _), (61, _), (62, _), (63, _), (64, _), (65, _), (66, _), (67, _), (68, _), (69, _), (70, _), (71, _), (72, _), (73, _), (9, _), (74, _), (75, _), (76, _), (77, _), (78, _), (98, _), (99, _)] (fun i => []) (fun i => []) [(n7, _), (n1, _), (nW, _)] (fun i => m.images.toNat - i) 0 (Nat.zero_le _) rfl (.c rfl .n) (.c rfl (.c rfl (.c rfl (.c rfl (.c rfl (.c rfl (.c rfl (.c rfl (.c rfl (.c rfl (.c rfl (.c rfl (.c rfl (.c rfl (.c rfl (.c rfl (.c rfl (.c rfl (.c rfl (.c rfl (.c rfl (.c rfl (.c rfl (.c rfl (.c rfl (.c rfl (.c rfl (.c rfl (.c rfl (.c rfl (.c rfl (.c rfl (.c rfl (.c rfl (.c rfl (.c rfl (.c rfl (.c rfl (.c rfl (.c rfl (.c rfl (.c rfl (.c rfl (.c rfl (.c rfl (.c rfl (.c rfl (.c rfl (.c rfl (.c rfl (.c rfl (.c rfl (.c rfl (.c rfl (.c rfl (.c rfl (.c rfl (.c rfl (.c rfl .n))))))))))))))))))))))))))))))))))))))))))))))))))))))))))) (.c 0 rfl (.c 0 rfl (.c 0 rfl .n))) ?_
        rintro i hi
        refine kSeq ?_
        refine kRegion rfl ?_
        refine lV (yLss rfl rfl) rfl rfl ?_
        refine lNil ?_
        refine kThen ?_
        refine kSeq ?_
        refine split (t := 101) rfl (fun h101 => ?_) (fun h101 => ?_)
        · refine kIfT rfl ?_
          refine kSkip ?_
          refine kThen ?_
          refine kSeq ?_
          refine kBlock ?_
          refine kSeq ?_
          refine kRegion rfl ?_
          refine lV (yMove rfl) rfl rfl ?_
          refine lV (yIndexSl rfl rfl S41 (by omega) (by omega)) rfl rfl ?_
          refine lV (yLoad1 rfl O3 (cOwn 2 rfl (way_sub (by omega)))) rfl rfl ?_
          refine lV (yAssign rfl) rfl rfl ?_
          refine lV (yAssign rfl) rfl rfl ?_
          refine lNil ?_
          refine kThen ?_
          refine kSeq ?_
          refine kRegion rfl ?_
          refine lV (yMove rfl) rfl rfl ?_
          refine lV (yMove rfl) rfl rfl ?_
          refine lV (yShr rfl rfl rfl (by omega)) rfl rfl ?_
          refine lV (yAnd (b := 1) rfl rfl rfl (by have := Nat.div_le_self (onceX m) (2 ^ i); omega) (by have := Nat.div_le_self (onceX m) (2 ^ i); omega)) rfl rfl ?_
          refine lV (yEql rfl rfl) rfl rfl ?_
          refine knownB (t := 109) (c := (onceX m).testBit i) rfl (bit_dec _ _) ?_
          refine lV (yMove rfl) rfl rfl ?_
          refine lV (yEql rfl rfl) rfl rfl ?_
          refine lV (yMove rfl) rfl rfl ?_
          refine split (t := 112) rfl (fun h112 => ?_) (fun h112 => ?_)
          · refine lGN rfl rfl rfl rfl rfl ?_
            refine lGN rfl rfl rfl rfl rfl ?_
            refine lV (yPickT rfl rfl) rfl rfl ?_
            refine lV (yNeBool rfl rfl U4) rfl rfl ?_
            refine knownN (t := 116) rfl (fun h => h (way_T hM h112)) ?_
            refine lNil ?_
            refine kThen ?_
            refine kIfF rfl ?_
            refine kSkip ?_
            refine kInN ?_
            refine kThen ?_
            refine kRegion rfl ?_
            refine lV (yAdd rfl rfl (by omega)) rfl rfl ?_
            refine lV (yMove rfl) rfl rfl ?_
            refine lNil ?_
            exact kRoundX (i + 1) (by omega) (by omega) rfl (.c rfl .n) (.c rfl (.c rfl (.c rfl (.c rfl (.c rfl (.c rfl (.c rfl (.c rfl (.c rfl (.c rfl (.c rfl (.c rfl (.c rfl (.c rfl (.c rfl (.c rfl (.c rfl (.c rfl (.c rfl (.c rfl (.c rfl (.c rfl (.c rfl (.c rfl (.c rfl (.c rfl (.c rfl (.c rfl (.c rfl (.c rfl (.c rfl (.c rfl (.c rfl (.c rfl (.c rfl (.c rfl (.c rfl (.c rfl (.c rfl (.c rfl (.c rfl (.c rfl (.c rfl (.c rfl (.c rfl (.c rfl (.c rfl (.c rfl (.c rfl (.c rfl (.c rfl (.c rfl (.c rfl (.c rfl (.c rfl (.c rfl (.c rfl (.c rfl (.c rfl .n))))))))))))))))))))))))))))))))))))))))))))))))))))))))))) (.c 0 rfl (.c 0 rfl (.c 0 rfl .n)))
          · refine lGY rfl rfl rfl (oV (yMove rfl) rfl ?_)
            refine lGY rfl rfl rfl (oV (yEql rfl rfl) rfl ?_)
            refine lV (yPickF rfl rfl) rfl rfl ?_
            refine lV (yNeBool rfl rfl U4) rfl rfl ?_
            refine knownN (t := 116) rfl (fun h => h (way_F hM h112)) ?_
            refine lNil ?_
            refine kThen ?_
            refine kIfF rfl ?_
            refine kSkip ?_
            refine kInN ?_
            refine kThen ?_
            refine kRegion rfl ?_
            refine lV (yAdd rfl rfl (by omega)) rfl rfl ?_
            refine lV (yMove rfl) rfl rfl ?_
            refine lNil ?_
            exact kRoundX (i + 1) (by omega) (by omega) rfl (.c rfl .n) (.c rfl (.c rfl (.c rfl (.c rfl (.c rfl (.c rfl (.c rfl (.c rfl (.c rfl (.c rfl (.c rfl (.c rfl (.c rfl (.c rfl (.c rfl (.c rfl (.c rfl (.c rfl (.c rfl (.c rfl (.c rfl (.c rfl (.c rfl (.c rfl (.c rfl (.c rfl (.c rfl (.c rfl (.c rfl (.c rfl (.c rfl (.c rfl (.c rfl (.c rfl (.c rfl (.c rfl (.c rfl (.c rfl (.c rfl (.c rfl (.c rfl (.c rfl (.c rfl (.c rfl (.c rfl (.c rfl (.c rfl (.c rfl (.c rfl (.c rfl (.c rfl (.c rfl (.c rfl (.c rfl (.c rfl (.c rfl (.c rfl (.c rfl (.c rfl .n))))))))))))))))))))))))))))))))))))))))))))))))))))))))))) (.c 0 rfl (.c 0 rfl (.c 0 rfl .n)))
        · refine kIfF rfl ?_
          refine kExit ?_
          refine kThenX ?_
          refine kThenX ?_
          refine kInX ?_
          refine kThen ?_
          refine kSeq ?_
          refine kSeq ?_
          by_cases ho : okF m
          · rw [idleE_ok hM ho]
            refine kRegion rfl ?_
            refine lV (yMove rfl) rfl rfl ?_
            refine lV (yNeq rfl rfl) rfl rfl ?_
            refine knownN (t := 119) rfl (fun h => h rfl) ?_
            refine lNil ?_
            refine kThen ?_
            refine kIfF rfl ?_
            refine kSkip ?_
            refine kThen ?_
            refine kSeq ?_
            have hFc : canF m (fullS m) = true := (okF_can m).1 ho
            refine kRegion rfl ?_
            refine lV (yFieldAddr rfl F29_3) rfl rfl ?_
            refine lV (yLoad1 rfl O27 (cOwn 1 rfl rfl)) rfl rfl ?_
            refine lV (yLen rfl S27) rfl rfl ?_
            refine lV (yShl (a := 1) rfl rfl rfl (by omega) (by omega)) rfl rfl ?_
            refine lV (ySub rfl rfl (by omega)) rfl rfl ?_
            refine same (t := 133) (u := i64 ((fullS m : Nat) : Int)) rfl (by unfold fullS; congr 1; omega) ?_
            refine lV (yAssign rfl) rfl rfl ?_
            refine lNil ?_
            refine kThen ?_
            refine kSeq ?_
            refine kSeq ?_
            refine kRegion rfl ?_
            refine lV (yMove rfl) rfl rfl ?_
            refine lV (yLss rfl rfl) rfl rfl ?_
            refine knownN (t := 135) rfl (by omega) ?_
            refine lV (yMove rfl) rfl rfl ?_
            refine lGY rfl rfl rfl (oV (yMove rfl) rfl ?_)
            refine lGY rfl rfl rfl (oV (yMove rfl) rfl ?_)
            refine lGY rfl rfl rfl (oV (yGtr rfl rfl) rfl ?_)
            refine knownN (t := 139) rfl (by unfold fullS; omega) ?_
            refine lV (yPickF rfl rfl) rfl rfl ?_
            refine lNil ?_
            refine kThen ?_
            refine kIfF rfl ?_
            refine kSkip ?_
            refine kThen ?_
            refine kSeq ?_
            refine kSeq ?_
            refine kRegion rfl ?_
            refine lV (yFieldAddr rfl F29_3) rfl rfl ?_
            refine lV (yLoad1 rfl O27 (cOwn 1 rfl rfl)) rfl rfl ?_
            refine lV (yLen rfl S27) rfl rfl ?_
            refine lV (yMove rfl) rfl rfl ?_
            refine lNil ?_
            refine kThen ?_
            refine kBlock ?_
            refine kLoopX (ι := Nat) (fun n => n ≤ m.sets.length) (fun n => [(144, i64 (n : Nat))]) [(0, _), (1, _), (30, _), (31, _), (32, _), (33, _), (34, _), (35, _), (36, _), (39, _), (40, _), (38, _), (41, _), (42, _), (3, _), (4, _), (44, _), (45, _), (43, _), (46, _), (47, _), (5, _), (6, _), (49, _), (50, _), (48, _), (51, _), (52, _), (7, _), (8, _), (53, _), (54, _), (55, _), (56, _), (57, _), (58, _), (59, _), (60, _), (61, _), (62, _), (63, _), (64, _), (65, _), (66, _), (67, _), (68, _), (69, _), (70, _), (71, _), (72, _), (73, _), (9, _), (74, _), (75, _), (76, _), (77, _), (78, _), (98, _), (99, _), (100, _), (101, _), (118, _), (119, _), (129, _), (130, _), (131, _), (132, _), (133, _), (14, _), (134, _), (135, _), (136, _), (137, _), (138, _), (139, _), (140, _), (141, _), (142, _), (143, _)] (fun n => []) (fun n => []) [(n7, _), (n1, _), (nW, _)] (fun n => m.sets.length - n) 0 (Nat.zero_le _) rfl (.c rfl .n) (.c rfl (.c rfl (.c rfl (.c rfl (.c rfl (.c rfl (.c rfl (.c rfl (.c rfl (.c rfl (.c rfl (.c rfl (.c rfl (.c rfl (.c rfl (.c rfl (.c rfl (.c rfl (.c rfl (.c rfl (.c rfl (.c rfl (.c rfl (.c rfl (.c rfl (.c rfl (.c rfl (.c rfl (.c rfl (.c rfl (.c rfl (.c rfl (.c rfl (.c rfl (.c rfl (.c rfl (.c rfl (.c rfl (.c rfl (.c rfl (.c rfl (.c rfl (.c rfl (.c rfl (.c rfl (.c rfl (.c rfl (.c rfl (.c rfl (.c rfl (.c rfl (.c rfl (.c rfl (.c rfl (.c rfl (.c rfl (.c rfl (.c rfl (.c rfl (.c rfl (.c rfl (.c rfl (.c rfl (.c rfl (.c rfl (.c rfl (.c rfl (.c rfl (.c rfl (.c rfl (.c rfl (.c rfl (.c rfl (.c rfl (.c rfl (.c rfl (.c rfl (.c rfl (.c rfl .n))))))))))))))))))))))))))))))))))))))))))))))))))))))))))))))))))))))))))))))) (.c 0 rfl (.c 0 rfl (.c 0 rfl .n))) ?_
            rintro n hnn
            refine kSeq ?_
            refine kRegion rfl ?_
            refine lV (yLss rfl rfl) rfl rfl ?_
            refine lNil ?_
            refine kThen ?_
            refine kSeq ?_
            refine split (t := 145) rfl (fun h145 => ?_) (fun h145 => ?_)
            · refine kIfT rfl ?_
              refine kSkip ?_
              refine kThen ?_
              refine kSeq ?_
              refine kBlock ?_
              refine kSeq ?_
              by_cases hbt : bEqB (tightB m (lessS m n)) (tightB m (fullS m)) = true
              · have hpn : 1 * 2 ^ n ≤ 2 ^ 12 := by rw [Nat.one_mul]; exact Nat.pow_le_pow_right (by omega) (by omega)
                have hll := less_lt (a := fullS m) (b := 1 * 2 ^ n) (n := 12) (by omega)
                have hP := part_ok hM (lessS m n)
                refine kRegion rfl ?_
                refine lV (yMove rfl) rfl rfl ?_
                refine lV (yAssign rfl) rfl rfl ?_
                refine lNil ?_
                refine kThen ?_
                refine kSeq ?_
                refine kCutX (ι := Nat × Own) (fun z => OS 3 z.2 ((partL m (lessS m n) m.sets.length).map rowS)) (fun z => [(16, .pointer (some ⟨z.1, 0, none⟩))]) [(0, _), (1, _), (30, _), (31, _), (32, _), (33, _), (34, _), (35, _), (36, _), (39, _), (40, _), (38, _), (41, _), (42, _), (3, _), (4, _), (44, _), (45, _), (43, _), (46, _), (47, _), (5, _), (6, _), (49, _), (50, _), (48, _), (51, _), (52, _), (7, _), (8, _), (53, _), (54, _), (55, _), (56, _), (57, _), (58, _), (59, _), (60, _), (61, _), (62, _), (63, _), (64, _), (65, _), (66, _), (67, _), (68, _), (69, _), (70, _), (71, _), (72, _), (73, _), (9, _), (74, _), (75, _), (76, _), (77, _), (78, _), (98, _), (99, _), (100, _), (101, _), (118, _), (119, _), (129, _), (130, _), (131, _), (132, _), (133, _), (14, _), (134, _), (135, _), (136, _), (137, _), (138, _), (139, _), (140, _), (141, _), (142, _), (143, _), (144, _), (145, _), (146, _), (15, _)] (fun z => []) (fun z => ([(z.1, blk (measC (locG y z.2) (partM m (lessS m n))) 29)] ++ osL 49 z.2)) [(n7, _), (n1, _), (nW, _)] (.c rfl (.c rfl (.c rfl (.c rfl (.c rfl (.c rfl (.c rfl (.c rfl (.c rfl (.c rfl (.c rfl (.c rfl (.c rfl (.c rfl (.c rfl (.c rfl (.c rfl (.c rfl (.c rfl (.c rfl (.c rfl (.c rfl (.c rfl (.c rfl (.c rfl (.c rfl (.c rfl (.c rfl (.c rfl (.c rfl (.c rfl (.c rfl (.c rfl (.c rfl (.c rfl (.c rfl (.c rfl (.c rfl (.c rfl (.c rfl (.c rfl (.c rfl (.c rfl (.c rfl (.c rfl (.c rfl (.c rfl (.c rfl (.c rfl (.c rfl (.c rfl (.c rfl (.c rfl (.c rfl (.c rfl (.c rfl (.c rfl (.c rfl (.c rfl (.c rfl (.c rfl (.c rfl (.c rfl (.c rfl (.c rfl (.c rfl (.c rfl (.c rfl (.c rfl (.c rfl (.c rfl (.c rfl (.c rfl (.c rfl (.c rfl (.c rfl (.c rfl (.c rfl (.c rfl (.c rfl (.c rfl (.c rfl (.c rfl .n))))))))))))))))))))))))))))))))))))))))))))))))))))))))))))))))))))))))))))))))))) (.c 0 rfl (.c 0 rfl (.c 0 rfl .n))) ?_ (fun z hg => ?_)
                · refine kDrawE [(0, none)] [] [0, 1, 2, 3, 4] 3 hMix (by kernel_rfl) ?_
                  refine .run rfl (yLoadA (vs := [_, _, _, _, _, _, _]) rfl A29 (cOwn 1 rfl rfl)) rfl rfl ?_
                  refine .run rfl (yMove rfl) rfl rfl ?_
                  refine .run rfl (yMove rfl) rfl rfl ?_
                  refine .run rfl (yShl (a := 1) rfl rfl rfl (by omega) (by omega)) rfl rfl ?_
                  refine .run rfl (yAndNot rfl rfl rfl (by omega) (by omega)) rfl rfl ?_
                  refine .done ?_
                  refine effStep 5 [6] (by kernel_rfl) closedSt (hLeft [0] (by kernel_rfl) (.c (fun _ _ hs => hs.ef) .n)) ?_
                  refine (.c ?_ (.c ?_ .n))
                  · refine effOne rfl (gNone rfl (fCallO rfl (.c rfl (.c rfl .n)) C32 (fun w hw => part_any y m (lessS m n) w (hm.eff hw) (by show less (fullS m) (1 * 2 ^ n) < _; omega) (by omega)))) ?_
                    refine effStep 6 [] (by kernel_rfl) (closedEx fun gx => closedSt) (hLeft [] (by kernel_rfl) .n) ?_
                    refine .c ?_ .n
                    refine effOne rfl (opEx fun gx => (gNone rfl (fAlloc Z29))) ?_
                    refine effStep 7 [] (by kernel_rfl) (closedEx fun gx => (closedEx fun n16 => closedSt)) (hLeft [] (by kernel_rfl) .n) ?_
                    refine .c ?_ .n
                    refine effOne rfl (opEx fun gx => (opEx fun n16 => (gNone rfl (fStoreL 0 rfl rfl rfl rfl K29 rfl (rfl))))) ?_
                    refine effDone (closedEx fun gx => (closedEx fun n16 => closedSt)) (hLeft [] (by kernel_rfl) .n) (by kernel_rfl) ?_
                    refine trEx fun gx => ?_
                    refine trEx fun n16 => ?_
                    exact kMeetX ((n16, gx.1)) (gx.2) rfl (.c rfl .n) (.c rfl (.c rfl (.c rfl (.c rfl (.c rfl (.c rfl (.c rfl (.c rfl (.c rfl (.c rfl (.c rfl (.c rfl (.c rfl (.c rfl (.c rfl (.c rfl (.c rfl (.c rfl (.c rfl (.c rfl (.c rfl (.c rfl (.c rfl (.c rfl (.c rfl (.c rfl (.c rfl (.c rfl (.c rfl (.c rfl (.c rfl (.c rfl (.c rfl (.c rfl (.c rfl (.c rfl (.c rfl (.c rfl (.c rfl (.c rfl (.c rfl (.c rfl (.c rfl (.c rfl (.c rfl (.c rfl (.c rfl (.c rfl (.c rfl (.c rfl (.c rfl (.c rfl (.c rfl (.c rfl (.c rfl (.c rfl (.c rfl (.c rfl (.c rfl (.c rfl (.c rfl (.c rfl (.c rfl (.c rfl (.c rfl (.c rfl (.c rfl (.c rfl (.c rfl (.c rfl (.c rfl (.c rfl (.c rfl (.c rfl (.c rfl (.c rfl (.c rfl (.c rfl (.c rfl (.c rfl (.c rfl (.c rfl (.c rfl .n))))))))))))))))))))))))))))))))))))))))))))))))))))))))))))))))))))))))))))))))))) (.c 1 rfl (.c 1 rfl (.c 1 rfl (.c 0 rfl .r))))
                  · refine effOne rfl (gNone rfl (fAlloc Z29)) ?_
                    refine effStep 5 [] (by kernel_rfl) (closedEx fun n16 => closedSt) (hLeft [0] (by kernel_rfl) (.c (fun _ _ ⟨n16, hs⟩ => hs.ef.sub (.c 1 rfl (.c 1 rfl (.c 1 rfl .n)))) .n)) ?_
                    refine .c ?_ .n
                    refine effOne rfl (opEx fun n16 => (gNone rfl (fCallO rfl (.c rfl (.c rfl .n)) C32 (fun w hw => part_any y m (lessS m n) w (hm.eff hw) (by show less (fullS m) (1 * 2 ^ n) < _; omega) (by omega))))) ?_
                    refine effStep 7 [] (by kernel_rfl) (closedEx fun n16 => (closedEx fun gx => closedSt)) (hLeft [] (by kernel_rfl) .n) ?_
                    refine .c ?_ .n
                    refine effOne rfl (opEx fun n16 => (opEx fun gx => (gNone rfl (fStoreL 0 rfl rfl rfl rfl K29 rfl (rfl))))) ?_
                    refine effDone (closedEx fun n16 => (closedEx fun gx => closedSt)) (hLeft [] (by kernel_rfl) .n) (by kernel_rfl) ?_
                    refine trEx fun n16 => ?_
                    refine trEx fun gx => ?_
                    exact kMeetX ((n16, gx.1)) (gx.2) rfl (.c rfl .n) (.c rfl (.c rfl (.c rfl (.c rfl (.c rfl (.c rfl (.c rfl (.c rfl (.c rfl (.c rfl (.c rfl (.c rfl (.c rfl (.c rfl (.c rfl (.c rfl (.c rfl (.c rfl (.c rfl (.c rfl (.c rfl (.c rfl (.c rfl (.c rfl (.c rfl (.c rfl (.c rfl (.c rfl (.c rfl (.c rfl (.c rfl (.c rfl (.c rfl (.c rfl (.c rfl (.c rfl (.c rfl (.c rfl (.c rfl (.c rfl (.c rfl (.c rfl (.c rfl (.c rfl (.c rfl (.c rfl (.c rfl (.c rfl (.c rfl (.c rfl (.c rfl (.c rfl (.c rfl (.c rfl (.c rfl (.c rfl (.c rfl (.c rfl (.c rfl (.c rfl (.c rfl (.c rfl (.c rfl (.c rfl (.c rfl (.c rfl (.c rfl (.c rfl (.c rfl (.c rfl (.c rfl (.c rfl (.c rfl (.c rfl (.c rfl (.c rfl (.c rfl (.c rfl (.c rfl (.c rfl (.c rfl (.c rfl (.c rfl .n))))))))))))))))))))))))))))))))))))))))))))))))))))))))))))))))))))))))))))))))))) (.c 1 rfl (.c 1 rfl (.c 1 rfl (.c 0 rfl .r))))
                · obtain ⟨n16, g⟩ := z
                  dsimp only at hg ⊢
                  refine kSeq ?_
                  have hsF := (idle_same hM hFc).1 hbt
                  obtain ⟨hs1, hs2, hs3⟩ := part_same hM ho hsF
                  have hbit : ((idleW m m.sets.length / 2 ^ n &&& 1 : Nat) : Int) = 1 := (bit_iff _ n).2 (by rw [idleW_bit, hbt, decide_eq_true (show n < m.sets.length by omega)]; rfl)
                  refine kRegion rfl ?_
                  refine lV (yLoadA (vs := [_, _, _, _, _, _, _]) rfl A29 (cOwn 3 rfl rfl)) rfl rfl ?_
                  refine lV (yCall rfl (.c rfl .n) C18 (fun w hw => sum_any (locG y g) (partM m (lessS m n)) w ⟨(hm.eff hw).e, OS.rowsE (f := rowS) (0, 0, false) hg hw (.d 0 (.d 0 (.d 0 (.d 0 .r))))⟩)) rfl rfl ?_
                  refine same (t := 155) (u := outC (sumE m)) rfl (by rw [hs1]) ?_
                  refine lV (yMove rfl) rfl rfl ?_
                  refine lV (yExtract rfl rfl) rfl rfl ?_
                  refine lV (yExtract rfl rfl) rfl rfl ?_
                  refine lE rfl ?_
                  refine eAlloc Z24 fun n17 => ?_
                  refine lE rfl ?_
                  refine eStoreL 0 rfl rfl rfl rfl K24 rfl (rfl) ?_
                  refine lV (yAssign rfl) rfl rfl ?_
                  refine lNil ?_
                  refine kThen ?_
                  refine kSeq ?_
                  refine kRegion rfl ?_
                  refine lV (yLoadA (vs := [_, _]) rfl A24 (cOwn 0 rfl rfl)) rfl rfl ?_
                  refine lV (yLoadA (vs := [_, _]) rfl A24 (cOwn 1 rfl rfl)) rfl rfl ?_
                  refine lV (yEqAgg rfl rfl G24 (fun w => Q24 w)) rfl rfl ?_
                  refine known (t := 160) rfl (⟨rfl, rfl⟩) ?_
                  refine lV (yMove rfl) rfl rfl ?_
                  refine lGY rfl rfl rfl (oV (yMove rfl) rfl ?_)
                  refine lGY rfl rfl rfl (oV (yEql rfl rfl) rfl ?_)
                  refine known (t := 163) rfl (sum_code.2 ⟨hM, ho⟩) ?_
                  refine lV (yPickT rfl rfl) rfl rfl ?_
                  refine lV (yAssign rfl) rfl rfl ?_
                  refine lNil ?_
                  refine kThen ?_
                  refine kSeq ?_
                  refine kSeq ?_
                  refine kRegion rfl ?_
                  refine lV (yFieldAddr rfl F29_1) rfl rfl ?_
                  refine lV (yLoad1 rfl O3 (cOwn 2 rfl rfl)) rfl rfl ?_
                  refine lV (yMove rfl) rfl rfl ?_
                  refine lNil ?_
                  refine kThen ?_
                  refine kBlock ?_
                  refine kLoopX (ι := Nat) (fun i => (i : Int) ≤ m.images) (fun i => [(167, i64 (i : Nat)), (19, .bool true)]) [(0, _), (1, _), (30, _), (31, _), (32, _), (33, _), (34, _), (35, _), (36, _), (39, _), (40, _), (38, _), (41, _), (42, _), (3, _), (4, _), (44, _), (45, _), (43, _), (46, _), (47, _), (5, _), (6, _), (49, _), (50, _), (48, _), (51, _), (52, _), (7, _), (8, _), (53, _), (54, _), (55, _), (56, _), (57, _), (58, _), (59, _), (60, _), (61, _), (62, _), (63, _), (64, _), (65, _), (66, _), (67, _), (68, _), (69, _), (70, _), (71, _), (72, _), (73, _), (9, _), (74, _), (75, _), (76, _), (77, _), (78, _), (98, _), (99, _), (100, _), (101, _), (118, _), (119, _), (129, _), (130, _), (131, _), (132, _), (133, _), (14, _), (134, _), (135, _), (136, _), (137, _), (138, _), (139, _), (140, _), (141, _), (142, _), (143, _), (144, _), (145, _), (146, _), (15, _), (16, _), (154, _), (155, _), (153, _), (156, _), (157, _), (17, _), (18, _), (158, _), (159, _), (160, _), (161, _), (162, _), (163, _), (164, _), (165, _), (166, _)] (fun i => []) (fun i => osL 49 g) [(n17, _), (n7, _), (n1, _), (nW, _), (n16, _)] (fun i => m.images.toNat - i) 0 (by omega) rfl (.c rfl (.c rfl .n)) (.c rfl (.c rfl (.c rfl (.c rfl (.c rfl (.c rfl (.c rfl (.c rfl (.c rfl (.c rfl (.c rfl (.c rfl (.c rfl (.c rfl (.c rfl (.c rfl (.c rfl (.c rfl (.c rfl (.c rfl (.c rfl (.c rfl (.c rfl (.c rfl (.c rfl (.c rfl (.c rfl (.c rfl (.c rfl (.c rfl (.c rfl (.c rfl (.c rfl (.c rfl (.c rfl (.c rfl (.c rfl (.c rfl (.c rfl (.c rfl (.c rfl (.c rfl (.c rfl (.c rfl (.c rfl (.c rfl (.c rfl (.c rfl (.c rfl (.c rfl (.c rfl (.c rfl (.c rfl (.c rfl (.c rfl (.c rfl (.c rfl (.c rfl (.c rfl (.c rfl (.c rfl (.c rfl (.c rfl (.c rfl (.c rfl (.c rfl (.c rfl (.c rfl (.c rfl (.c rfl (.c rfl (.c rfl (.c rfl (.c rfl (.c rfl (.c rfl (.c rfl (.c rfl (.c rfl (.c rfl (.c rfl (.c rfl (.c rfl (.c rfl (.c rfl (.c rfl (.c rfl (.c rfl (.c rfl (.c rfl (.c rfl (.c rfl (.c rfl (.c rfl (.c rfl (.c rfl (.c rfl (.c rfl (.c rfl (.c rfl .n)))))))))))))))))))))))))))))))))))))))))))))))))))))))))))))))))))))))))))))))))))))))))))))))))))) (.c 0 rfl (.c 0 rfl (.c 0 rfl (.c 0 rfl (.c 0 rfl .r))))) ?_
                  rintro i hi
                  refine kSeq ?_
                  refine kRegion rfl ?_
                  refine lV (yLss rfl rfl) rfl rfl ?_
                  refine lNil ?_
                  refine kThen ?_
                  refine kSeq ?_
                  refine split (t := 168) rfl (fun h168 => ?_) (fun h168 => ?_)
                  · refine kIfT rfl ?_
                    refine kSkip ?_
                    refine kThen ?_
                    refine kSeq ?_
                    refine kBlock ?_
                    refine kSeq ?_
                    refine kRegion rfl ?_
                    refine lV (yMove rfl) rfl rfl ?_
                    refine lV (yAssign rfl) rfl rfl ?_
                    refine lNil ?_
                    refine kThen ?_
                    refine kSeq ?_
                    refine kRegion rfl ?_
                    refine lV (yLoadA (vs := [_, _, _, _, _, _, _]) rfl A29 (cOwn 2 rfl rfl)) rfl rfl ?_
                    refine lV (yMove rfl) rfl rfl ?_
                    refine lV (yCall rfl (.c rfl (.c rfl .n)) C20 (fun w hw => place_any y m (i : Nat) w (hm.eff hw))) rfl rfl ?_
                    refine lV (yMove rfl) rfl rfl ?_
                    refine lV (yExtract rfl rfl) rfl rfl ?_
                    refine lV (yExtract rfl rfl) rfl rfl ?_
                    refine lE rfl ?_
                    refine eAlloc Z24 fun n21 => ?_
                    refine lE rfl ?_
                    refine eStoreL 0 rfl rfl rfl rfl K24 rfl (rfl) ?_
                    refine lV (yAssign rfl) rfl rfl ?_
                    refine lNil ?_
                    refine kThen ?_
                    refine kSeq ?_
                    refine kRegion rfl ?_
                    refine lV (yLoadA (vs := [_, _, _, _, _, _, _]) rfl A29 (cOwn 5 rfl rfl)) rfl rfl ?_
                    refine lV (yMove rfl) rfl rfl ?_
                    refine lV (yCall rfl (.c rfl (.c rfl .n)) C20 (fun w hw => place_any (locG y g) (partM m (lessS m n)) (i : Nat) w ⟨(hm.eff hw).e, OS.rowsE (f := rowS) (0, 0, false) hg hw (.d 0 (.d 0 (.d 0 (.d 0 (.d 0 (.d 0 .r))))))⟩)) rfl rfl ?_
                    refine same (t := 179) (u := outC (placeE m (i : Nat))) rfl (by rw [hs2]) ?_
                    refine lV (yMove rfl) rfl rfl ?_
                    refine lV (yExtract rfl rfl) rfl rfl ?_
                    refine lV (yExtract rfl rfl) rfl rfl ?_
                    refine lE rfl ?_
                    refine eAlloc Z24 fun n23 => ?_
                    refine lE rfl ?_
                    refine eStoreL 0 rfl rfl rfl rfl K24 rfl (rfl) ?_
                    refine lV (yAssign rfl) rfl rfl ?_
                    refine lNil ?_
                    refine kThen ?_
                    refine kSeq ?_
                    refine kRegion rfl ?_
                    refine lV (yMove rfl) rfl rfl ?_
                    refine lV (yMove rfl) rfl rfl ?_
                    refine lGY rfl rfl rfl (oV (yLoadA (vs := [_, _]) rfl A24 (cOwn 1 rfl rfl)) rfl ?_)
                    refine lGY rfl rfl rfl (oV (yLoadA (vs := [_, _]) rfl A24 (cOwn 0 rfl rfl)) rfl ?_)
                    refine lGY rfl rfl rfl (oV (yEqAgg rfl rfl G24 (fun w => Q24 w)) rfl ?_)
                    refine known (t := 186) rfl (⟨rfl, rfl⟩) ?_
                    refine lV (yPickT rfl rfl) rfl rfl ?_
                    refine lV (yMove rfl) rfl rfl ?_
                    refine lGY rfl rfl rfl (oV (yMove rfl) rfl ?_)
                    refine lGY rfl rfl rfl (oV (yMove rfl) rfl ?_)
                    refine lGY rfl rfl rfl (oV (yEql rfl rfl) rfl ?_)
                    refine known (t := 191) rfl (rfl) ?_
                    refine lV (yPickT rfl rfl) rfl rfl ?_
                    refine lV (yAssign rfl) rfl rfl ?_
                    refine lNil ?_
                    refine kThen ?_
                    refine kSeq ?_
                    refine kRegion rfl ?_
                    refine lV (yFieldAddr rfl F29_1) rfl rfl ?_
                    refine lV (yLoad1 rfl O3 (cOwn 4 rfl rfl)) rfl rfl ?_
                    refine lV (yMove rfl) rfl rfl ?_
                    refine lNil ?_
                    refine kThen ?_
                    refine kBlock ?_
                    refine kLoopX (ι := Nat) (fun l => (l : Int) ≤ m.images) (fun l => [(195, i64 (l : Nat)), (19, .bool true)]) [(0, _), (1, _), (30, _), (31, _), (32, _), (33, _), (34, _), (35, _), (36, _), (39, _), (40, _), (38, _), (41, _), (42, _), (3, _), (4, _), (44, _), (45, _), (43, _), (46, _), (47, _), (5, _), (6, _), (49, _), (50, _), (48, _), (51, _), (52, _), (7, _), (8, _), (53, _), (54, _), (55, _), (56, _), (57, _), (58, _), (59, _), (60, _), (61, _), (62, _), (63, _), (64, _), (65, _), (66, _), (67, _), (68, _), (69, _), (70, _), (71, _), (72, _), (73, _), (9, _), (74, _), (75, _), (76, _), (77, _), (78, _), (98, _), (99, _), (100, _), (101, _), (118, _), (119, _), (129, _), (130, _), (131, _), (132, _), (133, _), (14, _), (134, _), (135, _), (136, _), (137, _), (138, _), (139, _), (140, _), (141, _), (142, _), (143, _), (144, _), (145, _), (146, _), (15, _), (16, _), (154, _), (155, _), (153, _), (156, _), (157, _), (17, _), (18, _), (158, _), (159, _), (160, _), (161, _), (162, _), (163, _), (164, _), (165, _), (166, _), (167, _), (168, _), (169, _), (20, _), (171, _), (172, _), (173, _), (170, _), (174, _), (175, _), (21, _), (22, _), (177, _), (178, _), (179, _), (176, _), (180, _), (181, _), (23, _), (24, _), (182, _), (183, _), (184, _), (185, _), (186, _), (187, _), (188, _), (189, _), (190, _), (191, _), (192, _), (193, _), (194, _)] (fun l => []) (fun l => osL 49 g) [(n23, _), (n21, _), (n17, _), (n7, _), (n1, _), (nW, _), (n16, _)] (fun l => m.images.toNat - l) 0 (by omega) rfl (.c rfl (.c rfl .n)) (.c rfl (.c rfl (.c rfl (.c rfl (.c rfl (.c rfl (.c rfl (.c rfl (.c rfl (.c rfl (.c rfl (.c rfl (.c rfl (.c rfl (.c rfl (.c rfl (.c rfl (.c rfl (.c rfl (.c rfl (.c rfl (.c rfl (.c rfl (.c rfl (.c rfl (.c rfl (.c rfl (.c rfl (.c rfl (.c rfl (.c rfl (.c rfl (.c rfl (.c rfl (.c rfl (.c rfl (.c rfl (.c rfl (.c rfl (.c rfl (.c rfl (.c rfl (.c rfl (.c rfl (.c rfl (.c rfl (.c rfl (.c rfl (.c rfl (.c rfl (.c rfl (.c rfl (.c rfl (.c rfl (.c rfl (.c rfl (.c rfl (.c rfl (.c rfl (.c rfl (.c rfl (.c rfl (.c rfl (.c rfl (.c rfl (.c rfl (.c rfl (.c rfl (.c rfl (.c rfl (.c rfl (.c rfl (.c rfl (.c rfl (.c rfl (.c rfl (.c rfl (.c rfl (.c rfl (.c rfl (.c rfl (.c rfl (.c rfl (.c rfl (.c rfl (.c rfl (.c rfl (.c rfl (.c rfl (.c rfl (.c rfl (.c rfl (.c rfl (.c rfl (.c rfl (.c rfl (.c rfl (.c rfl (.c rfl (.c rfl (.c rfl (.c rfl (.c rfl (.c rfl (.c rfl (.c rfl (.c rfl (.c rfl (.c rfl (.c rfl (.c rfl (.c rfl (.c rfl (.c rfl (.c rfl (.c rfl (.c rfl (.c rfl (.c rfl (.c rfl (.c rfl (.c rfl (.c rfl (.c rfl (.c rfl (.c rfl (.c rfl (.c rfl (.c rfl (.c rfl (.c rfl (.c rfl (.c rfl .n))))))))))))))))))))))))))))))))))))))))))))))))))))))))))))))))))))))))))))))))))))))))))))))))))))))))))))))))))))))))))))))))))))) (.c 0 rfl (.c 0 rfl (.c 0 rfl (.c 0 rfl (.c 0 rfl (.c 0 rfl (.c 0 rfl .r))))))) ?_
                    rintro l hl
                    refine kSeq ?_
                    refine kRegion rfl ?_
                    refine lV (yLss rfl rfl) rfl rfl ?_
                    refine lNil ?_
                    refine kThen ?_
                    refine kSeq ?_
                    refine split (t := 196) rfl (fun h196 => ?_) (fun h196 => ?_)
                    · refine kIfT rfl ?_
                      refine kSkip ?_
                      refine kThen ?_
                      refine kSeq ?_
                      refine kBlock ?_
                      refine kSeq ?_
                      refine kRegion rfl ?_
                      refine lV (yMove rfl) rfl rfl ?_
                      refine lV (yAssign rfl) rfl rfl ?_
                      refine lNil ?_
                      refine kThen ?_
                      refine kSeq ?_
                      refine kRegion rfl ?_
                      refine lV (yLoadA (vs := [_, _, _, _, _, _, _]) rfl A29 (cOwn 4 rfl rfl)) rfl rfl ?_
                      refine lV (yMove rfl) rfl rfl ?_
                      refine lV (yMove rfl) rfl rfl ?_
                      refine lV (yCall rfl (.c rfl (.c rfl (.c rfl .n))) C22 (fun w hw => apart_any y m (i : Nat) (l : Nat) w (hm.eff hw))) rfl rfl ?_
                      refine lV (yMove rfl) rfl rfl ?_
                      refine lV (yExtract rfl rfl) rfl rfl ?_
                      refine lV (yExtract rfl rfl) rfl rfl ?_
                      refine lE rfl ?_
                      refine eAlloc Z24 fun n26 => ?_
                      refine lE rfl ?_
                      refine eStoreL 0 rfl rfl rfl rfl K24 rfl (rfl) ?_
                      refine lV (yAssign rfl) rfl rfl ?_
                      refine lNil ?_
                      refine kThen ?_
                      refine kSeq ?_
                      refine kRegion rfl ?_
                      refine lV (yLoadA (vs := [_, _, _, _, _, _, _]) rfl A29 (cOwn 7 rfl rfl)) rfl rfl ?_
                      refine lV (yMove rfl) rfl rfl ?_
                      refine lV (yMove rfl) rfl rfl ?_
                      refine lV (yCall rfl (.c rfl (.c rfl (.c rfl .n))) C22 (fun w hw => apart_any (locG y g) (partM m (lessS m n)) (i : Nat) (l : Nat) w ⟨(hm.eff hw).e, OS.rowsE (f := rowS) (0, 0, false) hg hw (.d 0 (.d 0 (.d 0 (.d 0 (.d 0 (.d 0 (.d 0 (.d 0 .r))))))))⟩)) rfl rfl ?_
                      refine same (t := 209) (u := outC (apartE m (i : Nat) (l : Nat))) rfl (by rw [hs3]) ?_
                      refine lV (yMove rfl) rfl rfl ?_
                      refine lV (yExtract rfl rfl) rfl rfl ?_
                      refine lV (yExtract rfl rfl) rfl rfl ?_
                      refine lE rfl ?_
                      refine eAlloc Z24 fun n28 => ?_
                      refine lE rfl ?_
                      refine eStoreL 0 rfl rfl rfl rfl K24 rfl (rfl) ?_
                      refine lV (yAssign rfl) rfl rfl ?_
                      refine lNil ?_
                      refine kThen ?_
                      refine kRegion rfl ?_
                      refine lV (yMove rfl) rfl rfl ?_
                      refine lV (yMove rfl) rfl rfl ?_
                      refine lGY rfl rfl rfl (oV (yLoadA (vs := [_, _]) rfl A24 (cOwn 1 rfl rfl)) rfl ?_)
                      refine lGY rfl rfl rfl (oV (yLoadA (vs := [_, _]) rfl A24 (cOwn 0 rfl rfl)) rfl ?_)
                      refine lGY rfl rfl rfl (oV (yEqAgg rfl rfl G24 (fun w => Q24 w)) rfl ?_)
                      refine known (t := 216) rfl (⟨rfl, rfl⟩) ?_
                      refine lV (yPickT rfl rfl) rfl rfl ?_
                      refine lV (yMove rfl) rfl rfl ?_
                      refine lGY rfl rfl rfl (oV (yMove rfl) rfl ?_)
                      refine lGY rfl rfl rfl (oV (yMove rfl) rfl ?_)
                      refine lGY rfl rfl rfl (oV (yEql rfl rfl) rfl ?_)
                      refine known (t := 221) rfl (rfl) ?_
                      refine lV (yPickT rfl rfl) rfl rfl ?_
                      refine lV (yAssign rfl) rfl rfl ?_
                      refine lNil ?_
                      refine kInN ?_
                      refine kThen ?_
                      refine kRegion rfl ?_
                      refine lV (yAdd rfl rfl (by omega)) rfl rfl ?_
                      refine lV (yMove rfl) rfl rfl ?_
                      refine lNil ?_
                      exact kRoundX (l + 1) (by omega) (by omega) rfl (.c rfl (.c rfl .n)) (.c rfl (.c rfl (.c rfl (.c rfl (.c rfl (.c rfl (.c rfl (.c rfl (.c rfl (.c rfl (.c rfl (.c rfl (.c rfl (.c rfl (.c rfl (.c rfl (.c rfl (.c rfl (.c rfl (.c rfl (.c rfl (.c rfl (.c rfl (.c rfl (.c rfl (.c rfl (.c rfl (.c rfl (.c rfl (.c rfl (.c rfl (.c rfl (.c rfl (.c rfl (.c rfl (.c rfl (.c rfl (.c rfl (.c rfl (.c rfl (.c rfl (.c rfl (.c rfl (.c rfl (.c rfl (.c rfl (.c rfl (.c rfl (.c rfl (.c rfl (.c rfl (.c rfl (.c rfl (.c rfl (.c rfl (.c rfl (.c rfl (.c rfl (.c rfl (.c rfl (.c rfl (.c rfl (.c rfl (.c rfl (.c rfl (.c rfl (.c rfl (.c rfl (.c rfl (.c rfl (.c rfl (.c rfl (.c rfl (.c rfl (.c rfl (.c rfl (.c rfl (.c rfl (.c rfl (.c rfl (.c rfl (.c rfl (.c rfl (.c rfl (.c rfl (.c rfl (.c rfl (.c rfl (.c rfl (.c rfl (.c rfl (.c rfl (.c rfl (.c rfl (.c rfl (.c rfl (.c rfl (.c rfl (.c rfl (.c rfl (.c rfl (.c rfl (.c rfl (.c rfl (.c rfl (.c rfl (.c rfl (.c rfl (.c rfl (.c rfl (.c rfl (.c rfl (.c rfl (.c rfl (.c rfl (.c rfl (.c rfl (.c rfl (.c rfl (.c rfl (.c rfl (.c rfl (.c rfl (.c rfl (.c rfl (.c rfl (.c rfl (.c rfl (.c rfl (.c rfl (.c rfl (.c rfl (.c rfl .n))))))))))))))))))))))))))))))))))))))))))))))))))))))))))))))))))))))))))))))))))))))))))))))))))))))))))))))))))))))))))))))))))))) (.c 2 rfl (.c 2 rfl (.c 2 rfl (.c 2 rfl (.c 2 rfl (.c 2 rfl (.c 2 rfl (.d 0 (.d 0 .r)))))))))
                    · refine kIfF rfl ?_
                      refine kExit ?_
                      refine kThenX ?_
                      refine kThenX ?_
                      refine kInX ?_
                      refine kInN ?_
                      refine kThen ?_
                      refine kRegion rfl ?_
                      refine lV (yAdd rfl rfl (by omega)) rfl rfl ?_
                      refine lV (yMove rfl) rfl rfl ?_
                      refine lNil ?_
                      exact kRoundX (i + 1) (by omega) (by omega) rfl (.c rfl (.c rfl .n)) (.c rfl (.c rfl (.c rfl (.c rfl (.c rfl (.c rfl (.c rfl (.c rfl (.c rfl (.c rfl (.c rfl (.c rfl (.c rfl (.c rfl (.c rfl (.c rfl (.c rfl (.c rfl (.c rfl (.c rfl (.c rfl (.c rfl (.c rfl (.c rfl (.c rfl (.c rfl (.c rfl (.c rfl (.c rfl (.c rfl (.c rfl (.c rfl (.c rfl (.c rfl (.c rfl (.c rfl (.c rfl (.c rfl (.c rfl (.c rfl (.c rfl (.c rfl (.c rfl (.c rfl (.c rfl (.c rfl (.c rfl (.c rfl (.c rfl (.c rfl (.c rfl (.c rfl (.c rfl (.c rfl (.c rfl (.c rfl (.c rfl (.c rfl (.c rfl (.c rfl (.c rfl (.c rfl (.c rfl (.c rfl (.c rfl (.c rfl (.c rfl (.c rfl (.c rfl (.c rfl (.c rfl (.c rfl (.c rfl (.c rfl (.c rfl (.c rfl (.c rfl (.c rfl (.c rfl (.c rfl (.c rfl (.c rfl (.c rfl (.c rfl (.c rfl (.c rfl (.c rfl (.c rfl (.c rfl (.c rfl (.c rfl (.c rfl (.c rfl (.c rfl (.c rfl (.c rfl (.c rfl (.c rfl (.c rfl (.c rfl .n)))))))))))))))))))))))))))))))))))))))))))))))))))))))))))))))))))))))))))))))))))))))))))))))))))) (.c 2 rfl (.c 2 rfl (.c 2 rfl (.c 2 rfl (.c 2 rfl (.d 0 (.d 0 .r)))))))
                  · refine kIfF rfl ?_
                    refine kExit ?_
                    refine kThenX ?_
                    refine kThenX ?_
                    refine kInX ?_
                    refine kThen ?_
                    refine kSeq ?_
                    refine kRegion rfl ?_
                    refine lV (yMove rfl) rfl rfl ?_
                    refine lV (yMove rfl) rfl rfl ?_
                    refine lV (yShr rfl rfl rfl (by omega)) rfl rfl ?_
                    refine lV (yAnd (b := 1) rfl rfl rfl (by have := Nat.div_le_self (idleW m m.sets.length) (2 ^ n); omega) (by have := Nat.div_le_self (idleW m m.sets.length) (2 ^ n); omega)) rfl rfl ?_
                    refine lV (yEql rfl rfl) rfl rfl ?_
                    refine known (t := 229) rfl (hbit) ?_
                    refine lV (yMove rfl) rfl rfl ?_
                    refine lGY rfl rfl rfl (oV (yMove rfl) rfl ?_)
                    refine lGY rfl rfl rfl (oV (yNot rfl) rfl ?_)
                    refine lV (yPickT rfl rfl) rfl rfl ?_
                    refine lV (yMove rfl) rfl rfl ?_
                    refine lGY rfl rfl rfl (oV (yMove rfl) rfl ?_)
                    refine lGY rfl rfl rfl (oV (yMove rfl) rfl ?_)
                    refine lGY rfl rfl rfl (oV (yShr rfl rfl rfl (by omega)) rfl ?_)
                    refine lGY rfl rfl rfl (oV (yAnd (b := 1) rfl rfl rfl (by have := Nat.div_le_self (idleW m m.sets.length) (2 ^ n); omega) (by have := Nat.div_le_self (idleW m m.sets.length) (2 ^ n); omega)) rfl ?_)
                    refine lGY rfl rfl rfl (oV (yEql rfl rfl) rfl ?_)
                    refine knownN (t := 239) rfl (fun h => by rw [hbit] at h; exact absurd h (by decide)) ?_
                    refine lGY rfl rfl rfl (oV (yMove rfl) rfl ?_)
                    refine lGN rfl rfl rfl rfl rfl ?_
                    refine lGY rfl rfl rfl (oV (yPickF rfl rfl) rfl ?_)
                    refine lGY rfl rfl rfl (oV (yMove rfl) rfl ?_)
                    refine lGN rfl rfl rfl rfl rfl ?_
                    refine lGN rfl rfl rfl rfl rfl ?_
                    refine lGN rfl rfl rfl rfl rfl ?_
                    refine lGN rfl rfl rfl rfl rfl ?_
                    refine lGY rfl rfl rfl (oV (yPickF rfl rfl) rfl ?_)
                    refine lV (yPickF rfl rfl) rfl rfl ?_
                    refine lNil ?_
                    refine kThen ?_
                    refine kIfF rfl ?_
                    refine kSkip ?_
                    refine kInN ?_
                    refine kThen ?_
                    refine kRegion rfl ?_
                    refine lV (yAdd rfl rfl (by omega)) rfl rfl ?_
                    refine lV (yMove rfl) rfl rfl ?_
                    refine lNil ?_
                    exact kRoundX (n + 1) (by omega) (by omega) rfl (.c rfl .n) (.c rfl (.c rfl (.c rfl (.c rfl (.c rfl (.c rfl (.c rfl (.c rfl (.c rfl (.c rfl (.c rfl (.c rfl (.c rfl (.c rfl (.c rfl (.c rfl (.c rfl (.c rfl (.c rfl (.c rfl (.c rfl (.c rfl (.c rfl (.c rfl (.c rfl (.c rfl (.c rfl (.c rfl (.c rfl (.c rfl (.c rfl (.c rfl (.c rfl (.c rfl (.c rfl (.c rfl (.c rfl (.c rfl (.c rfl (.c rfl (.c rfl (.c rfl (.c rfl (.c rfl (.c rfl (.c rfl (.c rfl (.c rfl (.c rfl (.c rfl (.c rfl (.c rfl (.c rfl (.c rfl (.c rfl (.c rfl (.c rfl (.c rfl (.c rfl (.c rfl (.c rfl (.c rfl (.c rfl (.c rfl (.c rfl (.c rfl (.c rfl (.c rfl (.c rfl (.c rfl (.c rfl (.c rfl (.c rfl (.c rfl (.c rfl (.c rfl (.c rfl (.c rfl (.c rfl .n))))))))))))))))))))))))))))))))))))))))))))))))))))))))))))))))))))))))))))))) (.c 1 rfl (.c 1 rfl (.c 1 rfl .n)))
              · have hpn : 1 * 2 ^ n ≤ 2 ^ 12 := by rw [Nat.one_mul]; exact Nat.pow_le_pow_right (by omega) (by omega)
                have hll := less_lt (a := fullS m) (b := 1 * 2 ^ n) (n := 12) (by omega)
                have hP := part_ok hM (lessS m n)
                refine kRegion rfl ?_
                refine lV (yMove rfl) rfl rfl ?_
                refine lV (yAssign rfl) rfl rfl ?_
                refine lNil ?_
                refine kThen ?_
                refine kSeq ?_
                refine kCutX (ι := Nat × Own) (fun z => OS 3 z.2 ((partL m (lessS m n) m.sets.length).map rowS)) (fun z => [(16, .pointer (some ⟨z.1, 0, none⟩))]) [(0, _), (1, _), (30, _), (31, _), (32, _), (33, _), (34, _), (35, _), (36, _), (39, _), (40, _), (38, _), (41, _), (42, _), (3, _), (4, _), (44, _), (45, _), (43, _), (46, _), (47, _), (5, _), (6, _), (49, _), (50, _), (48, _), (51, _), (52, _), (7, _), (8, _), (53, _), (54, _), (55, _), (56, _), (57, _), (58, _), (59, _), (60, _), (61, _), (62, _), (63, _), (64, _), (65, _), (66, _), (67, _), (68, _), (69, _), (70, _), (71, _), (72, _), (73, _), (9, _), (74, _), (75, _), (76, _), (77, _), (78, _), (98, _), (99, _), (100, _), (101, _), (118, _), (119, _), (129, _), (130, _), (131, _), (132, _), (133, _), (14, _), (134, _), (135, _), (136, _), (137, _), (138, _), (139, _), (140, _), (141, _), (142, _), (143, _), (144, _), (145, _), (146, _), (15, _)] (fun z => []) (fun z => ([(z.1, blk (measC (locG y z.2) (partM m (lessS m n))) 29)] ++ osL 49 z.2)) [(n7, _), (n1, _), (nW, _)] (.c rfl (.c rfl (.c rfl (.c rfl (.c rfl (.c rfl (.c rfl (.c rfl (.c rfl (.c rfl (.c rfl (.c rfl (.c rfl (.c rfl (.c rfl (.c rfl (.c rfl (.c rfl (.c rfl (.c rfl (.c rfl (.c rfl (.c rfl (.c rfl (.c rfl (.c rfl (.c rfl (.c rfl (.c rfl (.c rfl (.c rfl (.c rfl (.c rfl (.c rfl (.c rfl (.c rfl (.c rfl (.c rfl (.c rfl (.c rfl (.c rfl (.c rfl (.c rfl (.c rfl (.c rfl (.c rfl (.c rfl (.c rfl (.c rfl (.c rfl (.c rfl (.c rfl (.c rfl (.c rfl (.c rfl (.c rfl (.c rfl (.c rfl (.c rfl (.c rfl (.c rfl (.c rfl (.c rfl (.c rfl (.c rfl (.c rfl (.c rfl (.c rfl (.c rfl (.c rfl (.c rfl (.c rfl (.c rfl (.c rfl (.c rfl (.c rfl (.c rfl (.c rfl (.c rfl (.c rfl (.c rfl (.c rfl (.c rfl .n))))))))))))))))))))))))))))))))))))))))))))))))))))))))))))))))))))))))))))))))))) (.c 0 rfl (.c 0 rfl (.c 0 rfl .n))) ?_ (fun z hg => ?_)
                · refine kDrawE [(0, none)] [] [0, 1, 2, 3, 4] 3 hMix (by kernel_rfl) ?_
                  refine .run rfl (yLoadA (vs := [_, _, _, _, _, _, _]) rfl A29 (cOwn 1 rfl rfl)) rfl rfl ?_
                  refine .run rfl (yMove rfl) rfl rfl ?_
                  refine .run rfl (yMove rfl) rfl rfl ?_
                  refine .run rfl (yShl (a := 1) rfl rfl rfl (by omega) (by omega)) rfl rfl ?_
                  refine .run rfl (yAndNot rfl rfl rfl (by omega) (by omega)) rfl rfl ?_
                  refine .done ?_
                  refine effStep 5 [6] (by kernel_rfl) closedSt (hLeft [0] (by kernel_rfl) (.c (fun _ _ hs => hs.ef) .n)) ?_
                  refine (.c ?_ (.c ?_ .n))
                  · refine effOne rfl (gNone rfl (fCallO rfl (.c rfl (.c rfl .n)) C32 (fun w hw => part_any y m (lessS m n) w (hm.eff hw) (by show less (fullS m) (1 * 2 ^ n) < _; omega) (by omega)))) ?_
                    refine effStep 6 [] (by kernel_rfl) (closedEx fun gx => closedSt) (hLeft [] (by kernel_rfl) .n) ?_
                    refine .c ?_ .n
                    refine effOne rfl (opEx fun gx => (gNone rfl (fAlloc Z29))) ?_
                    refine effStep 7 [] (by kernel_rfl) (closedEx fun gx => (closedEx fun n16 => closedSt)) (hLeft [] (by kernel_rfl) .n) ?_
                    refine .c ?_ .n
                    refine effOne rfl (opEx fun gx => (opEx fun n16 => (gNone rfl (fStoreL 0 rfl rfl rfl rfl K29 rfl (rfl))))) ?_
                    refine effDone (closedEx fun gx => (closedEx fun n16 => closedSt)) (hLeft [] (by kernel_rfl) .n) (by kernel_rfl) ?_
                    refine trEx fun gx => ?_
                    refine trEx fun n16 => ?_
                    exact kMeetX ((n16, gx.1)) (gx.2) rfl (.c rfl .n) (.c rfl (.c rfl (.c rfl (.c rfl (.c rfl (.c rfl (.c rfl (.c rfl (.c rfl (.c rfl (.c rfl (.c rfl (.c rfl (.c rfl (.c rfl (.c rfl (.c rfl (.c rfl (.c rfl (.c rfl (.c rfl (.c rfl (.c rfl (.c rfl (.c rfl (.c rfl (.c rfl (.c rfl (.c rfl (.c rfl (.c rfl (.c rfl (.c rfl (.c rfl (.c rfl (.c rfl (.c rfl (.c rfl (.c rfl (.c rfl (.c rfl (.c rfl (.c rfl (.c rfl (.c rfl (.c rfl (.c rfl (.c rfl (.c rfl (.c rfl (.c rfl (.c rfl (.c rfl (.c rfl (.c rfl (.c rfl (.c rfl (.c rfl (.c rfl (.c rfl (.c rfl (.c rfl (.c rfl (.c rfl (.c rfl (.c rfl (.c rfl (.c rfl (.c rfl (.c rfl (.c rfl (.c rfl (.c rfl (.c rfl (.c rfl (.c rfl (.c rfl (.c rfl (.c rfl (.c rfl (.c rfl (.c rfl (.c rfl .n))))))))))))))))))))))))))))))))))))))))))))))))))))))))))))))))))))))))))))))))))) (.c 1 rfl (.c 1 rfl (.c 1 rfl (.c 0 rfl .r))))
                  · refine effOne rfl (gNone rfl (fAlloc Z29)) ?_
                    refine effStep 5 [] (by kernel_rfl) (closedEx fun n16 => closedSt) (hLeft [0] (by kernel_rfl) (.c (fun _ _ ⟨n16, hs⟩ => hs.ef.sub (.c 1 rfl (.c 1 rfl (.c 1 rfl .n)))) .n)) ?_
                    refine .c ?_ .n
                    refine effOne rfl (opEx fun n16 => (gNone rfl (fCallO rfl (.c rfl (.c rfl .n)) C32 (fun w hw => part_any y m (lessS m n) w (hm.eff hw) (by show less (fullS m) (1 * 2 ^ n) < _; omega) (by omega))))) ?_
                    refine effStep 7 [] (by kernel_rfl) (closedEx fun n16 => (closedEx fun gx => closedSt)) (hLeft [] (by kernel_rfl) .n) ?_
                    refine .c ?_ .n
                    refine effOne rfl (opEx fun n16 => (opEx fun gx => (gNone rfl (fStoreL 0 rfl rfl rfl rfl K29 rfl (rfl))))) ?_
                    refine effDone (closedEx fun n16 => (closedEx fun gx => closedSt)) (hLeft [] (by kernel_rfl) .n) (by kernel_rfl) ?_
                    refine trEx fun n16 => ?_
                    refine trEx fun gx => ?_
                    exact kMeetX ((n16, gx.1)) (gx.2) rfl (.c rfl .n) (.c rfl (.c rfl (.c rfl (.c rfl (.c rfl (.c rfl (.c rfl (.c rfl (.c rfl (.c rfl (.c rfl (.c rfl (.c rfl (.c rfl (.c rfl (.c rfl (.c rfl (.c rfl (.c rfl (.c rfl (.c rfl (.c rfl (.c rfl (.c rfl (.c rfl (.c rfl (.c rfl (.c rfl (.c rfl (.c rfl (.c rfl (.c rfl (.c rfl (.c rfl (.c rfl (.c rfl (.c rfl (.c rfl (.c rfl (.c rfl (.c rfl (.c rfl (.c rfl (.c rfl (.c rfl (.c rfl (.c rfl (.c rfl (.c rfl (.c rfl (.c rfl (.c rfl (.c rfl (.c rfl (.c rfl (.c rfl (.c rfl (.c rfl (.c rfl (.c rfl (.c rfl (.c rfl (.c rfl (.c rfl (.c rfl (.c rfl (.c rfl (.c rfl (.c rfl (.c rfl (.c rfl (.c rfl (.c rfl (.c rfl (.c rfl (.c rfl (.c rfl (.c rfl (.c rfl (.c rfl (.c rfl (.c rfl (.c rfl .n))))))))))))))))))))))))))))))))))))))))))))))))))))))))))))))))))))))))))))))))))) (.c 1 rfl (.c 1 rfl (.c 1 rfl (.c 0 rfl .r))))
                · obtain ⟨n16, g⟩ := z
                  dsimp only at hg ⊢
                  refine kSeq ?_
                  have hsF : ¬ sameF m (lessS m n) := fun h => hbt ((idle_same hM hFc).2 h)
                  have hbit : ¬ ((idleW m m.sets.length / 2 ^ n &&& 1 : Nat) : Int) = 1 := fun h => by
                    have := (bit_iff _ n).1 h
                    rw [idleW_bit, Bool.and_eq_true] at this
                    exact hbt this.2
                  refine kRegion rfl ?_
                  refine lV (yLoadA (vs := [_, _, _, _, _, _, _]) rfl A29 (cOwn 3 rfl rfl)) rfl rfl ?_
                  refine lV (yCall rfl (.c rfl .n) C18 (fun w hw => sum_any (locG y g) (partM m (lessS m n)) w ⟨(hm.eff hw).e, OS.rowsE (f := rowS) (0, 0, false) hg hw (.d 0 (.d 0 (.d 0 (.d 0 .r))))⟩)) rfl rfl ?_
                  refine lV (yMove rfl) rfl rfl ?_
                  refine lV (yExtract rfl rfl) rfl rfl ?_
                  refine lV (yExtract rfl rfl) rfl rfl ?_
                  refine lE rfl ?_
                  refine eAlloc Z24 fun n17 => ?_
                  refine lE rfl ?_
                  refine eStoreL 0 rfl rfl rfl rfl K24 rfl (rfl) ?_
                  refine lV (yAssign rfl) rfl rfl ?_
                  refine lNil ?_
                  refine kThen ?_
                  refine kSeq ?_
                  refine kRegion rfl ?_
                  refine lV (yLoadA (vs := [_, _]) rfl A24 (cOwn 0 rfl rfl)) rfl rfl ?_
                  refine lV (yLoadA (vs := [_, _]) rfl A24 (cOwn 1 rfl rfl)) rfl rfl ?_
                  refine lV (yEqAgg rfl rfl G24 (fun w => Q24 w)) rfl rfl ?_
                  refine lV (yMove rfl) rfl rfl ?_
                  refine split (t := 161) rfl (fun h161 => ?_) (fun h161 => ?_)
                  · refine lGY rfl rfl rfl (oV (yMove rfl) rfl ?_)
                    refine lGY rfl rfl rfl (oV (yEql rfl rfl) rfl ?_)
                    refine lV (yPickT rfl rfl) rfl rfl ?_
                    refine lV (yAssign rfl) rfl rfl ?_
                    refine lNil ?_
                    refine kThen ?_
                    refine kSeq ?_
                    refine kSeq ?_
                    refine kRegion rfl ?_
                    refine lV (yFieldAddr rfl F29_1) rfl rfl ?_
                    refine lV (yLoad1 rfl O3 (cOwn 2 rfl rfl)) rfl rfl ?_
                    refine lV (yMove rfl) rfl rfl ?_
                    refine lNil ?_
                    refine kThen ?_
                    refine kBlock ?_
                    refine kLoopX (ι := Nat × Bool) (fun x => (x.1 : Int) ≤ m.images) (fun x => [(167, i64 (x.1 : Nat)), (19, .bool x.2)]) [(0, _), (1, _), (30, _), (31, _), (32, _), (33, _), (34, _), (35, _), (36, _), (39, _), (40, _), (38, _), (41, _), (42, _), (3, _), (4, _), (44, _), (45, _), (43, _), (46, _), (47, _), (5, _), (6, _), (49, _), (50, _), (48, _), (51, _), (52, _), (7, _), (8, _), (53, _), (54, _), (55, _), (56, _), (57, _), (58, _), (59, _), (60, _), (61, _), (62, _), (63, _), (64, _), (65, _), (66, _), (67, _), (68, _), (69, _), (70, _), (71, _), (72, _), (73, _), (9, _), (74, _), (75, _), (76, _), (77, _), (78, _), (98, _), (99, _), (100, _), (101, _), (118, _), (119, _), (129, _), (130, _), (131, _), (132, _), (133, _), (14, _), (134, _), (135, _), (136, _), (137, _), (138, _), (139, _), (140, _), (141, _), (142, _), (143, _), (144, _), (145, _), (146, _), (15, _), (16, _), (154, _), (155, _), (153, _), (156, _), (157, _), (17, _), (18, _), (158, _), (159, _), (160, _), (161, _), (162, _), (163, _), (164, _), (165, _), (166, _)] (fun x => []) (fun x => osL 49 g) [(n17, _), (n7, _), (n1, _), (nW, _), (n16, _)] (fun x => m.images.toNat - x.1) (0, decide ((sumE (partM m (lessS m n))).2 = 0)) (by dsimp only; omega) rfl (.c rfl (.c rfl .n)) (.c rfl (.c rfl (.c rfl (.c rfl (.c rfl (.c rfl (.c rfl (.c rfl (.c rfl (.c rfl (.c rfl (.c rfl (.c rfl (.c rfl (.c rfl (.c rfl (.c rfl (.c rfl (.c rfl (.c rfl (.c rfl (.c rfl (.c rfl (.c rfl (.c rfl (.c rfl (.c rfl (.c rfl (.c rfl (.c rfl (.c rfl (.c rfl (.c rfl (.c rfl (.c rfl (.c rfl (.c rfl (.c rfl (.c rfl (.c rfl (.c rfl (.c rfl (.c rfl (.c rfl (.c rfl (.c rfl (.c rfl (.c rfl (.c rfl (.c rfl (.c rfl (.c rfl (.c rfl (.c rfl (.c rfl (.c rfl (.c rfl (.c rfl (.c rfl (.c rfl (.c rfl (.c rfl (.c rfl (.c rfl (.c rfl (.c rfl (.c rfl (.c rfl (.c rfl (.c rfl (.c rfl (.c rfl (.c rfl (.c rfl (.c rfl (.c rfl (.c rfl (.c rfl (.c rfl (.c rfl (.c rfl (.c rfl (.c rfl (.c rfl (.c rfl (.c rfl (.c rfl (.c rfl (.c rfl (.c rfl (.c rfl (.c rfl (.c rfl (.c rfl (.c rfl (.c rfl (.c rfl (.c rfl (.c rfl (.c rfl .n)))))))))))))))))))))))))))))))))))))))))))))))))))))))))))))))))))))))))))))))))))))))))))))))))))) (.c 0 rfl (.c 0 rfl (.c 0 rfl (.c 0 rfl (.c 0 rfl .r))))) ?_
                    rintro ⟨i, b⟩ hi
                    dsimp only at hi ⊢
                    refine kSeq ?_
                    refine kRegion rfl ?_
                    refine lV (yLss rfl rfl) rfl rfl ?_
                    refine lNil ?_
                    refine kThen ?_
                    refine kSeq ?_
                    refine split (t := 168) rfl (fun h168 => ?_) (fun h168 => ?_)
                    · refine kIfT rfl ?_
                      refine kSkip ?_
                      refine kThen ?_
                      refine kSeq ?_
                      refine kBlock ?_
                      refine kSeq ?_
                      refine kRegion rfl ?_
                      refine lV (yMove rfl) rfl rfl ?_
                      refine lV (yAssign rfl) rfl rfl ?_
                      refine lNil ?_
                      refine kThen ?_
                      refine kSeq ?_
                      refine kRegion rfl ?_
                      refine lV (yLoadA (vs := [_, _, _, _, _, _, _]) rfl A29 (cOwn 2 rfl rfl)) rfl rfl ?_
                      refine lV (yMove rfl) rfl rfl ?_
                      refine lV (yCall rfl (.c rfl (.c rfl .n)) C20 (fun w hw => place_any y m (i : Nat) w (hm.eff hw))) rfl rfl ?_
                      refine lV (yMove rfl) rfl rfl ?_
                      refine lV (yExtract rfl rfl) rfl rfl ?_
                      refine lV (yExtract rfl rfl) rfl rfl ?_
                      refine lE rfl ?_
                      refine eAlloc Z24 fun n21 => ?_
                      refine lE rfl ?_
                      refine eStoreL 0 rfl rfl rfl rfl K24 rfl (rfl) ?_
                      refine lV (yAssign rfl) rfl rfl ?_
                      refine lNil ?_
                      refine kThen ?_
                      refine kSeq ?_
                      refine kRegion rfl ?_
                      refine lV (yLoadA (vs := [_, _, _, _, _, _, _]) rfl A29 (cOwn 5 rfl rfl)) rfl rfl ?_
                      refine lV (yMove rfl) rfl rfl ?_
                      refine lV (yCall rfl (.c rfl (.c rfl .n)) C20 (fun w hw => place_any (locG y g) (partM m (lessS m n)) (i : Nat) w ⟨(hm.eff hw).e, OS.rowsE (f := rowS) (0, 0, false) hg hw (.d 0 (.d 0 (.d 0 (.d 0 (.d 0 (.d 0 .r))))))⟩)) rfl rfl ?_
                      refine lV (yMove rfl) rfl rfl ?_
                      refine lV (yExtract rfl rfl) rfl rfl ?_
                      refine lV (yExtract rfl rfl) rfl rfl ?_
                      refine lE rfl ?_
                      refine eAlloc Z24 fun n23 => ?_
                      refine lE rfl ?_
                      refine eStoreL 0 rfl rfl rfl rfl K24 rfl (rfl) ?_
                      refine lV (yAssign rfl) rfl rfl ?_
                      refine lNil ?_
                      refine kThen ?_
                      refine kSeq ?_
                      refine kRegion rfl ?_
                      refine lV (yMove rfl) rfl rfl ?_
                      refine lV (yMove rfl) rfl rfl ?_
                      refine splitB (t := 183) rfl (fun h183 => ?_) (fun h183 => ?_)
                      · refine lGY rfl rfl rfl (oV (yLoadA (vs := [_, _]) rfl A24 (cOwn 1 rfl rfl)) rfl ?_)
                        refine lGY rfl rfl rfl (oV (yLoadA (vs := [_, _]) rfl A24 (cOwn 0 rfl rfl)) rfl ?_)
                        refine lGY rfl rfl rfl (oV (yEqAgg rfl rfl G24 (fun w => Q24 w)) rfl ?_)
                        refine lV (yPickT rfl rfl) rfl rfl ?_
                        refine lV (yMove rfl) rfl rfl ?_
                        refine split (t := 188) rfl (fun h188 => ?_) (fun h188 => ?_)
                        · refine lGY rfl rfl rfl (oV (yMove rfl) rfl ?_)
                          refine lGY rfl rfl rfl (oV (yMove rfl) rfl ?_)
                          refine lGY rfl rfl rfl (oV (yEql rfl rfl) rfl ?_)
                          refine lV (yPickT rfl rfl) rfl rfl ?_
                          refine lV (yAssign rfl) rfl rfl ?_
                          refine lNil ?_
                          refine kThen ?_
                          refine kSeq ?_
                          refine kRegion rfl ?_
                          refine lV (yFieldAddr rfl F29_1) rfl rfl ?_
                          refine lV (yLoad1 rfl O3 (cOwn 4 rfl rfl)) rfl rfl ?_
                          refine lV (yMove rfl) rfl rfl ?_
                          refine lNil ?_
                          refine kThen ?_
                          refine kBlock ?_
                          refine kLoopX (ι := Nat × Bool) (fun x => (x.1 : Int) ≤ m.images) (fun x => [(195, i64 (x.1 : Nat)), (19, .bool x.2)]) [(0, _), (1, _), (30, _), (31, _), (32, _), (33, _), (34, _), (35, _), (36, _), (39, _), (40, _), (38, _), (41, _), (42, _), (3, _), (4, _), (44, _), (45, _), (43, _), (46, _), (47, _), (5, _), (6, _), (49, _), (50, _), (48, _), (51, _), (52, _), (7, _), (8, _), (53, _), (54, _), (55, _), (56, _), (57, _), (58, _), (59, _), (60, _), (61, _), (62, _), (63, _), (64, _), (65, _), (66, _), (67, _), (68, _), (69, _), (70, _), (71, _), (72, _), (73, _), (9, _), (74, _), (75, _), (76, _), (77, _), (78, _), (98, _), (99, _), (100, _), (101, _), (118, _), (119, _), (129, _), (130, _), (131, _), (132, _), (133, _), (14, _), (134, _), (135, _), (136, _), (137, _), (138, _), (139, _), (140, _), (141, _), (142, _), (143, _), (144, _), (145, _), (146, _), (15, _), (16, _), (154, _), (155, _), (153, _), (156, _), (157, _), (17, _), (18, _), (158, _), (159, _), (160, _), (161, _), (162, _), (163, _), (164, _), (165, _), (166, _), (167, _), (168, _), (169, _), (20, _), (171, _), (172, _), (173, _), (170, _), (174, _), (175, _), (21, _), (22, _), (177, _), (178, _), (179, _), (176, _), (180, _), (181, _), (23, _), (24, _), (182, _), (183, _), (184, _), (185, _), (186, _), (187, _), (188, _), (189, _), (190, _), (191, _), (192, _), (193, _), (194, _)] (fun x => []) (fun x => osL 49 g) [(n23, _), (n21, _), (n17, _), (n7, _), (n1, _), (nW, _), (n16, _)] (fun x => m.images.toNat - x.1) (0, decide ((placeE m (i : Nat)).2 = (placeE (partM m (lessS m n)) (i : Nat)).2)) (by dsimp only; omega) rfl (.c rfl (.c rfl .n)) (.c rfl (.c rfl (.c rfl (.c rfl (.c rfl (.c rfl (.c rfl (.c rfl (.c rfl (.c rfl (.c rfl (.c rfl (.c rfl (.c rfl (.c rfl (.c rfl (.c rfl (.c rfl (.c rfl (.c rfl (.c rfl (.c rfl (.c rfl (.c rfl (.c rfl (.c rfl (.c rfl (.c rfl (.c rfl (.c rfl (.c rfl (.c rfl (.c rfl (.c rfl (.c rfl (.c rfl (.c rfl (.c rfl (.c rfl (.c rfl (.c rfl (.c rfl (.c rfl (.c rfl (.c rfl (.c rfl (.c rfl (.c rfl (.c rfl (.c rfl (.c rfl (.c rfl (.c rfl (.c rfl (.c rfl (.c rfl (.c rfl (.c rfl (.c rfl (.c rfl (.c rfl (.c rfl (.c rfl (.c rfl (.c rfl (.c rfl (.c rfl (.c rfl (.c rfl (.c rfl (.c rfl (.c rfl (.c rfl (.c rfl (.c rfl (.c rfl (.c rfl (.c rfl (.c rfl (.c rfl (.c rfl (.c rfl (.c rfl (.c rfl (.c rfl (.c rfl (.c rfl (.c rfl (.c rfl (.c rfl (.c rfl (.c rfl (.c rfl (.c rfl (.c rfl (.c rfl (.c rfl (.c rfl (.c rfl (.c rfl (.c rfl (.c rfl (.c rfl (.c rfl (.c rfl (.c rfl (.c rfl (.c rfl (.c rfl (.c rfl (.c rfl (.c rfl (.c rfl (.c rfl (.c rfl (.c rfl (.c rfl (.c rfl (.c rfl (.c rfl (.c rfl (.c rfl (.c rfl (.c rfl (.c rfl (.c rfl (.c rfl (.c rfl (.c rfl (.c rfl (.c rfl (.c rfl (.c rfl .n))))))))))))))))))))))))))))))))))))))))))))))))))))))))))))))))))))))))))))))))))))))))))))))))))))))))))))))))))))))))))))))))))))) (.c 0 rfl (.c 0 rfl (.c 0 rfl (.c 0 rfl (.c 0 rfl (.c 0 rfl (.c 0 rfl .r))))))) ?_
                          rintro ⟨l, b2⟩ hl
                          dsimp only at hl ⊢
                          refine kSeq ?_
                          refine kRegion rfl ?_
                          refine lV (yLss rfl rfl) rfl rfl ?_
                          refine lNil ?_
                          refine kThen ?_
                          refine kSeq ?_
                          refine split (t := 196) rfl (fun h196 => ?_) (fun h196 => ?_)
                          · refine kIfT rfl ?_
                            refine kSkip ?_
                            refine kThen ?_
                            refine kSeq ?_
                            refine kBlock ?_
                            refine kSeq ?_
                            refine kRegion rfl ?_
                            refine lV (yMove rfl) rfl rfl ?_
                            refine lV (yAssign rfl) rfl rfl ?_
                            refine lNil ?_
                            refine kThen ?_
                            refine kSeq ?_
                            refine kRegion rfl ?_
                            refine lV (yLoadA (vs := [_, _, _, _, _, _, _]) rfl A29 (cOwn 4 rfl rfl)) rfl rfl ?_
                            refine lV (yMove rfl) rfl rfl ?_
                            refine lV (yMove rfl) rfl rfl ?_
                            refine lV (yCall rfl (.c rfl (.c rfl (.c rfl .n))) C22 (fun w hw => apart_any y m (i : Nat) (l : Nat) w (hm.eff hw))) rfl rfl ?_
                            refine lV (yMove rfl) rfl rfl ?_
                            refine lV (yExtract rfl rfl) rfl rfl ?_
                            refine lV (yExtract rfl rfl) rfl rfl ?_
                            refine lE rfl ?_
                            refine eAlloc Z24 fun n26 => ?_
                            refine lE rfl ?_
                            refine eStoreL 0 rfl rfl rfl rfl K24 rfl (rfl) ?_
                            refine lV (yAssign rfl) rfl rfl ?_
                            refine lNil ?_
                            refine kThen ?_
                            refine kSeq ?_
                            refine kRegion rfl ?_
                            refine lV (yLoadA (vs := [_, _, _, _, _, _, _]) rfl A29 (cOwn 7 rfl rfl)) rfl rfl ?_
                            refine lV (yMove rfl) rfl rfl ?_
                            refine lV (yMove rfl) rfl rfl ?_
                            refine lV (yCall rfl (.c rfl (.c rfl (.c rfl .n))) C22 (fun w hw => apart_any (locG y g) (partM m (lessS m n)) (i : Nat) (l : Nat) w ⟨(hm.eff hw).e, OS.rowsE (f := rowS) (0, 0, false) hg hw (.d 0 (.d 0 (.d 0 (.d 0 (.d 0 (.d 0 (.d 0 (.d 0 .r))))))))⟩)) rfl rfl ?_
                            refine lV (yMove rfl) rfl rfl ?_
                            refine lV (yExtract rfl rfl) rfl rfl ?_
                            refine lV (yExtract rfl rfl) rfl rfl ?_
                            refine lE rfl ?_
                            refine eAlloc Z24 fun n28 => ?_
                            refine lE rfl ?_
                            refine eStoreL 0 rfl rfl rfl rfl K24 rfl (rfl) ?_
                            refine lV (yAssign rfl) rfl rfl ?_
                            refine lNil ?_
                            refine kThen ?_
                            refine kRegion rfl ?_
                            refine lV (yMove rfl) rfl rfl ?_
                            refine lV (yMove rfl) rfl rfl ?_
                            refine splitB (t := 213) rfl (fun h213 => ?_) (fun h213 => ?_)
                            · refine lGY rfl rfl rfl (oV (yLoadA (vs := [_, _]) rfl A24 (cOwn 1 rfl rfl)) rfl ?_)
                              refine lGY rfl rfl rfl (oV (yLoadA (vs := [_, _]) rfl A24 (cOwn 0 rfl rfl)) rfl ?_)
                              refine lGY rfl rfl rfl (oV (yEqAgg rfl rfl G24 (fun w => Q24 w)) rfl ?_)
                              refine lV (yPickT rfl rfl) rfl rfl ?_
                              refine lV (yMove rfl) rfl rfl ?_
                              refine split (t := 218) rfl (fun h218 => ?_) (fun h218 => ?_)
                              · refine lGY rfl rfl rfl (oV (yMove rfl) rfl ?_)
                                refine lGY rfl rfl rfl (oV (yMove rfl) rfl ?_)
                                refine lGY rfl rfl rfl (oV (yEql rfl rfl) rfl ?_)
                                refine lV (yPickT rfl rfl) rfl rfl ?_
                                refine lV (yAssign rfl) rfl rfl ?_
                                refine lNil ?_
                                refine kInN ?_
                                refine kThen ?_
                                refine kRegion rfl ?_
                                refine lV (yAdd rfl rfl (by omega)) rfl rfl ?_
                                refine lV (yMove rfl) rfl rfl ?_
                                refine lNil ?_
                                exact kRoundX (l + 1, decide ((apartE m (i : Nat) (l : Nat)).2 = (apartE (partM m (lessS m n)) (i : Nat) (l : Nat)).2)) (by dsimp only; omega) (by dsimp only; omega) rfl (.c rfl (.c rfl .n)) (.c rfl (.c rfl (.c rfl (.c rfl (.c rfl (.c rfl (.c rfl (.c rfl (.c rfl (.c rfl (.c rfl (.c rfl (.c rfl (.c rfl (.c rfl (.c rfl (.c rfl (.c rfl (.c rfl (.c rfl (.c rfl (.c rfl (.c rfl (.c rfl (.c rfl (.c rfl (.c rfl (.c rfl (.c rfl (.c rfl (.c rfl (.c rfl (.c rfl (.c rfl (.c rfl (.c rfl (.c rfl (.c rfl (.c rfl (.c rfl (.c rfl (.c rfl (.c rfl (.c rfl (.c rfl (.c rfl (.c rfl (.c rfl (.c rfl (.c rfl (.c rfl (.c rfl (.c rfl (.c rfl (.c rfl (.c rfl (.c rfl (.c rfl (.c rfl (.c rfl (.c rfl (.c rfl (.c rfl (.c rfl (.c rfl (.c rfl (.c rfl (.c rfl (.c rfl (.c rfl (.c rfl (.c rfl (.c rfl (.c rfl (.c rfl (.c rfl (.c rfl (.c rfl (.c rfl (.c rfl (.c rfl (.c rfl (.c rfl (.c rfl (.c rfl (.c rfl (.c rfl (.c rfl (.c rfl (.c rfl (.c rfl (.c rfl (.c rfl (.c rfl (.c rfl (.c rfl (.c rfl (.c rfl (.c rfl (.c rfl (.c rfl (.c rfl (.c rfl (.c rfl (.c rfl (.c rfl (.c rfl (.c rfl (.c rfl (.c rfl (.c rfl (.c rfl (.c rfl (.c rfl (.c rfl (.c rfl (.c rfl (.c rfl (.c rfl (.c rfl (.c rfl (.c rfl (.c rfl (.c rfl (.c rfl (.c rfl (.c rfl (.c rfl (.c rfl (.c rfl (.c rfl (.c rfl (.c rfl .n))))))))))))))))))))))))))))))))))))))))))))))))))))))))))))))))))))))))))))))))))))))))))))))))))))))))))))))))))))))))))))))))))))) (.c 2 rfl (.c 2 rfl (.c 2 rfl (.c 2 rfl (.c 2 rfl (.c 2 rfl (.c 2 rfl (.d 0 (.d 0 .r)))))))))
                              · refine lGN rfl rfl rfl rfl rfl ?_
                                refine lGN rfl rfl rfl rfl rfl ?_
                                refine lGN rfl rfl rfl rfl rfl ?_
                                refine lV (yPickF rfl rfl) rfl rfl ?_
                                refine lV (yAssign rfl) rfl rfl ?_
                                refine lNil ?_
                                refine kInN ?_
                                refine kThen ?_
                                refine kRegion rfl ?_
                                refine lV (yAdd rfl rfl (by omega)) rfl rfl ?_
                                refine lV (yMove rfl) rfl rfl ?_
                                refine lNil ?_
                                exact kRoundX (l + 1, false) (by dsimp only; omega) (by dsimp only; omega) rfl (.c rfl (.c rfl .n)) (.c rfl (.c rfl (.c rfl (.c rfl (.c rfl (.c rfl (.c rfl (.c rfl (.c rfl (.c rfl (.c rfl (.c rfl (.c rfl (.c rfl (.c rfl (.c rfl (.c rfl (.c rfl (.c rfl (.c rfl (.c rfl (.c rfl (.c rfl (.c rfl (.c rfl (.c rfl (.c rfl (.c rfl (.c rfl (.c rfl (.c rfl (.c rfl (.c rfl (.c rfl (.c rfl (.c rfl (.c rfl (.c rfl (.c rfl (.c rfl (.c rfl (.c rfl (.c rfl (.c rfl (.c rfl (.c rfl (.c rfl (.c rfl (.c rfl (.c rfl (.c rfl (.c rfl (.c rfl (.c rfl (.c rfl (.c rfl (.c rfl (.c rfl (.c rfl (.c rfl (.c rfl (.c rfl (.c rfl (.c rfl (.c rfl (.c rfl (.c rfl (.c rfl (.c rfl (.c rfl (.c rfl (.c rfl (.c rfl (.c rfl (.c rfl (.c rfl (.c rfl (.c rfl (.c rfl (.c rfl (.c rfl (.c rfl (.c rfl (.c rfl (.c rfl (.c rfl (.c rfl (.c rfl (.c rfl (.c rfl (.c rfl (.c rfl (.c rfl (.c rfl (.c rfl (.c rfl (.c rfl (.c rfl (.c rfl (.c rfl (.c rfl (.c rfl (.c rfl (.c rfl (.c rfl (.c rfl (.c rfl (.c rfl (.c rfl (.c rfl (.c rfl (.c rfl (.c rfl (.c rfl (.c rfl (.c rfl (.c rfl (.c rfl (.c rfl (.c rfl (.c rfl (.c rfl (.c rfl (.c rfl (.c rfl (.c rfl (.c rfl (.c rfl (.c rfl (.c rfl (.c rfl (.c rfl (.c rfl .n))))))))))))))))))))))))))))))))))))))))))))))))))))))))))))))))))))))))))))))))))))))))))))))))))))))))))))))))))))))))))))))))))))) (.c 2 rfl (.c 2 rfl (.c 2 rfl (.c 2 rfl (.c 2 rfl (.c 2 rfl (.c 2 rfl (.d 0 (.d 0 .r)))))))))
                            · refine lGN rfl rfl rfl rfl rfl ?_
                              refine lGN rfl rfl rfl rfl rfl ?_
                              refine lGN rfl rfl rfl rfl rfl ?_
                              refine lV (yPickF rfl rfl) rfl rfl ?_
                              refine lV (yMove rfl) rfl rfl ?_
                              refine lGN rfl rfl rfl rfl rfl ?_
                              refine lGN rfl rfl rfl rfl rfl ?_
                              refine lGN rfl rfl rfl rfl rfl ?_
                              refine lV (yPickF rfl rfl) rfl rfl ?_
                              refine lV (yAssign rfl) rfl rfl ?_
                              refine lNil ?_
                              refine kInN ?_
                              refine kThen ?_
                              refine kRegion rfl ?_
                              refine lV (yAdd rfl rfl (by omega)) rfl rfl ?_
                              refine lV (yMove rfl) rfl rfl ?_
                              refine lNil ?_
                              exact kRoundX (l + 1, false) (by dsimp only; omega) (by dsimp only; omega) rfl (.c rfl (.c rfl .n)) (.c rfl (.c rfl (.c rfl (.c rfl (.c rfl (.c rfl (.c rfl (.c rfl (.c rfl (.c rfl (.c rfl (.c rfl (.c rfl (.c rfl (.c rfl (.c rfl (.c rfl (.c rfl (.c rfl (.c rfl (.c rfl (.c rfl (.c rfl (.c rfl (.c rfl (.c rfl (.c rfl (.c rfl (.c rfl (.c rfl (.c rfl (.c rfl (.c rfl (.c rfl (.c rfl (.c rfl (.c rfl (.c rfl (.c rfl (.c rfl (.c rfl (.c rfl (.c rfl (.c rfl (.c rfl (.c rfl (.c rfl (.c rfl (.c rfl (.c rfl (.c rfl (.c rfl (.c rfl (.c rfl (.c rfl (.c rfl (.c rfl (.c rfl (.c rfl (.c rfl (.c rfl (.c rfl (.c rfl (.c rfl (.c rfl (.c rfl (.c rfl (.c rfl (.c rfl (.c rfl (.c rfl (.c rfl (.c rfl (.c rfl (.c rfl (.c rfl (.c rfl (.c rfl (.c rfl (.c rfl (.c rfl (.c rfl (.c rfl (.c rfl (.c rfl (.c rfl (.c rfl (.c rfl (.c rfl (.c rfl (.c rfl (.c rfl (.c rfl (.c rfl (.c rfl (.c rfl (.c rfl (.c rfl (.c rfl (.c rfl (.c rfl (.c rfl (.c rfl (.c rfl (.c rfl (.c rfl (.c rfl (.c rfl (.c rfl (.c rfl (.c rfl (.c rfl (.c rfl (.c rfl (.c rfl (.c rfl (.c rfl (.c rfl (.c rfl (.c rfl (.c rfl (.c rfl (.c rfl (.c rfl (.c rfl (.c rfl (.c rfl (.c rfl (.c rfl (.c rfl (.c rfl (.c rfl (.c rfl .n))))))))))))))))))))))))))))))))))))))))))))))))))))))))))))))))))))))))))))))))))))))))))))))))))))))))))))))))))))))))))))))))))))) (.c 2 rfl (.c 2 rfl (.c 2 rfl (.c 2 rfl (.c 2 rfl (.c 2 rfl (.c 2 rfl (.d 0 (.d 0 .r)))))))))
                          · refine kIfF rfl ?_
                            refine kExit ?_
                            refine kThenX ?_
                            refine kThenX ?_
                            refine kInX ?_
                            refine kInN ?_
                            refine kThen ?_
                            refine kRegion rfl ?_
                            refine lV (yAdd rfl rfl (by omega)) rfl rfl ?_
                            refine lV (yMove rfl) rfl rfl ?_
                            refine lNil ?_
                            exact kRoundX (i + 1, b2) (by dsimp only; omega) (by dsimp only; omega) rfl (.c rfl (.c rfl .n)) (.c rfl (.c rfl (.c rfl (.c rfl (.c rfl (.c rfl (.c rfl (.c rfl (.c rfl (.c rfl (.c rfl (.c rfl (.c rfl (.c rfl (.c rfl (.c rfl (.c rfl (.c rfl (.c rfl (.c rfl (.c rfl (.c rfl (.c rfl (.c rfl (.c rfl (.c rfl (.c rfl (.c rfl (.c rfl (.c rfl (.c rfl (.c rfl (.c rfl (.c rfl (.c rfl (.c rfl (.c rfl (.c rfl (.c rfl (.c rfl (.c rfl (.c rfl (.c rfl (.c rfl (.c rfl (.c rfl (.c rfl (.c rfl (.c rfl (.c rfl (.c rfl (.c rfl (.c rfl (.c rfl (.c rfl (.c rfl (.c rfl (.c rfl (.c rfl (.c rfl (.c rfl (.c rfl (.c rfl (.c rfl (.c rfl (.c rfl (.c rfl (.c rfl (.c rfl (.c rfl (.c rfl (.c rfl (.c rfl (.c rfl (.c rfl (.c rfl (.c rfl (.c rfl (.c rfl (.c rfl (.c rfl (.c rfl (.c rfl (.c rfl (.c rfl (.c rfl (.c rfl (.c rfl (.c rfl (.c rfl (.c rfl (.c rfl (.c rfl (.c rfl (.c rfl (.c rfl (.c rfl (.c rfl (.c rfl (.c rfl .n)))))))))))))))))))))))))))))))))))))))))))))))))))))))))))))))))))))))))))))))))))))))))))))))))))) (.c 2 rfl (.c 2 rfl (.c 2 rfl (.c 2 rfl (.c 2 rfl (.d 0 (.d 0 .r)))))))
                        · refine lGN rfl rfl rfl rfl rfl ?_
                          refine lGN rfl rfl rfl rfl rfl ?_
                          refine lGN rfl rfl rfl rfl rfl ?_
                          refine lV (yPickF rfl rfl) rfl rfl ?_
                          refine lV (yAssign rfl) rfl rfl ?_
                          refine lNil ?_
                          refine kThen ?_
                          refine kSeq ?_
                          refine kRegion rfl ?_
                          refine lV (yFieldAddr rfl F29_1) rfl rfl ?_
                          refine lV (yLoad1 rfl O3 (cOwn 4 rfl rfl)) rfl rfl ?_
                          refine lV (yMove rfl) rfl rfl ?_
                          refine lNil ?_
                          refine kThen ?_
                          refine kBlock ?_
                          refine kLoopX (ι := Nat × Bool) (fun x => (x.1 : Int) ≤ m.images) (fun x => [(195, i64 (x.1 : Nat)), (19, .bool x.2)]) [(0, _), (1, _), (30, _), (31, _), (32, _), (33, _), (34, _), (35, _), (36, _), (39, _), (40, _), (38, _), (41, _), (42, _), (3, _), (4, _), (44, _), (45, _), (43, _), (46, _), (47, _), (5, _), (6, _), (49, _), (50, _), (48, _), (51, _), (52, _), (7, _), (8, _), (53, _), (54, _), (55, _), (56, _), (57, _), (58, _), (59, _), (60, _), (61, _), (62, _), (63, _), (64, _), (65, _), (66, _), (67, _), (68, _), (69, _), (70, _), (71, _), (72, _), (73, _), (9, _), (74, _), (75, _), (76, _), (77, _), (78, _), (98, _), (99, _), (100, _), (101, _), (118, _), (119, _), (129, _), (130, _), (131, _), (132, _), (133, _), (14, _), (134, _), (135, _), (136, _), (137, _), (138, _), (139, _), (140, _), (141, _), (142, _), (143, _), (144, _), (145, _), (146, _), (15, _), (16, _), (154, _), (155, _), (153, _), (156, _), (157, _), (17, _), (18, _), (158, _), (159, _), (160, _), (161, _), (162, _), (163, _), (164, _), (165, _), (166, _), (167, _), (168, _), (169, _), (20, _), (171, _), (172, _), (173, _), (170, _), (174, _), (175, _), (21, _), (22, _), (177, _), (178, _), (179, _), (176, _), (180, _), (181, _), (23, _), (24, _), (182, _), (183, _), (184, _), (185, _), (186, _), (187, _), (188, _), (192, _), (193, _), (194, _)] (fun x => []) (fun x => osL 49 g) [(n23, _), (n21, _), (n17, _), (n7, _), (n1, _), (nW, _), (n16, _)] (fun x => m.images.toNat - x.1) (0, false) (by dsimp only; omega) rfl (.c rfl (.c rfl .n)) (.c rfl (.c rfl (.c rfl (.c rfl (.c rfl (.c rfl (.c rfl (.c rfl (.c rfl (.c rfl (.c rfl (.c rfl (.c rfl (.c rfl (.c rfl (.c rfl (.c rfl (.c rfl (.c rfl (.c rfl (.c rfl (.c rfl (.c rfl (.c rfl (.c rfl (.c rfl (.c rfl (.c rfl (.c rfl (.c rfl (.c rfl (.c rfl (.c rfl (.c rfl (.c rfl (.c rfl (.c rfl (.c rfl (.c rfl (.c rfl (.c rfl (.c rfl (.c rfl (.c rfl (.c rfl (.c rfl (.c rfl (.c rfl (.c rfl (.c rfl (.c rfl (.c rfl (.c rfl (.c rfl (.c rfl (.c rfl (.c rfl (.c rfl (.c rfl (.c rfl (.c rfl (.c rfl (.c rfl (.c rfl (.c rfl (.c rfl (.c rfl (.c rfl (.c rfl (.c rfl (.c rfl (.c rfl (.c rfl (.c rfl (.c rfl (.c rfl (.c rfl (.c rfl (.c rfl (.c rfl (.c rfl (.c rfl (.c rfl (.c rfl (.c rfl (.c rfl (.c rfl (.c rfl (.c rfl (.c rfl (.c rfl (.c rfl (.c rfl (.c rfl (.c rfl (.c rfl (.c rfl (.c rfl (.c rfl (.c rfl (.c rfl (.c rfl (.c rfl (.c rfl (.c rfl (.c rfl (.c rfl (.c rfl (.c rfl (.c rfl (.c rfl (.c rfl (.c rfl (.c rfl (.c rfl (.c rfl (.c rfl (.c rfl (.c rfl (.c rfl (.c rfl (.c rfl (.c rfl (.c rfl (.c rfl (.c rfl (.c rfl (.c rfl (.c rfl (.c rfl .n)))))))))))))))))))))))))))))))))))))))))))))))))))))))))))))))))))))))))))))))))))))))))))))))))))))))))))))))))))))))))))))))))) (.c 0 rfl (.c 0 rfl (.c 0 rfl (.c 0 rfl (.c 0 rfl (.c 0 rfl (.c 0 rfl .r))))))) ?_
                          rintro ⟨l, b2⟩ hl
                          dsimp only at hl ⊢
                          refine kSeq ?_
                          refine kRegion rfl ?_
                          refine lV (yLss rfl rfl) rfl rfl ?_
                          refine lNil ?_
                          refine kThen ?_
                          refine kSeq ?_
                          refine split (t := 196) rfl (fun h196 => ?_) (fun h196 => ?_)
                          · refine kIfT rfl ?_
                            refine kSkip ?_
                            refine kThen ?_
                            refine kSeq ?_
                            refine kBlock ?_
                            refine kSeq ?_
                            refine kRegion rfl ?_
                            refine lV (yMove rfl) rfl rfl ?_
                            refine lV (yAssign rfl) rfl rfl ?_
                            refine lNil ?_
                            refine kThen ?_
                            refine kSeq ?_
                            refine kRegion rfl ?_
                            refine lV (yLoadA (vs := [_, _, _, _, _, _, _]) rfl A29 (cOwn 4 rfl rfl)) rfl rfl ?_
                            refine lV (yMove rfl) rfl rfl ?_
                            refine lV (yMove rfl) rfl rfl ?_
                            refine lV (yCall rfl (.c rfl (.c rfl (.c rfl .n))) C22 (fun w hw => apart_any y m (i : Nat) (l : Nat) w (hm.eff hw))) rfl rfl ?_
                            refine lV (yMove rfl) rfl rfl ?_
                            refine lV (yExtract rfl rfl) rfl rfl ?_
                            refine lV (yExtract rfl rfl) rfl rfl ?_
                            refine lE rfl ?_
                            refine eAlloc Z24 fun n26 => ?_
                            refine lE rfl ?_
                            refine eStoreL 0 rfl rfl rfl rfl K24 rfl (rfl) ?_
                            refine lV (yAssign rfl) rfl rfl ?_
                            refine lNil ?_
                            refine kThen ?_
                            refine kSeq ?_
                            refine kRegion rfl ?_
                            refine lV (yLoadA (vs := [_, _, _, _, _, _, _]) rfl A29 (cOwn 7 rfl rfl)) rfl rfl ?_
                            refine lV (yMove rfl) rfl rfl ?_
                            refine lV (yMove rfl) rfl rfl ?_
                            refine lV (yCall rfl (.c rfl (.c rfl (.c rfl .n))) C22 (fun w hw => apart_any (locG y g) (partM m (lessS m n)) (i : Nat) (l : Nat) w ⟨(hm.eff hw).e, OS.rowsE (f := rowS) (0, 0, false) hg hw (.d 0 (.d 0 (.d 0 (.d 0 (.d 0 (.d 0 (.d 0 (.d 0 .r))))))))⟩)) rfl rfl ?_
                            refine lV (yMove rfl) rfl rfl ?_
                            refine lV (yExtract rfl rfl) rfl rfl ?_
                            refine lV (yExtract rfl rfl) rfl rfl ?_
                            refine lE rfl ?_
                            refine eAlloc Z24 fun n28 => ?_
                            refine lE rfl ?_
                            refine eStoreL 0 rfl rfl rfl rfl K24 rfl (rfl) ?_
                            refine lV (yAssign rfl) rfl rfl ?_
                            refine lNil ?_
                            refine kThen ?_
                            refine kRegion rfl ?_
                            refine lV (yMove rfl) rfl rfl ?_
                            refine lV (yMove rfl) rfl rfl ?_
                            refine splitB (t := 213) rfl (fun h213 => ?_) (fun h213 => ?_)
                            · refine lGY rfl rfl rfl (oV (yLoadA (vs := [_, _]) rfl A24 (cOwn 1 rfl rfl)) rfl ?_)
                              refine lGY rfl rfl rfl (oV (yLoadA (vs := [_, _]) rfl A24 (cOwn 0 rfl rfl)) rfl ?_)
                              refine lGY rfl rfl rfl (oV (yEqAgg rfl rfl G24 (fun w => Q24 w)) rfl ?_)
                              refine lV (yPickT rfl rfl) rfl rfl ?_
                              refine lV (yMove rfl) rfl rfl ?_
                              refine split (t := 218) rfl (fun h218 => ?_) (fun h218 => ?_)
                              · refine lGY rfl rfl rfl (oV (yMove rfl) rfl ?_)
                                refine lGY rfl rfl rfl (oV (yMove rfl) rfl ?_)
                                refine lGY rfl rfl rfl (oV (yEql rfl rfl) rfl ?_)
                                refine lV (yPickT rfl rfl) rfl rfl ?_
                                refine lV (yAssign rfl) rfl rfl ?_
                                refine lNil ?_
                                refine kInN ?_
                                refine kThen ?_
                                refine kRegion rfl ?_
                                refine lV (yAdd rfl rfl (by omega)) rfl rfl ?_
                                refine lV (yMove rfl) rfl rfl ?_
                                refine lNil ?_
                                exact kRoundX (l + 1, decide ((apartE m (i : Nat) (l : Nat)).2 = (apartE (partM m (lessS m n)) (i : Nat) (l : Nat)).2)) (by dsimp only; omega) (by dsimp only; omega) rfl (.c rfl (.c rfl .n)) (.c rfl (.c rfl (.c rfl (.c rfl (.c rfl (.c rfl (.c rfl (.c rfl (.c rfl (.c rfl (.c rfl (.c rfl (.c rfl (.c rfl (.c rfl (.c rfl (.c rfl (.c rfl (.c rfl (.c rfl (.c rfl (.c rfl (.c rfl (.c rfl (.c rfl (.c rfl (.c rfl (.c rfl (.c rfl (.c rfl (.c rfl (.c rfl (.c rfl (.c rfl (.c rfl (.c rfl (.c rfl (.c rfl (.c rfl (.c rfl (.c rfl (.c rfl (.c rfl (.c rfl (.c rfl (.c rfl (.c rfl (.c rfl (.c rfl (.c rfl (.c rfl (.c rfl (.c rfl (.c rfl (.c rfl (.c rfl (.c rfl (.c rfl (.c rfl (.c rfl (.c rfl (.c rfl (.c rfl (.c rfl (.c rfl (.c rfl (.c rfl (.c rfl (.c rfl (.c rfl (.c rfl (.c rfl (.c rfl (.c rfl (.c rfl (.c rfl (.c rfl (.c rfl (.c rfl (.c rfl (.c rfl (.c rfl (.c rfl (.c rfl (.c rfl (.c rfl (.c rfl (.c rfl (.c rfl (.c rfl (.c rfl (.c rfl (.c rfl (.c rfl (.c rfl (.c rfl (.c rfl (.c rfl (.c rfl (.c rfl (.c rfl (.c rfl (.c rfl (.c rfl (.c rfl (.c rfl (.c rfl (.c rfl (.c rfl (.c rfl (.c rfl (.c rfl (.c rfl (.c rfl (.c rfl (.c rfl (.c rfl (.c rfl (.c rfl (.c rfl (.c rfl (.c rfl (.c rfl (.c rfl (.c rfl (.c rfl (.c rfl (.c rfl (.c rfl (.c rfl .n)))))))))))))))))))))))))))))))))))))))))))))))))))))))))))))))))))))))))))))))))))))))))))))))))))))))))))))))))))))))))))))))))) (.c 2 rfl (.c 2 rfl (.c 2 rfl (.c 2 rfl (.c 2 rfl (.c 2 rfl (.c 2 rfl (.d 0 (.d 0 .r)))))))))
                              · refine lGN rfl rfl rfl rfl rfl ?_
                                refine lGN rfl rfl rfl rfl rfl ?_
                                refine lGN rfl rfl rfl rfl rfl ?_
                                refine lV (yPickF rfl rfl) rfl rfl ?_
                                refine lV (yAssign rfl) rfl rfl ?_
                                refine lNil ?_
                                refine kInN ?_
                                refine kThen ?_
                                refine kRegion rfl ?_
                                refine lV (yAdd rfl rfl (by omega)) rfl rfl ?_
                                refine lV (yMove rfl) rfl rfl ?_
                                refine lNil ?_
                                exact kRoundX (l + 1, false) (by dsimp only; omega) (by dsimp only; omega) rfl (.c rfl (.c rfl .n)) (.c rfl (.c rfl (.c rfl (.c rfl (.c rfl (.c rfl (.c rfl (.c rfl (.c rfl (.c rfl (.c rfl (.c rfl (.c rfl (.c rfl (.c rfl (.c rfl (.c rfl (.c rfl (.c rfl (.c rfl (.c rfl (.c rfl (.c rfl (.c rfl (.c rfl (.c rfl (.c rfl (.c rfl (.c rfl (.c rfl (.c rfl (.c rfl (.c rfl (.c rfl (.c rfl (.c rfl (.c rfl (.c rfl (.c rfl (.c rfl (.c rfl (.c rfl (.c rfl (.c rfl (.c rfl (.c rfl (.c rfl (.c rfl (.c rfl (.c rfl (.c rfl (.c rfl (.c rfl (.c rfl (.c rfl (.c rfl (.c rfl (.c rfl (.c rfl (.c rfl (.c rfl (.c rfl (.c rfl (.c rfl (.c rfl (.c rfl (.c rfl (.c rfl (.c rfl (.c rfl (.c rfl (.c rfl (.c rfl (.c rfl (.c rfl (.c rfl (.c rfl (.c rfl (.c rfl (.c rfl (.c rfl (.c rfl (.c rfl (.c rfl (.c rfl (.c rfl (.c rfl (.c rfl (.c rfl (.c rfl (.c rfl (.c rfl (.c rfl (.c rfl (.c rfl (.c rfl (.c rfl (.c rfl (.c rfl (.c rfl (.c rfl (.c rfl (.c rfl (.c rfl (.c rfl (.c rfl (.c rfl (.c rfl (.c rfl (.c rfl (.c rfl (.c rfl (.c rfl (.c rfl (.c rfl (.c rfl (.c rfl (.c rfl (.c rfl (.c rfl (.c rfl (.c rfl (.c rfl (.c rfl (.c rfl (.c rfl (.c rfl (.c rfl (.c rfl (.c rfl .n)))))))))))))))))))))))))))))))))))))))))))))))))))))))))))))))))))))))))))))))))))))))))))))))))))))))))))))))))))))))))))))))))) (.c 2 rfl (.c 2 rfl (.c 2 rfl (.c 2 rfl (.c 2 rfl (.c 2 rfl (.c 2 rfl (.d 0 (.d 0 .r)))))))))
                            · refine lGN rfl rfl rfl rfl rfl ?_
                              refine lGN rfl rfl rfl rfl rfl ?_
                              refine lGN rfl rfl rfl rfl rfl ?_
                              refine lV (yPickF rfl rfl) rfl rfl ?_
                              refine lV (yMove rfl) rfl rfl ?_
                              refine lGN rfl rfl rfl rfl rfl ?_
                              refine lGN rfl rfl rfl rfl rfl ?_
                              refine lGN rfl rfl rfl rfl rfl ?_
                              refine lV (yPickF rfl rfl) rfl rfl ?_
                              refine lV (yAssign rfl) rfl rfl ?_
                              refine lNil ?_
                              refine kInN ?_
                              refine kThen ?_
                              refine kRegion rfl ?_
                              refine lV (yAdd rfl rfl (by omega)) rfl rfl ?_
                              refine lV (yMove rfl) rfl rfl ?_
                              refine lNil ?_
                              exact kRoundX (l + 1, false) (by dsimp only; omega) (by dsimp only; omega) rfl (.c rfl (.c rfl .n)) (.c rfl (.c rfl (.c rfl (.c rfl (.c rfl (.c rfl (.c rfl (.c rfl (.c rfl (.c rfl (.c rfl (.c rfl (.c rfl (.c rfl (.c rfl (.c rfl (.c rfl (.c rfl (.c rfl (.c rfl (.c rfl (.c rfl (.c rfl (.c rfl (.c rfl (.c rfl (.c rfl (.c rfl (.c rfl (.c rfl (.c rfl (.c rfl (.c rfl (.c rfl (.c rfl (.c rfl (.c rfl (.c rfl (.c rfl (.c rfl (.c rfl (.c rfl (.c rfl (.c rfl (.c rfl (.c rfl (.c rfl (.c rfl (.c rfl (.c rfl (.c rfl (.c rfl (.c rfl (.c rfl (.c rfl (.c rfl (.c rfl (.c rfl (.c rfl (.c rfl (.c rfl (.c rfl (.c rfl (.c rfl (.c rfl (.c rfl (.c rfl (.c rfl (.c rfl (.c rfl (.c rfl (.c rfl (.c rfl (.c rfl (.c rfl (.c rfl (.c rfl (.c rfl (.c rfl (.c rfl (.c rfl (.c rfl (.c rfl (.c rfl (.c rfl (.c rfl (.c rfl (.c rfl (.c rfl (.c rfl (.c rfl (.c rfl (.c rfl (.c rfl (.c rfl (.c rfl (.c rfl (.c rfl (.c rfl (.c rfl (.c rfl (.c rfl (.c rfl (.c rfl (.c rfl (.c rfl (.c rfl (.c rfl (.c rfl (.c rfl (.c rfl (.c rfl (.c rfl (.c rfl (.c rfl (.c rfl (.c rfl (.c rfl (.c rfl (.c rfl (.c rfl (.c rfl (.c rfl (.c rfl (.c rfl (.c rfl (.c rfl (.c rfl (.c rfl (.c rfl .n)))))))))))))))))))))))))))))))))))))))))))))))))))))))))))))))))))))))))))))))))))))))))))))))))))))))))))))))))))))))))))))))))) (.c 2 rfl (.c 2 rfl (.c 2 rfl (.c 2 rfl (.c 2 rfl (.c 2 rfl (.c 2 rfl (.d 0 (.d 0 .r)))))))))
                          · refine kIfF rfl ?_
                            refine kExit ?_
                            refine kThenX ?_
                            refine kThenX ?_
                            refine kInX ?_
                            refine kInN ?_
                            refine kThen ?_
                            refine kRegion rfl ?_
                            refine lV (yAdd rfl rfl (by omega)) rfl rfl ?_
                            refine lV (yMove rfl) rfl rfl ?_
                            refine lNil ?_
                            exact kRoundX (i + 1, b2) (by dsimp only; omega) (by dsimp only; omega) rfl (.c rfl (.c rfl .n)) (.c rfl (.c rfl (.c rfl (.c rfl (.c rfl (.c rfl (.c rfl (.c rfl (.c rfl (.c rfl (.c rfl (.c rfl (.c rfl (.c rfl (.c rfl (.c rfl (.c rfl (.c rfl (.c rfl (.c rfl (.c rfl (.c rfl (.c rfl (.c rfl (.c rfl (.c rfl (.c rfl (.c rfl (.c rfl (.c rfl (.c rfl (.c rfl (.c rfl (.c rfl (.c rfl (.c rfl (.c rfl (.c rfl (.c rfl (.c rfl (.c rfl (.c rfl (.c rfl (.c rfl (.c rfl (.c rfl (.c rfl (.c rfl (.c rfl (.c rfl (.c rfl (.c rfl (.c rfl (.c rfl (.c rfl (.c rfl (.c rfl (.c rfl (.c rfl (.c rfl (.c rfl (.c rfl (.c rfl (.c rfl (.c rfl (.c rfl (.c rfl (.c rfl (.c rfl (.c rfl (.c rfl (.c rfl (.c rfl (.c rfl (.c rfl (.c rfl (.c rfl (.c rfl (.c rfl (.c rfl (.c rfl (.c rfl (.c rfl (.c rfl (.c rfl (.c rfl (.c rfl (.c rfl (.c rfl (.c rfl (.c rfl (.c rfl (.c rfl (.c rfl (.c rfl (.c rfl (.c rfl (.c rfl (.c rfl (.c rfl .n)))))))))))))))))))))))))))))))))))))))))))))))))))))))))))))))))))))))))))))))))))))))))))))))))))) (.c 2 rfl (.c 2 rfl (.c 2 rfl (.c 2 rfl (.c 2 rfl (.d 0 (.d 0 .r)))))))
                      · refine lGN rfl rfl rfl rfl rfl ?_
                        refine lGN rfl rfl rfl rfl rfl ?_
                        refine lGN rfl rfl rfl rfl rfl ?_
                        refine lV (yPickF rfl rfl) rfl rfl ?_
                        refine lV (yMove rfl) rfl rfl ?_
                        refine lGN rfl rfl rfl rfl rfl ?_
                        refine lGN rfl rfl rfl rfl rfl ?_
                        refine lGN rfl rfl rfl rfl rfl ?_
                        refine lV (yPickF rfl rfl) rfl rfl ?_
                        refine lV (yAssign rfl) rfl rfl ?_
                        refine lNil ?_
                        refine kThen ?_
                        refine kSeq ?_
                        refine kRegion rfl ?_
                        refine lV (yFieldAddr rfl F29_1) rfl rfl ?_
                        refine lV (yLoad1 rfl O3 (cOwn 4 rfl rfl)) rfl rfl ?_
                        refine lV (yMove rfl) rfl rfl ?_
                        refine lNil ?_
                        refine kThen ?_
                        refine kBlock ?_
                        refine kLoopX (ι := Nat × Bool) (fun x => (x.1 : Int) ≤ m.images) (fun x => [(195, i64 (x.1 : Nat)), (19, .bool x.2)]) [(0, _), (1, _), (30, _), (31, _), (32, _), (33, _), (34, _), (35, _), (36, _), (39, _), (40, _), (38, _), (41, _), (42, _), (3, _), (4, _), (44, _), (45, _), (43, _), (46, _), (47, _), (5, _), (6, _), (49, _), (50, _), (48, _), (51, _), (52, _), (7, _), (8, _), (53, _), (54, _), (55, _), (56, _), (57, _), (58, _), (59, _), (60, _), (61, _), (62, _), (63, _), (64, _), (65, _), (66, _), (67, _), (68, _), (69, _), (70, _), (71, _), (72, _), (73, _), (9, _), (74, _), (75, _), (76, _), (77, _), (78, _), (98, _), (99, _), (100, _), (101, _), (118, _), (119, _), (129, _), (130, _), (131, _), (132, _), (133, _), (14, _), (134, _), (135, _), (136, _), (137, _), (138, _), (139, _), (140, _), (141, _), (142, _), (143, _), (144, _), (145, _), (146, _), (15, _), (16, _), (154, _), (155, _), (153, _), (156, _), (157, _), (17, _), (18, _), (158, _), (159, _), (160, _), (161, _), (162, _), (163, _), (164, _), (165, _), (166, _), (167, _), (168, _), (169, _), (20, _), (171, _), (172, _), (173, _), (170, _), (174, _), (175, _), (21, _), (22, _), (177, _), (178, _), (179, _), (176, _), (180, _), (181, _), (23, _), (24, _), (182, _), (183, _), (187, _), (188, _), (192, _), (193, _), (194, _)] (fun x => []) (fun x => osL 49 g) [(n23, _), (n21, _), (n17, _), (n7, _), (n1, _), (nW, _), (n16, _)] (fun x => m.images.toNat - x.1) (0, false) (by dsimp only; omega) rfl (.c rfl (.c rfl .n)) (.c rfl (.c rfl (.c rfl (.c rfl (.c rfl (.c rfl (.c rfl (.c rfl (.c rfl (.c rfl (.c rfl (.c rfl (.c rfl (.c rfl (.c rfl (.c rfl (.c rfl (.c rfl (.c rfl (.c rfl (.c rfl (.c rfl (.c rfl (.c rfl (.c rfl (.c rfl (.c rfl (.c rfl (.c rfl (.c rfl (.c rfl (.c rfl (.c rfl (.c rfl (.c rfl (.c rfl (.c rfl (.c rfl (.c rfl (.c rfl (.c rfl (.c rfl (.c rfl (.c rfl (.c rfl (.c rfl (.c rfl (.c rfl (.c rfl (.c rfl (.c rfl (.c rfl (.c rfl (.c rfl (.c rfl (.c rfl (.c rfl (.c rfl (.c rfl (.c rfl (.c rfl (.c rfl (.c rfl (.c rfl (.c rfl (.c rfl (.c rfl (.c rfl (.c rfl (.c rfl (.c rfl (.c rfl (.c rfl (.c rfl (.c rfl (.c rfl (.c rfl (.c rfl (.c rfl (.c rfl (.c rfl (.c rfl (.c rfl (.c rfl (.c rfl (.c rfl (.c rfl (.c rfl (.c rfl (.c rfl (.c rfl (.c rfl (.c rfl (.c rfl (.c rfl (.c rfl (.c rfl (.c rfl (.c rfl (.c rfl (.c rfl (.c rfl (.c rfl (.c rfl (.c rfl (.c rfl (.c rfl (.c rfl (.c rfl (.c rfl (.c rfl (.c rfl (.c rfl (.c rfl (.c rfl (.c rfl (.c rfl (.c rfl (.c rfl (.c rfl (.c rfl (.c rfl (.c rfl (.c rfl (.c rfl (.c rfl (.c rfl .n))))))))))))))))))))))))))))))))))))))))))))))))))))))))))))))))))))))))))))))))))))))))))))))))))))))))))))))))))))))))))))))) (.c 0 rfl (.c 0 rfl (.c 0 rfl (.c 0 rfl (.c 0 rfl (.c 0 rfl (.c 0 rfl .r))))))) ?_
                        rintro ⟨l, b2⟩ hl
                        dsimp only at hl ⊢
                        refine kSeq ?_
                        refine kRegion rfl ?_
                        refine lV (yLss rfl rfl) rfl rfl ?_
                        refine lNil ?_
                        refine kThen ?_
                        refine kSeq ?_
                        refine split (t := 196) rfl (fun h196 => ?_) (fun h196 => ?_)
                        · refine kIfT rfl ?_
                          refine kSkip ?_
                          refine kThen ?_
                          refine kSeq ?_
                          refine kBlock ?_
                          refine kSeq ?_
                          refine kRegion rfl ?_
                          refine lV (yMove rfl) rfl rfl ?_
                          refine lV (yAssign rfl) rfl rfl ?_
                          refine lNil ?_
                          refine kThen ?_
                          refine kSeq ?_
                          refine kRegion rfl ?_
                          refine lV (yLoadA (vs := [_, _, _, _, _, _, _]) rfl A29 (cOwn 4 rfl rfl)) rfl rfl ?_
                          refine lV (yMove rfl) rfl rfl ?_
                          refine lV (yMove rfl) rfl rfl ?_
                          refine lV (yCall rfl (.c rfl (.c rfl (.c rfl .n))) C22 (fun w hw => apart_any y m (i : Nat) (l : Nat) w (hm.eff hw))) rfl rfl ?_
                          refine lV (yMove rfl) rfl rfl ?_
                          refine lV (yExtract rfl rfl) rfl rfl ?_
                          refine lV (yExtract rfl rfl) rfl rfl ?_
                          refine lE rfl ?_
                          refine eAlloc Z24 fun n26 => ?_
                          refine lE rfl ?_
                          refine eStoreL 0 rfl rfl rfl rfl K24 rfl (rfl) ?_
                          refine lV (yAssign rfl) rfl rfl ?_
                          refine lNil ?_
                          refine kThen ?_
                          refine kSeq ?_
                          refine kRegion rfl ?_
                          refine lV (yLoadA (vs := [_, _, _, _, _, _, _]) rfl A29 (cOwn 7 rfl rfl)) rfl rfl ?_
                          refine lV (yMove rfl) rfl rfl ?_
                          refine lV (yMove rfl) rfl rfl ?_
                          refine lV (yCall rfl (.c rfl (.c rfl (.c rfl .n))) C22 (fun w hw => apart_any (locG y g) (partM m (lessS m n)) (i : Nat) (l : Nat) w ⟨(hm.eff hw).e, OS.rowsE (f := rowS) (0, 0, false) hg hw (.d 0 (.d 0 (.d 0 (.d 0 (.d 0 (.d 0 (.d 0 (.d 0 .r))))))))⟩)) rfl rfl ?_
                          refine lV (yMove rfl) rfl rfl ?_
                          refine lV (yExtract rfl rfl) rfl rfl ?_
                          refine lV (yExtract rfl rfl) rfl rfl ?_
                          refine lE rfl ?_
                          refine eAlloc Z24 fun n28 => ?_
                          refine lE rfl ?_
                          refine eStoreL 0 rfl rfl rfl rfl K24 rfl (rfl) ?_
                          refine lV (yAssign rfl) rfl rfl ?_
                          refine lNil ?_
                          refine kThen ?_
                          refine kRegion rfl ?_
                          refine lV (yMove rfl) rfl rfl ?_
                          refine lV (yMove rfl) rfl rfl ?_
                          refine splitB (t := 213) rfl (fun h213 => ?_) (fun h213 => ?_)
                          · refine lGY rfl rfl rfl (oV (yLoadA (vs := [_, _]) rfl A24 (cOwn 1 rfl rfl)) rfl ?_)
                            refine lGY rfl rfl rfl (oV (yLoadA (vs := [_, _]) rfl A24 (cOwn 0 rfl rfl)) rfl ?_)
                            refine lGY rfl rfl rfl (oV (yEqAgg rfl rfl G24 (fun w => Q24 w)) rfl ?_)
                            refine lV (yPickT rfl rfl) rfl rfl ?_
                            refine lV (yMove rfl) rfl rfl ?_
                            refine split (t := 218) rfl (fun h218 => ?_) (fun h218 => ?_)
                            · refine lGY rfl rfl rfl (oV (yMove rfl) rfl ?_)
                              refine lGY rfl rfl rfl (oV (yMove rfl) rfl ?_)
                              refine lGY rfl rfl rfl (oV (yEql rfl rfl) rfl ?_)
                              refine lV (yPickT rfl rfl) rfl rfl ?_
                              refine lV (yAssign rfl) rfl rfl ?_
                              refine lNil ?_
                              refine kInN ?_
                              refine kThen ?_
                              refine kRegion rfl ?_
                              refine lV (yAdd rfl rfl (by omega)) rfl rfl ?_
                              refine lV (yMove rfl) rfl rfl ?_
                              refine lNil ?_
                              exact kRoundX (l + 1, decide ((apartE m (i : Nat) (l : Nat)).2 = (apartE (partM m (lessS m n)) (i : Nat) (l : Nat)).2)) (by dsimp only; omega) (by dsimp only; omega) rfl (.c rfl (.c rfl .n)) (.c rfl (.c rfl (.c rfl (.c rfl (.c rfl (.c rfl (.c rfl (.c rfl (.c rfl (.c rfl (.c rfl (.c rfl (.c rfl (.c rfl (.c rfl (.c rfl (.c rfl (.c rfl (.c rfl (.c rfl (.c rfl (.c rfl (.c rfl (.c rfl (.c rfl (.c rfl (.c rfl (.c rfl (.c rfl (.c rfl (.c rfl (.c rfl (.c rfl (.c rfl (.c rfl (.c rfl (.c rfl (.c rfl (.c rfl (.c rfl (.c rfl (.c rfl (.c rfl (.c rfl (.c rfl (.c rfl (.c rfl (.c rfl (.c rfl (.c rfl (.c rfl (.c rfl (.c rfl (.c rfl (.c rfl (.c rfl (.c rfl (.c rfl (.c rfl (.c rfl (.c rfl (.c rfl (.c rfl (.c rfl (.c rfl (.c rfl (.c rfl (.c rfl (.c rfl (.c rfl (.c rfl (.c rfl (.c rfl (.c rfl (.c rfl (.c rfl (.c rfl (.c rfl (.c rfl (.c rfl (.c rfl (.c rfl (.c rfl (.c rfl (.c rfl (.c rfl (.c rfl (.c rfl (.c rfl (.c rfl (.c rfl (.c rfl (.c rfl (.c rfl (.c rfl (.c rfl (.c rfl (.c rfl (.c rfl (.c rfl (.c rfl (.c rfl (.c rfl (.c rfl (.c rfl (.c rfl (.c rfl (.c rfl (.c rfl (.c rfl (.c rfl (.c rfl (.c rfl (.c rfl (.c rfl (.c rfl (.c rfl (.c rfl (.c rfl (.c rfl (.c rfl (.c rfl (.c rfl (.c rfl (.c rfl (.c rfl (.c rfl .n))))))))))))))))))))))))))))))))))))))))))))))))))))))))))))))))))))))))))))))))))))))))))))))))))))))))))))))))))))))))))))))) (.c 2 rfl (.c 2 rfl (.c 2 rfl (.c 2 rfl (.c 2 rfl (.c 2 rfl (.c 2 rfl (.d 0 (.d 0 .r)))))))))
                            · refine lGN rfl rfl rfl rfl rfl ?_
                              refine lGN rfl rfl rfl rfl rfl ?_
                              refine lGN rfl rfl rfl rfl rfl ?_
                              refine lV (yPickF rfl rfl) rfl rfl ?_
                              refine lV (yAssign rfl) rfl rfl ?_
                              refine lNil ?_
                              refine kInN ?_
                              refine kThen ?_
                              refine kRegion rfl ?_
                              refine lV (yAdd rfl rfl (by omega)) rfl rfl ?_
                              refine lV (yMove rfl) rfl rfl ?_
                              refine lNil ?_
                              exact kRoundX (l + 1, false) (by dsimp only; omega) (by dsimp only; omega) rfl (.c rfl (.c rfl .n)) (.c rfl (.c rfl (.c rfl (.c rfl (.c rfl (.c rfl (.c rfl (.c rfl (.c rfl (.c rfl (.c rfl (.c rfl (.c rfl (.c rfl (.c rfl (.c rfl (.c rfl (.c rfl (.c rfl (.c rfl (.c rfl (.c rfl (.c rfl (.c rfl (.c rfl (.c rfl (.c rfl (.c rfl (.c rfl (.c rfl (.c rfl (.c rfl (.c rfl (.c rfl (.c rfl (.c rfl (.c rfl (.c rfl (.c rfl (.c rfl (.c rfl (.c rfl (.c rfl (.c rfl (.c rfl (.c rfl (.c rfl (.c rfl (.c rfl (.c rfl (.c rfl (.c rfl (.c rfl (.c rfl (.c rfl (.c rfl (.c rfl (.c rfl (.c rfl (.c rfl (.c rfl (.c rfl (.c rfl (.c rfl (.c rfl (.c rfl (.c rfl (.c rfl (.c rfl (.c rfl (.c rfl (.c rfl (.c rfl (.c rfl (.c rfl (.c rfl (.c rfl (.c rfl (.c rfl (.c rfl (.c rfl (.c rfl (.c rfl (.c rfl (.c rfl (.c rfl (.c rfl (.c rfl (.c rfl (.c rfl (.c rfl (.c rfl (.c rfl (.c rfl (.c rfl (.c rfl (.c rfl (.c rfl (.c rfl (.c rfl (.c rfl (.c rfl (.c rfl (.c rfl (.c rfl (.c rfl (.c rfl (.c rfl (.c rfl (.c rfl (.c rfl (.c rfl (.c rfl (.c rfl (.c rfl (.c rfl (.c rfl (.c rfl (.c rfl (.c rfl (.c rfl (.c rfl (.c rfl (.c rfl (.c rfl (.c rfl (.c rfl .n))))))))))))))))))))))))))))))))))))))))))))))))))))))))))))))))))))))))))))))))))))))))))))))))))))))))))))))))))))))))))))))) (.c 2 rfl (.c 2 rfl (.c 2 rfl (.c 2 rfl (.c 2 rfl (.c 2 rfl (.c 2 rfl (.d 0 (.d 0 .r)))))))))
                          · refine lGN rfl rfl rfl rfl rfl ?_
                            refine lGN rfl rfl rfl rfl rfl ?_
                            refine lGN rfl rfl rfl rfl rfl ?_
                            refine lV (yPickF rfl rfl) rfl rfl ?_
                            refine lV (yMove rfl) rfl rfl ?_
                            refine lGN rfl rfl rfl rfl rfl ?_
                            refine lGN rfl rfl rfl rfl rfl ?_
                            refine lGN rfl rfl rfl rfl rfl ?_
                            refine lV (yPickF rfl rfl) rfl rfl ?_
                            refine lV (yAssign rfl) rfl rfl ?_
                            refine lNil ?_
                            refine kInN ?_
                            refine kThen ?_
                            refine kRegion rfl ?_
                            refine lV (yAdd rfl rfl (by omega)) rfl rfl ?_
                            refine lV (yMove rfl) rfl rfl ?_
                            refine lNil ?_
                            exact kRoundX (l + 1, false) (by dsimp only; omega) (by dsimp only; omega) rfl (.c rfl (.c rfl .n)) (.c rfl (.c rfl (.c rfl (.c rfl (.c rfl (.c rfl (.c rfl (.c rfl (.c rfl (.c rfl (.c rfl (.c rfl (.c rfl (.c rfl (.c rfl (.c rfl (.c rfl (.c rfl (.c rfl (.c rfl (.c rfl (.c rfl (.c rfl (.c rfl (.c rfl (.c rfl (.c rfl (.c rfl (.c rfl (.c rfl (.c rfl (.c rfl (.c rfl (.c rfl (.c rfl (.c rfl (.c rfl (.c rfl (.c rfl (.c rfl (.c rfl (.c rfl (.c rfl (.c rfl (.c rfl (.c rfl (.c rfl (.c rfl (.c rfl (.c rfl (.c rfl (.c rfl (.c rfl (.c rfl (.c rfl (.c rfl (.c rfl (.c rfl (.c rfl (.c rfl (.c rfl (.c rfl (.c rfl (.c rfl (.c rfl (.c rfl (.c rfl (.c rfl (.c rfl (.c rfl (.c rfl (.c rfl (.c rfl (.c rfl (.c rfl (.c rfl (.c rfl (.c rfl (.c rfl (.c rfl (.c rfl (.c rfl (.c rfl (.c rfl (.c rfl (.c rfl (.c rfl (.c rfl (.c rfl (.c rfl (.c rfl (.c rfl (.c rfl (.c rfl (.c rfl (.c rfl (.c rfl (.c rfl (.c rfl (.c rfl (.c rfl (.c rfl (.c rfl (.c rfl (.c rfl (.c rfl (.c rfl (.c rfl (.c rfl (.c rfl (.c rfl (.c rfl (.c rfl (.c rfl (.c rfl (.c rfl (.c rfl (.c rfl (.c rfl (.c rfl (.c rfl (.c rfl (.c rfl (.c rfl (.c rfl (.c rfl (.c rfl .n))))))))))))))))))))))))))))))))))))))))))))))))))))))))))))))))))))))))))))))))))))))))))))))))))))))))))))))))))))))))))))))) (.c 2 rfl (.c 2 rfl (.c 2 rfl (.c 2 rfl (.c 2 rfl (.c 2 rfl (.c 2 rfl (.d 0 (.d 0 .r)))))))))
                        · refine kIfF rfl ?_
                          refine kExit ?_
                          refine kThenX ?_
                          refine kThenX ?_
                          refine kInX ?_
                          refine kInN ?_
                          refine kThen ?_
                          refine kRegion rfl ?_
                          refine lV (yAdd rfl rfl (by omega)) rfl rfl ?_
                          refine lV (yMove rfl) rfl rfl ?_
                          refine lNil ?_
                          exact kRoundX (i + 1, b2) (by dsimp only; omega) (by dsimp only; omega) rfl (.c rfl (.c rfl .n)) (.c rfl (.c rfl (.c rfl (.c rfl (.c rfl (.c rfl (.c rfl (.c rfl (.c rfl (.c rfl (.c rfl (.c rfl (.c rfl (.c rfl (.c rfl (.c rfl (.c rfl (.c rfl (.c rfl (.c rfl (.c rfl (.c rfl (.c rfl (.c rfl (.c rfl (.c rfl (.c rfl (.c rfl (.c rfl (.c rfl (.c rfl (.c rfl (.c rfl (.c rfl (.c rfl (.c rfl (.c rfl (.c rfl (.c rfl (.c rfl (.c rfl (.c rfl (.c rfl (.c rfl (.c rfl (.c rfl (.c rfl (.c rfl (.c rfl (.c rfl (.c rfl (.c rfl (.c rfl (.c rfl (.c rfl (.c rfl (.c rfl (.c rfl (.c rfl (.c rfl (.c rfl (.c rfl (.c rfl (.c rfl (.c rfl (.c rfl (.c rfl (.c rfl (.c rfl (.c rfl (.c rfl (.c rfl (.c rfl (.c rfl (.c rfl (.c rfl (.c rfl (.c rfl (.c rfl (.c rfl (.c rfl (.c rfl (.c rfl (.c rfl (.c rfl (.c rfl (.c rfl (.c rfl (.c rfl (.c rfl (.c rfl (.c rfl (.c rfl (.c rfl (.c rfl (.c rfl (.c rfl (.c rfl (.c rfl (.c rfl .n)))))))))))))))))))))))))))))))))))))))))))))))))))))))))))))))))))))))))))))))))))))))))))))))))))) (.c 2 rfl (.c 2 rfl (.c 2 rfl (.c 2 rfl (.c 2 rfl (.d 0 (.d 0 .r)))))))
                    · refine kIfF rfl ?_
                      refine kExit ?_
                      refine kThenX ?_
                      refine kThenX ?_
                      refine kInX ?_
                      refine kThen ?_
                      refine kSeq ?_
                      refine kRegion rfl ?_
                      refine lV (yMove rfl) rfl rfl ?_
                      refine lV (yMove rfl) rfl rfl ?_
                      refine lV (yShr rfl rfl rfl (by omega)) rfl rfl ?_
                      refine lV (yAnd (b := 1) rfl rfl rfl (by have := Nat.div_le_self (idleW m m.sets.length) (2 ^ n); omega) (by have := Nat.div_le_self (idleW m m.sets.length) (2 ^ n); omega)) rfl rfl ?_
                      refine lV (yEql rfl rfl) rfl rfl ?_
                      refine knownN (t := 229) rfl (hbit) ?_
                      refine lV (yMove rfl) rfl rfl ?_
                      refine lGN rfl rfl rfl rfl rfl ?_
                      refine lGN rfl rfl rfl rfl rfl ?_
                      refine lV (yPickF rfl rfl) rfl rfl ?_
                      refine lV (yMove rfl) rfl rfl ?_
                      refine lGY rfl rfl rfl (oV (yMove rfl) rfl ?_)
                      refine lGY rfl rfl rfl (oV (yMove rfl) rfl ?_)
                      refine lGY rfl rfl rfl (oV (yShr rfl rfl rfl (by omega)) rfl ?_)
                      refine lGY rfl rfl rfl (oV (yAnd (b := 1) rfl rfl rfl (by have := Nat.div_le_self (idleW m m.sets.length) (2 ^ n); omega) (by have := Nat.div_le_self (idleW m m.sets.length) (2 ^ n); omega)) rfl ?_)
                      refine lGY rfl rfl rfl (oV (yEql rfl rfl) rfl ?_)
                      refine known (t := 239) rfl ((and_not_one hbit)) ?_
                      refine lGY rfl rfl rfl (oV (yMove rfl) rfl ?_)
                      refine lGY rfl rfl rfl (oV (yMove rfl) rfl ?_)
                      refine lGY rfl rfl rfl (oV (yPickT rfl rfl) rfl ?_)
                      refine lGY rfl rfl rfl (oV (yMove rfl) rfl ?_)
                      refine splitB (t := 243) rfl (fun h243 => ?_) (fun h243 => ?_)
                      · have hbd := bound_true hM ho hsF
                        refine lGY rfl rfl rfl (oV (yLoadA (vs := [_, _, _, _, _, _, _]) rfl A29 (cOwn 2 rfl rfl)) rfl ?_)
                        refine lGY rfl rfl rfl (oV (yLoadA (vs := [_, _, _, _, _, _, _]) rfl A29 (cOwn 4 rfl rfl)) rfl ?_)
                        refine lGY rfl rfl rfl (oV (yCall rfl (.c rfl (.c rfl .n)) C43 (fun w hw => bound_any y m (locG y g) (partM m (lessS m n)) w (hm.eff hw) ⟨(hm.eff hw).e, OS.rowsE (f := rowS) (0, 0, false) hg hw (.d 0 (.d 0 (.d 0 (.d 0 (.d 0 .r)))))⟩ hM hP)) rfl ?_)
                        refine knownB (t := 246) (c := true) rfl (hbd) ?_
                        refine lGY rfl rfl rfl (oV (yNot rfl) rfl ?_)
                        refine lGY rfl rfl rfl (oV (yPickT rfl rfl) rfl ?_)
                        refine lV (yPickF rfl rfl) rfl rfl ?_
                        refine lNil ?_
                        refine kThen ?_
                        refine kIfF rfl ?_
                        refine kSkip ?_
                        refine kInN ?_
                        refine kThen ?_
                        refine kRegion rfl ?_
                        refine lV (yAdd rfl rfl (by omega)) rfl rfl ?_
                        refine lV (yMove rfl) rfl rfl ?_
                        refine lNil ?_
                        exact kRoundX (n + 1) (by omega) (by omega) rfl (.c rfl .n) (.c rfl (.c rfl (.c rfl (.c rfl (.c rfl (.c rfl (.c rfl (.c rfl (.c rfl (.c rfl (.c rfl (.c rfl (.c rfl (.c rfl (.c rfl (.c rfl (.c rfl (.c rfl (.c rfl (.c rfl (.c rfl (.c rfl (.c rfl (.c rfl (.c rfl (.c rfl (.c rfl (.c rfl (.c rfl (.c rfl (.c rfl (.c rfl (.c rfl (.c rfl (.c rfl (.c rfl (.c rfl (.c rfl (.c rfl (.c rfl (.c rfl (.c rfl (.c rfl (.c rfl (.c rfl (.c rfl (.c rfl (.c rfl (.c rfl (.c rfl (.c rfl (.c rfl (.c rfl (.c rfl (.c rfl (.c rfl (.c rfl (.c rfl (.c rfl (.c rfl (.c rfl (.c rfl (.c rfl (.c rfl (.c rfl (.c rfl (.c rfl (.c rfl (.c rfl (.c rfl (.c rfl (.c rfl (.c rfl (.c rfl (.c rfl (.c rfl (.c rfl (.c rfl (.c rfl .n))))))))))))))))))))))))))))))))))))))))))))))))))))))))))))))))))))))))))))))) (.c 1 rfl (.c 1 rfl (.c 1 rfl .n)))
                      · refine lGN rfl rfl rfl rfl rfl ?_
                        refine lGN rfl rfl rfl rfl rfl ?_
                        refine lGN rfl rfl rfl rfl rfl ?_
                        refine lGN rfl rfl rfl rfl rfl ?_
                        refine lGY rfl rfl rfl (oV (yPickF rfl rfl) rfl ?_)
                        refine lV (yPickF rfl rfl) rfl rfl ?_
                        refine lNil ?_
                        refine kThen ?_
                        refine kIfF rfl ?_
                        refine kSkip ?_
                        refine kInN ?_
                        refine kThen ?_
                        refine kRegion rfl ?_
                        refine lV (yAdd rfl rfl (by omega)) rfl rfl ?_
                        refine lV (yMove rfl) rfl rfl ?_
                        refine lNil ?_
                        exact kRoundX (n + 1) (by omega) (by omega) rfl (.c rfl .n) (.c rfl (.c rfl (.c rfl (.c rfl (.c rfl (.c rfl (.c rfl (.c rfl (.c rfl (.c rfl (.c rfl (.c rfl (.c rfl (.c rfl (.c rfl (.c rfl (.c rfl (.c rfl (.c rfl (.c rfl (.c rfl (.c rfl (.c rfl (.c rfl (.c rfl (.c rfl (.c rfl (.c rfl (.c rfl (.c rfl (.c rfl (.c rfl (.c rfl (.c rfl (.c rfl (.c rfl (.c rfl (.c rfl (.c rfl (.c rfl (.c rfl (.c rfl (.c rfl (.c rfl (.c rfl (.c rfl (.c rfl (.c rfl (.c rfl (.c rfl (.c rfl (.c rfl (.c rfl (.c rfl (.c rfl (.c rfl (.c rfl (.c rfl (.c rfl (.c rfl (.c rfl (.c rfl (.c rfl (.c rfl (.c rfl (.c rfl (.c rfl (.c rfl (.c rfl (.c rfl (.c rfl (.c rfl (.c rfl (.c rfl (.c rfl (.c rfl (.c rfl (.c rfl (.c rfl .n))))))))))))))))))))))))))))))))))))))))))))))))))))))))))))))))))))))))))))))) (.c 1 rfl (.c 1 rfl (.c 1 rfl .n)))
                  · refine lGN rfl rfl rfl rfl rfl ?_
                    refine lGN rfl rfl rfl rfl rfl ?_
                    refine lV (yPickF rfl rfl) rfl rfl ?_
                    refine lV (yAssign rfl) rfl rfl ?_
                    refine lNil ?_
                    refine kThen ?_
                    refine kSeq ?_
                    refine kSeq ?_
                    refine kRegion rfl ?_
                    refine lV (yFieldAddr rfl F29_1) rfl rfl ?_
                    refine lV (yLoad1 rfl O3 (cOwn 2 rfl rfl)) rfl rfl ?_
                    refine lV (yMove rfl) rfl rfl ?_
                    refine lNil ?_
                    refine kThen ?_
                    refine kBlock ?_
                    refine kLoopX (ι := Nat × Bool) (fun x => (x.1 : Int) ≤ m.images) (fun x => [(167, i64 (x.1 : Nat)), (19, .bool x.2)]) [(0, _), (1, _), (30, _), (31, _), (32, _), (33, _), (34, _), (35, _), (36, _), (39, _), (40, _), (38, _), (41, _), (42, _), (3, _), (4, _), (44, _), (45, _), (43, _), (46, _), (47, _), (5, _), (6, _), (49, _), (50, _), (48, _), (51, _), (52, _), (7, _), (8, _), (53, _), (54, _), (55, _), (56, _), (57, _), (58, _), (59, _), (60, _), (61, _), (62, _), (63, _), (64, _), (65, _), (66, _), (67, _), (68, _), (69, _), (70, _), (71, _), (72, _), (73, _), (9, _), (74, _), (75, _), (76, _), (77, _), (78, _), (98, _), (99, _), (100, _), (101, _), (118, _), (119, _), (129, _), (130, _), (131, _), (132, _), (133, _), (14, _), (134, _), (135, _), (136, _), (137, _), (138, _), (139, _), (140, _), (141, _), (142, _), (143, _), (144, _), (145, _), (146, _), (15, _), (16, _), (154, _), (155, _), (153, _), (156, _), (157, _), (17, _), (18, _), (158, _), (159, _), (160, _), (161, _), (164, _), (165, _), (166, _)] (fun x => []) (fun x => osL 49 g) [(n17, _), (n7, _), (n1, _), (nW, _), (n16, _)] (fun x => m.images.toNat - x.1) (0, false) (by dsimp only; omega) rfl (.c rfl (.c rfl .n)) (.c rfl (.c rfl (.c rfl (.c rfl (.c rfl (.c rfl (.c rfl (.c rfl (.c rfl (.c rfl (.c rfl (.c rfl (.c rfl (.c rfl (.c rfl (.c rfl (.c rfl (.c rfl (.c rfl (.c rfl (.c rfl (.c rfl (.c rfl (.c rfl (.c rfl (.c rfl (.c rfl (.c rfl (.c rfl (.c rfl (.c rfl (.c rfl (.c rfl (.c rfl (.c rfl (.c rfl (.c rfl (.c rfl (.c rfl (.c rfl (.c rfl (.c rfl (.c rfl (.c rfl (.c rfl (.c rfl (.c rfl (.c rfl (.c rfl (.c rfl (.c rfl (.c rfl (.c rfl (.c rfl (.c rfl (.c rfl (.c rfl (.c rfl (.c rfl (.c rfl (.c rfl (.c rfl (.c rfl (.c rfl (.c rfl (.c rfl (.c rfl (.c rfl (.c rfl (.c rfl (.c rfl (.c rfl (.c rfl (.c rfl (.c rfl (.c rfl (.c rfl (.c rfl (.c rfl (.c rfl (.c rfl (.c rfl (.c rfl (.c rfl (.c rfl (.c rfl (.c rfl (.c rfl (.c rfl (.c rfl (.c rfl (.c rfl (.c rfl (.c rfl (.c rfl (.c rfl (.c rfl (.c rfl .n)))))))))))))))))))))))))))))))))))))))))))))))))))))))))))))))))))))))))))))))))))))))))))))))))) (.c 0 rfl (.c 0 rfl (.c 0 rfl (.c 0 rfl (.c 0 rfl .r))))) ?_
                    rintro ⟨i, b⟩ hi
                    dsimp only at hi ⊢
                    refine kSeq ?_
                    refine kRegion rfl ?_
                    refine lV (yLss rfl rfl) rfl rfl ?_
                    refine lNil ?_
                    refine kThen ?_
                    refine kSeq ?_
                    refine split (t := 168) rfl (fun h168 => ?_) (fun h168 => ?_)
                    · refine kIfT rfl ?_
                      refine kSkip ?_
                      refine kThen ?_
                      refine kSeq ?_
                      refine kBlock ?_
                      refine kSeq ?_
                      refine kRegion rfl ?_
                      refine lV (yMove rfl) rfl rfl ?_
                      refine lV (yAssign rfl) rfl rfl ?_
                      refine lNil ?_
                      refine kThen ?_
                      refine kSeq ?_
                      refine kRegion rfl ?_
                      refine lV (yLoadA (vs := [_, _, _, _, _, _, _]) rfl A29 (cOwn 2 rfl rfl)) rfl rfl ?_
                      refine lV (yMove rfl) rfl rfl ?_
                      refine lV (yCall rfl (.c rfl (.c rfl .n)) C20 (fun w hw => place_any y m (i : Nat) w (hm.eff hw))) rfl rfl ?_
                      refine lV (yMove rfl) rfl rfl ?_
                      refine lV (yExtract rfl rfl) rfl rfl ?_
                      refine lV (yExtract rfl rfl) rfl rfl ?_
                      refine lE rfl ?_
                      refine eAlloc Z24 fun n21 => ?_
                      refine lE rfl ?_
                      refine eStoreL 0 rfl rfl rfl rfl K24 rfl (rfl) ?_
                      refine lV (yAssign rfl) rfl rfl ?_
                      refine lNil ?_
                      refine kThen ?_
                      refine kSeq ?_
                      refine kRegion rfl ?_
                      refine lV (yLoadA (vs := [_, _, _, _, _, _, _]) rfl A29 (cOwn 5 rfl rfl)) rfl rfl ?_
                      refine lV (yMove rfl) rfl rfl ?_
                      refine lV (yCall rfl (.c rfl (.c rfl .n)) C20 (fun w hw => place_any (locG y g) (partM m (lessS m n)) (i : Nat) w ⟨(hm.eff hw).e, OS.rowsE (f := rowS) (0, 0, false) hg hw (.d 0 (.d 0 (.d 0 (.d 0 (.d 0 (.d 0 .r))))))⟩)) rfl rfl ?_
                      refine lV (yMove rfl) rfl rfl ?_
                      refine lV (yExtract rfl rfl) rfl rfl ?_
                      refine lV (yExtract rfl rfl) rfl rfl ?_
                      refine lE rfl ?_
                      refine eAlloc Z24 fun n23 => ?_
                      refine lE rfl ?_
                      refine eStoreL 0 rfl rfl rfl rfl K24 rfl (rfl) ?_
                      refine lV (yAssign rfl) rfl rfl ?_
                      refine lNil ?_
                      refine kThen ?_
                      refine kSeq ?_
                      refine kRegion rfl ?_
                      refine lV (yMove rfl) rfl rfl ?_
                      refine lV (yMove rfl) rfl rfl ?_
                      refine splitB (t := 183) rfl (fun h183 => ?_) (fun h183 => ?_)
                      · refine lGY rfl rfl rfl (oV (yLoadA (vs := [_, _]) rfl A24 (cOwn 1 rfl rfl)) rfl ?_)
                        refine lGY rfl rfl rfl (oV (yLoadA (vs := [_, _]) rfl A24 (cOwn 0 rfl rfl)) rfl ?_)
                        refine lGY rfl rfl rfl (oV (yEqAgg rfl rfl G24 (fun w => Q24 w)) rfl ?_)
                        refine lV (yPickT rfl rfl) rfl rfl ?_
                        refine lV (yMove rfl) rfl rfl ?_
                        refine split (t := 188) rfl (fun h188 => ?_) (fun h188 => ?_)
                        · refine lGY rfl rfl rfl (oV (yMove rfl) rfl ?_)
                          refine lGY rfl rfl rfl (oV (yMove rfl) rfl ?_)
                          refine lGY rfl rfl rfl (oV (yEql rfl rfl) rfl ?_)
                          refine lV (yPickT rfl rfl) rfl rfl ?_
                          refine lV (yAssign rfl) rfl rfl ?_
                          refine lNil ?_
                          refine kThen ?_
                          refine kSeq ?_
                          refine kRegion rfl ?_
                          refine lV (yFieldAddr rfl F29_1) rfl rfl ?_
                          refine lV (yLoad1 rfl O3 (cOwn 4 rfl rfl)) rfl rfl ?_
                          refine lV (yMove rfl) rfl rfl ?_
                          refine lNil ?_
                          refine kThen ?_
                          refine kBlock ?_
                          refine kLoopX (ι := Nat × Bool) (fun x => (x.1 : Int) ≤ m.images) (fun x => [(195, i64 (x.1 : Nat)), (19, .bool x.2)]) [(0, _), (1, _), (30, _), (31, _), (32, _), (33, _), (34, _), (35, _), (36, _), (39, _), (40, _), (38, _), (41, _), (42, _), (3, _), (4, _), (44, _), (45, _), (43, _), (46, _), (47, _), (5, _), (6, _), (49, _), (50, _), (48, _), (51, _), (52, _), (7, _), (8, _), (53, _), (54, _), (55, _), (56, _), (57, _), (58, _), (59, _), (60, _), (61, _), (62, _), (63, _), (64, _), (65, _), (66, _), (67, _), (68, _), (69, _), (70, _), (71, _), (72, _), (73, _), (9, _), (74, _), (75, _), (76, _), (77, _), (78, _), (98, _), (99, _), (100, _), (101, _), (118, _), (119, _), (129, _), (130, _), (131, _), (132, _), (133, _), (14, _), (134, _), (135, _), (136, _), (137, _), (138, _), (139, _), (140, _), (141, _), (142, _), (143, _), (144, _), (145, _), (146, _), (15, _), (16, _), (154, _), (155, _), (153, _), (156, _), (157, _), (17, _), (18, _), (158, _), (159, _), (160, _), (161, _), (164, _), (165, _), (166, _), (167, _), (168, _), (169, _), (20, _), (171, _), (172, _), (173, _), (170, _), (174, _), (175, _), (21, _), (22, _), (177, _), (178, _), (179, _), (176, _), (180, _), (181, _), (23, _), (24, _), (182, _), (183, _), (184, _), (185, _), (186, _), (187, _), (188, _), (189, _), (190, _), (191, _), (192, _), (193, _), (194, _)] (fun x => []) (fun x => osL 49 g) [(n23, _), (n21, _), (n17, _), (n7, _), (n1, _), (nW, _), (n16, _)] (fun x => m.images.toNat - x.1) (0, decide ((placeE m (i : Nat)).2 = (placeE (partM m (lessS m n)) (i : Nat)).2)) (by dsimp only; omega) rfl (.c rfl (.c rfl .n)) (.c rfl (.c rfl (.c rfl (.c rfl (.c rfl (.c rfl (.c rfl (.c rfl (.c rfl (.c rfl (.c rfl (.c rfl (.c rfl (.c rfl (.c rfl (.c rfl (.c rfl (.c rfl (.c rfl (.c rfl (.c rfl (.c rfl (.c rfl (.c rfl (.c rfl (.c rfl (.c rfl (.c rfl (.c rfl (.c rfl (.c rfl (.c rfl (.c rfl (.c rfl (.c rfl (.c rfl (.c rfl (.c rfl (.c rfl (.c rfl (.c rfl (.c rfl (.c rfl (.c rfl (.c rfl (.c rfl (.c rfl (.c rfl (.c rfl (.c rfl (.c rfl (.c rfl (.c rfl (.c rfl (.c rfl (.c rfl (.c rfl (.c rfl (.c rfl (.c rfl (.c rfl (.c rfl (.c rfl (.c rfl (.c rfl (.c rfl (.c rfl (.c rfl (.c rfl (.c rfl (.c rfl (.c rfl (.c rfl (.c rfl (.c rfl (.c rfl (.c rfl (.c rfl (.c rfl (.c rfl (.c rfl (.c rfl (.c rfl (.c rfl (.c rfl (.c rfl (.c rfl (.c rfl (.c rfl (.c rfl (.c rfl (.c rfl (.c rfl (.c rfl (.c rfl (.c rfl (.c rfl (.c rfl (.c rfl (.c rfl (.c rfl (.c rfl (.c rfl (.c rfl (.c rfl (.c rfl (.c rfl (.c rfl (.c rfl (.c rfl (.c rfl (.c rfl (.c rfl (.c rfl (.c rfl (.c rfl (.c rfl (.c rfl (.c rfl (.c rfl (.c rfl (.c rfl (.c rfl (.c rfl (.c rfl (.c rfl (.c rfl (.c rfl (.c rfl (.c rfl (.c rfl .n))))))))))))))))))))))))))))))))))))))))))))))))))))))))))))))))))))))))))))))))))))))))))))))))))))))))))))))))))))))))))))))))))) (.c 0 rfl (.c 0 rfl (.c 0 rfl (.c 0 rfl (.c 0 rfl (.c 0 rfl (.c 0 rfl .r))))))) ?_
                          rintro ⟨l, b2⟩ hl
                          dsimp only at hl ⊢
                          refine kSeq ?_
                          refine kRegion rfl ?_
                          refine lV (yLss rfl rfl) rfl rfl ?_
                          refine lNil ?_
                          refine kThen ?_
                          refine kSeq ?_
                          refine split (t := 196) rfl (fun h196 => ?_) (fun h196 => ?_)
                          · refine kIfT rfl ?_
                            refine kSkip ?_
                            refine kThen ?_
                            refine kSeq ?_
                            refine kBlock ?_
                            refine kSeq ?_
                            refine kRegion rfl ?_
                            refine lV (yMove rfl) rfl rfl ?_
                            refine lV (yAssign rfl) rfl rfl ?_
                            refine lNil ?_
                            refine kThen ?_
                            refine kSeq ?_
                            refine kRegion rfl ?_
                            refine lV (yLoadA (vs := [_, _, _, _, _, _, _]) rfl A29 (cOwn 4 rfl rfl)) rfl rfl ?_
                            refine lV (yMove rfl) rfl rfl ?_
                            refine lV (yMove rfl) rfl rfl ?_
                            refine lV (yCall rfl (.c rfl (.c rfl (.c rfl .n))) C22 (fun w hw => apart_any y m (i : Nat) (l : Nat) w (hm.eff hw))) rfl rfl ?_
                            refine lV (yMove rfl) rfl rfl ?_
                            refine lV (yExtract rfl rfl) rfl rfl ?_
                            refine lV (yExtract rfl rfl) rfl rfl ?_
                            refine lE rfl ?_
                            refine eAlloc Z24 fun n26 => ?_
                            refine lE rfl ?_
                            refine eStoreL 0 rfl rfl rfl rfl K24 rfl (rfl) ?_
                            refine lV (yAssign rfl) rfl rfl ?_
                            refine lNil ?_
                            refine kThen ?_
                            refine kSeq ?_
                            refine kRegion rfl ?_
                            refine lV (yLoadA (vs := [_, _, _, _, _, _, _]) rfl A29 (cOwn 7 rfl rfl)) rfl rfl ?_
                            refine lV (yMove rfl) rfl rfl ?_
                            refine lV (yMove rfl) rfl rfl ?_
                            refine lV (yCall rfl (.c rfl (.c rfl (.c rfl .n))) C22 (fun w hw => apart_any (locG y g) (partM m (lessS m n)) (i : Nat) (l : Nat) w ⟨(hm.eff hw).e, OS.rowsE (f := rowS) (0, 0, false) hg hw (.d 0 (.d 0 (.d 0 (.d 0 (.d 0 (.d 0 (.d 0 (.d 0 .r))))))))⟩)) rfl rfl ?_
                            refine lV (yMove rfl) rfl rfl ?_
                            refine lV (yExtract rfl rfl) rfl rfl ?_
                            refine lV (yExtract rfl rfl) rfl rfl ?_
                            refine lE rfl ?_
                            refine eAlloc Z24 fun n28 => ?_
                            refine lE rfl ?_
                            refine eStoreL 0 rfl rfl rfl rfl K24 rfl (rfl) ?_
                            refine lV (yAssign rfl) rfl rfl ?_
                            refine lNil ?_
                            refine kThen ?_
                            refine kRegion rfl ?_
                            refine lV (yMove rfl) rfl rfl ?_
                            refine lV (yMove rfl) rfl rfl ?_
                            refine splitB (t := 213) rfl (fun h213 => ?_) (fun h213 => ?_)
                            · refine lGY rfl rfl rfl (oV (yLoadA (vs := [_, _]) rfl A24 (cOwn 1 rfl rfl)) rfl ?_)
                              refine lGY rfl rfl rfl (oV (yLoadA (vs := [_, _]) rfl A24 (cOwn 0 rfl rfl)) rfl ?_)
                              refine lGY rfl rfl rfl (oV (yEqAgg rfl rfl G24 (fun w => Q24 w)) rfl ?_)
                              refine lV (yPickT rfl rfl) rfl rfl ?_
                              refine lV (yMove rfl) rfl rfl ?_
                              refine split (t := 218) rfl (fun h218 => ?_) (fun h218 => ?_)
                              · refine lGY rfl rfl rfl (oV (yMove rfl) rfl ?_)
                                refine lGY rfl rfl rfl (oV (yMove rfl) rfl ?_)
                                refine lGY rfl rfl rfl (oV (yEql rfl rfl) rfl ?_)
                                refine lV (yPickT rfl rfl) rfl rfl ?_
                                refine lV (yAssign rfl) rfl rfl ?_
                                refine lNil ?_
                                refine kInN ?_
                                refine kThen ?_
                                refine kRegion rfl ?_
                                refine lV (yAdd rfl rfl (by omega)) rfl rfl ?_
                                refine lV (yMove rfl) rfl rfl ?_
                                refine lNil ?_
                                exact kRoundX (l + 1, decide ((apartE m (i : Nat) (l : Nat)).2 = (apartE (partM m (lessS m n)) (i : Nat) (l : Nat)).2)) (by dsimp only; omega) (by dsimp only; omega) rfl (.c rfl (.c rfl .n)) (.c rfl (.c rfl (.c rfl (.c rfl (.c rfl (.c rfl (.c rfl (.c rfl (.c rfl (.c rfl (.c rfl (.c rfl (.c rfl (.c rfl (.c rfl (.c rfl (.c rfl (.c rfl (.c rfl (.c rfl (.c rfl (.c rfl (.c rfl (.c rfl (.c rfl (.c rfl (.c rfl (.c rfl (.c rfl (.c rfl (.c rfl (.c rfl (.c rfl (.c rfl (.c rfl (.c rfl (.c rfl (.c rfl (.c rfl (.c rfl (.c rfl (.c rfl (.c rfl (.c rfl (.c rfl (.c rfl (.c rfl (.c rfl (.c rfl (.c rfl (.c rfl (.c rfl (.c rfl (.c rfl (.c rfl (.c rfl (.c rfl (.c rfl (.c rfl (.c rfl (.c rfl (.c rfl (.c rfl (.c rfl (.c rfl (.c rfl (.c rfl (.c rfl (.c rfl (.c rfl (.c rfl (.c rfl (.c rfl (.c rfl (.c rfl (.c rfl (.c rfl (.c rfl (.c rfl (.c rfl (.c rfl (.c rfl (.c rfl (.c rfl (.c rfl (.c rfl (.c rfl (.c rfl (.c rfl (.c rfl (.c rfl (.c rfl (.c rfl (.c rfl (.c rfl (.c rfl (.c rfl (.c rfl (.c rfl (.c rfl (.c rfl (.c rfl (.c rfl (.c rfl (.c rfl (.c rfl (.c rfl (.c rfl (.c rfl (.c rfl (.c rfl (.c rfl (.c rfl (.c rfl (.c rfl (.c rfl (.c rfl (.c rfl (.c rfl (.c rfl (.c rfl (.c rfl (.c rfl (.c rfl (.c rfl (.c rfl (.c rfl (.c rfl (.c rfl (.c rfl (.c rfl .n))))))))))))))))))))))))))))))))))))))))))))))))))))))))))))))))))))))))))))))))))))))))))))))))))))))))))))))))))))))))))))))))))) (.c 2 rfl (.c 2 rfl (.c 2 rfl (.c 2 rfl (.c 2 rfl (.c 2 rfl (.c 2 rfl (.d 0 (.d 0 .r)))))))))
                              · refine lGN rfl rfl rfl rfl rfl ?_
                                refine lGN rfl rfl rfl rfl rfl ?_
                                refine lGN rfl rfl rfl rfl rfl ?_
                                refine lV (yPickF rfl rfl) rfl rfl ?_
                                refine lV (yAssign rfl) rfl rfl ?_
                                refine lNil ?_
                                refine kInN ?_
                                refine kThen ?_
                                refine kRegion rfl ?_
                                refine lV (yAdd rfl rfl (by omega)) rfl rfl ?_
                                refine lV (yMove rfl) rfl rfl ?_
                                refine lNil ?_
                                exact kRoundX (l + 1, false) (by dsimp only; omega) (by dsimp only; omega) rfl (.c rfl (.c rfl .n)) (.c rfl (.c rfl (.c rfl (.c rfl (.c rfl (.c rfl (.c rfl (.c rfl (.c rfl (.c rfl (.c rfl (.c rfl (.c rfl (.c rfl (.c rfl (.c rfl (.c rfl (.c rfl (.c rfl (.c rfl (.c rfl (.c rfl (.c rfl (.c rfl (.c rfl (.c rfl (.c rfl (.c rfl (.c rfl (.c rfl (.c rfl (.c rfl (.c rfl (.c rfl (.c rfl (.c rfl (.c rfl (.c rfl (.c rfl (.c rfl (.c rfl (.c rfl (.c rfl (.c rfl (.c rfl (.c rfl (.c rfl (.c rfl (.c rfl (.c rfl (.c rfl (.c rfl (.c rfl (.c rfl (.c rfl (.c rfl (.c rfl (.c rfl (.c rfl (.c rfl (.c rfl (.c rfl (.c rfl (.c rfl (.c rfl (.c rfl (.c rfl (.c rfl (.c rfl (.c rfl (.c rfl (.c rfl (.c rfl (.c rfl (.c rfl (.c rfl (.c rfl (.c rfl (.c rfl (.c rfl (.c rfl (.c rfl (.c rfl (.c rfl (.c rfl (.c rfl (.c rfl (.c rfl (.c rfl (.c rfl (.c rfl (.c rfl (.c rfl (.c rfl (.c rfl (.c rfl (.c rfl (.c rfl (.c rfl (.c rfl (.c rfl (.c rfl (.c rfl (.c rfl (.c rfl (.c rfl (.c rfl (.c rfl (.c rfl (.c rfl (.c rfl (.c rfl (.c rfl (.c rfl (.c rfl (.c rfl (.c rfl (.c rfl (.c rfl (.c rfl (.c rfl (.c rfl (.c rfl (.c rfl (.c rfl (.c rfl (.c rfl (.c rfl (.c rfl (.c rfl (.c rfl .n))))))))))))))))))))))))))))))))))))))))))))))))))))))))))))))))))))))))))))))))))))))))))))))))))))))))))))))))))))))))))))))))))) (.c 2 rfl (.c 2 rfl (.c 2 rfl (.c 2 rfl (.c 2 rfl (.c 2 rfl (.c 2 rfl (.d 0 (.d 0 .r)))))))))
                            · refine lGN rfl rfl rfl rfl rfl ?_
                              refine lGN rfl rfl rfl rfl rfl ?_
                              refine lGN rfl rfl rfl rfl rfl ?_
                              refine lV (yPickF rfl rfl) rfl rfl ?_
                              refine lV (yMove rfl) rfl rfl ?_
                              refine lGN rfl rfl rfl rfl rfl ?_
                              refine lGN rfl rfl rfl rfl rfl ?_
                              refine lGN rfl rfl rfl rfl rfl ?_
                              refine lV (yPickF rfl rfl) rfl rfl ?_
                              refine lV (yAssign rfl) rfl rfl ?_
                              refine lNil ?_
                              refine kInN ?_
                              refine kThen ?_
                              refine kRegion rfl ?_
                              refine lV (yAdd rfl rfl (by omega)) rfl rfl ?_
                              refine lV (yMove rfl) rfl rfl ?_
                              refine lNil ?_
                              exact kRoundX (l + 1, false) (by dsimp only; omega) (by dsimp only; omega) rfl (.c rfl (.c rfl .n)) (.c rfl (.c rfl (.c rfl (.c rfl (.c rfl (.c rfl (.c rfl (.c rfl (.c rfl (.c rfl (.c rfl (.c rfl (.c rfl (.c rfl (.c rfl (.c rfl (.c rfl (.c rfl (.c rfl (.c rfl (.c rfl (.c rfl (.c rfl (.c rfl (.c rfl (.c rfl (.c rfl (.c rfl (.c rfl (.c rfl (.c rfl (.c rfl (.c rfl (.c rfl (.c rfl (.c rfl (.c rfl (.c rfl (.c rfl (.c rfl (.c rfl (.c rfl (.c rfl (.c rfl (.c rfl (.c rfl (.c rfl (.c rfl (.c rfl (.c rfl (.c rfl (.c rfl (.c rfl (.c rfl (.c rfl (.c rfl (.c rfl (.c rfl (.c rfl (.c rfl (.c rfl (.c rfl (.c rfl (.c rfl (.c rfl (.c rfl (.c rfl (.c rfl (.c rfl (.c rfl (.c rfl (.c rfl (.c rfl (.c rfl (.c rfl (.c rfl (.c rfl (.c rfl (.c rfl (.c rfl (.c rfl (.c rfl (.c rfl (.c rfl (.c rfl (.c rfl (.c rfl (.c rfl (.c rfl (.c rfl (.c rfl (.c rfl (.c rfl (.c rfl (.c rfl (.c rfl (.c rfl (.c rfl (.c rfl (.c rfl (.c rfl (.c rfl (.c rfl (.c rfl (.c rfl (.c rfl (.c rfl (.c rfl (.c rfl (.c rfl (.c rfl (.c rfl (.c rfl (.c rfl (.c rfl (.c rfl (.c rfl (.c rfl (.c rfl (.c rfl (.c rfl (.c rfl (.c rfl (.c rfl (.c rfl (.c rfl (.c rfl (.c rfl (.c rfl (.c rfl (.c rfl .n))))))))))))))))))))))))))))))))))))))))))))))))))))))))))))))))))))))))))))))))))))))))))))))))))))))))))))))))))))))))))))))))))) (.c 2 rfl (.c 2 rfl (.c 2 rfl (.c 2 rfl (.c 2 rfl (.c 2 rfl (.c 2 rfl (.d 0 (.d 0 .r)))))))))
                          · refine kIfF rfl ?_
                            refine kExit ?_
                            refine kThenX ?_
                            refine kThenX ?_
                            refine kInX ?_
                            refine kInN ?_
                            refine kThen ?_
                            refine kRegion rfl ?_
                            refine lV (yAdd rfl rfl (by omega)) rfl rfl ?_
                            refine lV (yMove rfl) rfl rfl ?_
                            refine lNil ?_
                            exact kRoundX (i + 1, b2) (by dsimp only; omega) (by dsimp only; omega) rfl (.c rfl (.c rfl .n)) (.c rfl (.c rfl (.c rfl (.c rfl (.c rfl (.c rfl (.c rfl (.c rfl (.c rfl (.c rfl (.c rfl (.c rfl (.c rfl (.c rfl (.c rfl (.c rfl (.c rfl (.c rfl (.c rfl (.c rfl (.c rfl (.c rfl (.c rfl (.c rfl (.c rfl (.c rfl (.c rfl (.c rfl (.c rfl (.c rfl (.c rfl (.c rfl (.c rfl (.c rfl (.c rfl (.c rfl (.c rfl (.c rfl (.c rfl (.c rfl (.c rfl (.c rfl (.c rfl (.c rfl (.c rfl (.c rfl (.c rfl (.c rfl (.c rfl (.c rfl (.c rfl (.c rfl (.c rfl (.c rfl (.c rfl (.c rfl (.c rfl (.c rfl (.c rfl (.c rfl (.c rfl (.c rfl (.c rfl (.c rfl (.c rfl (.c rfl (.c rfl (.c rfl (.c rfl (.c rfl (.c rfl (.c rfl (.c rfl (.c rfl (.c rfl (.c rfl (.c rfl (.c rfl (.c rfl (.c rfl (.c rfl (.c rfl (.c rfl (.c rfl (.c rfl (.c rfl (.c rfl (.c rfl (.c rfl (.c rfl (.c rfl (.c rfl (.c rfl (.c rfl (.c rfl (.c rfl (.c rfl (.c rfl .n)))))))))))))))))))))))))))))))))))))))))))))))))))))))))))))))))))))))))))))))))))))))))))))))))) (.c 2 rfl (.c 2 rfl (.c 2 rfl (.c 2 rfl (.c 2 rfl (.d 0 (.d 0 .r)))))))
                        · refine lGN rfl rfl rfl rfl rfl ?_
                          refine lGN rfl rfl rfl rfl rfl ?_
                          refine lGN rfl rfl rfl rfl rfl ?_
                          refine lV (yPickF rfl rfl) rfl rfl ?_
                          refine lV (yAssign rfl) rfl rfl ?_
                          refine lNil ?_
                          refine kThen ?_
                          refine kSeq ?_
                          refine kRegion rfl ?_
                          refine lV (yFieldAddr rfl F29_1) rfl rfl ?_
                          refine lV (yLoad1 rfl O3 (cOwn 4 rfl rfl)) rfl rfl ?_
                          refine lV (yMove rfl) rfl rfl ?_
                          refine lNil ?_
                          refine kThen ?_
                          refine kBlock ?_
                          refine kLoopX (ι := Nat × Bool) (fun x => (x.1 : Int) ≤ m.images) (fun x => [(195, i64 (x.1 : Nat)), (19, .bool x.2)]) [(0, _), (1, _), (30, _), (31, _), (32, _), (33, _), (34, _), (35, _), (36, _), (39, _), (40, _), (38, _), (41, _), (42, _), (3, _), (4, _), (44, _), (45, _), (43, _), (46, _), (47, _), (5, _), (6, _), (49, _), (50, _), (48, _), (51, _), (52, _), (7, _), (8, _), (53, _), (54, _), (55, _), (56, _), (57, _), (58, _), (59, _), (60, _), (61, _), (62, _), (63, _), (64, _), (65, _), (66, _), (67, _), (68, _), (69, _), (70, _), (71, _), (72, _), (73, _), (9, _), (74, _), (75, _), (76, _), (77, _), (78, _), (98, _), (99, _), (100, _), (101, _), (118, _), (119, _), (129, _), (130, _), (131, _), (132, _), (133, _), (14, _), (134, _), (135, _), (136, _), (137, _), (138, _), (139, _), (140, _), (141, _), (142, _), (143, _), (144, _), (145, _), (146, _), (15, _), (16, _), (154, _), (155, _), (153, _), (156, _), (157, _), (17, _), (18, _), (158, _), (159, _), (160, _), (161, _), (164, _), (165, _), (166, _), (167, _), (168, _), (169, _), (20, _), (171, _), (172, _), (173, _), (170, _), (174, _), (175, _), (21, _), (22, _), (177, _), (178, _), (179, _), (176, _), (180, _), (181, _), (23, _), (24, _), (182, _), (183, _), (184, _), (185, _), (186, _), (187, _), (188, _), (192, _), (193, _), (194, _)] (fun x => []) (fun x => osL 49 g) [(n23, _), (n21, _), (n17, _), (n7, _), (n1, _), (nW, _), (n16, _)] (fun x => m.images.toNat - x.1) (0, false) (by dsimp only; omega) rfl (.c rfl (.c rfl .n)) (.c rfl (.c rfl (.c rfl (.c rfl (.c rfl (.c rfl (.c rfl (.c rfl (.c rfl (.c rfl (.c rfl (.c rfl (.c rfl (.c rfl (.c rfl (.c rfl (.c rfl (.c rfl (.c rfl (.c rfl (.c rfl (.c rfl (.c rfl (.c rfl (.c rfl (.c rfl (.c rfl (.c rfl (.c rfl (.c rfl (.c rfl (.c rfl (.c rfl (.c rfl (.c rfl (.c rfl (.c rfl (.c rfl (.c rfl (.c rfl (.c rfl (.c rfl (.c rfl (.c rfl (.c rfl (.c rfl (.c rfl (.c rfl (.c rfl (.c rfl (.c rfl (.c rfl (.c rfl (.c rfl (.c rfl (.c rfl (.c rfl (.c rfl (.c rfl (.c rfl (.c rfl (.c rfl (.c rfl (.c rfl (.c rfl (.c rfl (.c rfl (.c rfl (.c rfl (.c rfl (.c rfl (.c rfl (.c rfl (.c rfl (.c rfl (.c rfl (.c rfl (.c rfl (.c rfl (.c rfl (.c rfl (.c rfl (.c rfl (.c rfl (.c rfl (.c rfl (.c rfl (.c rfl (.c rfl (.c rfl (.c rfl (.c rfl (.c rfl (.c rfl (.c rfl (.c rfl (.c rfl (.c rfl (.c rfl (.c rfl (.c rfl (.c rfl (.c rfl (.c rfl (.c rfl (.c rfl (.c rfl (.c rfl (.c rfl (.c rfl (.c rfl (.c rfl (.c rfl (.c rfl (.c rfl (.c rfl (.c rfl (.c rfl (.c rfl (.c rfl (.c rfl (.c rfl (.c rfl (.c rfl (.c rfl (.c rfl (.c rfl (.c rfl .n)))))))))))))))))))))))))))))))))))))))))))))))))))))))))))))))))))))))))))))))))))))))))))))))))))))))))))))))))))))))))))))))) (.c 0 rfl (.c 0 rfl (.c 0 rfl (.c 0 rfl (.c 0 rfl (.c 0 rfl (.c 0 rfl .r))))))) ?_
                          rintro ⟨l, b2⟩ hl
                          dsimp only at hl ⊢
                          refine kSeq ?_
                          refine kRegion rfl ?_
                          refine lV (yLss rfl rfl) rfl rfl ?_
                          refine lNil ?_
                          refine kThen ?_
                          refine kSeq ?_
                          refine split (t := 196) rfl (fun h196 => ?_) (fun h196 => ?_)
                          · refine kIfT rfl ?_
                            refine kSkip ?_
                            refine kThen ?_
                            refine kSeq ?_
                            refine kBlock ?_
                            refine kSeq ?_
                            refine kRegion rfl ?_
                            refine lV (yMove rfl) rfl rfl ?_
                            refine lV (yAssign rfl) rfl rfl ?_
                            refine lNil ?_
                            refine kThen ?_
                            refine kSeq ?_
                            refine kRegion rfl ?_
                            refine lV (yLoadA (vs := [_, _, _, _, _, _, _]) rfl A29 (cOwn 4 rfl rfl)) rfl rfl ?_
                            refine lV (yMove rfl) rfl rfl ?_
                            refine lV (yMove rfl) rfl rfl ?_
                            refine lV (yCall rfl (.c rfl (.c rfl (.c rfl .n))) C22 (fun w hw => apart_any y m (i : Nat) (l : Nat) w (hm.eff hw))) rfl rfl ?_
                            refine lV (yMove rfl) rfl rfl ?_
                            refine lV (yExtract rfl rfl) rfl rfl ?_
                            refine lV (yExtract rfl rfl) rfl rfl ?_
                            refine lE rfl ?_
                            refine eAlloc Z24 fun n26 => ?_
                            refine lE rfl ?_
                            refine eStoreL 0 rfl rfl rfl rfl K24 rfl (rfl) ?_
                            refine lV (yAssign rfl) rfl rfl ?_
                            refine lNil ?_
                            refine kThen ?_
                            refine kSeq ?_
                            refine kRegion rfl ?_
                            refine lV (yLoadA (vs := [_, _, _, _, _, _, _]) rfl A29 (cOwn 7 rfl rfl)) rfl rfl ?_
                            refine lV (yMove rfl) rfl rfl ?_
                            refine lV (yMove rfl) rfl rfl ?_
                            refine lV (yCall rfl (.c rfl (.c rfl (.c rfl .n))) C22 (fun w hw => apart_any (locG y g) (partM m (lessS m n)) (i : Nat) (l : Nat) w ⟨(hm.eff hw).e, OS.rowsE (f := rowS) (0, 0, false) hg hw (.d 0 (.d 0 (.d 0 (.d 0 (.d 0 (.d 0 (.d 0 (.d 0 .r))))))))⟩)) rfl rfl ?_
                            refine lV (yMove rfl) rfl rfl ?_
                            refine lV (yExtract rfl rfl) rfl rfl ?_
                            refine lV (yExtract rfl rfl) rfl rfl ?_
                            refine lE rfl ?_
                            refine eAlloc Z24 fun n28 => ?_
                            refine lE rfl ?_
                            refine eStoreL 0 rfl rfl rfl rfl K24 rfl (rfl) ?_
                            refine lV (yAssign rfl) rfl rfl ?_
                            refine lNil ?_
                            refine kThen ?_
                            refine kRegion rfl ?_
                            refine lV (yMove rfl) rfl rfl ?_
                            refine lV (yMove rfl) rfl rfl ?_
                            refine splitB (t := 213) rfl (fun h213 => ?_) (fun h213 => ?_)
                            · refine lGY rfl rfl rfl (oV (yLoadA (vs := [_, _]) rfl A24 (cOwn 1 rfl rfl)) rfl ?_)
                              refine lGY rfl rfl rfl (oV (yLoadA (vs := [_, _]) rfl A24 (cOwn 0 rfl rfl)) rfl ?_)
                              refine lGY rfl rfl rfl (oV (yEqAgg rfl rfl G24 (fun w => Q24 w)) rfl ?_)
                              refine lV (yPickT rfl rfl) rfl rfl ?_
                              refine lV (yMove rfl) rfl rfl ?_
                              refine split (t := 218) rfl (fun h218 => ?_) (fun h218 => ?_)
                              · refine lGY rfl rfl rfl (oV (yMove rfl) rfl ?_)
                                refine lGY rfl rfl rfl (oV (yMove rfl) rfl ?_)
                                refine lGY rfl rfl rfl (oV (yEql rfl rfl) rfl ?_)
                                refine lV (yPickT rfl rfl) rfl rfl ?_
                                refine lV (yAssign rfl) rfl rfl ?_
                                refine lNil ?_
                                refine kInN ?_
                                refine kThen ?_
                                refine kRegion rfl ?_
                                refine lV (yAdd rfl rfl (by omega)) rfl rfl ?_
                                refine lV (yMove rfl) rfl rfl ?_
                                refine lNil ?_
                                exact kRoundX (l + 1, decide ((apartE m (i : Nat) (l : Nat)).2 = (apartE (partM m (lessS m n)) (i : Nat) (l : Nat)).2)) (by dsimp only; omega) (by dsimp only; omega) rfl (.c rfl (.c rfl .n)) (.c rfl (.c rfl (.c rfl (.c rfl (.c rfl (.c rfl (.c rfl (.c rfl (.c rfl (.c rfl (.c rfl (.c rfl (.c rfl (.c rfl (.c rfl (.c rfl (.c rfl (.c rfl (.c rfl (.c rfl (.c rfl (.c rfl (.c rfl (.c rfl (.c rfl (.c rfl (.c rfl (.c rfl (.c rfl (.c rfl (.c rfl (.c rfl (.c rfl (.c rfl (.c rfl (.c rfl (.c rfl (.c rfl (.c rfl (.c rfl (.c rfl (.c rfl (.c rfl (.c rfl (.c rfl (.c rfl (.c rfl (.c rfl (.c rfl (.c rfl (.c rfl (.c rfl (.c rfl (.c rfl (.c rfl (.c rfl (.c rfl (.c rfl (.c rfl (.c rfl (.c rfl (.c rfl (.c rfl (.c rfl (.c rfl (.c rfl (.c rfl (.c rfl (.c rfl (.c rfl (.c rfl (.c rfl (.c rfl (.c rfl (.c rfl (.c rfl (.c rfl (.c rfl (.c rfl (.c rfl (.c rfl (.c rfl (.c rfl (.c rfl (.c rfl (.c rfl (.c rfl (.c rfl (.c rfl (.c rfl (.c rfl (.c rfl (.c rfl (.c rfl (.c rfl (.c rfl (.c rfl (.c rfl (.c rfl (.c rfl (.c rfl (.c rfl (.c rfl (.c rfl (.c rfl (.c rfl (.c rfl (.c rfl (.c rfl (.c rfl (.c rfl (.c rfl (.c rfl (.c rfl (.c rfl (.c rfl (.c rfl (.c rfl (.c rfl (.c rfl (.c rfl (.c rfl (.c rfl (.c rfl (.c rfl (.c rfl (.c rfl (.c rfl .n)))))))))))))))))))))))))))))))))))))))))))))))))))))))))))))))))))))))))))))))))))))))))))))))))))))))))))))))))))))))))))))))) (.c 2 rfl (.c 2 rfl (.c 2 rfl (.c 2 rfl (.c 2 rfl (.c 2 rfl (.c 2 rfl (.d 0 (.d 0 .r)))))))))
                              · refine lGN rfl rfl rfl rfl rfl ?_
                                refine lGN rfl rfl rfl rfl rfl ?_
                                refine lGN rfl rfl rfl rfl rfl ?_
                                refine lV (yPickF rfl rfl) rfl rfl ?_
                                refine lV (yAssign rfl) rfl rfl ?_
                                refine lNil ?_
                                refine kInN ?_
                                refine kThen ?_
                                refine kRegion rfl ?_
                                refine lV (yAdd rfl rfl (by omega)) rfl rfl ?_
                                refine lV (yMove rfl) rfl rfl ?_
                                refine lNil ?_
                                exact kRoundX (l + 1, false) (by dsimp only; omega) (by dsimp only; omega) rfl (.c rfl (.c rfl .n)) (.c rfl (.c rfl (.c rfl (.c rfl (.c rfl (.c rfl (.c rfl (.c rfl (.c rfl (.c rfl (.c rfl (.c rfl (.c rfl (.c rfl (.c rfl (.c rfl (.c rfl (.c rfl (.c rfl (.c rfl (.c rfl (.c rfl (.c rfl (.c rfl (.c rfl (.c rfl (.c rfl (.c rfl (.c rfl (.c rfl (.c rfl (.c rfl (.c rfl (.c rfl (.c rfl (.c rfl (.c rfl (.c rfl (.c rfl (.c rfl (.c rfl (.c rfl (.c rfl (.c rfl (.c rfl (.c rfl (.c rfl (.c rfl (.c rfl (.c rfl (.c rfl (.c rfl (.c rfl (.c rfl (.c rfl (.c rfl (.c rfl (.c rfl (.c rfl (.c rfl (.c rfl (.c rfl (.c rfl (.c rfl (.c rfl (.c rfl (.c rfl (.c rfl (.c rfl (.c rfl (.c rfl (.c rfl (.c rfl (.c rfl (.c rfl (.c rfl (.c rfl (.c rfl (.c rfl (.c rfl (.c rfl (.c rfl (.c rfl (.c rfl (.c rfl (.c rfl (.c rfl (.c rfl (.c rfl (.c rfl (.c rfl (.c rfl (.c rfl (.c rfl (.c rfl (.c rfl (.c rfl (.c rfl (.c rfl (.c rfl (.c rfl (.c rfl (.c rfl (.c rfl (.c rfl (.c rfl (.c rfl (.c rfl (.c rfl (.c rfl (.c rfl (.c rfl (.c rfl (.c rfl (.c rfl (.c rfl (.c rfl (.c rfl (.c rfl (.c rfl (.c rfl (.c rfl (.c rfl (.c rfl (.c rfl (.c rfl (.c rfl (.c rfl .n)))))))))))))))))))))))))))))))))))))))))))))))))))))))))))))))))))))))))))))))))))))))))))))))))))))))))))))))))))))))))))))))) (.c 2 rfl (.c 2 rfl (.c 2 rfl (.c 2 rfl (.c 2 rfl (.c 2 rfl (.c 2 rfl (.d 0 (.d 0 .r)))))))))
                            · refine lGN rfl rfl rfl rfl rfl ?_
                              refine lGN rfl rfl rfl rfl rfl ?_
                              refine lGN rfl rfl rfl rfl rfl ?_
                              refine lV (yPickF rfl rfl) rfl rfl ?_
                              refine lV (yMove rfl) rfl rfl ?_
                              refine lGN rfl rfl rfl rfl rfl ?_
                              refine lGN rfl rfl rfl rfl rfl ?_
                              refine lGN rfl rfl rfl rfl rfl ?_
                              refine lV (yPickF rfl rfl) rfl rfl ?_
                              refine lV (yAssign rfl) rfl rfl ?_
                              refine lNil ?_
                              refine kInN ?_
                              refine kThen ?_
                              refine kRegion rfl ?_
                              refine lV (yAdd rfl rfl (by omega)) rfl rfl ?_
                              refine lV (yMove rfl) rfl rfl ?_
                              refine lNil ?_
                              exact kRoundX (l + 1, false) (by dsimp only; omega) (by dsimp only; omega) rfl (.c rfl (.c rfl .n)) (.c rfl (.c rfl (.c rfl (.c rfl (.c rfl (.c rfl (.c rfl (.c rfl (.c rfl (.c rfl (.c rfl (.c rfl (.c rfl (.c rfl (.c rfl (.c rfl (.c rfl (.c rfl (.c rfl (.c rfl (.c rfl (.c rfl (.c rfl (.c rfl (.c rfl (.c rfl (.c rfl (.c rfl (.c rfl (.c rfl (.c rfl (.c rfl (.c rfl (.c rfl (.c rfl (.c rfl (.c rfl (.c rfl (.c rfl (.c rfl (.c rfl (.c rfl (.c rfl (.c rfl (.c rfl (.c rfl (.c rfl (.c rfl (.c rfl (.c rfl (.c rfl (.c rfl (.c rfl (.c rfl (.c rfl (.c rfl (.c rfl (.c rfl (.c rfl (.c rfl (.c rfl (.c rfl (.c rfl (.c rfl (.c rfl (.c rfl (.c rfl (.c rfl (.c rfl (.c rfl (.c rfl (.c rfl (.c rfl (.c rfl (.c rfl (.c rfl (.c rfl (.c rfl (.c rfl (.c rfl (.c rfl (.c rfl (.c rfl (.c rfl (.c rfl (.c rfl (.c rfl (.c rfl (.c rfl (.c rfl (.c rfl (.c rfl (.c rfl (.c rfl (.c rfl (.c rfl (.c rfl (.c rfl (.c rfl (.c rfl (.c rfl (.c rfl (.c rfl (.c rfl (.c rfl (.c rfl (.c rfl (.c rfl (.c rfl (.c rfl (.c rfl (.c rfl (.c rfl (.c rfl (.c rfl (.c rfl (.c rfl (.c rfl (.c rfl (.c rfl (.c rfl (.c rfl (.c rfl (.c rfl (.c rfl (.c rfl (.c rfl (.c rfl .n)))))))))))))))))))))))))))))))))))))))))))))))))))))))))))))))))))))))))))))))))))))))))))))))))))))))))))))))))))))))))))))))) (.c 2 rfl (.c 2 rfl (.c 2 rfl (.c 2 rfl (.c 2 rfl (.c 2 rfl (.c 2 rfl (.d 0 (.d 0 .r)))))))))
                          · refine kIfF rfl ?_
                            refine kExit ?_
                            refine kThenX ?_
                            refine kThenX ?_
                            refine kInX ?_
                            refine kInN ?_
                            refine kThen ?_
                            refine kRegion rfl ?_
                            refine lV (yAdd rfl rfl (by omega)) rfl rfl ?_
                            refine lV (yMove rfl) rfl rfl ?_
                            refine lNil ?_
                            exact kRoundX (i + 1, b2) (by dsimp only; omega) (by dsimp only; omega) rfl (.c rfl (.c rfl .n)) (.c rfl (.c rfl (.c rfl (.c rfl (.c rfl (.c rfl (.c rfl (.c rfl (.c rfl (.c rfl (.c rfl (.c rfl (.c rfl (.c rfl (.c rfl (.c rfl (.c rfl (.c rfl (.c rfl (.c rfl (.c rfl (.c rfl (.c rfl (.c rfl (.c rfl (.c rfl (.c rfl (.c rfl (.c rfl (.c rfl (.c rfl (.c rfl (.c rfl (.c rfl (.c rfl (.c rfl (.c rfl (.c rfl (.c rfl (.c rfl (.c rfl (.c rfl (.c rfl (.c rfl (.c rfl (.c rfl (.c rfl (.c rfl (.c rfl (.c rfl (.c rfl (.c rfl (.c rfl (.c rfl (.c rfl (.c rfl (.c rfl (.c rfl (.c rfl (.c rfl (.c rfl (.c rfl (.c rfl (.c rfl (.c rfl (.c rfl (.c rfl (.c rfl (.c rfl (.c rfl (.c rfl (.c rfl (.c rfl (.c rfl (.c rfl (.c rfl (.c rfl (.c rfl (.c rfl (.c rfl (.c rfl (.c rfl (.c rfl (.c rfl (.c rfl (.c rfl (.c rfl (.c rfl (.c rfl (.c rfl (.c rfl (.c rfl (.c rfl (.c rfl (.c rfl (.c rfl (.c rfl (.c rfl .n)))))))))))))))))))))))))))))))))))))))))))))))))))))))))))))))))))))))))))))))))))))))))))))))))) (.c 2 rfl (.c 2 rfl (.c 2 rfl (.c 2 rfl (.c 2 rfl (.d 0 (.d 0 .r)))))))
                      · refine lGN rfl rfl rfl rfl rfl ?_
                        refine lGN rfl rfl rfl rfl rfl ?_
                        refine lGN rfl rfl rfl rfl rfl ?_
                        refine lV (yPickF rfl rfl) rfl rfl ?_
                        refine lV (yMove rfl) rfl rfl ?_
                        refine lGN rfl rfl rfl rfl rfl ?_
                        refine lGN rfl rfl rfl rfl rfl ?_
                        refine lGN rfl rfl rfl rfl rfl ?_
                        refine lV (yPickF rfl rfl) rfl rfl ?_
                        refine lV (yAssign rfl) rfl rfl ?_
                        refine lNil ?_
                        refine kThen ?_
                        refine kSeq ?_
                        refine kRegion rfl ?_
                        refine lV (yFieldAddr rfl F29_1) rfl rfl ?_
                        refine lV (yLoad1 rfl O3 (cOwn 4 rfl rfl)) rfl rfl ?_
                        refine lV (yMove rfl) rfl rfl ?_
                        refine lNil ?_
                        refine kThen ?_
                        refine kBlock ?_
                        refine kLoopX (ι := Nat × Bool) (fun x => (x.1 : Int) ≤ m.images) (fun x => [(195, i64 (x.1 : Nat)), (19, .bool x.2)]) [(0, _), (1, _), (30, _), (31, _), (32, _), (33, _), (34, _), (35, _), (36, _), (39, _), (40, _), (38, _), (41, _), (42, _), (3, _), (4, _), (44, _), (45, _), (43, _), (46, _), (47, _), (5, _), (6, _), (49, _), (50, _), (48, _), (51, _), (52, _), (7, _), (8, _), (53, _), (54, _), (55, _), (56, _), (57, _), (58, _), (59, _), (60, _), (61, _), (62, _), (63, _), (64, _), (65, _), (66, _), (67, _), (68, _), (69, _), (70, _), (71, _), (72, _), (73, _), (9, _), (74, _), (75, _), (76, _), (77, _), (78, _), (98, _), (99, _), (100, _), (101, _), (118, _), (119, _), (129, _), (130, _), (131, _), (132, _), (133, _), (14, _), (134, _), (135, _), (136, _), (137, _), (138, _), (139, _), (140, _), (141, _), (142, _), (143, _), (144, _), (145, _), (146, _), (15, _), (16, _), (154, _), (155, _), (153, _), (156, _), (157, _), (17, _), (18, _), (158, _), (159, _), (160, _), (161, _), (164, _), (165, _), (166, _), (167, _), (168, _), (169, _), (20, _), (171, _), (172, _), (173, _), (170, _), (174, _), (175, _), (21, _), (22, _), (177, _), (178, _), (179, _), (176, _), (180, _), (181, _), (23, _), (24, _), (182, _), (183, _), (187, _), (188, _), (192, _), (193, _), (194, _)] (fun x => []) (fun x => osL 49 g) [(n23, _), (n21, _), (n17, _), (n7, _), (n1, _), (nW, _), (n16, _)] (fun x => m.images.toNat - x.1) (0, false) (by dsimp only; omega) rfl (.c rfl (.c rfl .n)) (.c rfl (.c rfl (.c rfl (.c rfl (.c rfl (.c rfl (.c rfl (.c rfl (.c rfl (.c rfl (.c rfl (.c rfl (.c rfl (.c rfl (.c rfl (.c rfl (.c rfl (.c rfl (.c rfl (.c rfl (.c rfl (.c rfl (.c rfl (.c rfl (.c rfl (.c rfl (.c rfl (.c rfl (.c rfl (.c rfl (.c rfl (.c rfl (.c rfl (.c rfl (.c rfl (.c rfl (.c rfl (.c rfl (.c rfl (.c rfl (.c rfl (.c rfl (.c rfl (.c rfl (.c rfl (.c rfl (.c rfl (.c rfl (.c rfl (.c rfl (.c rfl (.c rfl (.c rfl (.c rfl (.c rfl (.c rfl (.c rfl (.c rfl (.c rfl (.c rfl (.c rfl (.c rfl (.c rfl (.c rfl (.c rfl (.c rfl (.c rfl (.c rfl (.c rfl (.c rfl (.c rfl (.c rfl (.c rfl (.c rfl (.c rfl (.c rfl (.c rfl (.c rfl (.c rfl (.c rfl (.c rfl (.c rfl (.c rfl (.c rfl (.c rfl (.c rfl (.c rfl (.c rfl (.c rfl (.c rfl (.c rfl (.c rfl (.c rfl (.c rfl (.c rfl (.c rfl (.c rfl (.c rfl (.c rfl (.c rfl (.c rfl (.c rfl (.c rfl (.c rfl (.c rfl (.c rfl (.c rfl (.c rfl (.c rfl (.c rfl (.c rfl (.c rfl (.c rfl (.c rfl (.c rfl (.c rfl (.c rfl (.c rfl (.c rfl (.c rfl (.c rfl (.c rfl (.c rfl (.c rfl (.c rfl .n))))))))))))))))))))))))))))))))))))))))))))))))))))))))))))))))))))))))))))))))))))))))))))))))))))))))))))))))))))))))))))) (.c 0 rfl (.c 0 rfl (.c 0 rfl (.c 0 rfl (.c 0 rfl (.c 0 rfl (.c 0 rfl .r))))))) ?_
                        rintro ⟨l, b2⟩ hl
                        dsimp only at hl ⊢
                        refine kSeq ?_
                        refine kRegion rfl ?_
                        refine lV (yLss rfl rfl) rfl rfl ?_
                        refine lNil ?_
                        refine kThen ?_
                        refine kSeq ?_
                        refine split (t := 196) rfl (fun h196 => ?_) (fun h196 => ?_)
                        · refine kIfT rfl ?_
                          refine kSkip ?_
                          refine kThen ?_
                          refine kSeq ?_
                          refine kBlock ?_
                          refine kSeq ?_
                          refine kRegion rfl ?_
                          refine lV (yMove rfl) rfl rfl ?_
                          refine lV (yAssign rfl) rfl rfl ?_
                          refine lNil ?_
                          refine kThen ?_
                          refine kSeq ?_
                          refine kRegion rfl ?_
                          refine lV (yLoadA (vs := [_, _, _, _, _, _, _]) rfl A29 (cOwn 4 rfl rfl)) rfl rfl ?_
                          refine lV (yMove rfl) rfl rfl ?_
                          refine lV (yMove rfl) rfl rfl ?_
                          refine lV (yCall rfl (.c rfl (.c rfl (.c rfl .n))) C22 (fun w hw => apart_any y m (i : Nat) (l : Nat) w (hm.eff hw))) rfl rfl ?_
                          refine lV (yMove rfl) rfl rfl ?_
                          refine lV (yExtract rfl rfl) rfl rfl ?_
                          refine lV (yExtract rfl rfl) rfl rfl ?_
                          refine lE rfl ?_
                          refine eAlloc Z24 fun n26 => ?_
                          refine lE rfl ?_
                          refine eStoreL 0 rfl rfl rfl rfl K24 rfl (rfl) ?_
                          refine lV (yAssign rfl) rfl rfl ?_
                          refine lNil ?_
                          refine kThen ?_
                          refine kSeq ?_
                          refine kRegion rfl ?_
                          refine lV (yLoadA (vs := [_, _, _, _, _, _, _]) rfl A29 (cOwn 7 rfl rfl)) rfl rfl ?_
                          refine lV (yMove rfl) rfl rfl ?_
                          refine lV (yMove rfl) rfl rfl ?_
                          refine lV (yCall rfl (.c rfl (.c rfl (.c rfl .n))) C22 (fun w hw => apart_any (locG y g) (partM m (lessS m n)) (i : Nat) (l : Nat) w ⟨(hm.eff hw).e, OS.rowsE (f := rowS) (0, 0, false) hg hw (.d 0 (.d 0 (.d 0 (.d 0 (.d 0 (.d 0 (.d 0 (.d 0 .r))))))))⟩)) rfl rfl ?_
                          refine lV (yMove rfl) rfl rfl ?_
                          refine lV (yExtract rfl rfl) rfl rfl ?_
                          refine lV (yExtract rfl rfl) rfl rfl ?_
                          refine lE rfl ?_
                          refine eAlloc Z24 fun n28 => ?_
                          refine lE rfl ?_
                          refine eStoreL 0 rfl rfl rfl rfl K24 rfl (rfl) ?_
                          refine lV (yAssign rfl) rfl rfl ?_
                          refine lNil ?_
                          refine kThen ?_
                          refine kRegion rfl ?_
                          refine lV (yMove rfl) rfl rfl ?_
                          refine lV (yMove rfl) rfl rfl ?_
                          refine splitB (t := 213) rfl (fun h213 => ?_) (fun h213 => ?_)
                          · refine lGY rfl rfl rfl (oV (yLoadA (vs := [_, _]) rfl A24 (cOwn 1 rfl rfl)) rfl ?_)
                            refine lGY rfl rfl rfl (oV (yLoadA (vs := [_, _]) rfl A24 (cOwn 0 rfl rfl)) rfl ?_)
                            refine lGY rfl rfl rfl (oV (yEqAgg rfl rfl G24 (fun w => Q24 w)) rfl ?_)
                            refine lV (yPickT rfl rfl) rfl rfl ?_
                            refine lV (yMove rfl) rfl rfl ?_
                            refine split (t := 218) rfl (fun h218 => ?_) (fun h218 => ?_)
                            · refine lGY rfl rfl rfl (oV (yMove rfl) rfl ?_)
                              refine lGY rfl rfl rfl (oV (yMove rfl) rfl ?_)
                              refine lGY rfl rfl rfl (oV (yEql rfl rfl) rfl ?_)
                              refine lV (yPickT rfl rfl) rfl rfl ?_
                              refine lV (yAssign rfl) rfl rfl ?_
                              refine lNil ?_
                              refine kInN ?_
                              refine kThen ?_
                              refine kRegion rfl ?_
                              refine lV (yAdd rfl rfl (by omega)) rfl rfl ?_
                              refine lV (yMove rfl) rfl rfl ?_
                              refine lNil ?_
                              exact kRoundX (l + 1, decide ((apartE m (i : Nat) (l : Nat)).2 = (apartE (partM m (lessS m n)) (i : Nat) (l : Nat)).2)) (by dsimp only; omega) (by dsimp only; omega) rfl (.c rfl (.c rfl .n)) (.c rfl (.c rfl (.c rfl (.c rfl (.c rfl (.c rfl (.c rfl (.c rfl (.c rfl (.c rfl (.c rfl (.c rfl (.c rfl (.c rfl (.c rfl (.c rfl (.c rfl (.c rfl (.c rfl (.c rfl (.c rfl (.c rfl (.c rfl (.c rfl (.c rfl (.c rfl (.c rfl (.c rfl (.c rfl (.c rfl (.c rfl (.c rfl (.c rfl (.c rfl (.c rfl (.c rfl (.c rfl (.c rfl (.c rfl (.c rfl (.c rfl (.c rfl (.c rfl (.c rfl (.c rfl (.c rfl (.c rfl (.c rfl (.c rfl (.c rfl (.c rfl (.c rfl (.c rfl (.c rfl (.c rfl (.c rfl (.c rfl (.c rfl (.c rfl (.c rfl (.c rfl (.c rfl (.c rfl (.c rfl (.c rfl (.c rfl (.c rfl (.c rfl (.c rfl (.c rfl (.c rfl (.c rfl (.c rfl (.c rfl (.c rfl (.c rfl (.c rfl (.c rfl (.c rfl (.c rfl (.c rfl (.c rfl (.c rfl (.c rfl (.c rfl (.c rfl (.c rfl (.c rfl (.c rfl (.c rfl (.c rfl (.c rfl (.c rfl (.c rfl (.c rfl (.c rfl (.c rfl (.c rfl (.c rfl (.c rfl (.c rfl (.c rfl (.c rfl (.c rfl (.c rfl (.c rfl (.c rfl (.c rfl (.c rfl (.c rfl (.c rfl (.c rfl (.c rfl (.c rfl (.c rfl (.c rfl (.c rfl (.c rfl (.c rfl (.c rfl (.c rfl (.c rfl (.c rfl (.c rfl (.c rfl .n))))))))))))))))))))))))))))))))))))))))))))))))))))))))))))))))))))))))))))))))))))))))))))))))))))))))))))))))))))))))))))) (.c 2 rfl (.c 2 rfl (.c 2 rfl (.c 2 rfl (.c 2 rfl (.c 2 rfl (.c 2 rfl (.d 0 (.d 0 .r)))))))))
                            · refine lGN rfl rfl rfl rfl rfl ?_
                              refine lGN rfl rfl rfl rfl rfl ?_
                              refine lGN rfl rfl rfl rfl rfl ?_
                              refine lV (yPickF rfl rfl) rfl rfl ?_
                              refine lV (yAssign rfl) rfl rfl ?_
                              refine lNil ?_
                              refine kInN ?_
                              refine kThen ?_
                              refine kRegion rfl ?_
                              refine lV (yAdd rfl rfl (by omega)) rfl rfl ?_
                              refine lV (yMove rfl) rfl rfl ?_
                              refine lNil ?_
                              exact kRoundX (l + 1, false) (by dsimp only; omega) (by dsimp only; omega) rfl (.c rfl (.c rfl .n)) (.c rfl (.c rfl (.c rfl (.c rfl (.c rfl (.c rfl (.c rfl (.c rfl (.c rfl (.c rfl (.c rfl (.c rfl (.c rfl (.c rfl (.c rfl (.c rfl (.c rfl (.c rfl (.c rfl (.c rfl (.c rfl (.c rfl (.c rfl (.c rfl (.c rfl (.c rfl (.c rfl (.c rfl (.c rfl (.c rfl (.c rfl (.c rfl (.c rfl (.c rfl (.c rfl (.c rfl (.c rfl (.c rfl (.c rfl (.c rfl (.c rfl (.c rfl (.c rfl (.c rfl (.c rfl (.c rfl (.c rfl (.c rfl (.c rfl (.c rfl (.c rfl (.c rfl (.c rfl (.c rfl (.c rfl (.c rfl (.c rfl (.c rfl (.c rfl (.c rfl (.c rfl (.c rfl (.c rfl (.c rfl (.c rfl (.c rfl (.c rfl (.c rfl (.c rfl (.c rfl (.c rfl (.c rfl (.c rfl (.c rfl (.c rfl (.c rfl (.c rfl (.c rfl (.c rfl (.c rfl (.c rfl (.c rfl (.c rfl (.c rfl (.c rfl (.c rfl (.c rfl (.c rfl (.c rfl (.c rfl (.c rfl (.c rfl (.c rfl (.c rfl (.c rfl (.c rfl (.c rfl (.c rfl (.c rfl (.c rfl (.c rfl (.c rfl (.c rfl (.c rfl (.c rfl (.c rfl (.c rfl (.c rfl (.c rfl (.c rfl (.c rfl (.c rfl (.c rfl (.c rfl (.c rfl (.c rfl (.c rfl (.c rfl (.c rfl (.c rfl (.c rfl (.c rfl (.c rfl (.c rfl (.c rfl .n))))))))))))))))))))))))))))))))))))))))))))))))))))))))))))))))))))))))))))))))))))))))))))))))))))))))))))))))))))))))))))) (.c 2 rfl (.c 2 rfl (.c 2 rfl (.c 2 rfl (.c 2 rfl (.c 2 rfl (.c 2 rfl (.d 0 (.d 0 .r)))))))))
                          · refine lGN rfl rfl rfl rfl rfl ?_
                            refine lGN rfl rfl rfl rfl rfl ?_
                            refine lGN rfl rfl rfl rfl rfl ?_
                            refine lV (yPickF rfl rfl) rfl rfl ?_
                            refine lV (yMove rfl) rfl rfl ?_
                            refine lGN rfl rfl rfl rfl rfl ?_
                            refine lGN rfl rfl rfl rfl rfl ?_
                            refine lGN rfl rfl rfl rfl rfl ?_
                            refine lV (yPickF rfl rfl) rfl rfl ?_
                            refine lV (yAssign rfl) rfl rfl ?_
                            refine lNil ?_
                            refine kInN ?_
                            refine kThen ?_
                            refine kRegion rfl ?_
                            refine lV (yAdd rfl rfl (by omega)) rfl rfl ?_
                            refine lV (yMove rfl) rfl rfl ?_
                            refine lNil ?_
                            exact kRoundX (l + 1, false) (by dsimp only; omega) (by dsimp only; omega) rfl (.c rfl (.c rfl .n)) (.c rfl (.c rfl (.c rfl (.c rfl (.c rfl (.c rfl (.c rfl (.c rfl (.c rfl (.c rfl (.c rfl (.c rfl (.c rfl (.c rfl (.c rfl (.c rfl (.c rfl (.c rfl (.c rfl (.c rfl (.c rfl (.c rfl (.c rfl (.c rfl (.c rfl (.c rfl (.c rfl (.c rfl (.c rfl (.c rfl (.c rfl (.c rfl (.c rfl (.c rfl (.c rfl (.c rfl (.c rfl (.c rfl (.c rfl (.c rfl (.c rfl (.c rfl (.c rfl (.c rfl (.c rfl (.c rfl (.c rfl (.c rfl (.c rfl (.c rfl (.c rfl (.c rfl (.c rfl (.c rfl (.c rfl (.c rfl (.c rfl (.c rfl (.c rfl (.c rfl (.c rfl (.c rfl (.c rfl (.c rfl (.c rfl (.c rfl (.c rfl (.c rfl (.c rfl (.c rfl (.c rfl (.c rfl (.c rfl (.c rfl (.c rfl (.c rfl (.c rfl (.c rfl (.c rfl (.c rfl (.c rfl (.c rfl (.c rfl (.c rfl (.c rfl (.c rfl (.c rfl (.c rfl (.c rfl (.c rfl (.c rfl (.c rfl (.c rfl (.c rfl (.c rfl (.c rfl (.c rfl (.c rfl (.c rfl (.c rfl (.c rfl (.c rfl (.c rfl (.c rfl (.c rfl (.c rfl (.c rfl (.c rfl (.c rfl (.c rfl (.c rfl (.c rfl (.c rfl (.c rfl (.c rfl (.c rfl (.c rfl (.c rfl (.c rfl (.c rfl (.c rfl (.c rfl (.c rfl (.c rfl (.c rfl .n))))))))))))))))))))))))))))))))))))))))))))))))))))))))))))))))))))))))))))))))))))))))))))))))))))))))))))))))))))))))))))) (.c 2 rfl (.c 2 rfl (.c 2 rfl (.c 2 rfl (.c 2 rfl (.c 2 rfl (.c 2 rfl (.d 0 (.d 0 .r)))))))))
                        · refine kIfF rfl ?_
                          refine kExit ?_
                          refine kThenX ?_
                          refine kThenX ?_
                          refine kInX ?_
                          refine kInN ?_
                          refine kThen ?_
                          refine kRegion rfl ?_
                          refine lV (yAdd rfl rfl (by omega)) rfl rfl ?_
                          refine lV (yMove rfl) rfl rfl ?_
                          refine lNil ?_
                          exact kRoundX (i + 1, b2) (by dsimp only; omega) (by dsimp only; omega) rfl (.c rfl (.c rfl .n)) (.c rfl (.c rfl (.c rfl (.c rfl (.c rfl (.c rfl (.c rfl (.c rfl (.c rfl (.c rfl (.c rfl (.c rfl (.c rfl (.c rfl (.c rfl (.c rfl (.c rfl (.c rfl (.c rfl (.c rfl (.c rfl (.c rfl (.c rfl (.c rfl (.c rfl (.c rfl (.c rfl (.c rfl (.c rfl (.c rfl (.c rfl (.c rfl (.c rfl (.c rfl (.c rfl (.c rfl (.c rfl (.c rfl (.c rfl (.c rfl (.c rfl (.c rfl (.c rfl (.c rfl (.c rfl (.c rfl (.c rfl (.c rfl (.c rfl (.c rfl (.c rfl (.c rfl (.c rfl (.c rfl (.c rfl (.c rfl (.c rfl (.c rfl (.c rfl (.c rfl (.c rfl (.c rfl (.c rfl (.c rfl (.c rfl (.c rfl (.c rfl (.c rfl (.c rfl (.c rfl (.c rfl (.c rfl (.c rfl (.c rfl (.c rfl (.c rfl (.c rfl (.c rfl (.c rfl (.c rfl (.c rfl (.c rfl (.c rfl (.c rfl (.c rfl (.c rfl (.c rfl (.c rfl (.c rfl (.c rfl (.c rfl (.c rfl (.c rfl (.c rfl (.c rfl (.c rfl (.c rfl (.c rfl .n)))))))))))))))))))))))))))))))))))))))))))))))))))))))))))))))))))))))))))))))))))))))))))))))))) (.c 2 rfl (.c 2 rfl (.c 2 rfl (.c 2 rfl (.c 2 rfl (.d 0 (.d 0 .r)))))))
                    · refine kIfF rfl ?_
                      refine kExit ?_
                      refine kThenX ?_
                      refine kThenX ?_
                      refine kInX ?_
                      refine kThen ?_
                      refine kSeq ?_
                      refine kRegion rfl ?_
                      refine lV (yMove rfl) rfl rfl ?_
                      refine lV (yMove rfl) rfl rfl ?_
                      refine lV (yShr rfl rfl rfl (by omega)) rfl rfl ?_
                      refine lV (yAnd (b := 1) rfl rfl rfl (by have := Nat.div_le_self (idleW m m.sets.length) (2 ^ n); omega) (by have := Nat.div_le_self (idleW m m.sets.length) (2 ^ n); omega)) rfl rfl ?_
                      refine lV (yEql rfl rfl) rfl rfl ?_
                      refine knownN (t := 229) rfl (hbit) ?_
                      refine lV (yMove rfl) rfl rfl ?_
                      refine lGN rfl rfl rfl rfl rfl ?_
                      refine lGN rfl rfl rfl rfl rfl ?_
                      refine lV (yPickF rfl rfl) rfl rfl ?_
                      refine lV (yMove rfl) rfl rfl ?_
                      refine lGY rfl rfl rfl (oV (yMove rfl) rfl ?_)
                      refine lGY rfl rfl rfl (oV (yMove rfl) rfl ?_)
                      refine lGY rfl rfl rfl (oV (yShr rfl rfl rfl (by omega)) rfl ?_)
                      refine lGY rfl rfl rfl (oV (yAnd (b := 1) rfl rfl rfl (by have := Nat.div_le_self (idleW m m.sets.length) (2 ^ n); omega) (by have := Nat.div_le_self (idleW m m.sets.length) (2 ^ n); omega)) rfl ?_)
                      refine lGY rfl rfl rfl (oV (yEql rfl rfl) rfl ?_)
                      refine known (t := 239) rfl ((and_not_one hbit)) ?_
                      refine lGY rfl rfl rfl (oV (yMove rfl) rfl ?_)
                      refine lGY rfl rfl rfl (oV (yMove rfl) rfl ?_)
                      refine lGY rfl rfl rfl (oV (yPickT rfl rfl) rfl ?_)
                      refine lGY rfl rfl rfl (oV (yMove rfl) rfl ?_)
                      refine splitB (t := 243) rfl (fun h243 => ?_) (fun h243 => ?_)
                      · have hbd := bound_true hM ho hsF
                        refine lGY rfl rfl rfl (oV (yLoadA (vs := [_, _, _, _, _, _, _]) rfl A29 (cOwn 2 rfl rfl)) rfl ?_)
                        refine lGY rfl rfl rfl (oV (yLoadA (vs := [_, _, _, _, _, _, _]) rfl A29 (cOwn 4 rfl rfl)) rfl ?_)
                        refine lGY rfl rfl rfl (oV (yCall rfl (.c rfl (.c rfl .n)) C43 (fun w hw => bound_any y m (locG y g) (partM m (lessS m n)) w (hm.eff hw) ⟨(hm.eff hw).e, OS.rowsE (f := rowS) (0, 0, false) hg hw (.d 0 (.d 0 (.d 0 (.d 0 (.d 0 .r)))))⟩ hM hP)) rfl ?_)
                        refine knownB (t := 246) (c := true) rfl (hbd) ?_
                        refine lGY rfl rfl rfl (oV (yNot rfl) rfl ?_)
                        refine lGY rfl rfl rfl (oV (yPickT rfl rfl) rfl ?_)
                        refine lV (yPickF rfl rfl) rfl rfl ?_
                        refine lNil ?_
                        refine kThen ?_
                        refine kIfF rfl ?_
                        refine kSkip ?_
                        refine kInN ?_
                        refine kThen ?_
                        refine kRegion rfl ?_
                        refine lV (yAdd rfl rfl (by omega)) rfl rfl ?_
                        refine lV (yMove rfl) rfl rfl ?_
                        refine lNil ?_
                        exact kRoundX (n + 1) (by omega) (by omega) rfl (.c rfl .n) (.c rfl (.c rfl (.c rfl (.c rfl (.c rfl (.c rfl (.c rfl (.c rfl (.c rfl (.c rfl (.c rfl (.c rfl (.c rfl (.c rfl (.c rfl (.c rfl (.c rfl (.c rfl (.c rfl (.c rfl (.c rfl (.c rfl (.c rfl (.c rfl (.c rfl (.c rfl (.c rfl (.c rfl (.c rfl (.c rfl (.c rfl (.c rfl (.c rfl (.c rfl (.c rfl (.c rfl (.c rfl (.c rfl (.c rfl (.c rfl (.c rfl (.c rfl (.c rfl (.c rfl (.c rfl (.c rfl (.c rfl (.c rfl (.c rfl (.c rfl (.c rfl (.c rfl (.c rfl (.c rfl (.c rfl (.c rfl (.c rfl (.c rfl (.c rfl (.c rfl (.c rfl (.c rfl (.c rfl (.c rfl (.c rfl (.c rfl (.c rfl (.c rfl (.c rfl (.c rfl (.c rfl (.c rfl (.c rfl (.c rfl (.c rfl (.c rfl (.c rfl (.c rfl (.c rfl .n))))))))))))))))))))))))))))))))))))))))))))))))))))))))))))))))))))))))))))))) (.c 1 rfl (.c 1 rfl (.c 1 rfl .n)))
                      · refine lGN rfl rfl rfl rfl rfl ?_
                        refine lGN rfl rfl rfl rfl rfl ?_
                        refine lGN rfl rfl rfl rfl rfl ?_
                        refine lGN rfl rfl rfl rfl rfl ?_
                        refine lGY rfl rfl rfl (oV (yPickF rfl rfl) rfl ?_)
                        refine lV (yPickF rfl rfl) rfl rfl ?_
                        refine lNil ?_
                        refine kThen ?_
                        refine kIfF rfl ?_
                        refine kSkip ?_
                        refine kInN ?_
                        refine kThen ?_
                        refine kRegion rfl ?_
                        refine lV (yAdd rfl rfl (by omega)) rfl rfl ?_
                        refine lV (yMove rfl) rfl rfl ?_
                        refine lNil ?_
                        exact kRoundX (n + 1) (by omega) (by omega) rfl (.c rfl .n) (.c rfl (.c rfl (.c rfl (.c rfl (.c rfl (.c rfl (.c rfl (.c rfl (.c rfl (.c rfl (.c rfl (.c rfl (.c rfl (.c rfl (.c rfl (.c rfl (.c rfl (.c rfl (.c rfl (.c rfl (.c rfl (.c rfl (.c rfl (.c rfl (.c rfl (.c rfl (.c rfl (.c rfl (.c rfl (.c rfl (.c rfl (.c rfl (.c rfl (.c rfl (.c rfl (.c rfl (.c rfl (.c rfl (.c rfl (.c rfl (.c rfl (.c rfl (.c rfl (.c rfl (.c rfl (.c rfl (.c rfl (.c rfl (.c rfl (.c rfl (.c rfl (.c rfl (.c rfl (.c rfl (.c rfl (.c rfl (.c rfl (.c rfl (.c rfl (.c rfl (.c rfl (.c rfl (.c rfl (.c rfl (.c rfl (.c rfl (.c rfl (.c rfl (.c rfl (.c rfl (.c rfl (.c rfl (.c rfl (.c rfl (.c rfl (.c rfl (.c rfl (.c rfl (.c rfl .n))))))))))))))))))))))))))))))))))))))))))))))))))))))))))))))))))))))))))))))) (.c 1 rfl (.c 1 rfl (.c 1 rfl .n)))
            · refine kIfF rfl ?_
              refine kExit ?_
              refine kThenX ?_
              refine kThenX ?_
              refine kInX ?_
              refine kThen ?_
              refine kSeq ?_
              refine kRegion rfl ?_
              refine lV (yCall rfl .n C15 (fun w hw => alive_any w)) rfl rfl ?_
              refine lV (yAssign rfl) rfl rfl ?_
              refine lNil ?_
              refine kThen ?_
              refine kRet ?_
              refine fRet rfl (.t rfl .n) (endRet ?_)
              first | rfl | (simp [packV, *]; done)
          · rw [idleE_clash hM ho]
            refine kRegion rfl ?_
            refine lV (yMove rfl) rfl rfl ?_
            refine lV (yNeq rfl rfl) rfl rfl ?_
            refine known (t := 119) rfl (fun h => absurd h (by decide)) ?_
            refine lNil ?_
            refine kThen ?_
            refine kIfT rfl ?_
            refine kSeq ?_
            refine kRegion rfl ?_
            refine lV (yMove rfl) rfl rfl ?_
            refine lV (yEql rfl rfl) rfl rfl ?_
            refine known (t := 121) rfl (rfl) ?_
            refine lV (yMove rfl) rfl rfl ?_
            refine lGY rfl rfl rfl (oV (yMove rfl) rfl ?_)
            refine lGY rfl rfl rfl (oV (yEql rfl rfl) rfl ?_)
            refine known (t := 124) rfl (rfl) ?_
            refine lV (yPickT rfl rfl) rfl rfl ?_
            refine lV (yMove rfl) rfl rfl ?_
            refine lGY rfl rfl rfl (oV (yCall rfl .n C15 (fun w hw => alive_any w)) rfl ?_)
            refine lV (yPickT rfl rfl) rfl rfl ?_
            refine lV (yAssign rfl) rfl rfl ?_
            refine lNil ?_
            refine kThen ?_
            refine kRet ?_
            refine kThenR ?_
            refine fRet rfl (.t rfl .n) (endRet ?_)
            first | rfl | (simp [packV, *]; done)
end Go.Proofs.Ytoefcofplkbnkaa
