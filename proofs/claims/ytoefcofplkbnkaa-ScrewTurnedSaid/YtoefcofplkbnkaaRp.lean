/-
  Walk: ScrewTurned.
-/
import Derived.Test.YtoefcofplkbnkaaEngS
import Derived.Test.YtoefcofplkbnkaaRi
import Derived.Test.YtoefcofplkbnkaaLo
namespace Go.Proofs.Ytoefcofplkbnkaa
open ZW

set_option maxRecDepth 100000 in
theorem num_any (nt nb : Nat) (t : Nat) (y : Loc) (m : Meas) (a : Int) (w : World) (ht : w.heap[nt]? = some (blk [.int .u8 (t : Nat)] 5)) (hb : w.heap[nb]? = some (blk (measC y m) 29)) (ha : 0 ≤ a ∧ a ≤ 1000) (hI : 0 < m.images) (h8 : t < 256) :
    Calls Try.prog 44 [i64 a, .pointer (some ⟨nt, 0, none⟩), .pointer (some ⟨nb, 0, none⟩)].toArray w (Ret w (i64 (sigI m t a))) := by
  refine fEnter Try.func44 rfl Try.ntmps44 rfl ?_
  refine kSeq ?_
  refine kRegion rfl ?_
  refine lV (yAssign rfl) rfl rfl ?_
  refine lNil ?_
  refine kThen ?_
  refine kSeq ?_
  refine kRegion rfl ?_
  refine lV (yMove rfl) rfl rfl ?_
  refine lV (yLoad1 rfl O5 (cOldB (ht) rfl)) rfl rfl ?_
  refine lV (yConvInt rfl U5 U3 (conv_ok (by omega))) rfl rfl ?_
  refine lV (yAdd rfl rfl (by omega)) rfl rfl ?_
  refine lV (yFieldAddr rfl F29_1) rfl rfl ?_
  refine lV (yLoad1 rfl O3 (cOldB (hb) rfl)) rfl rfl ?_
  refine lV (yRem rfl rfl (by omega) (by omega)) rfl rfl ?_
  refine lV (yAssign rfl) rfl rfl ?_
  refine lNil ?_
  refine kThen ?_
  refine kRet ?_
  refine fRet rfl (.t rfl .n) (endRet ?_)
  rfl
set_option maxRecDepth 100000 in
theorem back_any (nn n S : Nat) (w : World) (hn : n ≤ 12) (hS : S < 4096) (hb : w.heap[nn]? = some (blk [i64 (n : Nat)] 3)) :
    Calls Try.prog 45 [i64 (S : Nat), .pointer (some ⟨nn, 0, none⟩)].toArray w (Ret w (i64 ((backP S n n : Nat) : Int))) := by
  refine fEnter Try.func45 rfl Try.ntmps45 rfl ?_
  refine kSeq ?_
  refine kRegion rfl ?_
  refine lV (yAssign rfl) rfl rfl ?_
  refine lNil ?_
  refine kThen ?_
  refine kSeq ?_
  refine kSeq ?_
  refine kRegion rfl ?_
  refine lV (yLoad1 rfl O3 (cOldB (hb) rfl)) rfl rfl ?_
  refine lV (yMove rfl) rfl rfl ?_
  refine lNil ?_
  refine kThen ?_
  refine kBlock ?_
  refine kLoopX (ι := Nat) (fun i => i ≤ n) (fun i => [(6, i64 (i : Nat)), (3, i64 ((backP S n i : Nat) : Int))]) [(0, _), (1, _), (5, _)] (fun i => []) (fun i => []) [] (fun i => n - i) 0 (Nat.zero_le _) rfl (.c rfl (.c rfl .n)) (.c rfl (.c rfl (.c rfl .n))) .n ?_
  rintro i hi
  have hlt := backP_lt S n i hi
  have hp12 : 2 ^ n ≤ 2 ^ 12 := Nat.pow_le_pow_right (by omega) hn
  refine kSeq ?_
  refine kRegion rfl ?_
  refine lV (yLss rfl rfl) rfl rfl ?_
  refine lNil ?_
  refine kThen ?_
  refine kSeq ?_
  refine split (t := 7) rfl (fun h7 => ?_) (fun h7 => ?_)
  · refine kIfT rfl ?_
    refine kSkip ?_
    refine kThen ?_
    refine kSeq ?_
    refine kBlock ?_
    refine kSeq ?_
    refine kRegion rfl ?_
    refine lV (yMove rfl) rfl rfl ?_
    refine lV (yAssign rfl) rfl rfl ?_
    refine lNil ?_
    refine kThen ?_
    have hdl := Nat.div_le_self S (2 ^ i)
    have hbm := bit_mul S i (n - 1 - i)
    have hpj : 2 ^ (n - 1 - i) ≤ 2 ^ 12 := Nat.pow_le_pow_right (by omega) (by omega)
    have hml : (S / 2 ^ i &&& 1) * 2 ^ (n - 1 - i) < 2 ^ 63 := by rw [hbm]; split <;> omega
    refine kDrawE [(5, none)] [] [0, 1, 2, 3, 4, 5, 6, 7, 8, 9, 10] 1 hMix (by kernel_rfl) ?_
    refine .run rfl (yMove rfl) rfl rfl ?_
    refine .run rfl (yMove rfl) rfl rfl ?_
    refine .run rfl (yMove rfl) rfl rfl ?_
    refine .run rfl (yShr rfl rfl rfl (by omega)) rfl rfl ?_
    refine .run rfl (yAnd (b := 1) rfl rfl rfl (by omega) (by omega)) rfl rfl ?_
    refine .run rfl (yLoad1 rfl O3 (cOldB (hb) rfl)) rfl rfl ?_
    refine .run rfl (ySub rfl rfl (by omega)) rfl rfl ?_
    refine .run rfl (yMove rfl) rfl rfl ?_
    refine .run rfl (yvSame (u := i64 ((n - 1 - i : Nat) : Int)) (ySub rfl rfl (by omega)) (by congr 1; omega)) rfl rfl ?_
    refine .run rfl (yShl rfl rfl rfl (by omega) (hml)) rfl rfl ?_
    refine .run rfl (yvSame (u := i64 ((backP S n (i + 1) : Nat) : Int)) (yOr rfl rfl rfl (by omega) (by omega)) (by rw [backP_succ])) rfl rfl ?_
    refine .done ?_
    refine effStep 11 [] (by kernel_rfl) closedSt (hLeft [5] (by kernel_rfl) (.c (fun _ _ hs => hs.ef) .n)) ?_
    refine .c ?_ .n
    refine effOne rfl (gNone rfl (fV (yAssign rfl) rfl)) ?_
    refine effDone closedSt (hLeft [] (by kernel_rfl) .n) (by kernel_rfl) ?_
    refine kInN ?_
    refine kThen ?_
    refine kRegion rfl ?_
    refine lV (yAdd rfl rfl (by omega)) rfl rfl ?_
    refine lV (yMove rfl) rfl rfl ?_
    refine lNil ?_
    exact kRoundX (i + 1) (by omega) (by omega) rfl (.c rfl (.c rfl .n)) (.c rfl (.c rfl (.c rfl .n))) .n
  · refine kIfF rfl ?_
    refine kExit ?_
    refine kThenX ?_
    refine kThenX ?_
    refine kInX ?_
    refine kThen ?_
    refine kSeq ?_
    refine kRegion rfl ?_
    refine lV (yMove rfl) rfl rfl ?_
    refine lV (yAssign rfl) rfl rfl ?_
    refine lNil ?_
    refine kThen ?_
    refine kRet ?_
    refine fRet rfl (.t rfl .n) (endRet ?_)
    obtain rfl : i = n := by omega
    rfl
/-! ### What comes of it -/
def idN (m : Meas) : Nat := if okF m then idleW m m.sets.length else 0
theorem idN_lt {m : Meas} (hM : MeasOk m) : idN m < 4096 := by
  unfold idN
  split
  · have := idleW_lt m m.sets.length
    have : 2 ^ m.sets.length ≤ 2 ^ 12 := Nat.pow_le_pow_right (by omega) hM.n
    omega
  · omega
theorem idleE_n {m : Meas} (hM : MeasOk m) : idleE m = (((idN m : Nat) : Int), (idleE m).2) := by
  refine Prod.ext ?_ rfl
  unfold idleE idN
  rw [if_neg (not_not_intro hM)]
  by_cases ho : okF m
  · rw [if_neg (not_not_intro ((can_eq hM _).2 ho)), if_pos ho]
  · rw [if_pos fun h => ho ((can_eq hM _).1 h), if_neg ho]; rfl
theorem back_0 (n k : Nat) : backP 0 n k = 0 := by
  refine Nat.eq_of_testBit_eq fun j => ?_
  rw [Nat.zero_testBit]
  cases h : (backP 0 n k).testBit j with
  | false => rfl
  | true =>
    obtain ⟨i, _, hb, _⟩ := (backP_bit 0 n j k).1 h
    rw [Nat.zero_testBit] at hb; cases hb
theorem turn_idN {m : Meas} (hM : MeasOk m) (t : Nat) : idN (turnM m t) = backP (idN m) m.sets.length m.sets.length := by
  unfold idN
  by_cases ho : okF m
  · rw [if_pos ho, if_pos ((turn_iso hM t).okiff.2 ho), turnM_len, turn_idle hM t ho]
  · rw [if_neg ho, if_neg fun h => ho ((turn_iso hM t).okiff.1 h), back_0]
def flipL (m : Meas) (k : Nat) : List (Int × Int × Bool) := (List.range k).map fun j => flipS (setAt m j)
theorem flipL_succ (m : Meas) (k : Nat) : flipL m (k + 1) = flipL m k ++ [flipS (setAt m k)] := by unfold flipL; rw [List.range_succ, List.map_append]; rfl
theorem flipL_len (m : Meas) (k : Nat) : (flipL m k).length = k := by simp [flipL]
theorem flipL_all (m : Meas) : flipL m m.sets.length = (flipM m).sets := by
  unfold flipL flipM
  refine List.ext_getElem (by simp) fun i h1 h2 => ?_
  simp only [List.getElem_map, List.getElem_range]
  have hi : i < m.sets.length := by simpa using h2
  unfold setAt
  rw [← List.getElem_eq_getD (h := hi)]
theorem flip_sum {m : Meas} (hM : MeasOk m) : sumE (flipM m) = sumE m := (flip_iso hM).sum (fun p => by rw [flipP_0, flipP_1]; omega) (fun q => by rw [flipP_0, flipP_1]; omega)
theorem turn_sum {m : Meas} (hM : MeasOk m) (t : Nat) : sumE (turnM m t) = sumE m := (turn_iso hM t).sum (fun _ => rfl) (fun _ => rfl)
set_option maxHeartbeats 4000000 in
set_option maxRecDepth 100000 in
theorem turnedL_any (y : Loc) (m : Meas) (a b : Int) (t : Nat) (w : World) (hm : InM w y m) (h8 : t < 256) : Calls Try.prog 12 [.agg (measC y m).toArray, i64 a, i64 b, .int .u8 (t : Nat)].toArray w (Ret w (.bool true)) := by
  refine fEnter Try.func12 rfl Try.ntmps12 rfl ?_
  refine kSeq ?_
  refine kRegion rfl ?_
  refine lE rfl ?_
  refine eBoxA rfl fun n4 => ?_
  refine lE rfl ?_
  refine eBox1 rfl rfl fun n7 => ?_
  refine lV (yAssign rfl) rfl rfl ?_
  refine lNil ?_
  refine kThen ?_
  refine kSeq ?_
  refine kSeq ?_
  refine kRegion rfl ?_
  refine lV (yLoadA (vs := [_, _, _, _, _, _, _]) rfl A29 (cOwn 1 rfl rfl)) rfl rfl ?_
  refine lV (yCall rfl (.c rfl .n) C13 (fun w hw => great_any y m w)) rfl rfl ?_
  refine lV (yMove rfl) rfl rfl ?_
  refine splitB (t := 59) rfl (fun h59 => ?_) (fun h59 => ?_)
  · refine lGN rfl rfl rfl rfl rfl ?_
    refine lGN rfl rfl rfl rfl rfl ?_
    refine lGN rfl rfl rfl rfl rfl ?_
    refine lV (yPickT rfl rfl) rfl rfl ?_
    refine lNil ?_
    refine kThen ?_
    refine kIfT rfl ?_
    refine kSeq ?_
    refine kRegion rfl ?_
    refine lV (yCall rfl .n C15 (fun w hw => alive_any w)) rfl rfl ?_
    refine lV (yAssign rfl) rfl rfl ?_
    refine lNil ?_
    refine kThen ?_
    refine kRet ?_
    refine kThenR ?_
    refine fRet rfl (.t rfl .n) (endRet ?_)
    first | rfl | (simp [packV, *]; done)
  · have hG := of_decide_eq_false h59
    have hn : m.errs.length ≤ 1000000 := by unfold greatP at hG; omega
    have hn2 : m.errs.length ≤ 100 := by unfold greatP at hG; omega
    refine lGY rfl rfl rfl (oV (yLoadA (vs := [_, _, _, _, _, _, _]) rfl A29 (cOwn 1 rfl rfl)) rfl ?_)
    refine lGY rfl rfl rfl (oV (yCall rfl (.c rfl .n) C28 (fun w hw => rmeasure_any y m w (hm.eff hw) hn)) rfl ?_)
    refine lGY rfl rfl rfl (oV (yNot rfl) rfl ?_)
    refine lV (yPickF rfl rfl) rfl rfl ?_
    refine lNil ?_
    refine kThen ?_
    refine splitB (t := 63) rfl (fun h63 => ?_) (fun h63 => ?_)
    · refine kIfT rfl ?_
      refine kSeq ?_
      refine kRegion rfl ?_
      refine lV (yCall rfl .n C15 (fun w hw => alive_any w)) rfl rfl ?_
      refine lV (yAssign rfl) rfl rfl ?_
      refine lNil ?_
      refine kThen ?_
      refine kRet ?_
      refine kThenR ?_
      refine fRet rfl (.t rfl .n) (endRet ?_)
      first | rfl | (simp [packV, *]; done)
    · refine kIfF rfl ?_
      refine kSkip ?_
      refine kThen ?_
      refine kSeq ?_
      have hM := notF h63
      have hN := hM.n
      have hI := hM.i
      have hF := fullS_lt hM
      have hX := flip_ok hM
      have hY := turn_ok hM t
      have cf := clash_facts hM
      have cz := clash_facts hY
      have cle := cf.cle
      have dle := cf.dle
      have clz := cz.cle
      have dlz := cz.dle
      rw [turn_full] at clz dlz
      have hid := idN_lt hM
      refine kRegion rfl ?_
      refine lV (yMakeFunc .n (.c rfl (.c rfl .n))) rfl rfl ?_
      refine lV (yAssign rfl) rfl rfl ?_
      refine lNil ?_
      refine kThen ?_
      refine kSeq ?_
      refine kRegion rfl ?_
      refine lV (yFieldAddr rfl F29_3) rfl rfl ?_
      refine lV (yLoad1 rfl O27 (cOwn 1 rfl rfl)) rfl rfl ?_
      refine lV (yLen rfl S27) rfl rfl ?_
      refine lE rfl ?_
      refine eAlloc Z3 fun n10 => ?_
      refine lE rfl ?_
      refine eStoreL 0 rfl rfl rfl rfl K3 rfl (rfl) ?_
      refine lNil ?_
      refine kThen ?_
      refine kSeq ?_
      refine kCutX (ι := Nat × Nat) (fun z => True) (fun z => [(11, .pointer (some ⟨z.1, 0, none⟩)), (12, .pointer (some ⟨z.2, 0, none⟩))]) [(0, _), (1, _), (2, _), (3, _), (4, _), (7, _), (8, _), (57, _), (58, _), (59, _), (60, _), (61, _), (62, _), (63, _), (65, _), (9, _), (66, _), (67, _), (68, _), (10, _)] (fun z => []) (fun z => [(z.1, blk (measC y m) 29), (z.2, blk (measC y m) 29)]) [(n10, _), (n7, _), (n4, _)] (.c rfl (.c rfl (.c rfl (.c rfl (.c rfl (.c rfl (.c rfl (.c rfl (.c rfl (.c rfl (.c rfl (.c rfl (.c rfl (.c rfl (.c rfl (.c rfl (.c rfl (.c rfl (.c rfl (.c rfl .n)))))))))))))))))))) (.c 0 rfl (.c 0 rfl (.c 0 rfl .n))) ?_ (fun z _ => ?_)
      · refine kDrawE [(0, none), (1, none)] [] [0, 1] 4 hMix (by kernel_rfl) ?_
        refine .run rfl (yLoadA (vs := [_, _, _, _, _, _, _]) rfl A29 (cOwn 2 rfl rfl)) rfl rfl ?_
        refine .run rfl (yLoadA (vs := [_, _, _, _, _, _, _]) rfl A29 (cOwn 2 rfl rfl)) rfl rfl ?_
        refine .done ?_
        refine effStep 2 [3] (by kernel_rfl) closedSt (hLeft [0, 1] (by kernel_rfl) (.c (fun _ _ hs => hs.ef) (.c (fun _ _ hs => hs.ef) .n))) ?_
        refine (.c ?_ (.c ?_ .n))
        · refine effOne rfl (gNone rfl (fAlloc Z29)) ?_
          refine effStep 3 [] (by kernel_rfl) (closedEx fun n11 => closedSt) (hLeft [0, 1] (by kernel_rfl) (.c (fun _ _ ⟨n11, hs⟩ => hs.ef.sub (.c 1 rfl (.c 1 rfl (.c 1 rfl .n)))) (.c (fun _ _ ⟨n11, hs⟩ => hs.ef.sub (.c 1 rfl (.c 1 rfl (.c 1 rfl .n)))) .n))) ?_
          refine .c ?_ .n
          refine effOne rfl (opEx fun n11 => (gNone rfl (fAlloc Z29))) ?_
          refine effStep 4 [] (by kernel_rfl) (closedEx fun n11 => (closedEx fun n12 => closedSt)) (hLeft [0, 1] (by kernel_rfl) (.c (fun _ _ ⟨n11, ⟨n12, hs⟩⟩ => hs.ef.sub (.c 2 rfl (.c 2 rfl (.c 2 rfl .n)))) (.c (fun _ _ ⟨n11, ⟨n12, hs⟩⟩ => hs.ef.sub (.c 2 rfl (.c 2 rfl (.c 2 rfl .n)))) .n))) ?_
          refine .c ?_ .n
          refine effOne rfl (opEx fun n11 => (opEx fun n12 => (gNone rfl (fStoreL 1 rfl rfl rfl rfl K29 rfl (rfl))))) ?_
          refine effStep 5 [] (by kernel_rfl) (closedEx fun n11 => (closedEx fun n12 => closedSt)) (hLeft [1] (by kernel_rfl) (.c (fun _ _ ⟨n11, ⟨n12, hs⟩⟩ => hs.ef.sub (.c 2 rfl (.c 2 rfl (.c 2 rfl .n)))) .n)) ?_
          refine .c ?_ .n
          refine effOne rfl (opEx fun n11 => (opEx fun n12 => (gNone rfl (fStoreL 0 rfl rfl rfl rfl K29 rfl (rfl))))) ?_
          refine effDone (closedEx fun n11 => (closedEx fun n12 => closedSt)) (hLeft [] (by kernel_rfl) .n) (by kernel_rfl) ?_
          refine trEx fun n11 => ?_
          refine trEx fun n12 => ?_
          exact kMeetX ((n11, n12)) (trivial) rfl (.c rfl (.c rfl .n)) (.c rfl (.c rfl (.c rfl (.c rfl (.c rfl (.c rfl (.c rfl (.c rfl (.c rfl (.c rfl (.c rfl (.c rfl (.c rfl (.c rfl (.c rfl (.c rfl (.c rfl (.c rfl (.c rfl (.c rfl .n)))))))))))))))))))) (.c 2 rfl (.c 2 rfl (.c 2 rfl (.c 1 rfl (.c 0 rfl .n)))))
        · refine effOne rfl (gNone rfl (fAlloc Z29)) ?_
          refine effStep 2 [] (by kernel_rfl) (closedEx fun n12 => closedSt) (hLeft [0, 1] (by kernel_rfl) (.c (fun _ _ ⟨n12, hs⟩ => hs.ef.sub (.c 1 rfl (.c 1 rfl (.c 1 rfl .n)))) (.c (fun _ _ ⟨n12, hs⟩ => hs.ef.sub (.c 1 rfl (.c 1 rfl (.c 1 rfl .n)))) .n))) ?_
          refine .c ?_ .n
          refine effOne rfl (opEx fun n12 => (gNone rfl (fAlloc Z29))) ?_
          refine effStep 4 [] (by kernel_rfl) (closedEx fun n12 => (closedEx fun n11 => closedSt)) (hLeft [0, 1] (by kernel_rfl) (.c (fun _ _ ⟨n12, ⟨n11, hs⟩⟩ => hs.ef.sub (.c 2 rfl (.c 2 rfl (.c 2 rfl .n)))) (.c (fun _ _ ⟨n12, ⟨n11, hs⟩⟩ => hs.ef.sub (.c 2 rfl (.c 2 rfl (.c 2 rfl .n)))) .n))) ?_
          refine .c ?_ .n
          refine effOne rfl (opEx fun n12 => (opEx fun n11 => (gNone rfl (fStoreL 0 rfl rfl rfl rfl K29 rfl (rfl))))) ?_
          refine effStep 5 [] (by kernel_rfl) (closedEx fun n12 => (closedEx fun n11 => closedSt)) (hLeft [1] (by kernel_rfl) (.c (fun _ _ ⟨n12, ⟨n11, hs⟩⟩ => hs.ef.sub (.c 2 rfl (.c 2 rfl (.c 2 rfl .n)))) .n)) ?_
          refine .c ?_ .n
          refine effOne rfl (opEx fun n12 => (opEx fun n11 => (gNone rfl (fStoreL 1 rfl rfl rfl rfl K29 rfl (rfl))))) ?_
          refine effDone (closedEx fun n12 => (closedEx fun n11 => closedSt)) (hLeft [] (by kernel_rfl) .n) (by kernel_rfl) ?_
          refine trEx fun n12 => ?_
          refine trEx fun n11 => ?_
          exact kMeetX ((n11, n12)) (trivial) rfl (.c rfl (.c rfl .n)) (.c rfl (.c rfl (.c rfl (.c rfl (.c rfl (.c rfl (.c rfl (.c rfl (.c rfl (.c rfl (.c rfl (.c rfl (.c rfl (.c rfl (.c rfl (.c rfl (.c rfl (.c rfl (.c rfl (.c rfl .n)))))))))))))))))))) (.c 2 rfl (.c 2 rfl (.c 2 rfl (.c 0 rfl (.c 0 rfl .n)))))
      · obtain ⟨n11, n12⟩ := z
        dsimp only
        refine kSeq ?_
        refine kRegion rfl ?_
        refine lV (yFieldAddr rfl F29_3) rfl rfl ?_
        refine lE rfl ?_
        refine eStoreL 3 rfl rfl rfl rfl K27 rfl (rfl) ?_
        refine lV (yFieldAddr rfl F29_3) rfl rfl ?_
        refine lE rfl ?_
        refine eStoreL 4 rfl rfl rfl rfl K27 rfl (rfl) ?_
        refine lNil ?_
        refine kThen ?_
        refine kSeq ?_
        refine kSeq ?_
        refine kRegion rfl ?_
        refine lV (yFieldAddr rfl F29_3) rfl rfl ?_
        refine lV (yLoad1 rfl O27 (cOwn 2 rfl rfl)) rfl rfl ?_
        refine lV (yLen rfl S27) rfl rfl ?_
        refine lV (yMove rfl) rfl rfl ?_
        refine lNil ?_
        refine kThen ?_
        refine kBlock ?_
        refine kLoopX (ι := Nat × Own × Own) (fun x => x.1 ≤ m.sets.length ∧ OS 3 x.2.1 ((flipL m x.1).map rowS) ∧ OS 3 x.2.2 ((turnL m t x.1).map rowS)) (fun x => [(76, i64 (x.1 : Nat))]) [(0, _), (1, _), (2, _), (3, _), (4, _), (7, _), (8, _), (57, _), (58, _), (59, _), (60, _), (61, _), (62, _), (63, _), (65, _), (9, _), (66, _), (67, _), (68, _), (10, _), (11, _), (12, _), (71, _), (72, _), (73, _), (74, _), (75, _)] (fun x => []) (fun x => ([(n11, blk (partC y m x.2.1 ((flipL m x.1).map rowS).length) 29), (n12, blk (partC y m x.2.2 ((turnL m t x.1).map rowS).length) 29)] ++ (osL 49 x.2.1 ++ osL 49 x.2.2))) [(n4, _), (n7, _), (n10, _)] (fun x => m.sets.length - x.1) (0, .e none, .e none) (⟨Nat.zero_le _, OS.empty, OS.empty⟩) rfl (.c rfl .n) (.c rfl (.c rfl (.c rfl (.c rfl (.c rfl (.c rfl (.c rfl (.c rfl (.c rfl (.c rfl (.c rfl (.c rfl (.c rfl (.c rfl (.c rfl (.c rfl (.c rfl (.c rfl (.c rfl (.c rfl (.c rfl (.c rfl (.c rfl (.c rfl (.c rfl (.c rfl (.c rfl .n))))))))))))))))))))))))))) (.c 2 rfl (.c 1 rfl (.c 0 rfl (.c 0 rfl (.c 0 rfl .n))))) ?_
        rintro ⟨i, gx, gy⟩ ⟨hi, hgx, hgy⟩
        dsimp only at hi hgx hgy ⊢
        refine kSeq ?_
        refine kRegion rfl ?_
        refine lV (yLss rfl rfl) rfl rfl ?_
        refine lNil ?_
        refine kThen ?_
        refine kSeq ?_
        refine split (t := 77) rfl (fun h77 => ?_) (fun h77 => ?_)
        · refine kIfT rfl ?_
          refine kSkip ?_
          refine kThen ?_
          refine kSeq ?_
          refine kBlock ?_
          refine kSeq ?_
          refine kRegion rfl ?_
          refine lV (yMove rfl) rfl rfl ?_
          refine lV (yIndexS  rfl rfl S27 (hm.s.r) ((by omega))) rfl rfl ?_
          refine lV (yLoadA (vs := [_, _, _]) rfl A49 (cSl0 (hm.s.r) ((by omega)) rfl)) rfl rfl ?_
          refine lE rfl ?_
          refine eAlloc Z49 fun n14 => ?_
          refine lV (yAssign rfl) rfl rfl ?_
          refine lE rfl ?_
          refine eStoreL 0 rfl rfl rfl rfl K49 rfl (rfl) ?_
          refine lNil ?_
          refine kThen ?_
          refine kSeq ?_
          refine kRegion rfl ?_
          refine lV (yFieldAddr rfl F29_3) rfl rfl ?_
          refine lV (yLoad1 rfl O27 (cOwn 1 rfl rfl)) rfl rfl ?_
          refine lV (yLoad1 rfl O3 (cOwn 3 rfl rfl)) rfl rfl ?_
          refine lV (ySub rfl rfl (by omega)) rfl rfl ?_
          refine lV (yMove rfl) rfl rfl ?_
          refine lV (ySub rfl rfl (by omega)) rfl rfl ?_
          refine same (t := 86) (u := i64 ((m.sets.length - 1 - i : Nat) : Int)) rfl (by congr 1; omega) ?_
          refine lV (yIndexS  rfl rfl S27 (hm.s.r) ((by omega))) rfl rfl ?_
          refine lV (yLoadA (vs := [_, _, _]) rfl A49 (cSl0 (hm.s.r) ((by omega)) rfl)) rfl rfl ?_
          refine lE rfl ?_
          refine eAlloc Z49 fun n15 => ?_
          refine lE rfl ?_
          refine eStoreL 0 rfl rfl rfl rfl K49 rfl (rfl) ?_
          refine lNil ?_
          refine kThen ?_
          refine kSeq ?_
          have him := (hM.a _ (setAt_mem (m := m) (i := m.sets.length - 1 - i) (by omega))).1
          unfold setAt at him
          refine kRegion rfl ?_
          refine lV (yMove rfl) rfl rfl ?_
          refine lV (yFieldAddr rfl F49_0) rfl rfl ?_
          refine lV (yLoad1 rfl O3 (cOwn 0 rfl rfl)) rfl rfl ?_
          refine lV (yCall rfl (.c rfl .n) C44 (fun w hw => num_any n7 n4 t y m _ w (hw.blkAt 3 rfl) (hw.blkAt 2 rfl) (by omega) (by omega) h8)) rfl rfl ?_
          refine lV (yFieldAddr rfl F49_0) rfl rfl ?_
          refine lE rfl ?_
          refine eStoreL 0 rfl rfl rfl rfl K3 rfl (rfl) ?_
          refine lNil ?_
          refine kThen ?_
          refine kSeq ?_
          refine kRegion rfl ?_
          refine lV (yFieldAddr rfl F49_2) rfl rfl ?_
          refine lV (yLoad1 rfl O4 (cOwn 1 rfl rfl)) rfl rfl ?_
          refine lV (yNot rfl) rfl rfl ?_
          refine lV (yFieldAddr rfl F49_2) rfl rfl ?_
          refine lE rfl ?_
          refine eStoreL 1 rfl rfl rfl rfl K4 rfl (rfl) ?_
          refine lNil ?_
          refine kThen ?_
          have hll1 := flipL_len m i
          have hll2 := turnL_len m t i
          refine kCutQ (ι := Own × Own) (fun z => OS 3 z.1 ((flipL m (i + 1)).map rowS) ∧ OS 3 z.2 ((turnL m t (i + 1)).map rowS)) (fun z => []) [(0, _), (1, _), (2, _), (3, _), (4, _), (7, _), (8, _), (57, _), (58, _), (59, _), (60, _), (61, _), (62, _), (63, _), (65, _), (9, _), (66, _), (67, _), (68, _), (10, _), (11, _), (12, _), (71, _), (72, _), (73, _), (74, _), (75, _), (76, _), (77, _), (78, _), (79, _), (80, _), (14, _), (13, _), (81, _), (82, _), (83, _), (84, _), (85, _), (86, _), (87, _), (88, _), (15, _), (89, _), (90, _), (91, _), (92, _), (93, _), (94, _), (95, _), (96, _), (97, _)] (fun z => []) (fun z => ([(n11, blk (partC y m z.1 (List.map rowS (flipL m i) ++ [rowS (flipS (setAt m i))]).length) 29), (n12, blk (partC y m z.2 (List.map rowS (turnL m t i) ++ [rowS (turnS m t (setAt m (m.sets.length - 1 - i)))]).length) 29)] ++ (osL 49 z.1 ++ osL 49 z.2))) [(n4, _), (n7, _), (n10, _), (n14, _), (n15, _)] (.c rfl (.c rfl (.c rfl (.c rfl (.c rfl (.c rfl (.c rfl (.c rfl (.c rfl (.c rfl (.c rfl (.c rfl (.c rfl (.c rfl (.c rfl (.c rfl (.c rfl (.c rfl (.c rfl (.c rfl (.c rfl (.c rfl (.c rfl (.c rfl (.c rfl (.c rfl (.c rfl (.c rfl (.c rfl (.c rfl (.c rfl (.c rfl (.c rfl (.c rfl (.c rfl (.c rfl (.c rfl (.c rfl (.c rfl (.c rfl (.c rfl (.c rfl (.c rfl (.c rfl (.c rfl (.c rfl (.c rfl (.c rfl (.c rfl (.c rfl (.c rfl (.c rfl .n)))))))))))))))))))))))))))))))))))))))))))))))))))) (.c 2 rfl (.c 2 rfl (.c 2 rfl (.c 1 rfl (.c 0 rfl .n))))) ?_ (fun z hz => ?_)
          · refine kDrawE [(1, none), (2, none), (6, some [6]), (7, some [0])] [] [0, 1, 2, 5, 6, 7, 10, 12] 6 hMix (by kernel_rfl) ?_
            refine .run rfl (yFieldAddr rfl F29_3) rfl rfl ?_
            refine .run rfl (yLoad1 rfl O27 (cOwn 5 rfl rfl)) rfl rfl ?_
            refine .run rfl (yLoadA (vs := [_, _, _]) rfl A49 (cOwn 1 rfl rfl)) rfl rfl ?_
            refine .run rfl (yFieldAddr rfl F29_3) rfl rfl ?_
            refine .run rfl (yLoad1 rfl O27 (cOwn 0 rfl rfl)) rfl rfl ?_
            refine .run rfl (yLoadA (vs := [_, _, _]) rfl A49 (cOwn 0 rfl rfl)) rfl rfl ?_
            refine .run rfl (yFieldAddr rfl F29_3) rfl rfl ?_
            refine .run rfl (yFieldAddr rfl F29_3) rfl rfl ?_
            refine .done ?_
            refine effStep 3 [8] (by kernel_rfl) closedSt (hLeft [1, 2, 6, 7] (by kernel_rfl) (.c (fun _ _ hs => hs.ef) (.c (fun _ _ hs => hs.ef) (.c (fun _ _ hs => hs.ef.sub (.c 6 rfl .n)) (.c (fun _ _ hs => hs.ef.sub (.c 0 rfl .n)) .n))))) ?_
            refine (.c ?_ (.c ?_ .n))
            · refine effOne rfl (gNone rfl (fBuildSlice (.c rfl .n) (fun w => BS27_1_0 w))) ?_
              refine effStep 4 [8] (by kernel_rfl) (closedEx fun n101 => closedSt) (hLeft [1, 6, 7] (by kernel_rfl) (.c (fun _ _ ⟨n101, hs⟩ => hs.ef.sub (.c 1 rfl (.c 1 rfl (.c 1 rfl (.c 1 rfl (.c 1 rfl (.c 1 rfl (.c 1 rfl (.d 0 .r))))))))) (.c (fun _ _ ⟨n101, hs⟩ => hs.ef.sub (.c 7 rfl .n)) (.c (fun _ _ ⟨n101, hs⟩ => hs.ef.sub (.c 1 rfl .n)) .n)))) ?_
              refine (.c ?_ (.c ?_ .n))
              · refine effOne rfl (opEx fun n101 => (gNone rfl (fAppend (gs := gx) ([(n101, _), (n15, _), (n14, _), (n4, _), (n7, _), (n10, _), (n11, _), (n12, _)] ++ osL 49 gy) [rowS (flipS (setAt m i))] AP27 rfl rfl (.c 0 rfl (.c 0 rfl (.c 0 rfl (.c 0 rfl (.c 0 rfl (.c 0 rfl (.c 0 rfl (.c 0 rfl (SubP.comm _ _))))))))) hgx rfl (rowsS_len [_]) (SlN.own 0 rfl rfl) (rowsS_one [_]) (by simp; omega) (by simp; omega)))) ?_
                refine effStep 8 [] (by kernel_rfl) (closedEx fun n101 => (closedEx fun h => closedSt)) (hLeft [6, 7] (by kernel_rfl) (.c (fun _ _ ⟨n101, ⟨h, hs⟩⟩ => hs.ef.sub (.c 7 rfl .n)) (.c (fun _ _ ⟨n101, ⟨h, hs⟩⟩ => hs.ef.sub (.c 1 rfl .n)) .n))) ?_
                refine .c ?_ .n
                refine effOne rfl (opEx fun n101 => (opEx fun h => (gNone rfl (fBuildSlice (.c rfl .n) (fun w => BS27_1_0 w))))) ?_
                refine effStep 9 [] (by kernel_rfl) (closedEx fun n101 => (closedEx fun h => (closedEx fun n106 => closedSt))) (hLeft [6] (by kernel_rfl) (.c (fun _ _ ⟨n101, ⟨h, ⟨n106, hs⟩⟩⟩ => hs.ef.sub (.c 8 rfl .n)) .n)) ?_
                refine .c ?_ .n
                refine effOne rfl (opEx fun n101 => (opEx fun h => (opEx fun n106 => (gNone rfl (fAppend (gs := gy) ([(n106, _), (n101, _), (n15, _), (n14, _), (n4, _), (n7, _), (n10, _), (n11, _), (n12, _)] ++ osL 49 h.1) [rowS (turnS m t (setAt m (m.sets.length - 1 - i)))] AP27 rfl rfl (.c 0 rfl (.c 0 rfl (.c 0 rfl (.c 0 rfl (.c 0 rfl (.c 0 rfl (.c 0 rfl (.c 0 rfl (.c 0 rfl (SubP.comm _ _)))))))))) hgy rfl (rowsS_len [_]) (SlN.own 0 rfl rfl) (rowsS_one [_]) (by simp; omega) (by simp; omega)))))) ?_
                refine effStep 11 [] (by kernel_rfl) (closedEx fun n101 => (closedEx fun h => (closedEx fun n106 => (closedEx fun k => closedSt)))) (hLeft [] (by kernel_rfl) .n) ?_
                refine .c ?_ .n
                refine effOne rfl (opEx fun n101 => (opEx fun h => (opEx fun n106 => (opEx fun k => (gNone rfl (fStoreL 7 rfl rfl rfl rfl K27 rfl (rfl))))))) ?_
                refine effStep 13 [] (by kernel_rfl) (closedEx fun n101 => (closedEx fun h => (closedEx fun n106 => (closedEx fun k => closedSt)))) (hLeft [] (by kernel_rfl) .n) ?_
                refine .c ?_ .n
                refine effOne rfl (opEx fun n101 => (opEx fun h => (opEx fun n106 => (opEx fun k => (gNone rfl (fStoreL 8 rfl rfl rfl rfl K27 rfl (rfl))))))) ?_
                refine effDone (closedEx fun n101 => (closedEx fun h => (closedEx fun n106 => (closedEx fun k => closedSt)))) (hLeft [] (by kernel_rfl) .n) (by kernel_rfl) ?_
                refine trEx fun n101 => ?_
                refine trEx fun h => ?_
                refine trEx fun n106 => ?_
                refine trEx fun k => ?_
                exact kMeetX ((h.1, k.1)) (⟨by rw [flipL_succ, List.map_append]; exact h.2, by rw [turnL_succ, List.map_append]; exact k.2⟩) rfl .n (.c rfl (.c rfl (.c rfl (.c rfl (.c rfl (.c rfl (.c rfl (.c rfl (.c rfl (.c rfl (.c rfl (.c rfl (.c rfl (.c rfl (.c rfl (.c rfl (.c rfl (.c rfl (.c rfl (.c rfl (.c rfl (.c rfl (.c rfl (.c rfl (.c rfl (.c rfl (.c rfl (.c rfl (.c rfl (.c rfl (.c rfl (.c rfl (.c rfl (.c rfl (.c rfl (.c rfl (.c rfl (.c rfl (.c rfl (.c rfl (.c rfl (.c rfl (.c rfl (.c rfl (.c rfl (.c rfl (.c rfl (.c rfl (.c rfl (.c rfl (.c rfl (.c rfl .n)))))))))))))))))))))))))))))))))))))))))))))))))))) (.c 4 rfl (.c 4 rfl (.c 4 rfl (.c 3 rfl (.c 2 rfl (.c 2 rfl (.c 2 rfl (.d 0 (.d 0 .r)))))))))
              · refine effOne rfl (opEx fun n101 => (gNone rfl (fBuildSlice (.c rfl .n) (fun w => BS27_1_0 w)))) ?_
                refine effStep 4 [] (by kernel_rfl) (closedEx fun n101 => (closedEx fun n106 => closedSt)) (hLeft [1, 6] (by kernel_rfl) (.c (fun _ _ ⟨n101, ⟨n106, hs⟩⟩ => hs.ef.sub (.c 2 rfl (.c 2 rfl (.c 2 rfl (.c 2 rfl (.c 2 rfl (.c 2 rfl (.c 2 rfl (.d 0 (.d 0 .r)))))))))) (.c (fun _ _ ⟨n101, ⟨n106, hs⟩⟩ => hs.ef.sub (.c 8 rfl .n)) .n))) ?_
                refine .c ?_ .n
                refine effOne rfl (opEx fun n101 => (opEx fun n106 => (gNone rfl (fAppend (gs := gx) ([(n106, _), (n101, _), (n15, _), (n14, _), (n4, _), (n7, _), (n10, _), (n11, _), (n12, _)] ++ osL 49 gy) [rowS (flipS (setAt m i))] AP27 rfl rfl (.c 0 rfl (.c 0 rfl (.c 0 rfl (.c 0 rfl (.c 0 rfl (.c 0 rfl (.c 0 rfl (.c 0 rfl (.c 0 rfl (SubP.comm _ _)))))))))) hgx rfl (rowsS_len [_]) (SlN.own 1 rfl rfl) (rowsS_one [_]) (by simp; omega) (by simp; omega))))) ?_
                refine effStep 9 [] (by kernel_rfl) (closedEx fun n101 => (closedEx fun n106 => (closedEx fun h => closedSt))) (hLeft [6] (by kernel_rfl) (.c (fun _ _ ⟨n101, ⟨n106, ⟨h, hs⟩⟩⟩ => hs.ef.sub (.c 8 rfl .n)) .n)) ?_
                refine .c ?_ .n
                refine effOne rfl (opEx fun n101 => (opEx fun n106 => (opEx fun h => (gNone rfl (fAppend (gs := gy) ([(n106, _), (n101, _), (n15, _), (n14, _), (n4, _), (n7, _), (n10, _), (n11, _), (n12, _)] ++ osL 49 h.1) [rowS (turnS m t (setAt m (m.sets.length - 1 - i)))] AP27 rfl rfl (.c 0 rfl (.c 0 rfl (.c 0 rfl (.c 0 rfl (.c 0 rfl (.c 0 rfl (.c 0 rfl (.c 0 rfl (.c 0 rfl (SubP.comm _ _)))))))))) hgy rfl (rowsS_len [_]) (SlN.own 0 rfl rfl) (rowsS_one [_]) (by simp; omega) (by simp; omega)))))) ?_
                refine effStep 11 [] (by kernel_rfl) (closedEx fun n101 => (closedEx fun n106 => (closedEx fun h => (closedEx fun k => closedSt)))) (hLeft [] (by kernel_rfl) .n) ?_
                refine .c ?_ .n
                refine effOne rfl (opEx fun n101 => (opEx fun n106 => (opEx fun h => (opEx fun k => (gNone rfl (fStoreL 7 rfl rfl rfl rfl K27 rfl (rfl))))))) ?_
                refine effStep 13 [] (by kernel_rfl) (closedEx fun n101 => (closedEx fun n106 => (closedEx fun h => (closedEx fun k => closedSt)))) (hLeft [] (by kernel_rfl) .n) ?_
                refine .c ?_ .n
                refine effOne rfl (opEx fun n101 => (opEx fun n106 => (opEx fun h => (opEx fun k => (gNone rfl (fStoreL 8 rfl rfl rfl rfl K27 rfl (rfl))))))) ?_
                refine effDone (closedEx fun n101 => (closedEx fun n106 => (closedEx fun h => (closedEx fun k => closedSt)))) (hLeft [] (by kernel_rfl) .n) (by kernel_rfl) ?_
                refine trEx fun n101 => ?_
                refine trEx fun n106 => ?_
                refine trEx fun h => ?_
                refine trEx fun k => ?_
                exact kMeetX ((h.1, k.1)) (⟨by rw [flipL_succ, List.map_append]; exact h.2, by rw [turnL_succ, List.map_append]; exact k.2⟩) rfl .n (.c rfl (.c rfl (.c rfl (.c rfl (.c rfl (.c rfl (.c rfl (.c rfl (.c rfl (.c rfl (.c rfl (.c rfl (.c rfl (.c rfl (.c rfl (.c rfl (.c rfl (.c rfl (.c rfl (.c rfl (.c rfl (.c rfl (.c rfl (.c rfl (.c rfl (.c rfl (.c rfl (.c rfl (.c rfl (.c rfl (.c rfl (.c rfl (.c rfl (.c rfl (.c rfl (.c rfl (.c rfl (.c rfl (.c rfl (.c rfl (.c rfl (.c rfl (.c rfl (.c rfl (.c rfl (.c rfl (.c rfl (.c rfl (.c rfl (.c rfl (.c rfl (.c rfl .n)))))))))))))))))))))))))))))))))))))))))))))))))))) (.c 4 rfl (.c 4 rfl (.c 4 rfl (.c 3 rfl (.c 2 rfl (.c 2 rfl (.c 2 rfl (.d 0 (.d 0 .r)))))))))
            · refine effOne rfl (gNone rfl (fBuildSlice (.c rfl .n) (fun w => BS27_1_0 w))) ?_
              refine effStep 3 [] (by kernel_rfl) (closedEx fun n106 => closedSt) (hLeft [1, 2, 6] (by kernel_rfl) (.c (fun _ _ ⟨n106, hs⟩ => hs.ef.sub (.c 1 rfl (.c 1 rfl (.c 1 rfl (.c 1 rfl (.c 1 rfl (.c 1 rfl (.c 1 rfl (.d 0 .r))))))))) (.c (fun _ _ ⟨n106, hs⟩ => hs.ef.sub (.c 1 rfl (.c 1 rfl (.c 1 rfl (.c 1 rfl (.c 1 rfl (.c 1 rfl (.c 1 rfl (.d 0 .r))))))))) (.c (fun _ _ ⟨n106, hs⟩ => hs.ef.sub (.c 7 rfl .n)) .n)))) ?_
              refine .c ?_ .n
              refine effOne rfl (opEx fun n106 => (gNone rfl (fBuildSlice (.c rfl .n) (fun w => BS27_1_0 w)))) ?_
              refine effStep 4 [] (by kernel_rfl) (closedEx fun n106 => (closedEx fun n101 => closedSt)) (hLeft [1, 6] (by kernel_rfl) (.c (fun _ _ ⟨n106, ⟨n101, hs⟩⟩ => hs.ef.sub (.c 2 rfl (.c 2 rfl (.c 2 rfl (.c 2 rfl (.c 2 rfl (.c 2 rfl (.c 2 rfl (.d 0 (.d 0 .r)))))))))) (.c (fun _ _ ⟨n106, ⟨n101, hs⟩⟩ => hs.ef.sub (.c 8 rfl .n)) .n))) ?_
              refine .c ?_ .n
              refine effOne rfl (opEx fun n106 => (opEx fun n101 => (gNone rfl (fAppend (gs := gx) ([(n101, _), (n106, _), (n15, _), (n14, _), (n4, _), (n7, _), (n10, _), (n11, _), (n12, _)] ++ osL 49 gy) [rowS (flipS (setAt m i))] AP27 rfl rfl (.c 0 rfl (.c 0 rfl (.c 0 rfl (.c 0 rfl (.c 0 rfl (.c 0 rfl (.c 0 rfl (.c 0 rfl (.c 0 rfl (SubP.comm _ _)))))))))) hgx rfl (rowsS_len [_]) (SlN.own 0 rfl rfl) (rowsS_one [_]) (by simp; omega) (by simp; omega))))) ?_
              refine effStep 9 [] (by kernel_rfl) (closedEx fun n106 => (closedEx fun n101 => (closedEx fun h => closedSt))) (hLeft [6] (by kernel_rfl) (.c (fun _ _ ⟨n106, ⟨n101, ⟨h, hs⟩⟩⟩ => hs.ef.sub (.c 8 rfl .n)) .n)) ?_
              refine .c ?_ .n
              refine effOne rfl (opEx fun n106 => (opEx fun n101 => (opEx fun h => (gNone rfl (fAppend (gs := gy) ([(n101, _), (n106, _), (n15, _), (n14, _), (n4, _), (n7, _), (n10, _), (n11, _), (n12, _)] ++ osL 49 h.1) [rowS (turnS m t (setAt m (m.sets.length - 1 - i)))] AP27 rfl rfl (.c 0 rfl (.c 0 rfl (.c 0 rfl (.c 0 rfl (.c 0 rfl (.c 0 rfl (.c 0 rfl (.c 0 rfl (.c 0 rfl (SubP.comm _ _)))))))))) hgy rfl (rowsS_len [_]) (SlN.own 1 rfl rfl) (rowsS_one [_]) (by simp; omega) (by simp; omega)))))) ?_
              refine effStep 11 [] (by kernel_rfl) (closedEx fun n106 => (closedEx fun n101 => (closedEx fun h => (closedEx fun k => closedSt)))) (hLeft [] (by kernel_rfl) .n) ?_
              refine .c ?_ .n
              refine effOne rfl (opEx fun n106 => (opEx fun n101 => (opEx fun h => (opEx fun k => (gNone rfl (fStoreL 7 rfl rfl rfl rfl K27 rfl (rfl))))))) ?_
              refine effStep 13 [] (by kernel_rfl) (closedEx fun n106 => (closedEx fun n101 => (closedEx fun h => (closedEx fun k => closedSt)))) (hLeft [] (by kernel_rfl) .n) ?_
              refine .c ?_ .n
              refine effOne rfl (opEx fun n106 => (opEx fun n101 => (opEx fun h => (opEx fun k => (gNone rfl (fStoreL 8 rfl rfl rfl rfl K27 rfl (rfl))))))) ?_
              refine effDone (closedEx fun n106 => (closedEx fun n101 => (closedEx fun h => (closedEx fun k => closedSt)))) (hLeft [] (by kernel_rfl) .n) (by kernel_rfl) ?_
              refine trEx fun n106 => ?_
              refine trEx fun n101 => ?_
              refine trEx fun h => ?_
              refine trEx fun k => ?_
              exact kMeetX ((h.1, k.1)) (⟨by rw [flipL_succ, List.map_append]; exact h.2, by rw [turnL_succ, List.map_append]; exact k.2⟩) rfl .n (.c rfl (.c rfl (.c rfl (.c rfl (.c rfl (.c rfl (.c rfl (.c rfl (.c rfl (.c rfl (.c rfl (.c rfl (.c rfl (.c rfl (.c rfl (.c rfl (.c rfl (.c rfl (.c rfl (.c rfl (.c rfl (.c rfl (.c rfl (.c rfl (.c rfl (.c rfl (.c rfl (.c rfl (.c rfl (.c rfl (.c rfl (.c rfl (.c rfl (.c rfl (.c rfl (.c rfl (.c rfl (.c rfl (.c rfl (.c rfl (.c rfl (.c rfl (.c rfl (.c rfl (.c rfl (.c rfl (.c rfl (.c rfl (.c rfl (.c rfl (.c rfl (.c rfl .n)))))))))))))))))))))))))))))))))))))))))))))))))))) (.c 4 rfl (.c 4 rfl (.c 4 rfl (.c 3 rfl (.c 2 rfl (.c 2 rfl (.c 2 rfl (.d 0 (.d 0 .r)))))))))
          · obtain ⟨gx2, gy2⟩ := z
            obtain ⟨hx2, hy2⟩ := hz
            dsimp only at hx2 hy2 ⊢
            have e1 : (List.map rowS (flipL m i) ++ [rowS (flipS (setAt m i))]).length = ((flipL m (i + 1)).map rowS).length := by rw [flipL_succ, List.map_append]; rfl
            have e2 : (List.map rowS (turnL m t i) ++ [rowS (turnS m t (setAt m (m.sets.length - 1 - i)))]).length = ((turnL m t (i + 1)).map rowS).length := by rw [turnL_succ, List.map_append]; rfl
            rw [e1, e2]
            refine kInN ?_
            refine kThen ?_
            refine kRegion rfl ?_
            refine lV (yAdd rfl rfl (by omega)) rfl rfl ?_
            refine lV (yMove rfl) rfl rfl ?_
            refine lNil ?_
            exact kRoundX (i + 1, gx2, gy2) (⟨by dsimp only; omega, hx2, hy2⟩) (by dsimp only; omega) rfl (.c rfl .n) (.c rfl (.c rfl (.c rfl (.c rfl (.c rfl (.c rfl (.c rfl (.c rfl (.c rfl (.c rfl (.c rfl (.c rfl (.c rfl (.c rfl (.c rfl (.c rfl (.c rfl (.c rfl (.c rfl (.c rfl (.c rfl (.c rfl (.c rfl (.c rfl (.c rfl (.c rfl (.c rfl .n))))))))))))))))))))))))))) (.c 0 rfl (.c 0 rfl (.c 0 rfl (.c 2 rfl (.c 2 rfl (.d 0 (.d 0 .r)))))))
        · refine kIfF rfl ?_
          refine kExit ?_
          refine kThenX ?_
          refine kThenX ?_
          refine kInX ?_
          refine kThen ?_
          refine kSeq ?_
          have hil : i = m.sets.length := by omega
          rw [hil, flipL_all] at hgx
          rw [hil] at hgy
          have e3 : ((flipL m i).map rowS).length = (flipM m).sets.length := by rw [hil, flipL_all, List.length_map]
          have e4 : ((turnL m t i).map rowS).length = (turnM m t).sets.length := by rw [hil, List.length_map]; rfl
          rw [e3, e4]
          obtain ⟨B, hB⟩ : ∃ B : Heap, osL 49 gx ++ osL 49 gy = B := ⟨_, rfl⟩
          rw [hB]
          have hxB : SubP (osL 49 gx) B := hB ▸ SubP.leftA _ _
          have hyB : SubP (osL 49 gy) B := hB ▸ SubP.tail
          refine kCutX (ι := Heap × Own × Own) (fun z => (SubP B z.1 ∧ SubP (osL 49 z.2.1) z.1 ∧ SubP (osL 24 z.2.2) z.1) ∧ OS 3 z.2.1 (m.sets.map rowS) ∧ OS 2 z.2.2 (m.errs.map rowE)) (fun z => [(16, osV z.2.1 ([] ++ m.sets.map rowS).length), (17, osV z.2.2 ([] ++ m.errs.map rowE).length)]) [(0, _), (1, _), (2, _), (3, _), (4, _), (7, _), (8, _), (57, _), (58, _), (59, _), (60, _), (61, _), (62, _), (63, _), (65, _), (9, _), (66, _), (67, _), (68, _), (10, _), (11, _), (12, _), (71, _), (72, _), (73, _), (74, _), (75, _), (76, _), (77, _)] (fun z => []) (fun z => z.1) [(n4, _), (n7, _), (n10, _), (n11, _), (n12, _)] (.c rfl (.c rfl (.c rfl (.c rfl (.c rfl (.c rfl (.c rfl (.c rfl (.c rfl (.c rfl (.c rfl (.c rfl (.c rfl (.c rfl (.c rfl (.c rfl (.c rfl (.c rfl (.c rfl (.c rfl (.c rfl (.c rfl (.c rfl (.c rfl (.c rfl (.c rfl (.c rfl (.c rfl (.c rfl .n))))))))))))))))))))))))))))) (.c 0 rfl (.c 0 rfl (.c 0 rfl (.c 0 rfl (.c 0 rfl .n))))) ?_ (fun z hz => ?_)
          · refine kDrawE [(2, none), (7, some [0])] [] [1, 2, 5, 6, 7] 6 hMix (by kernel_rfl) ?_
            refine .run rfl (yFieldAddr rfl F29_3) rfl rfl ?_
            refine .run rfl (yLoad1 rfl O27 (cOwn 0 rfl rfl)) rfl rfl ?_
            refine .run rfl (yFieldAddr rfl F29_0) rfl rfl ?_
            refine .run rfl (yFieldAddr rfl F26_0) rfl rfl ?_
            refine .run rfl (yLoad1 rfl O22 (cOwn 0 rfl rfl)) rfl rfl ?_
            refine .done ?_
            refine effStep 0 [4] (by kernel_rfl) closedSt (hLeft [2, 7] (by kernel_rfl) (.c (fun _ _ hs => hs.ef) (.c (fun _ _ hs => hs.ef.sub (.c 0 rfl .n)) .n))) ?_
            refine (.c ?_ (.c ?_ .n))
            · refine effOne rfl (gNone rfl (fBuildSlice .n (fun w => BS27_0_ w))) ?_
              refine effStep 3 [4] (by kernel_rfl) (closedEx fun n111 => closedSt) (hLeft [2, 7] (by kernel_rfl) (.c (fun _ _ ⟨n111, hs⟩ => hs.ef.sub (.c 1 rfl (.c 1 rfl (.c 1 rfl (.c 1 rfl (.c 1 rfl (.d 0 .r))))))) (.c (fun _ _ ⟨n111, hs⟩ => hs.ef.sub (.c 1 rfl .n)) .n))) ?_
              refine (.c ?_ (.c ?_ .n))
              · refine effOne rfl (opEx fun n111 => (gNone rfl (fAppend (gs := .b n111 0 []) ([(n4, _), (n7, _), (n10, _), (n11, _), (n12, _)] ++ B) (es := []) (m.sets.map rowS) AP27 rfl rfl (.c 1 rfl (.c 1 rfl (.c 1 rfl (.c 1 rfl (.c 1 rfl (SubP.comm _ _)))))) (OS.lit (es := []) (by simp) rfl (by decide)) (by simp) (rowsS_len m.sets) (flatten_range (f := rowS) m.sets (0, 0, false) ▸ SlN.sl hm.s.r) (rowsS_one m.sets) (by simp; omega) (by simp; omega)))) ?_
                refine effStep 4 [] (by kernel_rfl) (closedEx fun n111 => (closedEx fun h => closedSt)) (hLeft [7] (by kernel_rfl) (.c (fun _ _ ⟨n111, ⟨h, hs⟩⟩ => hs.ef.sub (.c 0 rfl .n)) .n)) ?_
                refine .c ?_ .n
                refine effOne rfl (opEx fun n111 => (opEx fun h => (gNone rfl (fBuildSlice .n (fun w => BS22_0_ w))))) ?_
                refine effStep 8 [] (by kernel_rfl) (closedEx fun n111 => (closedEx fun h => (closedEx fun n115 => closedSt))) (hLeft [7] (by kernel_rfl) (.c (fun _ _ ⟨n111, ⟨h, ⟨n115, hs⟩⟩⟩ => hs.ef.sub (.c 1 rfl .n)) .n)) ?_
                refine .c ?_ .n
                refine effOne rfl (opEx fun n111 => (opEx fun h => (opEx fun n115 => (gNone rfl (fAppend (gs := .b n115 0 []) ([(n4, _), (n7, _), (n10, _), (n11, _), (n12, _)] ++ (B ++ osL 49 h.1)) (es := []) (m.errs.map rowE) AP22 rfl rfl (.c 1 rfl (.c 1 rfl (.c 1 rfl (.c 1 rfl (.c 1 rfl (SubP.comm _ _)))))) (OS.lit (es := []) (by simp) rfl (by decide)) (by simp) (rowsE_len m.errs) (flatten_range (f := rowE) m.errs (0, 0) ▸ SlN.sl hm.e.r) (rowsE_one m.errs) (by simp; omega) (by simp; omega)))))) ?_
                refine effStep 9 [] (by kernel_rfl) (closedEx fun n111 => (closedEx fun h => (closedEx fun n115 => (closedEx fun k => closedSt)))) (hLeft [] (by kernel_rfl) .n) ?_
                refine .c ?_ .n
                refine effOne rfl (opEx fun n111 => (opEx fun h => (opEx fun n115 => (opEx fun k => (gNone rfl (fV (yAssign rfl) rfl)))))) ?_
                refine effStep 10 [] (by kernel_rfl) (closedEx fun n111 => (closedEx fun h => (closedEx fun n115 => (closedEx fun k => closedSt)))) (hLeft [] (by kernel_rfl) .n) ?_
                refine .c ?_ .n
                refine effOne rfl (opEx fun n111 => (opEx fun h => (opEx fun n115 => (opEx fun k => (gNone rfl (fV (yAssign rfl) rfl)))))) ?_
                refine effDone (closedEx fun n111 => (closedEx fun h => (closedEx fun n115 => (closedEx fun k => closedSt)))) (hLeft [] (by kernel_rfl) .n) (by kernel_rfl) ?_
                refine trEx fun n111 => ?_
                refine trEx fun h => ?_
                refine trEx fun n115 => ?_
                refine trEx fun k => ?_
                exact kMeetX (((B ++ osL 49 h.1) ++ osL 24 k.1, h.1, k.1)) (⟨⟨SubP.leftOf (SubP.leftA _ _), SubP.leftOf SubP.tail, SubP.tail⟩, by simpa using h.2, by simpa using k.2⟩) rfl (.c rfl (.c rfl .n)) (.c rfl (.c rfl (.c rfl (.c rfl (.c rfl (.c rfl (.c rfl (.c rfl (.c rfl (.c rfl (.c rfl (.c rfl (.c rfl (.c rfl (.c rfl (.c rfl (.c rfl (.c rfl (.c rfl (.c rfl (.c rfl (.c rfl (.c rfl (.c rfl (.c rfl (.c rfl (.c rfl (.c rfl (.c rfl .n))))))))))))))))))))))))))))) (.c 0 rfl (.c 0 rfl (.c 0 rfl (.c 0 rfl (.c 0 rfl .r)))))
              · refine effOne rfl (opEx fun n111 => (gNone rfl (fBuildSlice .n (fun w => BS22_0_ w)))) ?_
                refine effStep 3 [] (by kernel_rfl) (closedEx fun n111 => (closedEx fun n115 => closedSt)) (hLeft [2, 7] (by kernel_rfl) (.c (fun _ _ ⟨n111, ⟨n115, hs⟩⟩ => hs.ef.sub (.c 2 rfl (.c 2 rfl (.c 2 rfl (.c 2 rfl (.c 2 rfl (.d 0 (.d 0 .r)))))))) (.c (fun _ _ ⟨n111, ⟨n115, hs⟩⟩ => hs.ef.sub (.c 2 rfl .n)) .n))) ?_
                refine .c ?_ .n
                refine effOne rfl (opEx fun n111 => (opEx fun n115 => (gNone rfl (fAppend (gs := .b n111 0 []) ([(n115, _), (n4, _), (n7, _), (n10, _), (n11, _), (n12, _)] ++ B) (es := []) (m.sets.map rowS) AP27 rfl rfl (.c 0 rfl (.c 1 rfl (.c 1 rfl (.c 1 rfl (.c 1 rfl (.c 1 rfl (SubP.comm _ _))))))) (OS.lit (es := []) (by simp) rfl (by decide)) (by simp) (rowsS_len m.sets) (flatten_range (f := rowS) m.sets (0, 0, false) ▸ SlN.sl hm.s.r) (rowsS_one m.sets) (by simp; omega) (by simp; omega))))) ?_
                refine effStep 8 [] (by kernel_rfl) (closedEx fun n111 => (closedEx fun n115 => (closedEx fun h => closedSt))) (hLeft [7] (by kernel_rfl) (.c (fun _ _ ⟨n111, ⟨n115, ⟨h, hs⟩⟩⟩ => hs.ef.sub (.c 1 rfl .n)) .n)) ?_
                refine .c ?_ .n
                refine effOne rfl (opEx fun n111 => (opEx fun n115 => (opEx fun h => (gNone rfl (fAppend (gs := .b n115 0 []) ([(n4, _), (n7, _), (n10, _), (n11, _), (n12, _)] ++ (B ++ osL 49 h.1)) (es := []) (m.errs.map rowE) AP22 rfl rfl (.c 1 rfl (.c 1 rfl (.c 1 rfl (.c 1 rfl (.c 1 rfl (SubP.comm _ _)))))) (OS.lit (es := []) (by simp) rfl (by decide)) (by simp) (rowsE_len m.errs) (flatten_range (f := rowE) m.errs (0, 0) ▸ SlN.sl hm.e.r) (rowsE_one m.errs) (by simp; omega) (by simp; omega)))))) ?_
                refine effStep 9 [] (by kernel_rfl) (closedEx fun n111 => (closedEx fun n115 => (closedEx fun h => (closedEx fun k => closedSt)))) (hLeft [] (by kernel_rfl) .n) ?_
                refine .c ?_ .n
                refine effOne rfl (opEx fun n111 => (opEx fun n115 => (opEx fun h => (opEx fun k => (gNone rfl (fV (yAssign rfl) rfl)))))) ?_
                refine effStep 10 [] (by kernel_rfl) (closedEx fun n111 => (closedEx fun n115 => (closedEx fun h => (closedEx fun k => closedSt)))) (hLeft [] (by kernel_rfl) .n) ?_
                refine .c ?_ .n
                refine effOne rfl (opEx fun n111 => (opEx fun n115 => (opEx fun h => (opEx fun k => (gNone rfl (fV (yAssign rfl) rfl)))))) ?_
                refine effDone (closedEx fun n111 => (closedEx fun n115 => (closedEx fun h => (closedEx fun k => closedSt)))) (hLeft [] (by kernel_rfl) .n) (by kernel_rfl) ?_
                refine trEx fun n111 => ?_
                refine trEx fun n115 => ?_
                refine trEx fun h => ?_
                refine trEx fun k => ?_
                exact kMeetX (((B ++ osL 49 h.1) ++ osL 24 k.1, h.1, k.1)) (⟨⟨SubP.leftOf (SubP.leftA _ _), SubP.leftOf SubP.tail, SubP.tail⟩, by simpa using h.2, by simpa using k.2⟩) rfl (.c rfl (.c rfl .n)) (.c rfl (.c rfl (.c rfl (.c rfl (.c rfl (.c rfl (.c rfl (.c rfl (.c rfl (.c rfl (.c rfl (.c rfl (.c rfl (.c rfl (.c rfl (.c rfl (.c rfl (.c rfl (.c rfl (.c rfl (.c rfl (.c rfl (.c rfl (.c rfl (.c rfl (.c rfl (.c rfl (.c rfl (.c rfl .n))))))))))))))))))))))))))))) (.c 0 rfl (.c 0 rfl (.c 0 rfl (.c 0 rfl (.c 0 rfl .r)))))
            · refine effOne rfl (gNone rfl (fBuildSlice .n (fun w => BS22_0_ w))) ?_
              refine effStep 0 [] (by kernel_rfl) (closedEx fun n115 => closedSt) (hLeft [2, 7] (by kernel_rfl) (.c (fun _ _ ⟨n115, hs⟩ => hs.ef.sub (.c 1 rfl (.c 1 rfl (.c 1 rfl (.c 1 rfl (.c 1 rfl (.d 0 .r))))))) (.c (fun _ _ ⟨n115, hs⟩ => hs.ef.sub (.c 1 rfl .n)) .n))) ?_
              refine .c ?_ .n
              refine effOne rfl (opEx fun n115 => (gNone rfl (fBuildSlice .n (fun w => BS27_0_ w)))) ?_
              refine effStep 3 [] (by kernel_rfl) (closedEx fun n115 => (closedEx fun n111 => closedSt)) (hLeft [2, 7] (by kernel_rfl) (.c (fun _ _ ⟨n115, ⟨n111, hs⟩⟩ => hs.ef.sub (.c 2 rfl (.c 2 rfl (.c 2 rfl (.c 2 rfl (.c 2 rfl (.d 0 (.d 0 .r)))))))) (.c (fun _ _ ⟨n115, ⟨n111, hs⟩⟩ => hs.ef.sub (.c 2 rfl .n)) .n))) ?_
              refine .c ?_ .n
              refine effOne rfl (opEx fun n115 => (opEx fun n111 => (gNone rfl (fAppend (gs := .b n111 0 []) ([(n115, _), (n4, _), (n7, _), (n10, _), (n11, _), (n12, _)] ++ B) (es := []) (m.sets.map rowS) AP27 rfl rfl (.c 1 rfl (.c 1 rfl (.c 1 rfl (.c 1 rfl (.c 1 rfl (.c 1 rfl (SubP.comm _ _))))))) (OS.lit (es := []) (by simp) rfl (by decide)) (by simp) (rowsS_len m.sets) (flatten_range (f := rowS) m.sets (0, 0, false) ▸ SlN.sl hm.s.r) (rowsS_one m.sets) (by simp; omega) (by simp; omega))))) ?_
              refine effStep 8 [] (by kernel_rfl) (closedEx fun n115 => (closedEx fun n111 => (closedEx fun h => closedSt))) (hLeft [7] (by kernel_rfl) (.c (fun _ _ ⟨n115, ⟨n111, ⟨h, hs⟩⟩⟩ => hs.ef.sub (.c 1 rfl .n)) .n)) ?_
              refine .c ?_ .n
              refine effOne rfl (opEx fun n115 => (opEx fun n111 => (opEx fun h => (gNone rfl (fAppend (gs := .b n115 0 []) ([(n4, _), (n7, _), (n10, _), (n11, _), (n12, _)] ++ (B ++ osL 49 h.1)) (es := []) (m.errs.map rowE) AP22 rfl rfl (.c 1 rfl (.c 1 rfl (.c 1 rfl (.c 1 rfl (.c 1 rfl (SubP.comm _ _)))))) (OS.lit (es := []) (by simp) rfl (by decide)) (by simp) (rowsE_len m.errs) (flatten_range (f := rowE) m.errs (0, 0) ▸ SlN.sl hm.e.r) (rowsE_one m.errs) (by simp; omega) (by simp; omega)))))) ?_
              refine effStep 9 [] (by kernel_rfl) (closedEx fun n115 => (closedEx fun n111 => (closedEx fun h => (closedEx fun k => closedSt)))) (hLeft [] (by kernel_rfl) .n) ?_
              refine .c ?_ .n
              refine effOne rfl (opEx fun n115 => (opEx fun n111 => (opEx fun h => (opEx fun k => (gNone rfl (fV (yAssign rfl) rfl)))))) ?_
              refine effStep 10 [] (by kernel_rfl) (closedEx fun n115 => (closedEx fun n111 => (closedEx fun h => (closedEx fun k => closedSt)))) (hLeft [] (by kernel_rfl) .n) ?_
              refine .c ?_ .n
              refine effOne rfl (opEx fun n115 => (opEx fun n111 => (opEx fun h => (opEx fun k => (gNone rfl (fV (yAssign rfl) rfl)))))) ?_
              refine effDone (closedEx fun n115 => (closedEx fun n111 => (closedEx fun h => (closedEx fun k => closedSt)))) (hLeft [] (by kernel_rfl) .n) (by kernel_rfl) ?_
              refine trEx fun n115 => ?_
              refine trEx fun n111 => ?_
              refine trEx fun h => ?_
              refine trEx fun k => ?_
              exact kMeetX (((B ++ osL 49 h.1) ++ osL 24 k.1, h.1, k.1)) (⟨⟨SubP.leftOf (SubP.leftA _ _), SubP.leftOf SubP.tail, SubP.tail⟩, by simpa using h.2, by simpa using k.2⟩) rfl (.c rfl (.c rfl .n)) (.c rfl (.c rfl (.c rfl (.c rfl (.c rfl (.c rfl (.c rfl (.c rfl (.c rfl (.c rfl (.c rfl (.c rfl (.c rfl (.c rfl (.c rfl (.c rfl (.c rfl (.c rfl (.c rfl (.c rfl (.c rfl (.c rfl (.c rfl (.c rfl (.c rfl (.c rfl (.c rfl (.c rfl (.c rfl .n))))))))))))))))))))))))))))) (.c 0 rfl (.c 0 rfl (.c 0 rfl (.c 0 rfl (.c 0 rfl .r)))))
          · obtain ⟨B2, gs, ge⟩ := z
            obtain ⟨⟨hB1, hB2, hB3⟩, hgs, hge⟩ := hz
            dsimp only at hB1 hB2 hB3 hgs hge ⊢
            have e5 : ([] ++ m.sets.map rowS).length = m.sets.length := by simp
            have e6 : ([] ++ m.errs.map rowE).length = m.errs.length := by simp
            rw [e5, e6]
            refine kSeq ?_
            refine kRegion rfl ?_
            refine lV (yMakeFunc .n (.c rfl .n)) rfl rfl ?_
            refine lV (yAssign rfl) rfl rfl ?_
            refine lNil ?_
            refine kThen ?_
            refine kSeq ?_
            refine kRegion rfl ?_
            refine lV (yLoadA (vs := [_, _, _, _, _, _, _]) rfl A29 (cOwn 0 rfl rfl)) rfl rfl ?_
            refine lV (yCall rfl (.c rfl .n) C18 (fun w hw => sum_any y m w (hm.eff hw))) rfl rfl ?_
            refine lV (yMove rfl) rfl rfl ?_
            refine lV (yExtract rfl rfl) rfl rfl ?_
            refine lV (yExtract rfl rfl) rfl rfl ?_
            refine lE rfl ?_
            refine eAlloc Z24 fun n19 => ?_
            refine lE rfl ?_
            refine eStoreL 0 rfl rfl rfl rfl K24 rfl (rfl) ?_
            refine lV (yAssign rfl) rfl rfl ?_
            refine lNil ?_
            refine kThen ?_
            refine kSeq ?_
            refine kRegion rfl ?_
            refine lV (yLoadA (vs := [_, _, _, _, _, _, _]) rfl A29 (cOwn 4 rfl rfl)) rfl rfl ?_
            refine lV (yCall rfl (.c rfl .n) C18 (fun w hw => sum_any (locG y gx) (flipM m) w ⟨(hm.eff hw).e, OS.rowsE (f := rowS) (0, 0, false) hgx (((hw.sub (.d 0 (.d 0 (.d 0 (.d 0 (.d 0 (.d 0 .r))))))).sub hB1).sub hxB) .r⟩)) rfl rfl ?_
            refine same (t := 128) (u := outC (sumE m)) rfl (by rw [flip_sum hM]) ?_
            refine lV (yMove rfl) rfl rfl ?_
            refine lV (yExtract rfl rfl) rfl rfl ?_
            refine lV (yExtract rfl rfl) rfl rfl ?_
            refine lE rfl ?_
            refine eAlloc Z24 fun n21 => ?_
            refine lE rfl ?_
            refine eStoreL 0 rfl rfl rfl rfl K24 rfl (rfl) ?_
            refine lV (yAssign rfl) rfl rfl ?_
            refine lNil ?_
            refine kThen ?_
            refine kSeq ?_
            refine kRegion rfl ?_
            refine lV (yLoadA (vs := [_, _, _, _, _, _, _]) rfl A29 (cOwn 6 rfl rfl)) rfl rfl ?_
            refine lV (yCall rfl (.c rfl .n) C18 (fun w hw => sum_any (locG y gy) (turnM m t) w ⟨(hm.eff hw).e, OS.rowsE (f := rowS) (0, 0, false) hgy (((hw.sub (.d 0 (.d 0 (.d 0 (.d 0 (.d 0 (.d 0 (.d 0 .r)))))))).sub hB1).sub hyB) .r⟩)) rfl rfl ?_
            refine same (t := 133) (u := outC (sumE m)) rfl (by rw [turn_sum hM]) ?_
            refine lV (yMove rfl) rfl rfl ?_
            refine lV (yExtract rfl rfl) rfl rfl ?_
            refine lV (yExtract rfl rfl) rfl rfl ?_
            refine lE rfl ?_
            refine eAlloc Z24 fun n23 => ?_
            refine lE rfl ?_
            refine eStoreL 0 rfl rfl rfl rfl K24 rfl (rfl) ?_
            refine lV (yAssign rfl) rfl rfl ?_
            refine lNil ?_
            refine kThen ?_
            refine kSeq ?_
            refine kRegion rfl ?_
            refine lV (yLoadA (vs := [_, _, _, _, _, _, _]) rfl A29 (cOwn 3 rfl rfl)) rfl rfl ?_
            refine lV (yCall rfl (.c rfl .n) C26 (fun w hw => clash_any y m w (hm.eff hw))) rfl rfl ?_
            refine same (t := 138) (u := outI (((clashS m : Nat) : Int), 0)) rfl (by rw [clashE_S hM]) ?_
            refine lV (yMove rfl) rfl rfl ?_
            refine lV (yExtract rfl rfl) rfl rfl ?_
            refine lV (yExtract rfl rfl) rfl rfl ?_
            refine lV (yAssign rfl) rfl rfl ?_
            refine lV (yAssign rfl) rfl rfl ?_
            refine lNil ?_
            refine kThen ?_
            refine kSeq ?_
            refine kRegion rfl ?_
            refine lV (yLoadA (vs := [_, _, _, _, _, _, _]) rfl A29 (cOwn 6 rfl rfl)) rfl rfl ?_
            refine lV (yCall rfl (.c rfl .n) C26 (fun w hw => clash_any (locG y gx) (flipM m) w ⟨(hm.eff hw).e, OS.rowsE (f := rowS) (0, 0, false) hgx (((hw.sub (.d 0 (.d 0 (.d 0 (.d 0 (.d 0 (.d 0 (.d 0 (.d 0 .r))))))))).sub hB1).sub hxB) .r⟩)) rfl rfl ?_
            refine same (t := 143) (u := outI (((clashS m : Nat) : Int), 0)) rfl (by rw [clashE_S hX, flip_clash hM]) ?_
            refine lV (yMove rfl) rfl rfl ?_
            refine lV (yExtract rfl rfl) rfl rfl ?_
            refine lV (yExtract rfl rfl) rfl rfl ?_
            refine lV (yAssign rfl) rfl rfl ?_
            refine lV (yAssign rfl) rfl rfl ?_
            refine lNil ?_
            refine kThen ?_
            refine kSeq ?_
            refine kRegion rfl ?_
            refine lV (yLoadA (vs := [_, _, _, _, _, _, _]) rfl A29 (cOwn 7 rfl rfl)) rfl rfl ?_
            refine lV (yCall rfl (.c rfl .n) C26 (fun w hw => clash_any (locG y gy) (turnM m t) w ⟨(hm.eff hw).e, OS.rowsE (f := rowS) (0, 0, false) hgy (((hw.sub (.d 0 (.d 0 (.d 0 (.d 0 (.d 0 (.d 0 (.d 0 (.d 0 .r))))))))).sub hB1).sub hyB) .r⟩)) rfl rfl ?_
            refine same (t := 148) (u := outI (((clashS (turnM m t) : Nat) : Int), 0)) rfl (by rw [clashE_S hY]) ?_
            refine lV (yMove rfl) rfl rfl ?_
            refine lV (yExtract rfl rfl) rfl rfl ?_
            refine lV (yExtract rfl rfl) rfl rfl ?_
            refine lV (yAssign rfl) rfl rfl ?_
            refine lV (yAssign rfl) rfl rfl ?_
            refine lNil ?_
            refine kThen ?_
            refine kSeq ?_
            refine kRegion rfl ?_
            refine lV (yLoadA (vs := [_, _, _, _, _, _, _]) rfl A29 (cOwn 3 rfl rfl)) rfl rfl ?_
            refine lV (yCall rfl (.c rfl .n) C35 (fun w hw => idle_any y m w (hm.eff hw))) rfl rfl ?_
            refine same (t := 153) (u := outI (((idN m : Nat) : Int), (idleE m).2)) rfl (by rw [← idleE_n hM]) ?_
            refine lV (yMove rfl) rfl rfl ?_
            refine lV (yExtract rfl rfl) rfl rfl ?_
            refine lV (yExtract rfl rfl) rfl rfl ?_
            refine lV (yAssign rfl) rfl rfl ?_
            refine lV (yAssign rfl) rfl rfl ?_
            refine lNil ?_
            refine kThen ?_
            refine kSeq ?_
            refine kRegion rfl ?_
            refine lV (yLoadA (vs := [_, _, _, _, _, _, _]) rfl A29 (cOwn 6 rfl rfl)) rfl rfl ?_
            refine lV (yCall rfl (.c rfl .n) C35 (fun w hw => idle_any (locG y gx) (flipM m) w ⟨(hm.eff hw).e, OS.rowsE (f := rowS) (0, 0, false) hgx (((hw.sub (.d 0 (.d 0 (.d 0 (.d 0 (.d 0 (.d 0 (.d 0 (.d 0 .r))))))))).sub hB1).sub hxB) .r⟩)) rfl rfl ?_
            refine same (t := 158) (u := outI (((idN m : Nat) : Int), (idleE m).2)) rfl (by rw [flip_idle hM, ← idleE_n hM]) ?_
            refine lV (yMove rfl) rfl rfl ?_
            refine lV (yExtract rfl rfl) rfl rfl ?_
            refine lV (yExtract rfl rfl) rfl rfl ?_
            refine lV (yAssign rfl) rfl rfl ?_
            refine lV (yAssign rfl) rfl rfl ?_
            refine lNil ?_
            refine kThen ?_
            refine kSeq ?_
            refine kRegion rfl ?_
            refine lV (yLoadA (vs := [_, _, _, _, _, _, _]) rfl A29 (cOwn 7 rfl rfl)) rfl rfl ?_
            refine lV (yCall rfl (.c rfl .n) C35 (fun w hw => idle_any (locG y gy) (turnM m t) w ⟨(hm.eff hw).e, OS.rowsE (f := rowS) (0, 0, false) hgy (((hw.sub (.d 0 (.d 0 (.d 0 (.d 0 (.d 0 (.d 0 (.d 0 (.d 0 .r))))))))).sub hB1).sub hyB) .r⟩)) rfl rfl ?_
            refine same (t := 163) (u := outI (((backP (idN m) m.sets.length m.sets.length : Nat) : Int), (idleE (turnM m t)).2)) rfl (by rw [← turn_idN hM, ← idleE_n hY]) ?_
            refine lV (yMove rfl) rfl rfl ?_
            refine lV (yExtract rfl rfl) rfl rfl ?_
            refine lV (yExtract rfl rfl) rfl rfl ?_
            refine lV (yAssign rfl) rfl rfl ?_
            refine lV (yAssign rfl) rfl rfl ?_
            refine lNil ?_
            refine kThen ?_
            refine kSeq ?_
            refine kRegion rfl ?_
            refine lV (yLoadA (vs := [_, _, _, _, _, _, _]) rfl A29 (cOwn 3 rfl rfl)) rfl rfl ?_
            refine lV (yCall rfl (.c rfl .n) C39 (fun w hw => once_any y m w (hm.eff hw))) rfl rfl ?_
            refine same (t := 168) (u := outI (((onceX m : Nat) : Int), 0)) rfl (by rw [onceE_eq, if_neg (not_not_intro hM)]) ?_
            refine lV (yMove rfl) rfl rfl ?_
            refine lV (yExtract rfl rfl) rfl rfl ?_
            refine lV (yExtract rfl rfl) rfl rfl ?_
            refine lV (yAssign rfl) rfl rfl ?_
            refine lV (yAssign rfl) rfl rfl ?_
            refine lNil ?_
            refine kThen ?_
            refine kSeq ?_
            refine kRegion rfl ?_
            refine lV (yLoadA (vs := [_, _, _, _, _, _, _]) rfl A29 (cOwn 6 rfl rfl)) rfl rfl ?_
            refine lV (yCall rfl (.c rfl .n) C39 (fun w hw => once_any (locG y gx) (flipM m) w ⟨(hm.eff hw).e, OS.rowsE (f := rowS) (0, 0, false) hgx (((hw.sub (.d 0 (.d 0 (.d 0 (.d 0 (.d 0 (.d 0 (.d 0 (.d 0 .r))))))))).sub hB1).sub hxB) .r⟩)) rfl rfl ?_
            refine same (t := 173) (u := outI (((onceX m : Nat) : Int), 0)) rfl (by rw [onceE_eq, if_neg (not_not_intro hX), flip_once]) ?_
            refine lV (yMove rfl) rfl rfl ?_
            refine lV (yExtract rfl rfl) rfl rfl ?_
            refine lV (yExtract rfl rfl) rfl rfl ?_
            refine lV (yAssign rfl) rfl rfl ?_
            refine lV (yAssign rfl) rfl rfl ?_
            refine lNil ?_
            refine kThen ?_
            refine kSeq ?_
            refine kRegion rfl ?_
            refine lV (yLoadA (vs := [_, _, _, _, _, _, _]) rfl A29 (cOwn 3 rfl rfl)) rfl rfl ?_
            refine lV (yCall rfl (.c rfl .n) C27 (fun w hw => drop_any y m w (hm.eff hw))) rfl rfl ?_
            refine same (t := 178) (u := outI (((dropS m : Nat) : Int), 0)) rfl (by rw [dropE_S hM]) ?_
            refine lV (yMove rfl) rfl rfl ?_
            refine lV (yExtract rfl rfl) rfl rfl ?_
            refine lV (yExtract rfl rfl) rfl rfl ?_
            refine lV (yAssign rfl) rfl rfl ?_
            refine lV (yAssign rfl) rfl rfl ?_
            refine lNil ?_
            refine kThen ?_
            refine kSeq ?_
            refine kRegion rfl ?_
            refine lV (yLoadA (vs := [_, _, _, _, _, _, _]) rfl A29 (cOwn 7 rfl rfl)) rfl rfl ?_
            refine lV (yCall rfl (.c rfl .n) C27 (fun w hw => drop_any (locG y gy) (turnM m t) w ⟨(hm.eff hw).e, OS.rowsE (f := rowS) (0, 0, false) hgy (((hw.sub (.d 0 (.d 0 (.d 0 (.d 0 (.d 0 (.d 0 (.d 0 (.d 0 .r))))))))).sub hB1).sub hyB) .r⟩)) rfl rfl ?_
            refine same (t := 183) (u := outI (((dropS (turnM m t) : Nat) : Int), 0)) rfl (by rw [dropE_S hY]) ?_
            refine lV (yMove rfl) rfl rfl ?_
            refine lV (yExtract rfl rfl) rfl rfl ?_
            refine lV (yExtract rfl rfl) rfl rfl ?_
            refine lV (yAssign rfl) rfl rfl ?_
            refine lV (yAssign rfl) rfl rfl ?_
            refine lNil ?_
            refine kThen ?_
            refine kSeq ?_
            refine kSeq ?_
            refine kRegion rfl ?_
            refine lV (yLoadA (vs := [_, _]) rfl A24 (cOwn 2 rfl rfl)) rfl rfl ?_
            refine lV (yLoadA (vs := [_, _]) rfl A24 (cOwn 1 rfl rfl)) rfl rfl ?_
            refine lV (yNeAgg rfl rfl G24 (fun w => Q24 w)) rfl rfl ?_
            refine knownB (t := 188) (c := false) rfl (by simp) ?_
            refine lV (yMove rfl) rfl rfl ?_
            refine lGY rfl rfl rfl (oV (yLoadA (vs := [_, _]) rfl A24 (cOwn 2 rfl rfl)) rfl ?_)
            refine lGY rfl rfl rfl (oV (yLoadA (vs := [_, _]) rfl A24 (cOwn 0 rfl rfl)) rfl ?_)
            refine lGY rfl rfl rfl (oV (yNeAgg rfl rfl G24 (fun w => Q24 w)) rfl ?_)
            refine knownB (t := 192) (c := false) rfl (by simp) ?_
            refine lV (yPickF rfl rfl) rfl rfl ?_
            refine lV (yMove rfl) rfl rfl ?_
            refine lGY rfl rfl rfl (oV (yMove rfl) rfl ?_)
            refine lGY rfl rfl rfl (oV (yMove rfl) rfl ?_)
            refine lGY rfl rfl rfl (oV (yNeq rfl rfl) rfl ?_)
            refine knownN (t := 197) rfl (fun h => h rfl) ?_
            refine lV (yPickF rfl rfl) rfl rfl ?_
            refine lV (yMove rfl) rfl rfl ?_
            refine lGY rfl rfl rfl (oV (yMove rfl) rfl ?_)
            refine lGY rfl rfl rfl (oV (yMove rfl) rfl ?_)
            refine lGY rfl rfl rfl (oV (yNeq rfl rfl) rfl ?_)
            refine knownN (t := 202) rfl (fun h => h rfl) ?_
            refine lV (yPickF rfl rfl) rfl rfl ?_
            refine lV (yMove rfl) rfl rfl ?_
            refine lGY rfl rfl rfl (oV (yMove rfl) rfl ?_)
            refine lGY rfl rfl rfl (oV (yMove rfl) rfl ?_)
            refine lGY rfl rfl rfl (oV (yNeq rfl rfl) rfl ?_)
            refine knownN (t := 207) rfl (fun h => h rfl) ?_
            refine lV (yPickF rfl rfl) rfl rfl ?_
            refine lV (yMove rfl) rfl rfl ?_
            refine lGY rfl rfl rfl (oV (yMove rfl) rfl ?_)
            refine lGY rfl rfl rfl (oV (yMove rfl) rfl ?_)
            refine lGY rfl rfl rfl (oV (yNeq rfl rfl) rfl ?_)
            refine knownN (t := 212) rfl (fun h => h rfl) ?_
            refine lV (yPickF rfl rfl) rfl rfl ?_
            refine lV (yMove rfl) rfl rfl ?_
            refine lGY rfl rfl rfl (oV (yMove rfl) rfl ?_)
            refine lGY rfl rfl rfl (oV (yMove rfl) rfl ?_)
            refine lGY rfl rfl rfl (oV (yCall rfl (.c rfl .n) C45 (fun w hw => back_any n10 m.sets.length (idN m) w hN hid (hw.blkAt 5 rfl))) rfl ?_)
            refine lGY rfl rfl rfl (oV (yMove rfl) rfl ?_)
            refine lGY rfl rfl rfl (oV (yNeq rfl rfl) rfl ?_)
            refine knownN (t := 219) rfl (fun h => h rfl) ?_
            refine lV (yPickF rfl rfl) rfl rfl ?_
            refine lV (yMove rfl) rfl rfl ?_
            refine lGY rfl rfl rfl (oV (yMove rfl) rfl ?_)
            refine lGY rfl rfl rfl (oV (yMove rfl) rfl ?_)
            refine lGY rfl rfl rfl (oV (yNeq rfl rfl) rfl ?_)
            refine knownN (t := 224) rfl (fun h => h rfl) ?_
            refine lV (yPickF rfl rfl) rfl rfl ?_
            refine lV (yMove rfl) rfl rfl ?_
            refine lGY rfl rfl rfl (oV (yMove rfl) rfl ?_)
            refine lGY rfl rfl rfl (oV (yLss rfl rfl) rfl ?_)
            refine knownN (t := 228) rfl (by omega) ?_
            refine lV (yPickF rfl rfl) rfl rfl ?_
            refine lV (yMove rfl) rfl rfl ?_
            refine lGY rfl rfl rfl (oV (yMove rfl) rfl ?_)
            refine lGY rfl rfl rfl (oV (yLss rfl rfl) rfl ?_)
            refine knownN (t := 232) rfl (by omega) ?_
            refine lV (yPickF rfl rfl) rfl rfl ?_
            refine lV (yMove rfl) rfl rfl ?_
            refine lGY rfl rfl rfl (oV (yMove rfl) rfl ?_)
            refine lGY rfl rfl rfl (oV (yLss rfl rfl) rfl ?_)
            refine knownN (t := 236) rfl (by omega) ?_
            refine lV (yPickF rfl rfl) rfl rfl ?_
            refine lV (yMove rfl) rfl rfl ?_
            refine lGY rfl rfl rfl (oV (yMove rfl) rfl ?_)
            refine lGY rfl rfl rfl (oV (yLss rfl rfl) rfl ?_)
            refine knownN (t := 240) rfl (by omega) ?_
            refine lV (yPickF rfl rfl) rfl rfl ?_
            refine lV (yMove rfl) rfl rfl ?_
            refine lGY rfl rfl rfl (oV (yMove rfl) rfl ?_)
            refine lGY rfl rfl rfl (oV (yCall rfl (.c rfl .n) C33 (fun w hw => size_any (clashS m) w (by omega))) rfl ?_)
            refine lGY rfl rfl rfl (oV (yMove rfl) rfl ?_)
            refine lGY rfl rfl rfl (oV (yCall rfl (.c rfl .n) C33 (fun w hw => size_any (clashS (turnM m t)) w (by omega))) rfl ?_)
            refine lGY rfl rfl rfl (oV (yNeq rfl rfl) rfl ?_)
            refine knownN (t := 247) rfl (fun h => h (by rw [turn_clash hM])) ?_
            refine lV (yPickF rfl rfl) rfl rfl ?_
            refine lV (yMove rfl) rfl rfl ?_
            refine lGY rfl rfl rfl (oV (yMove rfl) rfl ?_)
            refine lGY rfl rfl rfl (oV (yCall rfl (.c rfl .n) C33 (fun w hw => size_any (dropS m) w (by omega))) rfl ?_)
            refine lGY rfl rfl rfl (oV (yMove rfl) rfl ?_)
            refine lGY rfl rfl rfl (oV (yCall rfl (.c rfl .n) C33 (fun w hw => size_any (dropS (turnM m t)) w (by omega))) rfl ?_)
            refine lGY rfl rfl rfl (oV (yNeq rfl rfl) rfl ?_)
            refine knownN (t := 254) rfl (fun h => h (by rw [turn_drop hM])) ?_
            refine lV (yPickF rfl rfl) rfl rfl ?_
            refine lNil ?_
            refine kThen ?_
            refine kIfF rfl ?_
            refine kSkip ?_
            refine kThen ?_
            refine kSeq ?_
            refine kSeq ?_
            refine kRegion rfl ?_
            refine lV (yMove rfl) rfl rfl ?_
            refine lV (yLen rfl S27) rfl rfl ?_
            refine lV (yMove rfl) rfl rfl ?_
            refine lNil ?_
            refine kThen ?_
            refine kBlock ?_
            refine kLoopX (ι := Nat) (fun i => i ≤ m.sets.length) (fun i => [(258, i64 (i : Nat))]) [(0, _), (1, _), (2, _), (3, _), (4, _), (7, _), (57, _), (58, _), (59, _), (60, _), (61, _), (62, _), (63, _), (65, _), (9, _), (66, _), (67, _), (68, _), (10, _), (11, _), (12, _), (71, _), (72, _), (73, _), (74, _), (75, _), (76, _), (77, _), (16, _), (17, _), (120, _), (18, _), (122, _), (123, _), (121, _), (124, _), (125, _), (19, _), (20, _), (127, _), (128, _), (126, _), (129, _), (130, _), (21, _), (22, _), (132, _), (133, _), (131, _), (134, _), (135, _), (23, _), (24, _), (137, _), (138, _), (136, _), (139, _), (140, _), (25, _), (26, _), (142, _), (143, _), (141, _), (144, _), (145, _), (27, _), (28, _), (147, _), (148, _), (146, _), (149, _), (150, _), (29, _), (30, _), (152, _), (153, _), (151, _), (154, _), (155, _), (31, _), (32, _), (157, _), (158, _), (156, _), (159, _), (160, _), (33, _), (34, _), (162, _), (163, _), (161, _), (164, _), (165, _), (35, _), (36, _), (167, _), (168, _), (166, _), (169, _), (170, _), (37, _), (38, _), (172, _), (173, _), (171, _), (174, _), (175, _), (39, _), (40, _), (177, _), (178, _), (176, _), (179, _), (180, _), (41, _), (42, _), (182, _), (183, _), (181, _), (184, _), (185, _), (43, _), (44, _), (186, _), (187, _), (188, _), (189, _), (190, _), (191, _), (192, _), (193, _), (194, _), (195, _), (196, _), (197, _), (198, _), (199, _), (200, _), (201, _), (202, _), (203, _), (204, _), (205, _), (206, _), (207, _), (208, _), (209, _), (210, _), (211, _), (212, _), (213, _), (214, _), (215, _), (216, _), (217, _), (218, _), (219, _), (220, _), (221, _), (222, _), (223, _), (224, _), (225, _), (226, _), (227, _), (228, _), (229, _), (230, _), (231, _), (232, _), (233, _), (234, _), (235, _), (236, _), (237, _), (238, _), (239, _), (240, _), (241, _), (242, _), (243, _), (244, _), (245, _), (246, _), (247, _), (248, _), (249, _), (250, _), (251, _), (252, _), (253, _), (254, _), (255, _), (256, _), (257, _)] (fun i => []) (fun i => B2) [(n23, _), (n21, _), (n19, _), (n4, _), (n7, _), (n10, _), (n11, _), (n12, _)] (fun i => m.sets.length - i) 0 (Nat.zero_le _) rfl (.c rfl .n) (.c rfl (.c rfl (.c rfl (.c rfl (.c rfl (.c rfl (.c rfl (.c rfl (.c rfl (.c rfl (.c rfl (.c rfl (.c rfl (.c rfl (.c rfl (.c rfl (.c rfl (.c rfl (.c rfl (.c rfl (.c rfl (.c rfl (.c rfl (.c rfl (.c rfl (.c rfl (.c rfl (.c rfl (.c rfl (.c rfl (.c rfl (.c rfl (.c rfl (.c rfl (.c rfl (.c rfl (.c rfl (.c rfl (.c rfl (.c rfl (.c rfl (.c rfl (.c rfl (.c rfl (.c rfl (.c rfl (.c rfl (.c rfl (.c rfl (.c rfl (.c rfl (.c rfl (.c rfl (.c rfl (.c rfl (.c rfl (.c rfl (.c rfl (.c rfl (.c rfl (.c rfl (.c rfl (.c rfl (.c rfl (.c rfl (.c rfl (.c rfl (.c rfl (.c rfl (.c rfl (.c rfl (.c rfl (.c rfl (.c rfl (.c rfl (.c rfl (.c rfl (.c rfl (.c rfl (.c rfl (.c rfl (.c rfl (.c rfl (.c rfl (.c rfl (.c rfl (.c rfl (.c rfl (.c rfl (.c rfl (.c rfl (.c rfl (.c rfl (.c rfl (.c rfl (.c rfl (.c rfl (.c rfl (.c rfl (.c rfl (.c rfl (.c rfl (.c rfl (.c rfl (.c rfl (.c rfl (.c rfl (.c rfl (.c rfl (.c rfl (.c rfl (.c rfl (.c rfl (.c rfl (.c rfl (.c rfl (.c rfl (.c rfl (.c rfl (.c rfl (.c rfl (.c rfl (.c rfl (.c rfl (.c rfl (.c rfl (.c rfl (.c rfl (.c rfl (.c rfl (.c rfl (.c rfl (.c rfl (.c rfl (.c rfl (.c rfl (.c rfl (.c rfl (.c rfl (.c rfl (.c rfl (.c rfl (.c rfl (.c rfl (.c rfl (.c rfl (.c rfl (.c rfl (.c rfl (.c rfl (.c rfl (.c rfl (.c rfl (.c rfl (.c rfl (.c rfl (.c rfl (.c rfl (.c rfl (.c rfl (.c rfl (.c rfl (.c rfl (.c rfl (.c rfl (.c rfl (.c rfl (.c rfl (.c rfl (.c rfl (.c rfl (.c rfl (.c rfl (.c rfl (.c rfl (.c rfl (.c rfl (.c rfl (.c rfl (.c rfl (.c rfl (.c rfl (.c rfl (.c rfl (.c rfl (.c rfl (.c rfl (.c rfl (.c rfl (.c rfl (.c rfl (.c rfl (.c rfl (.c rfl (.c rfl .n))))))))))))))))))))))))))))))))))))))))))))))))))))))))))))))))))))))))))))))))))))))))))))))))))))))))))))))))))))))))))))))))))))))))))))))))))))))))))))))))))))))))))))))))))))))))))))))))))) (.c 0 rfl (.c 0 rfl (.c 0 rfl (.c 0 rfl (.c 0 rfl (.c 0 rfl (.c 0 rfl (.c 0 rfl .r)))))))) ?_
            rintro i hi
            refine kSeq ?_
            refine kRegion rfl ?_
            refine lV (yLss rfl rfl) rfl rfl ?_
            refine lNil ?_
            refine kThen ?_
            refine kSeq ?_
            refine split (t := 259) rfl (fun h259 => ?_) (fun h259 => ?_)
            · refine kIfT rfl ?_
              refine kSkip ?_
              refine kThen ?_
              refine kSeq ?_
              refine kBlock ?_
              refine kSeq ?_
              refine kRegion rfl ?_
              refine lV (yMove rfl) rfl rfl ?_
              refine lV (yAssign rfl) rfl rfl ?_
              refine lNil ?_
              refine kThen ?_
              refine kSeq ?_
              refine kDrawE [(2, none), (3, none), (5, none), (7, none), (8, none)] [] [0, 1, 2, 3, 4, 5, 6, 7, 8, 9] 0 hMix (by kernel_rfl) ?_
              refine .run rfl (yMove rfl) rfl rfl ?_
              refine .run rfl (yMove rfl) rfl rfl ?_
              refine .run rfl (yIndexS  rfl rfl S27 (fun w hw => OS.rowsE (f := rowS) (0, 0, false) hgs ((hw.sub (.d 0 (.d 0 (.d 0 (.d 0 (.d 0 (.d 0 (.d 0 (.d 0 .r))))))))).sub hB2) .r) (by omega)) rfl rfl ?_
              refine .run rfl (yLoadA (vs := [_, _, _]) rfl A49 (cSl0 (fun w hw => OS.rowsE (f := rowS) (0, 0, false) hgs ((hw.sub (.d 0 (.d 0 (.d 0 (.d 0 (.d 0 (.d 0 (.d 0 (.d 0 .r))))))))).sub hB2) .r) (by omega) rfl)) rfl rfl ?_
              refine .run rfl (yFieldAddr rfl F29_3) rfl rfl ?_
              refine .run rfl (yLoad1 rfl O27 (cOwn 3 rfl rfl)) rfl rfl ?_
              refine .run rfl (yMove rfl) rfl rfl ?_
              refine .run rfl (yIndexS  rfl rfl S27 (hm.s.r) ((by omega))) rfl rfl ?_
              refine .run rfl (yLoadA (vs := [_, _, _]) rfl A49 (cSl0 (hm.s.r) ((by omega)) rfl)) rfl rfl ?_
              refine .run rfl (yvIs (c := false) (yNeAgg rfl rfl G49 (fun w => Q49 w)) (by simp)) rfl rfl ?_
              refine .done ?_
              refine effDone closedSt (hLeft [2, 3, 5, 7, 8] (by kernel_rfl) (.c (fun _ _ hs => hs.ef) (.c (fun _ _ hs => hs.ef) (.c (fun _ _ hs => hs.ef) (.c (fun _ _ hs => hs.ef) (.c (fun _ _ hs => hs.ef) .n)))))) (by kernel_rfl) ?_
              refine kThen ?_
              refine kIfF rfl ?_
              refine kSkip ?_
              refine kInN ?_
              refine kThen ?_
              refine kRegion rfl ?_
              refine lV (yAdd rfl rfl (by omega)) rfl rfl ?_
              refine lV (yMove rfl) rfl rfl ?_
              refine lNil ?_
              exact kRoundX (i + 1) (by omega) (by omega) rfl (.c rfl .n) (.c rfl (.c rfl (.c rfl (.c rfl (.c rfl (.c rfl (.c rfl (.c rfl (.c rfl (.c rfl (.c rfl (.c rfl (.c rfl (.c rfl (.c rfl (.c rfl (.c rfl (.c rfl (.c rfl (.c rfl (.c rfl (.c rfl (.c rfl (.c rfl (.c rfl (.c rfl (.c rfl (.c rfl (.c rfl (.c rfl (.c rfl (.c rfl (.c rfl (.c rfl (.c rfl (.c rfl (.c rfl (.c rfl (.c rfl (.c rfl (.c rfl (.c rfl (.c rfl (.c rfl (.c rfl (.c rfl (.c rfl (.c rfl (.c rfl (.c rfl (.c rfl (.c rfl (.c rfl (.c rfl (.c rfl (.c rfl (.c rfl (.c rfl (.c rfl (.c rfl (.c rfl (.c rfl (.c rfl (.c rfl (.c rfl (.c rfl (.c rfl (.c rfl (.c rfl (.c rfl (.c rfl (.c rfl (.c rfl (.c rfl (.c rfl (.c rfl (.c rfl (.c rfl (.c rfl (.c rfl (.c rfl (.c rfl (.c rfl (.c rfl (.c rfl (.c rfl (.c rfl (.c rfl (.c rfl (.c rfl (.c rfl (.c rfl (.c rfl (.c rfl (.c rfl (.c rfl (.c rfl (.c rfl (.c rfl (.c rfl (.c rfl (.c rfl (.c rfl (.c rfl (.c rfl (.c rfl (.c rfl (.c rfl (.c rfl (.c rfl (.c rfl (.c rfl (.c rfl (.c rfl (.c rfl (.c rfl (.c rfl (.c rfl (.c rfl (.c rfl (.c rfl (.c rfl (.c rfl (.c rfl (.c rfl (.c rfl (.c rfl (.c rfl (.c rfl (.c rfl (.c rfl (.c rfl (.c rfl (.c rfl (.c rfl (.c rfl (.c rfl (.c rfl (.c rfl (.c rfl (.c rfl (.c rfl (.c rfl (.c rfl (.c rfl (.c rfl (.c rfl (.c rfl (.c rfl (.c rfl (.c rfl (.c rfl (.c rfl (.c rfl (.c rfl (.c rfl (.c rfl (.c rfl (.c rfl (.c rfl (.c rfl (.c rfl (.c rfl (.c rfl (.c rfl (.c rfl (.c rfl (.c rfl (.c rfl (.c rfl (.c rfl (.c rfl (.c rfl (.c rfl (.c rfl (.c rfl (.c rfl (.c rfl (.c rfl (.c rfl (.c rfl (.c rfl (.c rfl (.c rfl (.c rfl (.c rfl (.c rfl (.c rfl (.c rfl (.c rfl (.c rfl (.c rfl (.c rfl (.c rfl (.c rfl .n))))))))))))))))))))))))))))))))))))))))))))))))))))))))))))))))))))))))))))))))))))))))))))))))))))))))))))))))))))))))))))))))))))))))))))))))))))))))))))))))))))))))))))))))))))))))))))))))))) (.c 0 rfl (.c 0 rfl (.c 0 rfl (.c 0 rfl (.c 0 rfl (.c 0 rfl (.c 0 rfl (.c 0 rfl .r))))))))
            · refine kIfF rfl ?_
              refine kExit ?_
              refine kThenX ?_
              refine kThenX ?_
              refine kInX ?_
              refine kThen ?_
              refine kSeq ?_
              refine kSeq ?_
              refine kRegion rfl ?_
              refine lV (yMove rfl) rfl rfl ?_
              refine lV (yLen rfl S22) rfl rfl ?_
              refine lV (yMove rfl) rfl rfl ?_
              refine lNil ?_
              refine kThen ?_
              refine kBlock ?_
              refine kLoopX (ι := Nat) (fun i => i ≤ m.errs.length) (fun i => [(274, i64 (i : Nat))]) [(0, _), (1, _), (2, _), (3, _), (4, _), (7, _), (57, _), (58, _), (59, _), (60, _), (61, _), (62, _), (63, _), (65, _), (9, _), (66, _), (67, _), (68, _), (10, _), (11, _), (12, _), (71, _), (72, _), (73, _), (74, _), (75, _), (76, _), (77, _), (16, _), (17, _), (120, _), (18, _), (122, _), (123, _), (121, _), (124, _), (125, _), (19, _), (20, _), (127, _), (128, _), (126, _), (129, _), (130, _), (21, _), (22, _), (132, _), (133, _), (131, _), (134, _), (135, _), (23, _), (24, _), (137, _), (138, _), (136, _), (139, _), (140, _), (25, _), (26, _), (142, _), (143, _), (141, _), (144, _), (145, _), (27, _), (28, _), (147, _), (148, _), (146, _), (149, _), (150, _), (29, _), (30, _), (152, _), (153, _), (151, _), (154, _), (155, _), (31, _), (32, _), (157, _), (158, _), (156, _), (159, _), (160, _), (33, _), (34, _), (162, _), (163, _), (161, _), (164, _), (165, _), (35, _), (36, _), (167, _), (168, _), (166, _), (169, _), (170, _), (37, _), (38, _), (172, _), (173, _), (171, _), (174, _), (175, _), (39, _), (40, _), (177, _), (178, _), (176, _), (179, _), (180, _), (41, _), (42, _), (182, _), (183, _), (181, _), (184, _), (185, _), (43, _), (44, _), (186, _), (187, _), (188, _), (189, _), (190, _), (191, _), (192, _), (193, _), (194, _), (195, _), (196, _), (197, _), (198, _), (199, _), (200, _), (201, _), (202, _), (203, _), (204, _), (205, _), (206, _), (207, _), (208, _), (209, _), (210, _), (211, _), (212, _), (213, _), (214, _), (215, _), (216, _), (217, _), (218, _), (219, _), (220, _), (221, _), (222, _), (223, _), (224, _), (225, _), (226, _), (227, _), (228, _), (229, _), (230, _), (231, _), (232, _), (233, _), (234, _), (235, _), (236, _), (237, _), (238, _), (239, _), (240, _), (241, _), (242, _), (243, _), (244, _), (245, _), (246, _), (247, _), (248, _), (249, _), (250, _), (251, _), (252, _), (253, _), (254, _), (255, _), (256, _), (257, _), (258, _), (259, _), (272, _), (273, _)] (fun i => []) (fun i => B2) [(n23, _), (n21, _), (n19, _), (n4, _), (n7, _), (n10, _), (n11, _), (n12, _)] (fun i => m.errs.length - i) 0 (Nat.zero_le _) rfl (.c rfl .n) (.c rfl (.c rfl (.c rfl (.c rfl (.c rfl (.c rfl (.c rfl (.c rfl (.c rfl (.c rfl (.c rfl (.c rfl (.c rfl (.c rfl (.c rfl (.c rfl (.c rfl (.c rfl (.c rfl (.c rfl (.c rfl (.c rfl (.c rfl (.c rfl (.c rfl (.c rfl (.c rfl (.c rfl (.c rfl (.c rfl (.c rfl (.c rfl (.c rfl (.c rfl (.c rfl (.c rfl (.c rfl (.c rfl (.c rfl (.c rfl (.c rfl (.c rfl (.c rfl (.c rfl (.c rfl (.c rfl (.c rfl (.c rfl (.c rfl (.c rfl (.c rfl (.c rfl (.c rfl (.c rfl (.c rfl (.c rfl (.c rfl (.c rfl (.c rfl (.c rfl (.c rfl (.c rfl (.c rfl (.c rfl (.c rfl (.c rfl (.c rfl (.c rfl (.c rfl (.c rfl (.c rfl (.c rfl (.c rfl (.c rfl (.c rfl (.c rfl (.c rfl (.c rfl (.c rfl (.c rfl (.c rfl (.c rfl (.c rfl (.c rfl (.c rfl (.c rfl (.c rfl (.c rfl (.c rfl (.c rfl (.c rfl (.c rfl (.c rfl (.c rfl (.c rfl (.c rfl (.c rfl (.c rfl (.c rfl (.c rfl (.c rfl (.c rfl (.c rfl (.c rfl (.c rfl (.c rfl (.c rfl (.c rfl (.c rfl (.c rfl (.c rfl (.c rfl (.c rfl (.c rfl (.c rfl (.c rfl (.c rfl (.c rfl (.c rfl (.c rfl (.c rfl (.c rfl (.c rfl (.c rfl (.c rfl (.c rfl (.c rfl (.c rfl (.c rfl (.c rfl (.c rfl (.c rfl (.c rfl (.c rfl (.c rfl (.c rfl (.c rfl (.c rfl (.c rfl (.c rfl (.c rfl (.c rfl (.c rfl (.c rfl (.c rfl (.c rfl (.c rfl (.c rfl (.c rfl (.c rfl (.c rfl (.c rfl (.c rfl (.c rfl (.c rfl (.c rfl (.c rfl (.c rfl (.c rfl (.c rfl (.c rfl (.c rfl (.c rfl (.c rfl (.c rfl (.c rfl (.c rfl (.c rfl (.c rfl (.c rfl (.c rfl (.c rfl (.c rfl (.c rfl (.c rfl (.c rfl (.c rfl (.c rfl (.c rfl (.c rfl (.c rfl (.c rfl (.c rfl (.c rfl (.c rfl (.c rfl (.c rfl (.c rfl (.c rfl (.c rfl (.c rfl (.c rfl (.c rfl (.c rfl (.c rfl (.c rfl (.c rfl (.c rfl (.c rfl .n))))))))))))))))))))))))))))))))))))))))))))))))))))))))))))))))))))))))))))))))))))))))))))))))))))))))))))))))))))))))))))))))))))))))))))))))))))))))))))))))))))))))))))))))))))))))))))))))))))))) (.c 0 rfl (.c 0 rfl (.c 0 rfl (.c 0 rfl (.c 0 rfl (.c 0 rfl (.c 0 rfl (.c 0 rfl .r)))))))) ?_
              rintro i hi
              refine kSeq ?_
              refine kRegion rfl ?_
              refine lV (yLss rfl rfl) rfl rfl ?_
              refine lNil ?_
              refine kThen ?_
              refine kSeq ?_
              refine split (t := 275) rfl (fun h275 => ?_) (fun h275 => ?_)
              · refine kIfT rfl ?_
                refine kSkip ?_
                refine kThen ?_
                refine kSeq ?_
                refine kBlock ?_
                refine kSeq ?_
                refine kRegion rfl ?_
                refine lV (yMove rfl) rfl rfl ?_
                refine lV (yAssign rfl) rfl rfl ?_
                refine lNil ?_
                refine kThen ?_
                refine kSeq ?_
                refine kDrawE [(2, none), (3, none), (6, none), (8, none), (9, none)] [] [0, 1, 2, 3, 4, 5, 6, 7, 8, 9, 10] 0 hMix (by kernel_rfl) ?_
                refine .run rfl (yMove rfl) rfl rfl ?_
                refine .run rfl (yMove rfl) rfl rfl ?_
                refine .run rfl (yIndexS  rfl rfl S22 (fun w hw => OS.rowsE (f := rowE) (0, 0) hge ((hw.sub (.d 0 (.d 0 (.d 0 (.d 0 (.d 0 (.d 0 (.d 0 (.d 0 .r))))))))).sub hB3) .r) (by omega)) rfl rfl ?_
                refine .run rfl (yLoadA (vs := [_, _]) rfl A24 (cSl0 (fun w hw => OS.rowsE (f := rowE) (0, 0) hge ((hw.sub (.d 0 (.d 0 (.d 0 (.d 0 (.d 0 (.d 0 (.d 0 (.d 0 .r))))))))).sub hB3) .r) (by omega) rfl)) rfl rfl ?_
                refine .run rfl (yFieldAddr rfl F29_0) rfl rfl ?_
                refine .run rfl (yFieldAddr rfl F26_0) rfl rfl ?_
                refine .run rfl (yLoad1 rfl O22 (cOwn 3 rfl rfl)) rfl rfl ?_
                refine .run rfl (yMove rfl) rfl rfl ?_
                refine .run rfl (yIndexS  rfl rfl S22 (hm.e.r) ((by omega))) rfl rfl ?_
                refine .run rfl (yLoadA (vs := [_, _]) rfl A24 (cSl0 (hm.e.r) ((by omega)) rfl)) rfl rfl ?_
                refine .run rfl (yvIs (c := false) (yNeAgg rfl rfl G24 (fun w => Q24 w)) (by simp)) rfl rfl ?_
                refine .done ?_
                refine effDone closedSt (hLeft [2, 3, 6, 8, 9] (by kernel_rfl) (.c (fun _ _ hs => hs.ef) (.c (fun _ _ hs => hs.ef) (.c (fun _ _ hs => hs.ef) (.c (fun _ _ hs => hs.ef) (.c (fun _ _ hs => hs.ef) .n)))))) (by kernel_rfl) ?_
                refine kThen ?_
                refine kIfF rfl ?_
                refine kSkip ?_
                refine kInN ?_
                refine kThen ?_
                refine kRegion rfl ?_
                refine lV (yAdd rfl rfl (by omega)) rfl rfl ?_
                refine lV (yMove rfl) rfl rfl ?_
                refine lNil ?_
                exact kRoundX (i + 1) (by omega) (by omega) rfl (.c rfl .n) (.c rfl (.c rfl (.c rfl (.c rfl (.c rfl (.c rfl (.c rfl (.c rfl (.c rfl (.c rfl (.c rfl (.c rfl (.c rfl (.c rfl (.c rfl (.c rfl (.c rfl (.c rfl (.c rfl (.c rfl (.c rfl (.c rfl (.c rfl (.c rfl (.c rfl (.c rfl (.c rfl (.c rfl (.c rfl (.c rfl (.c rfl (.c rfl (.c rfl (.c rfl (.c rfl (.c rfl (.c rfl (.c rfl (.c rfl (.c rfl (.c rfl (.c rfl (.c rfl (.c rfl (.c rfl (.c rfl (.c rfl (.c rfl (.c rfl (.c rfl (.c rfl (.c rfl (.c rfl (.c rfl (.c rfl (.c rfl (.c rfl (.c rfl (.c rfl (.c rfl (.c rfl (.c rfl (.c rfl (.c rfl (.c rfl (.c rfl (.c rfl (.c rfl (.c rfl (.c rfl (.c rfl (.c rfl (.c rfl (.c rfl (.c rfl (.c rfl (.c rfl (.c rfl (.c rfl (.c rfl (.c rfl (.c rfl (.c rfl (.c rfl (.c rfl (.c rfl (.c rfl (.c rfl (.c rfl (.c rfl (.c rfl (.c rfl (.c rfl (.c rfl (.c rfl (.c rfl (.c rfl (.c rfl (.c rfl (.c rfl (.c rfl (.c rfl (.c rfl (.c rfl (.c rfl (.c rfl (.c rfl (.c rfl (.c rfl (.c rfl (.c rfl (.c rfl (.c rfl (.c rfl (.c rfl (.c rfl (.c rfl (.c rfl (.c rfl (.c rfl (.c rfl (.c rfl (.c rfl (.c rfl (.c rfl (.c rfl (.c rfl (.c rfl (.c rfl (.c rfl (.c rfl (.c rfl (.c rfl (.c rfl (.c rfl (.c rfl (.c rfl (.c rfl (.c rfl (.c rfl (.c rfl (.c rfl (.c rfl (.c rfl (.c rfl (.c rfl (.c rfl (.c rfl (.c rfl (.c rfl (.c rfl (.c rfl (.c rfl (.c rfl (.c rfl (.c rfl (.c rfl (.c rfl (.c rfl (.c rfl (.c rfl (.c rfl (.c rfl (.c rfl (.c rfl (.c rfl (.c rfl (.c rfl (.c rfl (.c rfl (.c rfl (.c rfl (.c rfl (.c rfl (.c rfl (.c rfl (.c rfl (.c rfl (.c rfl (.c rfl (.c rfl (.c rfl (.c rfl (.c rfl (.c rfl (.c rfl (.c rfl (.c rfl (.c rfl (.c rfl (.c rfl (.c rfl (.c rfl (.c rfl (.c rfl (.c rfl (.c rfl (.c rfl (.c rfl .n))))))))))))))))))))))))))))))))))))))))))))))))))))))))))))))))))))))))))))))))))))))))))))))))))))))))))))))))))))))))))))))))))))))))))))))))))))))))))))))))))))))))))))))))))))))))))))))))))))))) (.c 0 rfl (.c 0 rfl (.c 0 rfl (.c 0 rfl (.c 0 rfl (.c 0 rfl (.c 0 rfl (.c 0 rfl .r))))))))
              · refine kIfF rfl ?_
                refine kExit ?_
                refine kThenX ?_
                refine kThenX ?_
                refine kInX ?_
                refine kThen ?_
                refine kSeq ?_
                refine kSeq ?_
                refine kRegion rfl ?_
                refine lV (yMove rfl) rfl rfl ?_
                refine lV (yLss rfl rfl) rfl rfl ?_
                refine lV (yMove rfl) rfl rfl ?_
                refine split (t := 291) rfl (fun h291 => ?_) (fun h291 => ?_)
                · refine lGN rfl rfl rfl rfl rfl ?_
                  refine lGN rfl rfl rfl rfl rfl ?_
                  refine lV (yPickT rfl rfl) rfl rfl ?_
                  refine lV (yMove rfl) rfl rfl ?_
                  refine lGN rfl rfl rfl rfl rfl ?_
                  refine lGN rfl rfl rfl rfl rfl ?_
                  refine lGN rfl rfl rfl rfl rfl ?_
                  refine lGN rfl rfl rfl rfl rfl ?_
                  refine lV (yPickT rfl rfl) rfl rfl ?_
                  refine lV (yMove rfl) rfl rfl ?_
                  refine lGN rfl rfl rfl rfl rfl ?_
                  refine lGN rfl rfl rfl rfl rfl ?_
                  refine lGN rfl rfl rfl rfl rfl ?_
                  refine lGN rfl rfl rfl rfl rfl ?_
                  refine lV (yPickT rfl rfl) rfl rfl ?_
                  refine lNil ?_
                  refine kThen ?_
                  refine kIfT rfl ?_
                  refine kSeq ?_
                  refine kRegion rfl ?_
                  refine lV (yCall rfl .n C15 (fun w hw => alive_any w)) rfl rfl ?_
                  refine lV (yAssign rfl) rfl rfl ?_
                  refine lNil ?_
                  refine kThen ?_
                  refine kRet ?_
                  refine kThenR ?_
                  refine fRet rfl (.t rfl .n) (endRet ?_)
                  first | rfl | (simp [packV, *]; done)
                · refine lGY rfl rfl rfl (oV (yMove rfl) rfl ?_)
                  refine lGY rfl rfl rfl (oV (yLss rfl rfl) rfl ?_)
                  refine lV (yPickF rfl rfl) rfl rfl ?_
                  refine lV (yMove rfl) rfl rfl ?_
                  refine split (t := 295) rfl (fun h295 => ?_) (fun h295 => ?_)
                  · refine lGN rfl rfl rfl rfl rfl ?_
                    refine lGN rfl rfl rfl rfl rfl ?_
                    refine lGN rfl rfl rfl rfl rfl ?_
                    refine lGN rfl rfl rfl rfl rfl ?_
                    refine lV (yPickT rfl rfl) rfl rfl ?_
                    refine lV (yMove rfl) rfl rfl ?_
                    refine lGN rfl rfl rfl rfl rfl ?_
                    refine lGN rfl rfl rfl rfl rfl ?_
                    refine lGN rfl rfl rfl rfl rfl ?_
                    refine lGN rfl rfl rfl rfl rfl ?_
                    refine lV (yPickT rfl rfl) rfl rfl ?_
                    refine lNil ?_
                    refine kThen ?_
                    refine kIfT rfl ?_
                    refine kSeq ?_
                    refine kRegion rfl ?_
                    refine lV (yCall rfl .n C15 (fun w hw => alive_any w)) rfl rfl ?_
                    refine lV (yAssign rfl) rfl rfl ?_
                    refine lNil ?_
                    refine kThen ?_
                    refine kRet ?_
                    refine kThenR ?_
                    refine fRet rfl (.t rfl .n) (endRet ?_)
                    first | rfl | (simp [packV, *]; done)
                  · refine lGY rfl rfl rfl (oV (yMove rfl) rfl ?_)
                    refine lGY rfl rfl rfl (oV (yFieldAddr rfl F29_1) rfl ?_)
                    refine lGY rfl rfl rfl (oV (yLoad1 rfl O3 (cOwn 3 rfl rfl)) rfl ?_)
                    refine lGY rfl rfl rfl (oV (yGeq rfl rfl) rfl ?_)
                    refine lV (yPickF rfl rfl) rfl rfl ?_
                    refine lV (yMove rfl) rfl rfl ?_
                    refine split (t := 301) rfl (fun h301 => ?_) (fun h301 => ?_)
                    · refine lGN rfl rfl rfl rfl rfl ?_
                      refine lGN rfl rfl rfl rfl rfl ?_
                      refine lGN rfl rfl rfl rfl rfl ?_
                      refine lGN rfl rfl rfl rfl rfl ?_
                      refine lV (yPickT rfl rfl) rfl rfl ?_
                      refine lNil ?_
                      refine kThen ?_
                      refine kIfT rfl ?_
                      refine kSeq ?_
                      refine kRegion rfl ?_
                      refine lV (yCall rfl .n C15 (fun w hw => alive_any w)) rfl rfl ?_
                      refine lV (yAssign rfl) rfl rfl ?_
                      refine lNil ?_
                      refine kThen ?_
                      refine kRet ?_
                      refine kThenR ?_
                      refine fRet rfl (.t rfl .n) (endRet ?_)
                      first | rfl | (simp [packV, *]; done)
                    · refine lGY rfl rfl rfl (oV (yMove rfl) rfl ?_)
                      refine lGY rfl rfl rfl (oV (yFieldAddr rfl F29_1) rfl ?_)
                      refine lGY rfl rfl rfl (oV (yLoad1 rfl O3 (cOwn 3 rfl rfl)) rfl ?_)
                      refine lGY rfl rfl rfl (oV (yGeq rfl rfl) rfl ?_)
                      refine lV (yPickF rfl rfl) rfl rfl ?_
                      refine lNil ?_
                      refine kThen ?_
                      refine split (t := 306) rfl (fun h306 => ?_) (fun h306 => ?_)
                      · refine kIfT rfl ?_
                        refine kSeq ?_
                        refine kRegion rfl ?_
                        refine lV (yCall rfl .n C15 (fun w hw => alive_any w)) rfl rfl ?_
                        refine lV (yAssign rfl) rfl rfl ?_
                        refine lNil ?_
                        refine kThen ?_
                        refine kRet ?_
                        refine kThenR ?_
                        refine fRet rfl (.t rfl .n) (endRet ?_)
                        first | rfl | (simp [packV, *]; done)
                      · refine kIfF rfl ?_
                        refine kSkip ?_
                        refine kThen ?_
                        refine kSeq ?_
                        have hra : 0 ≤ a ∧ a ≤ m.images - 1 := by omega
                        have hrb : 0 ≤ b ∧ b ≤ m.images - 1 := by omega
                        have hfa := flip_apart hM hra hrb
                        have hbd := apart_bd hX a b
                        refine kRegion rfl ?_
                        refine lV (yLoadA (vs := [_, _, _, _, _, _, _]) rfl A29 (cOwn 3 rfl rfl)) rfl rfl ?_
                        refine lV (yMove rfl) rfl rfl ?_
                        refine lV (yMove rfl) rfl rfl ?_
                        refine lV (yCall rfl (.c rfl (.c rfl (.c rfl .n))) C22 (fun w hw => apart_any y m a b w (hm.eff hw))) rfl rfl ?_
                        refine lV (yMove rfl) rfl rfl ?_
                        refine lV (yExtract rfl rfl) rfl rfl ?_
                        refine lV (yExtract rfl rfl) rfl rfl ?_
                        refine lE rfl ?_
                        refine eAlloc Z24 fun n47 => ?_
                        refine lE rfl ?_
                        refine eStoreL 0 rfl rfl rfl rfl K24 rfl (rfl) ?_
                        refine lV (yAssign rfl) rfl rfl ?_
                        refine lNil ?_
                        refine kThen ?_
                        refine kSeq ?_
                        refine kRegion rfl ?_
                        refine lV (yLoadA (vs := [_, _, _, _, _, _, _]) rfl A29 (cOwn 7 rfl rfl)) rfl rfl ?_
                        refine lV (yMove rfl) rfl rfl ?_
                        refine lV (yMove rfl) rfl rfl ?_
                        refine lV (yCall rfl (.c rfl (.c rfl (.c rfl .n))) C22 (fun w hw => apart_any (locG y gx) (flipM m) a b w ⟨(hm.eff hw).e, OS.rowsE (f := rowS) (0, 0, false) hgx (((hw.sub (.d 0 (.d 0 (.d 0 (.d 0 (.d 0 (.d 0 (.d 0 (.d 0 (.d 0 .r)))))))))).sub hB1).sub hxB) .r⟩)) rfl rfl ?_
                        refine lV (yMove rfl) rfl rfl ?_
                        refine lV (yExtract rfl rfl) rfl rfl ?_
                        refine lV (yExtract rfl rfl) rfl rfl ?_
                        refine lE rfl ?_
                        refine eAlloc Z24 fun n49 => ?_
                        refine lE rfl ?_
                        refine eStoreL 0 rfl rfl rfl rfl K24 rfl (rfl) ?_
                        refine lV (yAssign rfl) rfl rfl ?_
                        refine lNil ?_
                        refine kThen ?_
                        refine kSeq ?_
                        refine kDrawE [(0, none), (3, none), (6, none), (7, none)] [] [0, 1, 2, 3, 4, 5, 6, 7, 8, 9, 10, 13] 2 hMix (by kernel_rfl) ?_
                        refine .run rfl (yLoadA (vs := [_, _, _, _, _, _, _]) rfl A29 (cOwn 9 rfl rfl)) rfl rfl ?_
                        refine .run rfl (yMove rfl) rfl rfl ?_
                        refine .run rfl (yMove rfl) rfl rfl ?_
                        refine .run rfl (yCall rfl (.c rfl .n) C44 (fun w hw => num_any n7 n4 t y m a w (hw.blkAt 6 rfl) (hw.blkAt 5 rfl) (by omega) (by omega) h8)) rfl rfl ?_
                        refine .run rfl (yMove rfl) rfl rfl ?_
                        refine .run rfl (yMove rfl) rfl rfl ?_
                        refine .run rfl (yCall rfl (.c rfl .n) C44 (fun w hw => num_any n7 n4 t y m b w (hw.blkAt 6 rfl) (hw.blkAt 5 rfl) (by omega) (by omega) h8)) rfl rfl ?_
                        refine .run rfl (yvSame (u := outC (apartE m a b)) (yCall rfl (.c rfl (.c rfl (.c rfl .n))) C22 (fun w hw => apart_any (locG y gy) (turnM m t) (sigI m t a) (sigI m t b) w ⟨(hm.eff hw).e, OS.rowsE (f := rowS) (0, 0, false) hgy (((hw.sub (.d 0 (.d 0 (.d 0 (.d 0 (.d 0 (.d 0 (.d 0 (.d 0 (.d 0 (.d 0 .r))))))))))).sub hB1).sub hyB) .r⟩)) (by rw [turn_apart hM t hra hrb])) rfl rfl ?_
                        refine .run rfl (yMove rfl) rfl rfl ?_
                        refine .run rfl (yExtract rfl rfl) rfl rfl ?_
                        refine .run rfl (yExtract rfl rfl) rfl rfl ?_
                        refine .run rfl (yAssign rfl) rfl rfl ?_
                        refine .done ?_
                        refine effStep 11 [] (by kernel_rfl) closedSt (hLeft [0, 3, 6, 7] (by kernel_rfl) (.c (fun _ _ hs => hs.ef) (.c (fun _ _ hs => hs.ef) (.c (fun _ _ hs => hs.ef) (.c (fun _ _ hs => hs.ef) .n))))) ?_
                        refine .c ?_ .n
                        refine effOne rfl (gNone rfl (fAlloc Z24)) ?_
                        refine effStep 12 [] (by kernel_rfl) (closedEx fun n51 => closedSt) (hLeft [0, 3, 6, 7] (by kernel_rfl) (.c (fun _ _ ⟨n51, hs⟩ => hs.ef.sub (.c 1 rfl (.c 1 rfl (.c 1 rfl (.c 1 rfl (.c 1 rfl (.c 1 rfl (.c 1 rfl (.c 1 rfl (.c 1 rfl (.c 1 rfl (.d 0 .r)))))))))))) (.c (fun _ _ ⟨n51, hs⟩ => hs.ef.sub (.c 1 rfl (.c 1 rfl (.c 1 rfl (.c 1 rfl (.c 1 rfl (.c 1 rfl (.c 1 rfl (.c 1 rfl (.c 1 rfl (.c 1 rfl (.d 0 .r)))))))))))) (.c (fun _ _ ⟨n51, hs⟩ => hs.ef.sub (.c 1 rfl (.c 1 rfl (.c 1 rfl (.c 1 rfl (.c 1 rfl (.c 1 rfl (.c 1 rfl (.c 1 rfl (.c 1 rfl (.c 1 rfl (.d 0 .r)))))))))))) (.c (fun _ _ ⟨n51, hs⟩ => hs.ef.sub (.c 1 rfl (.c 1 rfl (.c 1 rfl (.c 1 rfl (.c 1 rfl (.c 1 rfl (.c 1 rfl (.c 1 rfl (.c 1 rfl (.c 1 rfl (.d 0 .r)))))))))))) .n))))) ?_
                        refine .c ?_ .n
                        refine effOne rfl (opEx fun n51 => (gNone rfl (fStoreL 0 rfl rfl rfl rfl K24 rfl (rfl)))) ?_
                        refine effDone (closedEx fun n51 => closedSt) (hLeft [] (by kernel_rfl) .n) (by kernel_rfl) ?_
                        refine trEx fun n51 => ?_
                        refine kThen ?_
                        refine kSeq ?_
                        refine kRegion rfl ?_
                        refine lV (yLoadA (vs := [_, _, _, _, _, _, _]) rfl A29 (cOwn 6 rfl rfl)) rfl rfl ?_
                        refine lV (yMove rfl) rfl rfl ?_
                        refine lV (yCall rfl (.c rfl (.c rfl .n)) C20 (fun w hw => place_any y m a w (hm.eff hw))) rfl rfl ?_
                        refine lV (yMove rfl) rfl rfl ?_
                        refine lV (yExtract rfl rfl) rfl rfl ?_
                        refine lV (yExtract rfl rfl) rfl rfl ?_
                        refine lE rfl ?_
                        refine eAlloc Z24 fun n53 => ?_
                        refine lE rfl ?_
                        refine eStoreL 0 rfl rfl rfl rfl K24 rfl (rfl) ?_
                        refine lV (yAssign rfl) rfl rfl ?_
                        refine lNil ?_
                        refine kThen ?_
                        refine kSeq ?_
                        refine kDrawE [(0, none), (3, none), (4, none)] [] [0, 1, 2, 3, 4, 5, 6, 7, 10] 2 hMix (by kernel_rfl) ?_
                        refine .run rfl (yLoadA (vs := [_, _, _, _, _, _, _]) rfl A29 (cOwn 11 rfl rfl)) rfl rfl ?_
                        refine .run rfl (yMove rfl) rfl rfl ?_
                        refine .run rfl (yMove rfl) rfl rfl ?_
                        refine .run rfl (yCall rfl (.c rfl .n) C44 (fun w hw => num_any n7 n4 t y m a w (hw.blkAt 8 rfl) (hw.blkAt 7 rfl) (by omega) (by omega) h8)) rfl rfl ?_
                        refine .run rfl (yvSame (u := outC (placeE m a)) (yCall rfl (.c rfl (.c rfl .n)) C20 (fun w hw => place_any (locG y gy) (turnM m t) (sigI m t a) w ⟨(hm.eff hw).e, OS.rowsE (f := rowS) (0, 0, false) hgy (((hw.sub (.d 0 (.d 0 (.d 0 (.d 0 (.d 0 (.d 0 (.d 0 (.d 0 (.d 0 (.d 0 (.d 0 (.d 0 .r))))))))))))).sub hB1).sub hyB) .r⟩)) (by rw [turn_place hM t hra])) rfl rfl ?_
                        refine .run rfl (yMove rfl) rfl rfl ?_
                        refine .run rfl (yExtract rfl rfl) rfl rfl ?_
                        refine .run rfl (yExtract rfl rfl) rfl rfl ?_
                        refine .run rfl (yAssign rfl) rfl rfl ?_
                        refine .done ?_
                        refine effStep 8 [] (by kernel_rfl) closedSt (hLeft [0, 3, 4] (by kernel_rfl) (.c (fun _ _ hs => hs.ef) (.c (fun _ _ hs => hs.ef) (.c (fun _ _ hs => hs.ef) .n)))) ?_
                        refine .c ?_ .n
                        refine effOne rfl (gNone rfl (fAlloc Z24)) ?_
                        refine effStep 9 [] (by kernel_rfl) (closedEx fun n55 => closedSt) (hLeft [0, 3, 4] (by kernel_rfl) (.c (fun _ _ ⟨n55, hs⟩ => hs.ef.sub (.c 1 rfl (.c 1 rfl (.c 1 rfl (.c 1 rfl (.c 1 rfl (.c 1 rfl (.c 1 rfl (.c 1 rfl (.c 1 rfl (.c 1 rfl (.c 1 rfl (.c 1 rfl (.d 0 .r)))))))))))))) (.c (fun _ _ ⟨n55, hs⟩ => hs.ef.sub (.c 1 rfl (.c 1 rfl (.c 1 rfl (.c 1 rfl (.c 1 rfl (.c 1 rfl (.c 1 rfl (.c 1 rfl (.c 1 rfl (.c 1 rfl (.c 1 rfl (.c 1 rfl (.d 0 .r)))))))))))))) (.c (fun _ _ ⟨n55, hs⟩ => hs.ef.sub (.c 1 rfl (.c 1 rfl (.c 1 rfl (.c 1 rfl (.c 1 rfl (.c 1 rfl (.c 1 rfl (.c 1 rfl (.c 1 rfl (.c 1 rfl (.c 1 rfl (.c 1 rfl (.d 0 .r)))))))))))))) .n)))) ?_
                        refine .c ?_ .n
                        refine effOne rfl (opEx fun n55 => (gNone rfl (fStoreL 0 rfl rfl rfl rfl K24 rfl (rfl)))) ?_
                        refine effDone (closedEx fun n55 => closedSt) (hLeft [] (by kernel_rfl) .n) (by kernel_rfl) ?_
                        refine trEx fun n55 => ?_
                        refine kThen ?_
                        refine kSeq ?_
                        refine kRegion rfl ?_
                        refine lV (yMove rfl) rfl rfl ?_
                        refine lV (yMove rfl) rfl rfl ?_
                        refine lV (yEql rfl rfl) rfl rfl ?_
                        refine known (t := 349) rfl (hfa.1.symm) ?_
                        refine lV (yMove rfl) rfl rfl ?_
                        refine lGY rfl rfl rfl (oV (yMove rfl) rfl ?_)
                        refine lGY rfl rfl rfl (oV (yMove rfl) rfl ?_)
                        refine lGY rfl rfl rfl (oV (yEql rfl rfl) rfl ?_)
                        refine known (t := 353) rfl (rfl) ?_
                        refine lV (yPickT rfl rfl) rfl rfl ?_
                        refine lV (yMove rfl) rfl rfl ?_
                        refine lGY rfl rfl rfl (oV (yLoadA (vs := [_, _]) rfl A24 (cOwn 4 rfl rfl)) rfl ?_)
                        refine lGY rfl rfl rfl (oV (yLoadA (vs := [_, _]) rfl A24 (cOwn 2 rfl rfl)) rfl ?_)
                        refine lGY rfl rfl rfl (oV (yEqAgg rfl rfl G24 (fun w => Q24 w)) rfl ?_)
                        refine known (t := 358) rfl (⟨rfl, rfl⟩) ?_
                        refine lV (yPickT rfl rfl) rfl rfl ?_
                        refine lV (yMove rfl) rfl rfl ?_
                        refine lGY rfl rfl rfl (oV (yFieldAddr rfl F24_0) rfl ?_)
                        refine lGY rfl rfl rfl (oV (yLoad1 rfl O3 (cOwn 4 rfl rfl)) rfl ?_)
                        refine lGY rfl rfl rfl (oV (yFieldAddr rfl F24_1) rfl ?_)
                        refine lGY rfl rfl rfl (oV (yLoad1 rfl O3 (cOwn 3 rfl rfl)) rfl ?_)
                        refine lGY rfl rfl rfl (oV (yNeg rfl (by omega)) rfl ?_)
                        refine lGY rfl rfl rfl (oV (yEql rfl rfl) rfl ?_)
                        refine known (t := 366) rfl (hfa.2.1) ?_
                        refine lV (yPickT rfl rfl) rfl rfl ?_
                        refine lV (yMove rfl) rfl rfl ?_
                        refine lGY rfl rfl rfl (oV (yFieldAddr rfl F24_1) rfl ?_)
                        refine lGY rfl rfl rfl (oV (yLoad1 rfl O3 (cOwn 4 rfl rfl)) rfl ?_)
                        refine lGY rfl rfl rfl (oV (yFieldAddr rfl F24_0) rfl ?_)
                        refine lGY rfl rfl rfl (oV (yLoad1 rfl O3 (cOwn 3 rfl rfl)) rfl ?_)
                        refine lGY rfl rfl rfl (oV (yNeg rfl (by omega)) rfl ?_)
                        refine lGY rfl rfl rfl (oV (yEql rfl rfl) rfl ?_)
                        refine known (t := 374) rfl (hfa.2.2) ?_
                        refine lV (yPickT rfl rfl) rfl rfl ?_
                        refine lV (yMove rfl) rfl rfl ?_
                        refine lGY rfl rfl rfl (oV (yLoadA (vs := [_, _]) rfl A24 (cOwn 1 rfl rfl)) rfl ?_)
                        refine lGY rfl rfl rfl (oV (yLoadA (vs := [_, _]) rfl A24 (cOwn 0 rfl rfl)) rfl ?_)
                        refine lGY rfl rfl rfl (oV (yEqAgg rfl rfl G24 (fun w => Q24 w)) rfl ?_)
                        refine known (t := 379) rfl (⟨rfl, rfl⟩) ?_
                        refine lV (yPickT rfl rfl) rfl rfl ?_
                        refine lV (yMove rfl) rfl rfl ?_
                        refine lGY rfl rfl rfl (oV (yMove rfl) rfl ?_)
                        refine lGY rfl rfl rfl (oV (yMove rfl) rfl ?_)
                        refine lGY rfl rfl rfl (oV (yEql rfl rfl) rfl ?_)
                        refine known (t := 384) rfl (rfl) ?_
                        refine lV (yPickT rfl rfl) rfl rfl ?_
                        refine lV (yMove rfl) rfl rfl ?_
                        refine lGY rfl rfl rfl (oV (yCall rfl .n C15 (fun w hw => alive_any w)) rfl ?_)
                        refine lV (yPickT rfl rfl) rfl rfl ?_
                        refine lV (yAssign rfl) rfl rfl ?_
                        refine lNil ?_
                        refine kThen ?_
                        refine kRet ?_
                        refine fRet rfl (.t rfl .n) (endRet ?_)
                        first | rfl | (simp [packV, *]; done)
end Go.Proofs.Ytoefcofplkbnkaa
