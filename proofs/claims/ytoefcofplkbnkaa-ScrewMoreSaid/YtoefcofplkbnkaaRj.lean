/-
  Walk: ScrewMore.
-/
import Derived.Test.YtoefcofplkbnkaaRi
import Derived.Test.YtoefcofplkbnkaaLk
namespace Go.Proofs.Ytoefcofplkbnkaa
open ZW

set_option maxRecDepth 100000 in
theorem inL_any (a b : Int × Int) (w : World) : Calls Try.prog 34 [.agg [i64 a.1, i64 a.2].toArray, .agg [i64 b.1, i64 b.2].toArray].toArray w (Ret w (.bool (decide (b.1 ≤ a.1 ∧ a.2 ≤ b.2)))) := by
  refine fEnter Try.func34 rfl Try.ntmps34 rfl ?_
  refine kSeq ?_
  refine kRegion rfl ?_
  refine lE rfl ?_
  refine eBoxA rfl fun n2 => ?_
  refine lE rfl ?_
  refine eBoxA rfl fun n3 => ?_
  refine lV (yAssign rfl) rfl rfl ?_
  refine lNil ?_
  refine kThen ?_
  refine kSeq ?_
  refine kRegion rfl ?_
  refine lV (yFieldAddr rfl F24_0) rfl rfl ?_
  refine lV (yLoad1 rfl O3 (cOwn 1 rfl rfl)) rfl rfl ?_
  refine lV (yFieldAddr rfl F24_0) rfl rfl ?_
  refine lV (yLoad1 rfl O3 (cOwn 0 rfl rfl)) rfl rfl ?_
  refine lV (yGeq rfl rfl) rfl rfl ?_
  refine lV (yMove rfl) rfl rfl ?_
  refine split (t := 10) rfl (fun h10 => ?_) (fun h10 => ?_)
  · refine lGY rfl rfl rfl (oV (yFieldAddr rfl F24_1) rfl ?_)
    refine lGY rfl rfl rfl (oV (yLoad1 rfl O3 (cOwn 1 rfl rfl)) rfl ?_)
    refine lGY rfl rfl rfl (oV (yFieldAddr rfl F24_1) rfl ?_)
    refine lGY rfl rfl rfl (oV (yLoad1 rfl O3 (cOwn 0 rfl rfl)) rfl ?_)
    refine lGY rfl rfl rfl (oV (yLeq rfl rfl) rfl ?_)
    refine lV (yPickT rfl rfl) rfl rfl ?_
    refine lV (yAssign rfl) rfl rfl ?_
    refine lNil ?_
    refine kThen ?_
    refine kRet ?_
    refine fRet rfl (.t rfl .n) (endRet ?_)
    simp [packV, *]
  · refine lGN rfl rfl rfl rfl rfl ?_
    refine lGN rfl rfl rfl rfl rfl ?_
    refine lGN rfl rfl rfl rfl rfl ?_
    refine lGN rfl rfl rfl rfl rfl ?_
    refine lGN rfl rfl rfl rfl rfl ?_
    refine lV (yPickF rfl rfl) rfl rfl ?_
    refine lV (yAssign rfl) rfl rfl ?_
    refine lNil ?_
    refine kThen ?_
    refine kRet ?_
    refine fRet rfl (.t rfl .n) (endRet ?_)
    simp [packV, *]
/-- The narrower eye and sum. -/
def narM (m : Meas) (b : Nat) : Meas := lessM m (min m.eye.2 (m.eye.1 + (b : Int) % 3), m.eye.2) (m.sum.1, max m.sum.1 (m.sum.2 - (b : Int) / 3))
theorem nar_finer {m : Meas} (hM : MeasOk m) (b : Nat) : Finer m (narM m b) := by
  have h1 := hM.s.y
  have h2 := hM.u
  unfold spanOk at h1 h2
  refine less_finer hM ?_ ?_ <;> simp only <;> omega
abbrev moreC (y : Loc) (m : Meas) (s : Int × Int × Bool) (g : Own) (b : Nat) : List Value := measC (locG y g) (moreM m s) ++ measC y (narM m b)
theorem pick_more {y : Loc} {m : Meas} {s : Int × Int × Bool} {g : Own} {b i : Nat} {w : World} (hi : i < 2) (hm : InM w y m) (hM : MeasOk m) (hg : OS 3 g ((m.sets ++ [s]).map rowS)) :
    ∃ (yz : Loc) (z : Meas), sub (moreC y m s g b) (0 + ((i : Nat) : Int).toNat * 7) (measC yz z).length = some (measC yz z) ∧ Finer m z ∧ ∀ w', Eff w [] (osL 49 g) w' → InM w' yz z := by
  have : i = 0 ∨ i = 1 := by omega
  rcases this with rfl | rfl
  · exact ⟨locG y g, moreM m s, rfl, more_finer hM s, fun w' hw => ⟨(hm.eff (hw.sub .n)).e, OS.rowsE (f := rowS) (0, 0, false) hg hw .r⟩⟩
  · exact ⟨y, narM m b, rfl, nar_finer hM b, fun w' hw => ⟨(hm.eff (hw.sub .n)).e, (hm.eff (hw.sub .n)).s⟩⟩
set_option maxHeartbeats 4000000 in
set_option maxRecDepth 100000 in
theorem more_any (y : Loc) (m : Meas) (s : Int × Int × Bool) (a c : Int) (b : Nat) (w : World) (hm : InM w y m) (hb : b < 256) : Calls Try.prog 7 [.agg (measC y m).toArray, .agg (rowS s).toArray, i64 a, i64 c, .int .u8 (b : Nat)].toArray w (Ret w (.bool true)) := by
  refine fEnter Try.func7 rfl Try.ntmps7 rfl ?_
  refine kSeq ?_
  refine kRegion rfl ?_
  refine lE rfl ?_
  refine eBoxA rfl fun n5 => ?_
  refine lE rfl ?_
  refine eBoxA rfl fun n6 => ?_
  refine lV (yAssign rfl) rfl rfl ?_
  refine lNil ?_
  refine kThen ?_
  refine kSeq ?_
  refine kSeq ?_
  refine kRegion rfl ?_
  refine lV (yLoadA (vs := [_, _, _, _, _, _, _]) rfl A29 (cOwn 1 rfl rfl)) rfl rfl ?_
  refine lV (yCall rfl (.c rfl .n) C13 (fun w hw => great_any y m w)) rfl rfl ?_
  refine lV (yMove rfl) rfl rfl ?_
  refine splitB (t := 36) rfl (fun h36 => ?_) (fun h36 => ?_)
  · refine lGN rfl rfl rfl rfl rfl ?_
    refine lGN rfl rfl rfl rfl rfl ?_
    refine lGN rfl rfl rfl rfl rfl ?_
    refine lV (yPickT rfl rfl) rfl rfl ?_
    refine lV (yMove rfl) rfl rfl ?_
    refine lGN rfl rfl rfl rfl rfl ?_
    refine lGN rfl rfl rfl rfl rfl ?_
    refine lGN rfl rfl rfl rfl rfl ?_
    refine lGN rfl rfl rfl rfl rfl ?_
    refine lV (yPickT rfl rfl) rfl rfl ?_
    refine lNil ?_
    refine kThen ?_
    refine kIfT rfl ?_
    refine kSeq ?_
    refine kRegion rfl ?_
    refine lV (yCall rfl .n C15 (fun w hw => alive_any w)) rfl rfl ?_
    refine lV (yAssign rfl) rfl rfl ?_
    refine lNil ?_
    refine kThen ?_
    refine kRet ?_
    refine kThenR ?_
    refine fRet rfl (.t rfl .n) (endRet ?_)
    first | rfl | (simp [packV, *]; done)
  · have hG := of_decide_eq_false h36
    have hn : m.errs.length ≤ 1000000 := by unfold greatP at hG; omega
    refine lGY rfl rfl rfl (oV (yLoadA (vs := [_, _, _, _, _, _, _]) rfl A29 (cOwn 1 rfl rfl)) rfl ?_)
    refine lGY rfl rfl rfl (oV (yCall rfl (.c rfl .n) C28 (fun w hw => rmeasure_any y m w (hm.eff hw) hn)) rfl ?_)
    refine lGY rfl rfl rfl (oV (yNot rfl) rfl ?_)
    refine lV (yPickF rfl rfl) rfl rfl ?_
    refine lV (yMove rfl) rfl rfl ?_
    refine splitB (t := 41) rfl (fun h41 => ?_) (fun h41 => ?_)
    · refine lGN rfl rfl rfl rfl rfl ?_
      refine lGN rfl rfl rfl rfl rfl ?_
      refine lGN rfl rfl rfl rfl rfl ?_
      refine lGN rfl rfl rfl rfl rfl ?_
      refine lV (yPickT rfl rfl) rfl rfl ?_
      refine lNil ?_
      refine kThen ?_
      refine kIfT rfl ?_
      refine kSeq ?_
      refine kRegion rfl ?_
      refine lV (yCall rfl .n C15 (fun w hw => alive_any w)) rfl rfl ?_
      refine lV (yAssign rfl) rfl rfl ?_
      refine lNil ?_
      refine kThen ?_
      refine kRet ?_
      refine kThenR ?_
      refine fRet rfl (.t rfl .n) (endRet ?_)
      first | rfl | (simp [packV, *]; done)
    · refine lGY rfl rfl rfl (oV (yFieldAddr rfl F29_3) rfl ?_)
      refine lGY rfl rfl rfl (oV (yLoad1 rfl O27 (cOwn 1 rfl rfl)) rfl ?_)
      refine lGY rfl rfl rfl (oV (yLen rfl S27) rfl ?_)
      refine lGY rfl rfl rfl (oV (yGeq rfl rfl) rfl ?_)
      refine lV (yPickF rfl rfl) rfl rfl ?_
      refine lNil ?_
      refine kThen ?_
      refine split (t := 46) rfl (fun h46 => ?_) (fun h46 => ?_)
      · refine kIfT rfl ?_
        refine kSeq ?_
        refine kRegion rfl ?_
        refine lV (yCall rfl .n C15 (fun w hw => alive_any w)) rfl rfl ?_
        refine lV (yAssign rfl) rfl rfl ?_
        refine lNil ?_
        refine kThen ?_
        refine kRet ?_
        refine kThenR ?_
        refine fRet rfl (.t rfl .n) (endRet ?_)
        first | rfl | (simp [packV, *]; done)
      · refine kIfF rfl ?_
        refine kSkip ?_
        refine kThen ?_
        refine kSeq ?_
        have hM := notF h41
        have hN := hM.n
        have hye := hM.s.y
        have hue := hM.u
        unfold spanOk at hye hue
        have cf := clash_facts hM
        have dle := cf.dle
        have hF := fullS_lt hM
        refine kCutX (ι := Nat × Nat) (fun x => True) (fun x => [(11, .pointer (some ⟨x.1, 0, none⟩)), (12, .pointer (some ⟨x.2, 0, none⟩))]) [(0, _), (1, _), (2, _), (3, _), (4, _), (5, _), (6, _), (10, _)] (fun x => []) (fun x => [(x.1, blk (measC y m) 29), (x.2, blk (measC y m) 29)]) [(n5, _), (n6, _)] (.c rfl (.c rfl (.c rfl (.c rfl (.c rfl (.c rfl (.c rfl (.c rfl .n)))))))) (.c 1 rfl (.c 0 rfl .n)) ?_ (fun x _ => ?_)
        · refine kDrawE [(0, none), (1, none)] [] [0, 1] 4 hMix (by kernel_rfl) ?_
          refine .run rfl (yLoadA (vs := [_, _, _, _, _, _, _]) rfl A29 (cOwn 1 rfl rfl)) rfl rfl ?_
          refine .run rfl (yLoadA (vs := [_, _, _, _, _, _, _]) rfl A29 (cOwn 1 rfl rfl)) rfl rfl ?_
          refine .done ?_
          refine effStep 2 [3] (by kernel_rfl) closedSt (hLeft [0, 1] (by kernel_rfl) (.c (fun _ _ hs => hs.ef) (.c (fun _ _ hs => hs.ef) .n))) ?_
          refine (.c ?_ (.c ?_ .n))
          · refine effOne rfl (gNone rfl (fAlloc Z29)) ?_
            refine effStep 3 [] (by kernel_rfl) (closedEx fun n11 => closedSt) (hLeft [0, 1] (by kernel_rfl) (.c (fun _ _ ⟨n11, hs⟩ => hs.ef.sub (.c 1 rfl (.c 1 rfl .n))) (.c (fun _ _ ⟨n11, hs⟩ => hs.ef.sub (.c 1 rfl (.c 1 rfl .n))) .n))) ?_
            refine .c ?_ .n
            refine effOne rfl (opEx fun n11 => (gNone rfl (fAlloc Z29))) ?_
            refine effStep 4 [] (by kernel_rfl) (closedEx fun n11 => (closedEx fun n12 => closedSt)) (hLeft [0, 1] (by kernel_rfl) (.c (fun _ _ ⟨n11, ⟨n12, hs⟩⟩ => hs.ef.sub (.c 2 rfl (.c 2 rfl .n))) (.c (fun _ _ ⟨n11, ⟨n12, hs⟩⟩ => hs.ef.sub (.c 2 rfl (.c 2 rfl .n))) .n))) ?_
            refine .c ?_ .n
            refine effOne rfl (opEx fun n11 => (opEx fun n12 => (gNone rfl (fStoreL 1 rfl rfl rfl rfl K29 rfl (rfl))))) ?_
            refine effStep 5 [] (by kernel_rfl) (closedEx fun n11 => (closedEx fun n12 => closedSt)) (hLeft [1] (by kernel_rfl) (.c (fun _ _ ⟨n11, ⟨n12, hs⟩⟩ => hs.ef.sub (.c 2 rfl (.c 2 rfl .n))) .n)) ?_
            refine .c ?_ .n
            refine effOne rfl (opEx fun n11 => (opEx fun n12 => (gNone rfl (fStoreL 0 rfl rfl rfl rfl K29 rfl (rfl))))) ?_
            refine effDone (closedEx fun n11 => (closedEx fun n12 => closedSt)) (hLeft [] (by kernel_rfl) .n) (by kernel_rfl) ?_
            refine trEx fun n11 => ?_
            refine trEx fun n12 => ?_
            exact kMeetX ((n11, n12)) (trivial) rfl (.c rfl (.c rfl .n)) (.c rfl (.c rfl (.c rfl (.c rfl (.c rfl (.c rfl (.c rfl (.c rfl .n)))))))) (.c 3 rfl (.c 2 rfl (.c 1 rfl (.c 0 rfl .n))))
          · refine effOne rfl (gNone rfl (fAlloc Z29)) ?_
            refine effStep 2 [] (by kernel_rfl) (closedEx fun n12 => closedSt) (hLeft [0, 1] (by kernel_rfl) (.c (fun _ _ ⟨n12, hs⟩ => hs.ef.sub (.c 1 rfl (.c 1 rfl .n))) (.c (fun _ _ ⟨n12, hs⟩ => hs.ef.sub (.c 1 rfl (.c 1 rfl .n))) .n))) ?_
            refine .c ?_ .n
            refine effOne rfl (opEx fun n12 => (gNone rfl (fAlloc Z29))) ?_
            refine effStep 4 [] (by kernel_rfl) (closedEx fun n12 => (closedEx fun n11 => closedSt)) (hLeft [0, 1] (by kernel_rfl) (.c (fun _ _ ⟨n12, ⟨n11, hs⟩⟩ => hs.ef.sub (.c 2 rfl (.c 2 rfl .n))) (.c (fun _ _ ⟨n12, ⟨n11, hs⟩⟩ => hs.ef.sub (.c 2 rfl (.c 2 rfl .n))) .n))) ?_
            refine .c ?_ .n
            refine effOne rfl (opEx fun n12 => (opEx fun n11 => (gNone rfl (fStoreL 0 rfl rfl rfl rfl K29 rfl (rfl))))) ?_
            refine effStep 5 [] (by kernel_rfl) (closedEx fun n12 => (closedEx fun n11 => closedSt)) (hLeft [1] (by kernel_rfl) (.c (fun _ _ ⟨n12, ⟨n11, hs⟩⟩ => hs.ef.sub (.c 2 rfl (.c 2 rfl .n))) .n)) ?_
            refine .c ?_ .n
            refine effOne rfl (opEx fun n12 => (opEx fun n11 => (gNone rfl (fStoreL 1 rfl rfl rfl rfl K29 rfl (rfl))))) ?_
            refine effDone (closedEx fun n12 => (closedEx fun n11 => closedSt)) (hLeft [] (by kernel_rfl) .n) (by kernel_rfl) ?_
            refine trEx fun n12 => ?_
            refine trEx fun n11 => ?_
            exact kMeetX ((n11, n12)) (trivial) rfl (.c rfl (.c rfl .n)) (.c rfl (.c rfl (.c rfl (.c rfl (.c rfl (.c rfl (.c rfl (.c rfl .n)))))))) (.c 3 rfl (.c 2 rfl (.c 0 rfl (.c 0 rfl .n))))
        · obtain ⟨n11, n12⟩ := x
          dsimp only
          refine kSeq ?_
          refine kCutX (ι := Own) (fun g => OS 3 g ((m.sets ++ [s]).map rowS)) (fun g => []) [(0, _), (1, _), (2, _), (3, _), (4, _), (5, _), (6, _), (10, _), (11, _), (12, _)] (fun g => []) (fun g => ([(n11, blk (partC y m g (([] ++ m.sets.map rowS) ++ [rowS s]).length) 29)] ++ osL 49 g)) [(n12, _), (n5, _), (n6, _)] (.c rfl (.c rfl (.c rfl (.c rfl (.c rfl (.c rfl (.c rfl (.c rfl (.c rfl (.c rfl .n)))))))))) (.c 3 rfl (.c 0 rfl (.c 0 rfl .n))) ?_ (fun g hg => ?_)
          · refine kDrawE [(2, none), (4, none)] [] [1, 2, 4, 7] 5 hMix (by kernel_rfl) ?_
            refine .run rfl (yFieldAddr rfl F29_3) rfl rfl ?_
            refine .run rfl (yLoad1 rfl O27 (cOwn 0 rfl rfl)) rfl rfl ?_
            refine .run rfl (yLoadA (vs := [_, _, _]) rfl A49 (cOwn 1 rfl rfl)) rfl rfl ?_
            refine .run rfl (yFieldAddr rfl F29_3) rfl rfl ?_
            refine .done ?_
            refine effStep 0 [5] (by kernel_rfl) closedSt (hLeft [2, 4] (by kernel_rfl) (.c (fun _ _ hs => hs.ef) (.c (fun _ _ hs => hs.ef) .n))) ?_
            refine (.c ?_ (.c ?_ .n))
            · refine effOne rfl (gNone rfl (fBuildSlice .n (fun w => BS27_0_ w))) ?_
              refine effStep 3 [5] (by kernel_rfl) (closedEx fun n50 => closedSt) (hLeft [2, 4] (by kernel_rfl) (.c (fun _ _ ⟨n50, hs⟩ => hs.ef.sub (.c 1 rfl (.c 1 rfl (.c 1 rfl (.c 1 rfl .n))))) (.c (fun _ _ ⟨n50, hs⟩ => hs.ef.sub (.c 1 rfl (.c 1 rfl (.c 1 rfl (.c 1 rfl .n))))) .n))) ?_
              refine (.c ?_ (.c ?_ .n))
              · refine effOne rfl (opEx fun n50 => (gNone rfl (fAppend (gs := .b n50 0 []) [(n5, _), (n6, _), (n11, _), (n12, _)] (es := []) (m.sets.map rowS) AP27 rfl rfl (.c 1 rfl (.c 1 rfl (.c 1 rfl (.c 1 rfl (.c 0 rfl .n))))) (OS.lit (es := []) (by simp) rfl (by decide)) (by simp) (rowsS_len m.sets) (flatten_range (f := rowS) m.sets (0, 0, false) ▸ SlN.sl hm.s.r) (rowsS_one m.sets) (by simp; omega) (by simp; omega)))) ?_
                refine effStep 5 [] (by kernel_rfl) (closedEx fun n50 => (closedEx fun h => closedSt)) (hLeft [4] (by kernel_rfl) (.c (fun _ _ ⟨n50, ⟨h, hs⟩⟩ => hs.ef.sub (.c 0 rfl (.c 0 rfl (.c 0 rfl (.c 0 rfl .n))))) .n)) ?_
                refine .c ?_ .n
                refine effOne rfl (opEx fun n50 => (opEx fun h => (gNone rfl (fBuildSlice (.c rfl .n) (fun w => BS27_1_0 w))))) ?_
                refine effStep 6 [] (by kernel_rfl) (closedEx fun n50 => (closedEx fun h => (closedEx fun n55 => closedSt))) (hLeft [] (by kernel_rfl) .n) ?_
                refine .c ?_ .n
                refine effOne rfl (opEx fun n50 => (opEx fun h => (opEx fun n55 => (gNone rfl (fAppend (gs := h.1) [(n55, _), (n5, _), (n6, _), (n11, _), (n12, _)] [rowS s] AP27 rfl rfl .r h.2 rfl (rowsS_len [s]) (SlN.own 0 rfl rfl) (rowsS_one [s]) (by simp; omega) (by simp; omega)))))) ?_
                refine effStep 8 [] (by kernel_rfl) (closedEx fun n50 => (closedEx fun h => (closedEx fun n55 => (closedEx fun k => closedSt)))) (hLeft [] (by kernel_rfl) .n) ?_
                refine .c ?_ .n
                refine effOne rfl (opEx fun n50 => (opEx fun h => (opEx fun n55 => (opEx fun k => (gNone rfl (fStoreL 3 rfl rfl rfl rfl K27 rfl (rfl))))))) ?_
                refine effDone (closedEx fun n50 => (closedEx fun h => (closedEx fun n55 => (closedEx fun k => closedSt)))) (hLeft [] (by kernel_rfl) .n) (by kernel_rfl) ?_
                refine trEx fun n50 => ?_
                refine trEx fun h => ?_
                refine trEx fun n55 => ?_
                refine trEx fun k => ?_
                exact kMeetX (k.1) (by simpa using k.2) rfl .n (.c rfl (.c rfl (.c rfl (.c rfl (.c rfl (.c rfl (.c rfl (.c rfl (.c rfl (.c rfl .n)))))))))) (.c 4 rfl (.c 1 rfl (.c 1 rfl (.c 1 rfl (.d 0 .r)))))
              · refine effOne rfl (opEx fun n50 => (gNone rfl (fBuildSlice (.c rfl .n) (fun w => BS27_1_0 w)))) ?_
                refine effStep 3 [] (by kernel_rfl) (closedEx fun n50 => (closedEx fun n55 => closedSt)) (hLeft [2] (by kernel_rfl) (.c (fun _ _ ⟨n50, ⟨n55, hs⟩⟩ => hs.ef.sub (.c 2 rfl (.c 2 rfl (.c 2 rfl (.c 2 rfl .n))))) .n)) ?_
                refine .c ?_ .n
                refine effOne rfl (opEx fun n50 => (opEx fun n55 => (gNone rfl (fAppend (gs := .b n50 0 []) [(n55, _), (n5, _), (n6, _), (n11, _), (n12, _)] (es := []) (m.sets.map rowS) AP27 rfl rfl (.c 0 rfl (.c 1 rfl (.c 1 rfl (.c 1 rfl (.c 1 rfl (.c 0 rfl .n)))))) (OS.lit (es := []) (by simp) rfl (by decide)) (by simp) (rowsS_len m.sets) (flatten_range (f := rowS) m.sets (0, 0, false) ▸ SlN.sl hm.s.r) (rowsS_one m.sets) (by simp; omega) (by simp; omega))))) ?_
                refine effStep 6 [] (by kernel_rfl) (closedEx fun n50 => (closedEx fun n55 => (closedEx fun h => closedSt))) (hLeft [] (by kernel_rfl) .n) ?_
                refine .c ?_ .n
                refine effOne rfl (opEx fun n50 => (opEx fun n55 => (opEx fun h => (gNone rfl (fAppend (gs := h.1) [(n55, _), (n5, _), (n6, _), (n11, _), (n12, _)] [rowS s] AP27 rfl rfl .r h.2 rfl (rowsS_len [s]) (SlN.own 0 rfl rfl) (rowsS_one [s]) (by simp; omega) (by simp; omega)))))) ?_
                refine effStep 8 [] (by kernel_rfl) (closedEx fun n50 => (closedEx fun n55 => (closedEx fun h => (closedEx fun k => closedSt)))) (hLeft [] (by kernel_rfl) .n) ?_
                refine .c ?_ .n
                refine effOne rfl (opEx fun n50 => (opEx fun n55 => (opEx fun h => (opEx fun k => (gNone rfl (fStoreL 3 rfl rfl rfl rfl K27 rfl (rfl))))))) ?_
                refine effDone (closedEx fun n50 => (closedEx fun n55 => (closedEx fun h => (closedEx fun k => closedSt)))) (hLeft [] (by kernel_rfl) .n) (by kernel_rfl) ?_
                refine trEx fun n50 => ?_
                refine trEx fun n55 => ?_
                refine trEx fun h => ?_
                refine trEx fun k => ?_
                exact kMeetX (k.1) (by simpa using k.2) rfl .n (.c rfl (.c rfl (.c rfl (.c rfl (.c rfl (.c rfl (.c rfl (.c rfl (.c rfl (.c rfl .n)))))))))) (.c 4 rfl (.c 1 rfl (.c 1 rfl (.c 1 rfl (.d 0 .r)))))
            · refine effOne rfl (gNone rfl (fBuildSlice (.c rfl .n) (fun w => BS27_1_0 w))) ?_
              refine effStep 0 [] (by kernel_rfl) (closedEx fun n55 => closedSt) (hLeft [2] (by kernel_rfl) (.c (fun _ _ ⟨n55, hs⟩ => hs.ef.sub (.c 1 rfl (.c 1 rfl (.c 1 rfl (.c 1 rfl .n))))) .n)) ?_
              refine .c ?_ .n
              refine effOne rfl (opEx fun n55 => (gNone rfl (fBuildSlice .n (fun w => BS27_0_ w)))) ?_
              refine effStep 3 [] (by kernel_rfl) (closedEx fun n55 => (closedEx fun n50 => closedSt)) (hLeft [2] (by kernel_rfl) (.c (fun _ _ ⟨n55, ⟨n50, hs⟩⟩ => hs.ef.sub (.c 2 rfl (.c 2 rfl (.c 2 rfl (.c 2 rfl .n))))) .n)) ?_
              refine .c ?_ .n
              refine effOne rfl (opEx fun n55 => (opEx fun n50 => (gNone rfl (fAppend (gs := .b n50 0 []) [(n55, _), (n5, _), (n6, _), (n11, _), (n12, _)] (es := []) (m.sets.map rowS) AP27 rfl rfl (.c 1 rfl (.c 1 rfl (.c 1 rfl (.c 1 rfl (.c 1 rfl (.c 0 rfl .n)))))) (OS.lit (es := []) (by simp) rfl (by decide)) (by simp) (rowsS_len m.sets) (flatten_range (f := rowS) m.sets (0, 0, false) ▸ SlN.sl hm.s.r) (rowsS_one m.sets) (by simp; omega) (by simp; omega))))) ?_
              refine effStep 6 [] (by kernel_rfl) (closedEx fun n55 => (closedEx fun n50 => (closedEx fun h => closedSt))) (hLeft [] (by kernel_rfl) .n) ?_
              refine .c ?_ .n
              refine effOne rfl (opEx fun n55 => (opEx fun n50 => (opEx fun h => (gNone rfl (fAppend (gs := h.1) [(n55, _), (n5, _), (n6, _), (n11, _), (n12, _)] [rowS s] AP27 rfl rfl .r h.2 rfl (rowsS_len [s]) (SlN.own 0 rfl rfl) (rowsS_one [s]) (by simp; omega) (by simp; omega)))))) ?_
              refine effStep 8 [] (by kernel_rfl) (closedEx fun n55 => (closedEx fun n50 => (closedEx fun h => (closedEx fun k => closedSt)))) (hLeft [] (by kernel_rfl) .n) ?_
              refine .c ?_ .n
              refine effOne rfl (opEx fun n55 => (opEx fun n50 => (opEx fun h => (opEx fun k => (gNone rfl (fStoreL 3 rfl rfl rfl rfl K27 rfl (rfl))))))) ?_
              refine effDone (closedEx fun n55 => (closedEx fun n50 => (closedEx fun h => (closedEx fun k => closedSt)))) (hLeft [] (by kernel_rfl) .n) (by kernel_rfl) ?_
              refine trEx fun n55 => ?_
              refine trEx fun n50 => ?_
              refine trEx fun h => ?_
              refine trEx fun k => ?_
              exact kMeetX (k.1) (by simpa using k.2) rfl .n (.c rfl (.c rfl (.c rfl (.c rfl (.c rfl (.c rfl (.c rfl (.c rfl (.c rfl (.c rfl .n)))))))))) (.c 4 rfl (.c 1 rfl (.c 1 rfl (.c 1 rfl (.d 0 .r)))))
          · have hlen : (([] ++ m.sets.map rowS) ++ [rowS s]).length = (moreM m s).sets.length := by simp [moreM]
            rw [hlen]
            refine kSeq ?_
            refine kRegion rfl ?_
            refine lV (yFieldAddr rfl F29_0) rfl rfl ?_
            refine lV (yFieldAddr rfl F26_1) rfl rfl ?_
            refine lV (yFieldAddr rfl F24_1) rfl rfl ?_
            refine lV (yLoad1 rfl O3 (cOwn 1 rfl rfl)) rfl rfl ?_
            refine lV (yFieldAddr rfl F29_0) rfl rfl ?_
            refine lV (yFieldAddr rfl F26_1) rfl rfl ?_
            refine lV (yFieldAddr rfl F24_0) rfl rfl ?_
            refine lV (yLoad1 rfl O3 (cOwn 1 rfl rfl)) rfl rfl ?_
            refine lV (yMove rfl) rfl rfl ?_
            refine lV (yConvInt rfl U5 U3 (conv_ok (by omega))) rfl rfl ?_
            refine lV (yRem rfl rfl (by omega) (by omega)) rfl rfl ?_
            refine lV (yAdd rfl rfl (by omega)) rfl rfl ?_
            refine lV (yMin rfl rfl) rfl rfl ?_
            refine lV (yFieldAddr rfl F29_0) rfl rfl ?_
            refine lV (yFieldAddr rfl F26_1) rfl rfl ?_
            refine lV (yFieldAddr rfl F24_1) rfl rfl ?_
            refine lV (yLoad1 rfl O3 (cOwn 1 rfl rfl)) rfl rfl ?_
            refine lV (yCall rfl (.c rfl (.c rfl .n)) C30 (fun w hw => spanL_any _ _ w)) rfl rfl ?_
            refine lV (yFieldAddr rfl F29_0) rfl rfl ?_
            refine lV (yFieldAddr rfl F26_1) rfl rfl ?_
            refine lE rfl ?_
            refine eStoreL 0 rfl rfl rfl rfl K24 rfl (rfl) ?_
            refine lNil ?_
            refine kThen ?_
            refine kSeq ?_
            refine kRegion rfl ?_
            refine lV (yFieldAddr rfl F29_2) rfl rfl ?_
            refine lV (yFieldAddr rfl F24_0) rfl rfl ?_
            refine lV (yLoad1 rfl O3 (cOwn 1 rfl rfl)) rfl rfl ?_
            refine lV (yFieldAddr rfl F29_2) rfl rfl ?_
            refine lV (yFieldAddr rfl F24_0) rfl rfl ?_
            refine lV (yLoad1 rfl O3 (cOwn 1 rfl rfl)) rfl rfl ?_
            refine lV (yFieldAddr rfl F29_2) rfl rfl ?_
            refine lV (yFieldAddr rfl F24_1) rfl rfl ?_
            refine lV (yLoad1 rfl O3 (cOwn 1 rfl rfl)) rfl rfl ?_
            refine lV (yMove rfl) rfl rfl ?_
            refine lV (yConvInt rfl U5 U3 (conv_ok (by omega))) rfl rfl ?_
            refine lV (yQuo rfl rfl (by omega) (by omega) (by omega)) rfl rfl ?_
            refine lV (ySub rfl rfl (by omega)) rfl rfl ?_
            refine lV (yMax rfl rfl) rfl rfl ?_
            refine lV (yCall rfl (.c rfl (.c rfl .n)) C30 (fun w hw => spanL_any _ _ w)) rfl rfl ?_
            refine lV (yFieldAddr rfl F29_2) rfl rfl ?_
            refine lE rfl ?_
            refine eStoreL 0 rfl rfl rfl rfl K24 rfl (rfl) ?_
            refine lNil ?_
            refine kThen ?_
            refine kSeq ?_
            refine kRegion rfl ?_
            refine lV (yAssign rfl) rfl rfl ?_
            refine lNil ?_
            refine kThen ?_
            refine kSeq ?_
            refine kRegion rfl ?_
            refine lV (yLoadA (vs := [_, _, _, _, _, _, _]) rfl A29 (cOwn 1 rfl rfl)) rfl rfl ?_
            refine lV (yCall rfl (.c rfl .n) C18 (fun w hw => sum_any y m w (hm.eff hw))) rfl rfl ?_
            refine lV (yMove rfl) rfl rfl ?_
            refine lV (yExtract rfl rfl) rfl rfl ?_
            refine lV (yExtract rfl rfl) rfl rfl ?_
            refine lE rfl ?_
            refine eAlloc Z24 fun n14 => ?_
            refine lE rfl ?_
            refine eStoreL 0 rfl rfl rfl rfl K24 rfl (rfl) ?_
            refine lV (yAssign rfl) rfl rfl ?_
            refine lNil ?_
            refine kThen ?_
            refine kSeq ?_
            refine kRegion rfl ?_
            refine lV (yLoadA (vs := [_, _, _, _, _, _, _]) rfl A29 (cOwn 2 rfl rfl)) rfl rfl ?_
            refine lV (yMove rfl) rfl rfl ?_
            refine lV (yCall rfl (.c rfl (.c rfl .n)) C20 (fun w hw => place_any y m a w (hm.eff hw))) rfl rfl ?_
            refine lV (yMove rfl) rfl rfl ?_
            refine lV (yExtract rfl rfl) rfl rfl ?_
            refine lV (yExtract rfl rfl) rfl rfl ?_
            refine lE rfl ?_
            refine eAlloc Z24 fun n16 => ?_
            refine lE rfl ?_
            refine eStoreL 0 rfl rfl rfl rfl K24 rfl (rfl) ?_
            refine lV (yAssign rfl) rfl rfl ?_
            refine lNil ?_
            refine kThen ?_
            refine kSeq ?_
            refine kRegion rfl ?_
            refine lV (yLoadA (vs := [_, _, _, _, _, _, _]) rfl A29 (cOwn 3 rfl rfl)) rfl rfl ?_
            refine lV (yMove rfl) rfl rfl ?_
            refine lV (yCall rfl (.c rfl (.c rfl .n)) C20 (fun w hw => place_any y m c w (hm.eff hw))) rfl rfl ?_
            refine lV (yMove rfl) rfl rfl ?_
            refine lV (yExtract rfl rfl) rfl rfl ?_
            refine lV (yExtract rfl rfl) rfl rfl ?_
            refine lE rfl ?_
            refine eAlloc Z24 fun n18 => ?_
            refine lE rfl ?_
            refine eStoreL 0 rfl rfl rfl rfl K24 rfl (rfl) ?_
            refine lV (yAssign rfl) rfl rfl ?_
            refine lNil ?_
            refine kThen ?_
            refine kSeq ?_
            by_cases hh : (apartE m a c).2 = 0
            · refine kRegion rfl ?_
              refine lV (yLoadA (vs := [_, _, _, _, _, _, _]) rfl A29 (cOwn 4 rfl rfl)) rfl rfl ?_
              refine lV (yMove rfl) rfl rfl ?_
              refine lV (yMove rfl) rfl rfl ?_
              refine lV (yCall rfl (.c rfl (.c rfl (.c rfl .n))) C22 (fun w hw => apart_any y m a c w (hm.eff hw))) rfl rfl ?_
              refine lV (yMove rfl) rfl rfl ?_
              refine lV (yExtract rfl rfl) rfl rfl ?_
              refine lV (yExtract rfl rfl) rfl rfl ?_
              refine lE rfl ?_
              refine eAlloc Z24 fun n20 => ?_
              refine lE rfl ?_
              refine eStoreL 0 rfl rfl rfl rfl K24 rfl (rfl) ?_
              refine lV (yAssign rfl) rfl rfl ?_
              refine lNil ?_
              refine kThen ?_
              refine kSeq ?_
              by_cases hab : a = c
              · refine kRegion rfl ?_
                refine lV (yLoadA (vs := [_, _, _, _, _, _, _]) rfl A29 (cOwn 5 rfl rfl)) rfl rfl ?_
                refine lV (yCall rfl (.c rfl .n) C27 (fun w hw => drop_any y m w (hm.eff hw))) rfl rfl ?_
                refine same (t := 120) (u := outI (((dropS m : Nat) : Int), 0)) rfl (by rw [dropE_S hM]) ?_
                refine lV (yMove rfl) rfl rfl ?_
                refine lV (yExtract rfl rfl) rfl rfl ?_
                refine lV (yExtract rfl rfl) rfl rfl ?_
                refine lV (yAssign rfl) rfl rfl ?_
                refine lV (yAssign rfl) rfl rfl ?_
                refine lNil ?_
                refine kThen ?_
                refine kSeq ?_
                refine kSeq ?_
                refine kDrawE [] [] [0, 1, 2, 3, 4, 5, 6, 7, 8, 9, 10, 11, 12, 13, 14, 15, 16, 17, 18, 19, 20, 21, 22, 23, 24, 25, 26, 27, 28, 29, 30, 31, 32, 33, 34, 35] 0 hMix (by kernel_rfl) ?_
                refine .run rfl (yMove rfl) rfl rfl ?_
                refine .run rfl (yvFalse (yNeq rfl rfl) (fun h => h rfl)) rfl rfl ?_
                refine .run rfl (yMove rfl) rfl rfl ?_
                refine .runG rfl (yMove rfl) rfl rfl rfl rfl ?_
                refine .runG rfl (yvTrue (yEql rfl rfl) (hh)) rfl rfl rfl rfl ?_
                refine .runG rfl (yMove rfl) rfl rfl rfl rfl ?_
                refine .runG rfl (yMove rfl) rfl rfl rfl rfl ?_
                refine .runG rfl (yMove rfl) rfl rfl rfl rfl ?_
                refine .runG rfl (yvFalse (yNeq rfl rfl) (fun h => h hab)) rfl rfl rfl rfl ?_
                refine .runG rfl (yPickT rfl rfl) rfl rfl rfl rfl ?_
                refine .runG rfl (yMove rfl) rfl rfl rfl rfl ?_
                refine .skip rfl rfl rfl rfl rfl rfl ?_
                refine .skip rfl rfl rfl rfl rfl rfl ?_
                refine .skip rfl rfl rfl rfl rfl rfl ?_
                refine .skipU rfl rfl rfl rfl rfl ?_
                refine .skipU rfl rfl rfl rfl rfl ?_
                refine .skip rfl rfl rfl rfl rfl rfl ?_
                refine .skip rfl rfl rfl rfl rfl rfl ?_
                refine .skipU rfl rfl rfl rfl rfl ?_
                refine .skipU rfl rfl rfl rfl rfl ?_
                refine .skipU rfl rfl rfl rfl rfl ?_
                refine .skipU rfl rfl rfl rfl rfl ?_
                refine .skipU rfl rfl rfl rfl rfl ?_
                refine .skipU rfl rfl rfl rfl rfl ?_
                refine .skipU rfl rfl rfl rfl rfl ?_
                refine .skipU rfl rfl rfl rfl rfl ?_
                refine .skipU rfl rfl rfl rfl rfl ?_
                refine .skipU rfl rfl rfl rfl rfl ?_
                refine .skipU rfl rfl rfl rfl rfl ?_
                refine .skipU rfl rfl rfl rfl rfl ?_
                refine .skipU rfl rfl rfl rfl rfl ?_
                refine .skipU rfl rfl rfl rfl rfl ?_
                refine .skipU rfl rfl rfl rfl rfl ?_
                refine .skip rfl rfl rfl rfl rfl rfl ?_
                refine .runG rfl (yPickF rfl rfl) rfl rfl rfl rfl ?_
                refine .run rfl (yPickF rfl rfl) rfl rfl ?_
                refine .done ?_
                refine effDone closedSt (hLeft [] (by kernel_rfl) .n) (by kernel_rfl) ?_
                refine kThen ?_
                refine kIfF rfl ?_
                refine kSkip ?_
                refine kThen ?_
                refine kSeq ?_
                refine kSeq ?_
                refine kRegion rfl ?_
                refine lV (yLoadA (vs := [_, _, _, _, _, _, _]) rfl A29 (cOwn 7 rfl rfl)) rfl rfl ?_
                refine lV (yLoadA (vs := [_, _, _, _, _, _, _]) rfl A29 (cOwn 4 rfl rfl)) rfl rfl ?_
                refine lE rfl ?_
                refine eBuildSlice (.c rfl (.c rfl .n)) (fun w => BS59_2_0_1 w) fun n161 => ?_
                refine lV (yLen rfl S59) rfl rfl ?_
                refine lV (yMove rfl) rfl rfl ?_
                refine lNil ?_
                refine kThen ?_
                refine kBlock ?_
                refine kLoopX (ι := Nat) (fun i => i ≤ 2) (fun i => [(163, i64 (i : Nat))]) [(0, _), (1, _), (2, _), (3, _), (4, _), (5, _), (6, _), (11, _), (12, _), (58, _), (59, _), (60, _), (61, _), (62, _), (63, _), (64, _), (65, _), (66, _), (67, _), (68, _), (69, _), (70, _), (71, _), (72, _), (73, _), (74, _), (75, _), (76, _), (77, _), (78, _), (79, _), (80, _), (81, _), (82, _), (83, _), (84, _), (85, _), (86, _), (87, _), (88, _), (89, _), (90, _), (91, _), (92, _), (93, _), (13, _), (95, _), (96, _), (94, _), (97, _), (98, _), (14, _), (15, _), (100, _), (101, _), (102, _), (99, _), (103, _), (104, _), (16, _), (17, _), (106, _), (107, _), (108, _), (105, _), (109, _), (110, _), (18, _), (19, _), (112, _), (113, _), (114, _), (115, _), (111, _), (116, _), (117, _), (20, _), (21, _), (119, _), (120, _), (118, _), (121, _), (122, _), (22, _), (23, _), (123, _), (124, _), (125, _), (126, _), (127, _), (128, _), (129, _), (130, _), (131, _), (132, _), (133, _), (157, _), (158, _), (159, _), (160, _), (161, _), (162, _)] (fun i => []) (fun i => osL 49 g) [(n161, _), (n20, _), (n18, _), (n16, _), (n14, _), (n12, _), (n5, _), (n6, _), (n11, _)] (fun i => 2 - i) 0 (by omega) rfl (.c rfl .n) (.c rfl (.c rfl (.c rfl (.c rfl (.c rfl (.c rfl (.c rfl (.c rfl (.c rfl (.c rfl (.c rfl (.c rfl (.c rfl (.c rfl (.c rfl (.c rfl (.c rfl (.c rfl (.c rfl (.c rfl (.c rfl (.c rfl (.c rfl (.c rfl (.c rfl (.c rfl (.c rfl (.c rfl (.c rfl (.c rfl (.c rfl (.c rfl (.c rfl (.c rfl (.c rfl (.c rfl (.c rfl (.c rfl (.c rfl (.c rfl (.c rfl (.c rfl (.c rfl (.c rfl (.c rfl (.c rfl (.c rfl (.c rfl (.c rfl (.c rfl (.c rfl (.c rfl (.c rfl (.c rfl (.c rfl (.c rfl (.c rfl (.c rfl (.c rfl (.c rfl (.c rfl (.c rfl (.c rfl (.c rfl (.c rfl (.c rfl (.c rfl (.c rfl (.c rfl (.c rfl (.c rfl (.c rfl (.c rfl (.c rfl (.c rfl (.c rfl (.c rfl (.c rfl (.c rfl (.c rfl (.c rfl (.c rfl (.c rfl (.c rfl (.c rfl (.c rfl (.c rfl (.c rfl (.c rfl (.c rfl (.c rfl (.c rfl (.c rfl (.c rfl (.c rfl (.c rfl (.c rfl (.c rfl (.c rfl (.c rfl (.c rfl (.c rfl .n)))))))))))))))))))))))))))))))))))))))))))))))))))))))))))))))))))))))))))))))))))))))))))))))))))))) (.c 0 rfl (.c 0 rfl (.c 0 rfl (.c 0 rfl (.c 0 rfl (.c 0 rfl (.c 0 rfl (.c 0 rfl (.c 0 rfl .r))))))))) ?_
                rintro i hi
                refine kSeq ?_
                refine kRegion rfl ?_
                refine lV (yLss rfl rfl) rfl rfl ?_
                refine lNil ?_
                refine kThen ?_
                refine kSeq ?_
                refine split (t := 164) rfl (fun h164 => ?_) (fun h164 => ?_)
                · refine kIfT rfl ?_
                  refine kSkip ?_
                  refine kThen ?_
                  refine kSeq ?_
                  refine kBlock ?_
                  refine kSeq ?_
                  obtain ⟨yz, z, hsub, hfin, hin⟩ := pick_more (b := b) (show i < 2 by omega) hm hM hg
                  have hnz : z.errs.length ≤ 1000000 := by have := hfin.errs; omega
                  refine kRegion rfl ?_
                  refine lV (yIndexSl rfl rfl S59 (by omega) (by omega)) rfl rfl ?_
                  refine lV (yLoadA (vs := (measC yz z)) rfl A29 (cOwn 0 rfl (hsub))) rfl rfl ?_
                  refine lE rfl ?_
                  refine eAlloc Z29 fun n25 => ?_
                  refine lE rfl ?_
                  refine eStoreL 0 rfl rfl rfl rfl K29 rfl (rfl) ?_
                  refine lNil ?_
                  refine kThen ?_
                  refine kSeq ?_
                  refine kSeq ?_
                  refine kRegion rfl ?_
                  refine lV (yLoadA (vs := [_, _, _, _, _, _, _]) rfl A29 (cOwn 0 rfl rfl)) rfl rfl ?_
                  refine lV (yCall rfl (.c rfl .n) C28 (fun w hw => rmeasure_any yz z w (hin w (hw.sub (.d 0 (.d 0 (.d 0 (.d 0 (.d 0 (.d 0 (.d 0 (.d 0 (.d 0 (.d 0 .r)))))))))))) hnz)) rfl rfl ?_
                  refine lV (yNot rfl) rfl rfl ?_
                  refine lNil ?_
                  refine kThen ?_
                  refine splitB (t := 169) rfl (fun h169 => ?_) (fun h169 => ?_)
                  · refine kIfT rfl ?_
                    refine kExit ?_
                    refine kThenX ?_
                    refine kInX ?_
                    refine kThen ?_
                    refine kRegion rfl ?_
                    refine lV (yAdd rfl rfl (by omega)) rfl rfl ?_
                    refine lV (yMove rfl) rfl rfl ?_
                    refine lNil ?_
                    exact kRoundX (i + 1) (by omega) (by omega) rfl (.c rfl .n) (.c rfl (.c rfl (.c rfl (.c rfl (.c rfl (.c rfl (.c rfl (.c rfl (.c rfl (.c rfl (.c rfl (.c rfl (.c rfl (.c rfl (.c rfl (.c rfl (.c rfl (.c rfl (.c rfl (.c rfl (.c rfl (.c rfl (.c rfl (.c rfl (.c rfl (.c rfl (.c rfl (.c rfl (.c rfl (.c rfl (.c rfl (.c rfl (.c rfl (.c rfl (.c rfl (.c rfl (.c rfl (.c rfl (.c rfl (.c rfl (.c rfl (.c rfl (.c rfl (.c rfl (.c rfl (.c rfl (.c rfl (.c rfl (.c rfl (.c rfl (.c rfl (.c rfl (.c rfl (.c rfl (.c rfl (.c rfl (.c rfl (.c rfl (.c rfl (.c rfl (.c rfl (.c rfl (.c rfl (.c rfl (.c rfl (.c rfl (.c rfl (.c rfl (.c rfl (.c rfl (.c rfl (.c rfl (.c rfl (.c rfl (.c rfl (.c rfl (.c rfl (.c rfl (.c rfl (.c rfl (.c rfl (.c rfl (.c rfl (.c rfl (.c rfl (.c rfl (.c rfl (.c rfl (.c rfl (.c rfl (.c rfl (.c rfl (.c rfl (.c rfl (.c rfl (.c rfl (.c rfl (.c rfl (.c rfl (.c rfl (.c rfl (.c rfl .n)))))))))))))))))))))))))))))))))))))))))))))))))))))))))))))))))))))))))))))))))))))))))))))))))))))) (.c 1 rfl (.c 1 rfl (.c 1 rfl (.c 1 rfl (.c 1 rfl (.c 1 rfl (.c 1 rfl (.c 1 rfl (.c 1 rfl (.d 0 .r))))))))))
                  · refine kIfF rfl ?_
                    refine kSkip ?_
                    refine kThen ?_
                    refine kSeq ?_
                    have hZ := notF h169
                    have cz := clash_facts hZ
                    have dlz := cz.dle
                    have hFz := fullS_lt hZ
                    have hdz := hfin.drop hZ
                    refine kRegion rfl ?_
                    refine lV (yLoadA (vs := [_, _, _, _, _, _, _]) rfl A29 (cOwn 0 rfl rfl)) rfl rfl ?_
                    refine lV (yCall rfl (.c rfl .n) C27 (fun w hw => drop_any yz z w (hin w (hw.sub (.d 0 (.d 0 (.d 0 (.d 0 (.d 0 (.d 0 (.d 0 (.d 0 (.d 0 (.d 0 .r)))))))))))))) rfl rfl ?_
                    refine same (t := 172) (u := outI (((dropS z : Nat) : Int), 0)) rfl (by rw [dropE_S hZ]) ?_
                    refine lV (yMove rfl) rfl rfl ?_
                    refine lV (yExtract rfl rfl) rfl rfl ?_
                    refine lV (yExtract rfl rfl) rfl rfl ?_
                    refine lV (yAssign rfl) rfl rfl ?_
                    refine lV (yAssign rfl) rfl rfl ?_
                    refine lNil ?_
                    refine kThen ?_
                    refine kSeq ?_
                    refine kSeq ?_
                    refine kRegion rfl ?_
                    refine lV (yMove rfl) rfl rfl ?_
                    refine lV (yNeq rfl rfl) rfl rfl ?_
                    refine knownN (t := 176) rfl (fun h => h rfl) ?_
                    refine lV (yMove rfl) rfl rfl ?_
                    refine lGY rfl rfl rfl (oV (yMove rfl) rfl ?_)
                    refine lGY rfl rfl rfl (oV (yLss rfl rfl) rfl ?_)
                    refine knownN (t := 179) rfl (by omega) ?_
                    refine lV (yPickF rfl rfl) rfl rfl ?_
                    refine lV (yMove rfl) rfl rfl ?_
                    refine lGY rfl rfl rfl (oV (yMove rfl) rfl ?_)
                    refine lGY rfl rfl rfl (oV (yLss rfl rfl) rfl ?_)
                    refine knownN (t := 183) rfl (by omega) ?_
                    refine lV (yPickF rfl rfl) rfl rfl ?_
                    refine lV (yMove rfl) rfl rfl ?_
                    refine lGY rfl rfl rfl (oV (yMove rfl) rfl ?_)
                    refine lGY rfl rfl rfl (oV (yCall rfl (.c rfl .n) C33 (fun w hw => size_any (dropS z) w (by omega))) rfl ?_)
                    refine lGY rfl rfl rfl (oV (yMove rfl) rfl ?_)
                    refine lGY rfl rfl rfl (oV (yCall rfl (.c rfl .n) C33 (fun w hw => size_any (dropS m) w (by omega))) rfl ?_)
                    refine lGY rfl rfl rfl (oV (yLss rfl rfl) rfl ?_)
                    refine knownN (t := 190) rfl (by omega) ?_
                    refine lV (yPickF rfl rfl) rfl rfl ?_
                    refine lNil ?_
                    refine kThen ?_
                    refine kIfF rfl ?_
                    refine kSkip ?_
                    refine kThen ?_
                    refine kSeq ?_
                    by_cases hoz : okF z
                    · refine kRegion rfl ?_
                      refine lV (yLoadA (vs := [_, _, _, _, _, _, _]) rfl A29 (cOwn 0 rfl rfl)) rfl rfl ?_
                      refine lV (yCall rfl (.c rfl .n) C18 (fun w hw => sum_any yz z w (hin w (hw.sub (.d 0 (.d 0 (.d 0 (.d 0 (.d 0 (.d 0 (.d 0 (.d 0 (.d 0 (.d 0 .r)))))))))))))) rfl rfl ?_
                      refine lV (yMove rfl) rfl rfl ?_
                      refine lV (yExtract rfl rfl) rfl rfl ?_
                      refine lV (yExtract rfl rfl) rfl rfl ?_
                      refine lE rfl ?_
                      refine eAlloc Z24 fun n28 => ?_
                      refine lE rfl ?_
                      refine eStoreL 0 rfl rfl rfl rfl K24 rfl (rfl) ?_
                      refine lV (yAssign rfl) rfl rfl ?_
                      refine lNil ?_
                      refine kThen ?_
                      refine kSeq ?_
                      refine kSeq ?_
                      refine kRegion rfl ?_
                      refine lV (yMove rfl) rfl rfl ?_
                      refine lV (yNeq rfl rfl) rfl rfl ?_
                      refine knownN (t := 198) rfl (fun h => h ((sum_code).2 ⟨hZ, hoz⟩)) ?_
                      refine lNil ?_
                      refine kThen ?_
                      refine kIfF rfl ?_
                      refine kSkip ?_
                      refine kThen ?_
                      refine kSeq ?_
                      have hom := hfin.ok hM hZ hoz
                      refine kRegion rfl ?_
                      refine lV (yLoadA (vs := [_, _, _, _, _, _, _]) rfl A29 (cOwn 1 rfl rfl)) rfl rfl ?_
                      refine lV (yMove rfl) rfl rfl ?_
                      refine lV (yCall rfl (.c rfl (.c rfl .n)) C20 (fun w hw => place_any yz z a w (hin w (hw.sub (.d 0 (.d 0 (.d 0 (.d 0 (.d 0 (.d 0 (.d 0 (.d 0 (.d 0 (.d 0 (.d 0 .r))))))))))))))) rfl rfl ?_
                      refine lV (yMove rfl) rfl rfl ?_
                      refine lV (yExtract rfl rfl) rfl rfl ?_
                      refine lV (yExtract rfl rfl) rfl rfl ?_
                      refine lE rfl ?_
                      refine eAlloc Z24 fun n30 => ?_
                      refine lE rfl ?_
                      refine eStoreL 0 rfl rfl rfl rfl K24 rfl (rfl) ?_
                      refine lV (yAssign rfl) rfl rfl ?_
                      refine lNil ?_
                      refine kThen ?_
                      refine kSeq ?_
                      refine kRegion rfl ?_
                      refine lV (yLoadA (vs := [_, _, _, _, _, _, _]) rfl A29 (cOwn 2 rfl rfl)) rfl rfl ?_
                      refine lV (yMove rfl) rfl rfl ?_
                      refine lV (yMove rfl) rfl rfl ?_
                      refine lV (yCall rfl (.c rfl (.c rfl (.c rfl .n))) C22 (fun w hw => apart_any yz z a c w (hin w (hw.sub (.d 0 (.d 0 (.d 0 (.d 0 (.d 0 (.d 0 (.d 0 (.d 0 (.d 0 (.d 0 (.d 0 (.d 0 .r)))))))))))))))) rfl rfl ?_
                      refine lV (yMove rfl) rfl rfl ?_
                      refine lV (yExtract rfl rfl) rfl rfl ?_
                      refine lV (yExtract rfl rfl) rfl rfl ?_
                      refine lE rfl ?_
                      refine eAlloc Z24 fun n32 => ?_
                      refine lE rfl ?_
                      refine eStoreL 0 rfl rfl rfl rfl K24 rfl (rfl) ?_
                      refine lV (yAssign rfl) rfl rfl ?_
                      refine lNil ?_
                      refine kThen ?_
                      refine kSeq ?_
                      refine kRegion rfl ?_
                      refine lV (yMove rfl) rfl rfl ?_
                      refine lV (yNeq rfl rfl) rfl rfl ?_
                      refine knownN (t := 215) rfl (fun h => h (sum_code.2 ⟨hM, hom⟩)) ?_
                      refine lV (yMove rfl) rfl rfl ?_
                      refine lGY rfl rfl rfl (oV (yMove rfl) rfl ?_)
                      refine lGY rfl rfl rfl (oV (yLoadA (vs := [_, _]) rfl A24 (cOwn 2 rfl rfl)) rfl ?_)
                      refine lGY rfl rfl rfl (oV (yLoadA (vs := [_, _]) rfl A24 (cOwn 8 rfl rfl)) rfl ?_)
                      refine lGY rfl rfl rfl (oV (yCall rfl (.c rfl (.c rfl .n)) C34 (fun w hw => inL_any (sumE z).1 (sumE m).1 w)) rfl ?_)
                      refine knownB (t := 220) (c := true) rfl (decide_eq_true (finer_sum hfin hM hZ hoz)) ?_
                      refine lGY rfl rfl rfl (oV (yNot rfl) rfl ?_)
                      refine lV (yPickF rfl rfl) rfl rfl ?_
                      refine lV (yMove rfl) rfl rfl ?_
                      refine lGY rfl rfl rfl (oV (yMove rfl) rfl ?_)
                      refine lGY rfl rfl rfl (oV (yEql rfl rfl) rfl ?_)
                      refine lGY rfl rfl rfl (oV (yMove rfl) rfl ?_)
                      refine split (t := 226) rfl (fun h226 => ?_) (fun h226 => ?_)
                      · refine lGY rfl rfl rfl (oV (yMove rfl) rfl ?_)
                        refine lGY rfl rfl rfl (oV (yNeq rfl rfl) rfl ?_)
                        refine knownN (t := 228) rfl (fun h => h (finer_place hfin hM hZ hoz h226).1) ?_
                        refine lGY rfl rfl rfl (oV (yMove rfl) rfl ?_)
                        refine lGY rfl rfl rfl (oV (yMove rfl) rfl ?_)
                        refine lGY rfl rfl rfl (oV (yLoadA (vs := [_, _]) rfl A24 (cOwn 1 rfl rfl)) rfl ?_)
                        refine lGY rfl rfl rfl (oV (yLoadA (vs := [_, _]) rfl A24 (cOwn 7 rfl rfl)) rfl ?_)
                        refine lGY rfl rfl rfl (oV (yCall rfl (.c rfl (.c rfl .n)) C34 (fun w hw => inL_any (placeE z a).1 (placeE m a).1 w)) rfl ?_)
                        refine knownB (t := 233) (c := true) rfl (decide_eq_true (finer_place hfin hM hZ hoz h226).2) ?_
                        refine lGY rfl rfl rfl (oV (yNot rfl) rfl ?_)
                        refine lGY rfl rfl rfl (oV (yPickF rfl rfl) rfl ?_)
                        refine lGY rfl rfl rfl (oV (yPickT rfl rfl) rfl ?_)
                        refine lV (yPickF rfl rfl) rfl rfl ?_
                        refine lV (yMove rfl) rfl rfl ?_
                        refine lGY rfl rfl rfl (oV (yMove rfl) rfl ?_)
                        refine lGY rfl rfl rfl (oV (yEql rfl rfl) rfl ?_)
                        refine known (t := 240) rfl (hh) ?_
                        refine lGY rfl rfl rfl (oV (yMove rfl) rfl ?_)
                        refine lGY rfl rfl rfl (oV (yMove rfl) rfl ?_)
                        refine lGY rfl rfl rfl (oV (yNeq rfl rfl) rfl ?_)
                        refine knownN (t := 243) rfl (fun h => h (finer_apart hfin hM hZ hoz hh).1) ?_
                        refine lGY rfl rfl rfl (oV (yMove rfl) rfl ?_)
                        refine lGY rfl rfl rfl (oV (yMove rfl) rfl ?_)
                        refine lGY rfl rfl rfl (oV (yLoadA (vs := [_, _]) rfl A24 (cOwn 0 rfl rfl)) rfl ?_)
                        refine lGY rfl rfl rfl (oV (yLoadA (vs := [_, _]) rfl A24 (cOwn 5 rfl rfl)) rfl ?_)
                        refine lGY rfl rfl rfl (oV (yCall rfl (.c rfl (.c rfl .n)) C34 (fun w hw => inL_any (apartE z a c).1 (apartE m a c).1 w)) rfl ?_)
                        refine knownB (t := 248) (c := true) rfl (decide_eq_true (finer_apart hfin hM hZ hoz hh).2) ?_
                        refine lGY rfl rfl rfl (oV (yNot rfl) rfl ?_)
                        refine lGY rfl rfl rfl (oV (yPickF rfl rfl) rfl ?_)
                        refine lGY rfl rfl rfl (oV (yPickT rfl rfl) rfl ?_)
                        refine lV (yPickF rfl rfl) rfl rfl ?_
                        refine lNil ?_
                        refine kThen ?_
                        refine kIfF rfl ?_
                        refine kSkip ?_
                        refine kInN ?_
                        refine kThen ?_
                        refine kRegion rfl ?_
                        refine lV (yAdd rfl rfl (by omega)) rfl rfl ?_
                        refine lV (yMove rfl) rfl rfl ?_
                        refine lNil ?_
                        exact kRoundX (i + 1) (by omega) (by omega) rfl (.c rfl .n) (.c rfl (.c rfl (.c rfl (.c rfl (.c rfl (.c rfl (.c rfl (.c rfl (.c rfl (.c rfl (.c rfl (.c rfl (.c rfl (.c rfl (.c rfl (.c rfl (.c rfl (.c rfl (.c rfl (.c rfl (.c rfl (.c rfl (.c rfl (.c rfl (.c rfl (.c rfl (.c rfl (.c rfl (.c rfl (.c rfl (.c rfl (.c rfl (.c rfl (.c rfl (.c rfl (.c rfl (.c rfl (.c rfl (.c rfl (.c rfl (.c rfl (.c rfl (.c rfl (.c rfl (.c rfl (.c rfl (.c rfl (.c rfl (.c rfl (.c rfl (.c rfl (.c rfl (.c rfl (.c rfl (.c rfl (.c rfl (.c rfl (.c rfl (.c rfl (.c rfl (.c rfl (.c rfl (.c rfl (.c rfl (.c rfl (.c rfl (.c rfl (.c rfl (.c rfl (.c rfl (.c rfl (.c rfl (.c rfl (.c rfl (.c rfl (.c rfl (.c rfl (.c rfl (.c rfl (.c rfl (.c rfl (.c rfl (.c rfl (.c rfl (.c rfl (.c rfl (.c rfl (.c rfl (.c rfl (.c rfl (.c rfl (.c rfl (.c rfl (.c rfl (.c rfl (.c rfl (.c rfl (.c rfl (.c rfl (.c rfl (.c rfl (.c rfl .n)))))))))))))))))))))))))))))))))))))))))))))))))))))))))))))))))))))))))))))))))))))))))))))))))))))) (.c 4 rfl (.c 4 rfl (.c 4 rfl (.c 4 rfl (.c 4 rfl (.c 4 rfl (.c 4 rfl (.c 4 rfl (.c 4 rfl (.d 0 (.d 0 (.d 0 (.d 0 .r)))))))))))))
                      · refine lGN rfl rfl rfl rfl rfl ?_
                        refine lGN rfl rfl rfl rfl rfl ?_
                        refine lGN rfl rfl rfl rfl rfl ?_
                        refine lGU rfl rfl rfl rfl ?_
                        refine lGU rfl rfl rfl rfl ?_
                        refine lGU rfl rfl rfl rfl ?_
                        refine lGU rfl rfl rfl rfl ?_
                        refine lGU rfl rfl rfl rfl ?_
                        refine lGN rfl rfl rfl rfl rfl ?_
                        refine lGY rfl rfl rfl (oV (yPickF rfl rfl) rfl ?_)
                        refine lV (yPickF rfl rfl) rfl rfl ?_
                        refine lV (yMove rfl) rfl rfl ?_
                        refine lGY rfl rfl rfl (oV (yMove rfl) rfl ?_)
                        refine lGY rfl rfl rfl (oV (yEql rfl rfl) rfl ?_)
                        refine known (t := 240) rfl (hh) ?_
                        refine lGY rfl rfl rfl (oV (yMove rfl) rfl ?_)
                        refine lGY rfl rfl rfl (oV (yMove rfl) rfl ?_)
                        refine lGY rfl rfl rfl (oV (yNeq rfl rfl) rfl ?_)
                        refine knownN (t := 243) rfl (fun h => h (finer_apart hfin hM hZ hoz hh).1) ?_
                        refine lGY rfl rfl rfl (oV (yMove rfl) rfl ?_)
                        refine lGY rfl rfl rfl (oV (yMove rfl) rfl ?_)
                        refine lGY rfl rfl rfl (oV (yLoadA (vs := [_, _]) rfl A24 (cOwn 0 rfl rfl)) rfl ?_)
                        refine lGY rfl rfl rfl (oV (yLoadA (vs := [_, _]) rfl A24 (cOwn 5 rfl rfl)) rfl ?_)
                        refine lGY rfl rfl rfl (oV (yCall rfl (.c rfl (.c rfl .n)) C34 (fun w hw => inL_any (apartE z a c).1 (apartE m a c).1 w)) rfl ?_)
                        refine knownB (t := 248) (c := true) rfl (decide_eq_true (finer_apart hfin hM hZ hoz hh).2) ?_
                        refine lGY rfl rfl rfl (oV (yNot rfl) rfl ?_)
                        refine lGY rfl rfl rfl (oV (yPickF rfl rfl) rfl ?_)
                        refine lGY rfl rfl rfl (oV (yPickT rfl rfl) rfl ?_)
                        refine lV (yPickF rfl rfl) rfl rfl ?_
                        refine lNil ?_
                        refine kThen ?_
                        refine kIfF rfl ?_
                        refine kSkip ?_
                        refine kInN ?_
                        refine kThen ?_
                        refine kRegion rfl ?_
                        refine lV (yAdd rfl rfl (by omega)) rfl rfl ?_
                        refine lV (yMove rfl) rfl rfl ?_
                        refine lNil ?_
                        exact kRoundX (i + 1) (by omega) (by omega) rfl (.c rfl .n) (.c rfl (.c rfl (.c rfl (.c rfl (.c rfl (.c rfl (.c rfl (.c rfl (.c rfl (.c rfl (.c rfl (.c rfl (.c rfl (.c rfl (.c rfl (.c rfl (.c rfl (.c rfl (.c rfl (.c rfl (.c rfl (.c rfl (.c rfl (.c rfl (.c rfl (.c rfl (.c rfl (.c rfl (.c rfl (.c rfl (.c rfl (.c rfl (.c rfl (.c rfl (.c rfl (.c rfl (.c rfl (.c rfl (.c rfl (.c rfl (.c rfl (.c rfl (.c rfl (.c rfl (.c rfl (.c rfl (.c rfl (.c rfl (.c rfl (.c rfl (.c rfl (.c rfl (.c rfl (.c rfl (.c rfl (.c rfl (.c rfl (.c rfl (.c rfl (.c rfl (.c rfl (.c rfl (.c rfl (.c rfl (.c rfl (.c rfl (.c rfl (.c rfl (.c rfl (.c rfl (.c rfl (.c rfl (.c rfl (.c rfl (.c rfl (.c rfl (.c rfl (.c rfl (.c rfl (.c rfl (.c rfl (.c rfl (.c rfl (.c rfl (.c rfl (.c rfl (.c rfl (.c rfl (.c rfl (.c rfl (.c rfl (.c rfl (.c rfl (.c rfl (.c rfl (.c rfl (.c rfl (.c rfl (.c rfl (.c rfl (.c rfl (.c rfl .n)))))))))))))))))))))))))))))))))))))))))))))))))))))))))))))))))))))))))))))))))))))))))))))))))))))) (.c 4 rfl (.c 4 rfl (.c 4 rfl (.c 4 rfl (.c 4 rfl (.c 4 rfl (.c 4 rfl (.c 4 rfl (.c 4 rfl (.d 0 (.d 0 (.d 0 (.d 0 .r)))))))))))))
                    · refine kRegion rfl ?_
                      refine lV (yLoadA (vs := [_, _, _, _, _, _, _]) rfl A29 (cOwn 0 rfl rfl)) rfl rfl ?_
                      refine lV (yCall rfl (.c rfl .n) C18 (fun w hw => sum_any yz z w (hin w (hw.sub (.d 0 (.d 0 (.d 0 (.d 0 (.d 0 (.d 0 (.d 0 (.d 0 (.d 0 (.d 0 .r)))))))))))))) rfl rfl ?_
                      refine lV (yMove rfl) rfl rfl ?_
                      refine lV (yExtract rfl rfl) rfl rfl ?_
                      refine lV (yExtract rfl rfl) rfl rfl ?_
                      refine lE rfl ?_
                      refine eAlloc Z24 fun n28 => ?_
                      refine lE rfl ?_
                      refine eStoreL 0 rfl rfl rfl rfl K24 rfl (rfl) ?_
                      refine lV (yAssign rfl) rfl rfl ?_
                      refine lNil ?_
                      refine kThen ?_
                      refine kSeq ?_
                      refine kSeq ?_
                      refine kRegion rfl ?_
                      refine lV (yMove rfl) rfl rfl ?_
                      refine lV (yNeq rfl rfl) rfl rfl ?_
                      refine known (t := 198) rfl (fun h => hoz (sum_code.1 h).2) ?_
                      refine lNil ?_
                      refine kThen ?_
                      refine kIfT rfl ?_
                      refine kSeq ?_
                      refine kSeq ?_
                      refine kRegion rfl ?_
                      refine lV (yMove rfl) rfl rfl ?_
                      refine lV (yNeq rfl rfl) rfl rfl ?_
                      refine knownN (t := 200) rfl (fun h => h (by rw [sumE_clash hZ hoz])) ?_
                      refine lNil ?_
                      refine kThen ?_
                      refine kIfF rfl ?_
                      refine kSkip ?_
                      refine kThen ?_
                      refine kExit ?_
                      refine kThenX ?_
                      refine kInX ?_
                      refine kThen ?_
                      refine kRegion rfl ?_
                      refine lV (yAdd rfl rfl (by omega)) rfl rfl ?_
                      refine lV (yMove rfl) rfl rfl ?_
                      refine lNil ?_
                      exact kRoundX (i + 1) (by omega) (by omega) rfl (.c rfl .n) (.c rfl (.c rfl (.c rfl (.c rfl (.c rfl (.c rfl (.c rfl (.c rfl (.c rfl (.c rfl (.c rfl (.c rfl (.c rfl (.c rfl (.c rfl (.c rfl (.c rfl (.c rfl (.c rfl (.c rfl (.c rfl (.c rfl (.c rfl (.c rfl (.c rfl (.c rfl (.c rfl (.c rfl (.c rfl (.c rfl (.c rfl (.c rfl (.c rfl (.c rfl (.c rfl (.c rfl (.c rfl (.c rfl (.c rfl (.c rfl (.c rfl (.c rfl (.c rfl (.c rfl (.c rfl (.c rfl (.c rfl (.c rfl (.c rfl (.c rfl (.c rfl (.c rfl (.c rfl (.c rfl (.c rfl (.c rfl (.c rfl (.c rfl (.c rfl (.c rfl (.c rfl (.c rfl (.c rfl (.c rfl (.c rfl (.c rfl (.c rfl (.c rfl (.c rfl (.c rfl (.c rfl (.c rfl (.c rfl (.c rfl (.c rfl (.c rfl (.c rfl (.c rfl (.c rfl (.c rfl (.c rfl (.c rfl (.c rfl (.c rfl (.c rfl (.c rfl (.c rfl (.c rfl (.c rfl (.c rfl (.c rfl (.c rfl (.c rfl (.c rfl (.c rfl (.c rfl (.c rfl (.c rfl (.c rfl (.c rfl (.c rfl (.c rfl .n)))))))))))))))))))))))))))))))))))))))))))))))))))))))))))))))))))))))))))))))))))))))))))))))))))))) (.c 2 rfl (.c 2 rfl (.c 2 rfl (.c 2 rfl (.c 2 rfl (.c 2 rfl (.c 2 rfl (.c 2 rfl (.c 2 rfl (.d 0 (.d 0 .r)))))))))))
                · refine kIfF rfl ?_
                  refine kExit ?_
                  refine kThenX ?_
                  refine kThenX ?_
                  refine kInX ?_
                  refine kThen ?_
                  refine kSeq ?_
                  refine kRegion rfl ?_
                  refine lV (yCall rfl .n C15 (fun w hw => alive_any w)) rfl rfl ?_
                  refine lV (yAssign rfl) rfl rfl ?_
                  refine lNil ?_
                  refine kThen ?_
                  refine kRet ?_
                  refine fRet rfl (.t rfl .n) (endRet ?_)
                  first | rfl | (simp [packV, *]; done)
              · refine kRegion rfl ?_
                refine lV (yLoadA (vs := [_, _, _, _, _, _, _]) rfl A29 (cOwn 5 rfl rfl)) rfl rfl ?_
                refine lV (yCall rfl (.c rfl .n) C27 (fun w hw => drop_any y m w (hm.eff hw))) rfl rfl ?_
                refine same (t := 120) (u := outI (((dropS m : Nat) : Int), 0)) rfl (by rw [dropE_S hM]) ?_
                refine lV (yMove rfl) rfl rfl ?_
                refine lV (yExtract rfl rfl) rfl rfl ?_
                refine lV (yExtract rfl rfl) rfl rfl ?_
                refine lV (yAssign rfl) rfl rfl ?_
                refine lV (yAssign rfl) rfl rfl ?_
                refine lNil ?_
                refine kThen ?_
                refine kSeq ?_
                refine kSeq ?_
                have hap := apart_places hM hh hab
                refine kDrawE [(19, none), (21, none), (23, none), (26, none), (28, none), (30, none), (31, none)] [] [0, 1, 2, 3, 4, 5, 6, 7, 8, 9, 10, 11, 12, 13, 14, 15, 16, 17, 18, 19, 20, 21, 22, 23, 24, 25, 26, 27, 28, 29, 30, 31, 32, 33, 34, 35] 0 hMix (by kernel_rfl) ?_
                refine .run rfl (yMove rfl) rfl rfl ?_
                refine .run rfl (yvFalse (yNeq rfl rfl) (fun h => h rfl)) rfl rfl ?_
                refine .run rfl (yMove rfl) rfl rfl ?_
                refine .runG rfl (yMove rfl) rfl rfl rfl rfl ?_
                refine .runG rfl (yvTrue (yEql rfl rfl) (hh)) rfl rfl rfl rfl ?_
                refine .runG rfl (yMove rfl) rfl rfl rfl rfl ?_
                refine .runG rfl (yMove rfl) rfl rfl rfl rfl ?_
                refine .runG rfl (yMove rfl) rfl rfl rfl rfl ?_
                refine .runG rfl (yvTrue (yNeq rfl rfl) (hab)) rfl rfl rfl rfl ?_
                refine .runG rfl (yPickT rfl rfl) rfl rfl rfl rfl ?_
                refine .runG rfl (yMove rfl) rfl rfl rfl rfl ?_
                refine .runG rfl (yMove rfl) rfl rfl rfl rfl ?_
                refine .runG rfl (yvFalse (yNeq rfl rfl) (fun h => h hap.2.1)) rfl rfl rfl rfl ?_
                refine .runG rfl (yMove rfl) rfl rfl rfl rfl ?_
                refine .runG rfl (yMove rfl) rfl rfl rfl rfl ?_
                refine .runG rfl (yvFalse (yNeq rfl rfl) (fun h => h hap.2.2.1)) rfl rfl rfl rfl ?_
                refine .runG rfl (yPickF rfl rfl) rfl rfl rfl rfl ?_
                refine .runG rfl (yMove rfl) rfl rfl rfl rfl ?_
                refine .runG rfl (yMove rfl) rfl rfl rfl rfl ?_
                refine .runG rfl (yLoadA (vs := [_, _]) rfl A24 (cOwn 0 rfl rfl)) rfl rfl rfl rfl ?_
                refine .runG rfl (yFieldAddr rfl F24_0) rfl rfl rfl rfl ?_
                refine .runG rfl (yLoad1 rfl O3 (cOwn 1 rfl rfl)) rfl rfl rfl rfl ?_
                refine .runG rfl (yFieldAddr rfl F24_1) rfl rfl rfl rfl ?_
                refine .runG rfl (yLoad1 rfl O3 (cOwn 2 rfl rfl)) rfl rfl rfl rfl ?_
                refine .runG rfl (ySub rfl rfl (by have := hap.2.2.2.1; have := hap.2.2.2.2.1; omega)) rfl rfl rfl rfl ?_
                refine .runG rfl (yFieldAddr rfl F24_1) rfl rfl rfl rfl ?_
                refine .runG rfl (yLoad1 rfl O3 (cOwn 1 rfl rfl)) rfl rfl rfl rfl ?_
                refine .runG rfl (yFieldAddr rfl F24_0) rfl rfl rfl rfl ?_
                refine .runG rfl (yLoad1 rfl O3 (cOwn 2 rfl rfl)) rfl rfl rfl rfl ?_
                refine .runG rfl (ySub rfl rfl (by have := hap.2.2.2.1; have := hap.2.2.2.2.1; omega)) rfl rfl rfl rfl ?_
                refine .runG rfl (yCall rfl (.c rfl (.c rfl .n)) C30 (fun w hw => spanL_any _ _ w)) rfl rfl rfl rfl ?_
                refine .runG rfl (yvIs (c := true) (yCall rfl (.c rfl (.c rfl .n)) C34 (fun w hw => inL_any (apartE m a c).1 ((placeE m c).1.1 - (placeE m a).1.2, (placeE m c).1.2 - (placeE m a).1.1) w)) (decide_eq_true hap.2.2.2.2.2)) rfl rfl rfl rfl ?_
                refine .runG rfl (yNot rfl) rfl rfl rfl rfl ?_
                refine .runG rfl (yPickF rfl rfl) rfl rfl rfl rfl ?_
                refine .runG rfl (yPickT rfl rfl) rfl rfl rfl rfl ?_
                refine .run rfl (yPickF rfl rfl) rfl rfl ?_
                refine .done ?_
                refine effDone closedSt (hLeft [19, 21, 23, 26, 28, 30, 31] (by kernel_rfl) (.c (fun _ _ hs => hs.ef) (.c (fun _ _ hs => hs.ef) (.c (fun _ _ hs => hs.ef) (.c (fun _ _ hs => hs.ef) (.c (fun _ _ hs => hs.ef) (.c (fun _ _ hs => hs.ef) (.c (fun _ _ hs => hs.ef) .n)))))))) (by kernel_rfl) ?_
                refine kThen ?_
                refine kIfF rfl ?_
                refine kSkip ?_
                refine kThen ?_
                refine kSeq ?_
                refine kSeq ?_
                refine kRegion rfl ?_
                refine lV (yLoadA (vs := [_, _, _, _, _, _, _]) rfl A29 (cOwn 7 rfl rfl)) rfl rfl ?_
                refine lV (yLoadA (vs := [_, _, _, _, _, _, _]) rfl A29 (cOwn 4 rfl rfl)) rfl rfl ?_
                refine lE rfl ?_
                refine eBuildSlice (.c rfl (.c rfl .n)) (fun w => BS59_2_0_1 w) fun n161 => ?_
                refine lV (yLen rfl S59) rfl rfl ?_
                refine lV (yMove rfl) rfl rfl ?_
                refine lNil ?_
                refine kThen ?_
                refine kBlock ?_
                refine kLoopX (ι := Nat) (fun i => i ≤ 2) (fun i => [(163, i64 (i : Nat))]) [(0, _), (1, _), (2, _), (3, _), (4, _), (5, _), (6, _), (11, _), (12, _), (58, _), (59, _), (60, _), (61, _), (62, _), (63, _), (64, _), (65, _), (66, _), (67, _), (68, _), (69, _), (70, _), (71, _), (72, _), (73, _), (74, _), (75, _), (76, _), (77, _), (78, _), (79, _), (80, _), (81, _), (82, _), (83, _), (84, _), (85, _), (86, _), (87, _), (88, _), (89, _), (90, _), (91, _), (92, _), (93, _), (13, _), (95, _), (96, _), (94, _), (97, _), (98, _), (14, _), (15, _), (100, _), (101, _), (102, _), (99, _), (103, _), (104, _), (16, _), (17, _), (106, _), (107, _), (108, _), (105, _), (109, _), (110, _), (18, _), (19, _), (112, _), (113, _), (114, _), (115, _), (111, _), (116, _), (117, _), (20, _), (21, _), (119, _), (120, _), (118, _), (121, _), (122, _), (22, _), (23, _), (123, _), (124, _), (125, _), (126, _), (127, _), (128, _), (129, _), (130, _), (131, _), (132, _), (133, _), (134, _), (135, _), (136, _), (137, _), (138, _), (139, _), (140, _), (141, _), (142, _), (143, _), (144, _), (145, _), (146, _), (147, _), (148, _), (149, _), (150, _), (151, _), (152, _), (153, _), (154, _), (155, _), (156, _), (157, _), (158, _), (159, _), (160, _), (161, _), (162, _)] (fun i => []) (fun i => osL 49 g) [(n161, _), (n20, _), (n18, _), (n16, _), (n14, _), (n12, _), (n5, _), (n6, _), (n11, _)] (fun i => 2 - i) 0 (by omega) rfl (.c rfl .n) (.c rfl (.c rfl (.c rfl (.c rfl (.c rfl (.c rfl (.c rfl (.c rfl (.c rfl (.c rfl (.c rfl (.c rfl (.c rfl (.c rfl (.c rfl (.c rfl (.c rfl (.c rfl (.c rfl (.c rfl (.c rfl (.c rfl (.c rfl (.c rfl (.c rfl (.c rfl (.c rfl (.c rfl (.c rfl (.c rfl (.c rfl (.c rfl (.c rfl (.c rfl (.c rfl (.c rfl (.c rfl (.c rfl (.c rfl (.c rfl (.c rfl (.c rfl (.c rfl (.c rfl (.c rfl (.c rfl (.c rfl (.c rfl (.c rfl (.c rfl (.c rfl (.c rfl (.c rfl (.c rfl (.c rfl (.c rfl (.c rfl (.c rfl (.c rfl (.c rfl (.c rfl (.c rfl (.c rfl (.c rfl (.c rfl (.c rfl (.c rfl (.c rfl (.c rfl (.c rfl (.c rfl (.c rfl (.c rfl (.c rfl (.c rfl (.c rfl (.c rfl (.c rfl (.c rfl (.c rfl (.c rfl (.c rfl (.c rfl (.c rfl (.c rfl (.c rfl (.c rfl (.c rfl (.c rfl (.c rfl (.c rfl (.c rfl (.c rfl (.c rfl (.c rfl (.c rfl (.c rfl (.c rfl (.c rfl (.c rfl (.c rfl (.c rfl (.c rfl (.c rfl (.c rfl (.c rfl (.c rfl (.c rfl (.c rfl (.c rfl (.c rfl (.c rfl (.c rfl (.c rfl (.c rfl (.c rfl (.c rfl (.c rfl (.c rfl (.c rfl (.c rfl (.c rfl (.c rfl (.c rfl (.c rfl .n))))))))))))))))))))))))))))))))))))))))))))))))))))))))))))))))))))))))))))))))))))))))))))))))))))))))))))))))))))))))))))) (.c 0 rfl (.c 0 rfl (.c 0 rfl (.c 0 rfl (.c 0 rfl (.c 0 rfl (.c 0 rfl (.c 0 rfl (.c 0 rfl .r))))))))) ?_
                rintro i hi
                refine kSeq ?_
                refine kRegion rfl ?_
                refine lV (yLss rfl rfl) rfl rfl ?_
                refine lNil ?_
                refine kThen ?_
                refine kSeq ?_
                refine split (t := 164) rfl (fun h164 => ?_) (fun h164 => ?_)
                · refine kIfT rfl ?_
                  refine kSkip ?_
                  refine kThen ?_
                  refine kSeq ?_
                  refine kBlock ?_
                  refine kSeq ?_
                  obtain ⟨yz, z, hsub, hfin, hin⟩ := pick_more (b := b) (show i < 2 by omega) hm hM hg
                  have hnz : z.errs.length ≤ 1000000 := by have := hfin.errs; omega
                  refine kRegion rfl ?_
                  refine lV (yIndexSl rfl rfl S59 (by omega) (by omega)) rfl rfl ?_
                  refine lV (yLoadA (vs := (measC yz z)) rfl A29 (cOwn 0 rfl (hsub))) rfl rfl ?_
                  refine lE rfl ?_
                  refine eAlloc Z29 fun n25 => ?_
                  refine lE rfl ?_
                  refine eStoreL 0 rfl rfl rfl rfl K29 rfl (rfl) ?_
                  refine lNil ?_
                  refine kThen ?_
                  refine kSeq ?_
                  refine kSeq ?_
                  refine kRegion rfl ?_
                  refine lV (yLoadA (vs := [_, _, _, _, _, _, _]) rfl A29 (cOwn 0 rfl rfl)) rfl rfl ?_
                  refine lV (yCall rfl (.c rfl .n) C28 (fun w hw => rmeasure_any yz z w (hin w (hw.sub (.d 0 (.d 0 (.d 0 (.d 0 (.d 0 (.d 0 (.d 0 (.d 0 (.d 0 (.d 0 .r)))))))))))) hnz)) rfl rfl ?_
                  refine lV (yNot rfl) rfl rfl ?_
                  refine lNil ?_
                  refine kThen ?_
                  refine splitB (t := 169) rfl (fun h169 => ?_) (fun h169 => ?_)
                  · refine kIfT rfl ?_
                    refine kExit ?_
                    refine kThenX ?_
                    refine kInX ?_
                    refine kThen ?_
                    refine kRegion rfl ?_
                    refine lV (yAdd rfl rfl (by omega)) rfl rfl ?_
                    refine lV (yMove rfl) rfl rfl ?_
                    refine lNil ?_
                    exact kRoundX (i + 1) (by omega) (by omega) rfl (.c rfl .n) (.c rfl (.c rfl (.c rfl (.c rfl (.c rfl (.c rfl (.c rfl (.c rfl (.c rfl (.c rfl (.c rfl (.c rfl (.c rfl (.c rfl (.c rfl (.c rfl (.c rfl (.c rfl (.c rfl (.c rfl (.c rfl (.c rfl (.c rfl (.c rfl (.c rfl (.c rfl (.c rfl (.c rfl (.c rfl (.c rfl (.c rfl (.c rfl (.c rfl (.c rfl (.c rfl (.c rfl (.c rfl (.c rfl (.c rfl (.c rfl (.c rfl (.c rfl (.c rfl (.c rfl (.c rfl (.c rfl (.c rfl (.c rfl (.c rfl (.c rfl (.c rfl (.c rfl (.c rfl (.c rfl (.c rfl (.c rfl (.c rfl (.c rfl (.c rfl (.c rfl (.c rfl (.c rfl (.c rfl (.c rfl (.c rfl (.c rfl (.c rfl (.c rfl (.c rfl (.c rfl (.c rfl (.c rfl (.c rfl (.c rfl (.c rfl (.c rfl (.c rfl (.c rfl (.c rfl (.c rfl (.c rfl (.c rfl (.c rfl (.c rfl (.c rfl (.c rfl (.c rfl (.c rfl (.c rfl (.c rfl (.c rfl (.c rfl (.c rfl (.c rfl (.c rfl (.c rfl (.c rfl (.c rfl (.c rfl (.c rfl (.c rfl (.c rfl (.c rfl (.c rfl (.c rfl (.c rfl (.c rfl (.c rfl (.c rfl (.c rfl (.c rfl (.c rfl (.c rfl (.c rfl (.c rfl (.c rfl (.c rfl (.c rfl (.c rfl (.c rfl (.c rfl (.c rfl (.c rfl (.c rfl (.c rfl .n))))))))))))))))))))))))))))))))))))))))))))))))))))))))))))))))))))))))))))))))))))))))))))))))))))))))))))))))))))))))))))) (.c 1 rfl (.c 1 rfl (.c 1 rfl (.c 1 rfl (.c 1 rfl (.c 1 rfl (.c 1 rfl (.c 1 rfl (.c 1 rfl (.d 0 .r))))))))))
                  · refine kIfF rfl ?_
                    refine kSkip ?_
                    refine kThen ?_
                    refine kSeq ?_
                    have hZ := notF h169
                    have cz := clash_facts hZ
                    have dlz := cz.dle
                    have hFz := fullS_lt hZ
                    have hdz := hfin.drop hZ
                    refine kRegion rfl ?_
                    refine lV (yLoadA (vs := [_, _, _, _, _, _, _]) rfl A29 (cOwn 0 rfl rfl)) rfl rfl ?_
                    refine lV (yCall rfl (.c rfl .n) C27 (fun w hw => drop_any yz z w (hin w (hw.sub (.d 0 (.d 0 (.d 0 (.d 0 (.d 0 (.d 0 (.d 0 (.d 0 (.d 0 (.d 0 .r)))))))))))))) rfl rfl ?_
                    refine same (t := 172) (u := outI (((dropS z : Nat) : Int), 0)) rfl (by rw [dropE_S hZ]) ?_
                    refine lV (yMove rfl) rfl rfl ?_
                    refine lV (yExtract rfl rfl) rfl rfl ?_
                    refine lV (yExtract rfl rfl) rfl rfl ?_
                    refine lV (yAssign rfl) rfl rfl ?_
                    refine lV (yAssign rfl) rfl rfl ?_
                    refine lNil ?_
                    refine kThen ?_
                    refine kSeq ?_
                    refine kSeq ?_
                    refine kRegion rfl ?_
                    refine lV (yMove rfl) rfl rfl ?_
                    refine lV (yNeq rfl rfl) rfl rfl ?_
                    refine knownN (t := 176) rfl (fun h => h rfl) ?_
                    refine lV (yMove rfl) rfl rfl ?_
                    refine lGY rfl rfl rfl (oV (yMove rfl) rfl ?_)
                    refine lGY rfl rfl rfl (oV (yLss rfl rfl) rfl ?_)
                    refine knownN (t := 179) rfl (by omega) ?_
                    refine lV (yPickF rfl rfl) rfl rfl ?_
                    refine lV (yMove rfl) rfl rfl ?_
                    refine lGY rfl rfl rfl (oV (yMove rfl) rfl ?_)
                    refine lGY rfl rfl rfl (oV (yLss rfl rfl) rfl ?_)
                    refine knownN (t := 183) rfl (by omega) ?_
                    refine lV (yPickF rfl rfl) rfl rfl ?_
                    refine lV (yMove rfl) rfl rfl ?_
                    refine lGY rfl rfl rfl (oV (yMove rfl) rfl ?_)
                    refine lGY rfl rfl rfl (oV (yCall rfl (.c rfl .n) C33 (fun w hw => size_any (dropS z) w (by omega))) rfl ?_)
                    refine lGY rfl rfl rfl (oV (yMove rfl) rfl ?_)
                    refine lGY rfl rfl rfl (oV (yCall rfl (.c rfl .n) C33 (fun w hw => size_any (dropS m) w (by omega))) rfl ?_)
                    refine lGY rfl rfl rfl (oV (yLss rfl rfl) rfl ?_)
                    refine knownN (t := 190) rfl (by omega) ?_
                    refine lV (yPickF rfl rfl) rfl rfl ?_
                    refine lNil ?_
                    refine kThen ?_
                    refine kIfF rfl ?_
                    refine kSkip ?_
                    refine kThen ?_
                    refine kSeq ?_
                    by_cases hoz : okF z
                    · refine kRegion rfl ?_
                      refine lV (yLoadA (vs := [_, _, _, _, _, _, _]) rfl A29 (cOwn 0 rfl rfl)) rfl rfl ?_
                      refine lV (yCall rfl (.c rfl .n) C18 (fun w hw => sum_any yz z w (hin w (hw.sub (.d 0 (.d 0 (.d 0 (.d 0 (.d 0 (.d 0 (.d 0 (.d 0 (.d 0 (.d 0 .r)))))))))))))) rfl rfl ?_
                      refine lV (yMove rfl) rfl rfl ?_
                      refine lV (yExtract rfl rfl) rfl rfl ?_
                      refine lV (yExtract rfl rfl) rfl rfl ?_
                      refine lE rfl ?_
                      refine eAlloc Z24 fun n28 => ?_
                      refine lE rfl ?_
                      refine eStoreL 0 rfl rfl rfl rfl K24 rfl (rfl) ?_
                      refine lV (yAssign rfl) rfl rfl ?_
                      refine lNil ?_
                      refine kThen ?_
                      refine kSeq ?_
                      refine kSeq ?_
                      refine kRegion rfl ?_
                      refine lV (yMove rfl) rfl rfl ?_
                      refine lV (yNeq rfl rfl) rfl rfl ?_
                      refine knownN (t := 198) rfl (fun h => h ((sum_code).2 ⟨hZ, hoz⟩)) ?_
                      refine lNil ?_
                      refine kThen ?_
                      refine kIfF rfl ?_
                      refine kSkip ?_
                      refine kThen ?_
                      refine kSeq ?_
                      have hom := hfin.ok hM hZ hoz
                      refine kRegion rfl ?_
                      refine lV (yLoadA (vs := [_, _, _, _, _, _, _]) rfl A29 (cOwn 1 rfl rfl)) rfl rfl ?_
                      refine lV (yMove rfl) rfl rfl ?_
                      refine lV (yCall rfl (.c rfl (.c rfl .n)) C20 (fun w hw => place_any yz z a w (hin w (hw.sub (.d 0 (.d 0 (.d 0 (.d 0 (.d 0 (.d 0 (.d 0 (.d 0 (.d 0 (.d 0 (.d 0 .r))))))))))))))) rfl rfl ?_
                      refine lV (yMove rfl) rfl rfl ?_
                      refine lV (yExtract rfl rfl) rfl rfl ?_
                      refine lV (yExtract rfl rfl) rfl rfl ?_
                      refine lE rfl ?_
                      refine eAlloc Z24 fun n30 => ?_
                      refine lE rfl ?_
                      refine eStoreL 0 rfl rfl rfl rfl K24 rfl (rfl) ?_
                      refine lV (yAssign rfl) rfl rfl ?_
                      refine lNil ?_
                      refine kThen ?_
                      refine kSeq ?_
                      refine kRegion rfl ?_
                      refine lV (yLoadA (vs := [_, _, _, _, _, _, _]) rfl A29 (cOwn 2 rfl rfl)) rfl rfl ?_
                      refine lV (yMove rfl) rfl rfl ?_
                      refine lV (yMove rfl) rfl rfl ?_
                      refine lV (yCall rfl (.c rfl (.c rfl (.c rfl .n))) C22 (fun w hw => apart_any yz z a c w (hin w (hw.sub (.d 0 (.d 0 (.d 0 (.d 0 (.d 0 (.d 0 (.d 0 (.d 0 (.d 0 (.d 0 (.d 0 (.d 0 .r)))))))))))))))) rfl rfl ?_
                      refine lV (yMove rfl) rfl rfl ?_
                      refine lV (yExtract rfl rfl) rfl rfl ?_
                      refine lV (yExtract rfl rfl) rfl rfl ?_
                      refine lE rfl ?_
                      refine eAlloc Z24 fun n32 => ?_
                      refine lE rfl ?_
                      refine eStoreL 0 rfl rfl rfl rfl K24 rfl (rfl) ?_
                      refine lV (yAssign rfl) rfl rfl ?_
                      refine lNil ?_
                      refine kThen ?_
                      refine kSeq ?_
                      refine kRegion rfl ?_
                      refine lV (yMove rfl) rfl rfl ?_
                      refine lV (yNeq rfl rfl) rfl rfl ?_
                      refine knownN (t := 215) rfl (fun h => h (sum_code.2 ⟨hM, hom⟩)) ?_
                      refine lV (yMove rfl) rfl rfl ?_
                      refine lGY rfl rfl rfl (oV (yMove rfl) rfl ?_)
                      refine lGY rfl rfl rfl (oV (yLoadA (vs := [_, _]) rfl A24 (cOwn 2 rfl rfl)) rfl ?_)
                      refine lGY rfl rfl rfl (oV (yLoadA (vs := [_, _]) rfl A24 (cOwn 8 rfl rfl)) rfl ?_)
                      refine lGY rfl rfl rfl (oV (yCall rfl (.c rfl (.c rfl .n)) C34 (fun w hw => inL_any (sumE z).1 (sumE m).1 w)) rfl ?_)
                      refine knownB (t := 220) (c := true) rfl (decide_eq_true (finer_sum hfin hM hZ hoz)) ?_
                      refine lGY rfl rfl rfl (oV (yNot rfl) rfl ?_)
                      refine lV (yPickF rfl rfl) rfl rfl ?_
                      refine lV (yMove rfl) rfl rfl ?_
                      refine lGY rfl rfl rfl (oV (yMove rfl) rfl ?_)
                      refine lGY rfl rfl rfl (oV (yEql rfl rfl) rfl ?_)
                      refine lGY rfl rfl rfl (oV (yMove rfl) rfl ?_)
                      refine split (t := 226) rfl (fun h226 => ?_) (fun h226 => ?_)
                      · refine lGY rfl rfl rfl (oV (yMove rfl) rfl ?_)
                        refine lGY rfl rfl rfl (oV (yNeq rfl rfl) rfl ?_)
                        refine knownN (t := 228) rfl (fun h => h (finer_place hfin hM hZ hoz h226).1) ?_
                        refine lGY rfl rfl rfl (oV (yMove rfl) rfl ?_)
                        refine lGY rfl rfl rfl (oV (yMove rfl) rfl ?_)
                        refine lGY rfl rfl rfl (oV (yLoadA (vs := [_, _]) rfl A24 (cOwn 1 rfl rfl)) rfl ?_)
                        refine lGY rfl rfl rfl (oV (yLoadA (vs := [_, _]) rfl A24 (cOwn 7 rfl rfl)) rfl ?_)
                        refine lGY rfl rfl rfl (oV (yCall rfl (.c rfl (.c rfl .n)) C34 (fun w hw => inL_any (placeE z a).1 (placeE m a).1 w)) rfl ?_)
                        refine knownB (t := 233) (c := true) rfl (decide_eq_true (finer_place hfin hM hZ hoz h226).2) ?_
                        refine lGY rfl rfl rfl (oV (yNot rfl) rfl ?_)
                        refine lGY rfl rfl rfl (oV (yPickF rfl rfl) rfl ?_)
                        refine lGY rfl rfl rfl (oV (yPickT rfl rfl) rfl ?_)
                        refine lV (yPickF rfl rfl) rfl rfl ?_
                        refine lV (yMove rfl) rfl rfl ?_
                        refine lGY rfl rfl rfl (oV (yMove rfl) rfl ?_)
                        refine lGY rfl rfl rfl (oV (yEql rfl rfl) rfl ?_)
                        refine known (t := 240) rfl (hh) ?_
                        refine lGY rfl rfl rfl (oV (yMove rfl) rfl ?_)
                        refine lGY rfl rfl rfl (oV (yMove rfl) rfl ?_)
                        refine lGY rfl rfl rfl (oV (yNeq rfl rfl) rfl ?_)
                        refine knownN (t := 243) rfl (fun h => h (finer_apart hfin hM hZ hoz hh).1) ?_
                        refine lGY rfl rfl rfl (oV (yMove rfl) rfl ?_)
                        refine lGY rfl rfl rfl (oV (yMove rfl) rfl ?_)
                        refine lGY rfl rfl rfl (oV (yLoadA (vs := [_, _]) rfl A24 (cOwn 0 rfl rfl)) rfl ?_)
                        refine lGY rfl rfl rfl (oV (yLoadA (vs := [_, _]) rfl A24 (cOwn 5 rfl rfl)) rfl ?_)
                        refine lGY rfl rfl rfl (oV (yCall rfl (.c rfl (.c rfl .n)) C34 (fun w hw => inL_any (apartE z a c).1 (apartE m a c).1 w)) rfl ?_)
                        refine knownB (t := 248) (c := true) rfl (decide_eq_true (finer_apart hfin hM hZ hoz hh).2) ?_
                        refine lGY rfl rfl rfl (oV (yNot rfl) rfl ?_)
                        refine lGY rfl rfl rfl (oV (yPickF rfl rfl) rfl ?_)
                        refine lGY rfl rfl rfl (oV (yPickT rfl rfl) rfl ?_)
                        refine lV (yPickF rfl rfl) rfl rfl ?_
                        refine lNil ?_
                        refine kThen ?_
                        refine kIfF rfl ?_
                        refine kSkip ?_
                        refine kInN ?_
                        refine kThen ?_
                        refine kRegion rfl ?_
                        refine lV (yAdd rfl rfl (by omega)) rfl rfl ?_
                        refine lV (yMove rfl) rfl rfl ?_
                        refine lNil ?_
                        exact kRoundX (i + 1) (by omega) (by omega) rfl (.c rfl .n) (.c rfl (.c rfl (.c rfl (.c rfl (.c rfl (.c rfl (.c rfl (.c rfl (.c rfl (.c rfl (.c rfl (.c rfl (.c rfl (.c rfl (.c rfl (.c rfl (.c rfl (.c rfl (.c rfl (.c rfl (.c rfl (.c rfl (.c rfl (.c rfl (.c rfl (.c rfl (.c rfl (.c rfl (.c rfl (.c rfl (.c rfl (.c rfl (.c rfl (.c rfl (.c rfl (.c rfl (.c rfl (.c rfl (.c rfl (.c rfl (.c rfl (.c rfl (.c rfl (.c rfl (.c rfl (.c rfl (.c rfl (.c rfl (.c rfl (.c rfl (.c rfl (.c rfl (.c rfl (.c rfl (.c rfl (.c rfl (.c rfl (.c rfl (.c rfl (.c rfl (.c rfl (.c rfl (.c rfl (.c rfl (.c rfl (.c rfl (.c rfl (.c rfl (.c rfl (.c rfl (.c rfl (.c rfl (.c rfl (.c rfl (.c rfl (.c rfl (.c rfl (.c rfl (.c rfl (.c rfl (.c rfl (.c rfl (.c rfl (.c rfl (.c rfl (.c rfl (.c rfl (.c rfl (.c rfl (.c rfl (.c rfl (.c rfl (.c rfl (.c rfl (.c rfl (.c rfl (.c rfl (.c rfl (.c rfl (.c rfl (.c rfl (.c rfl (.c rfl (.c rfl (.c rfl (.c rfl (.c rfl (.c rfl (.c rfl (.c rfl (.c rfl (.c rfl (.c rfl (.c rfl (.c rfl (.c rfl (.c rfl (.c rfl (.c rfl (.c rfl (.c rfl (.c rfl (.c rfl (.c rfl (.c rfl .n))))))))))))))))))))))))))))))))))))))))))))))))))))))))))))))))))))))))))))))))))))))))))))))))))))))))))))))))))))))))))))) (.c 4 rfl (.c 4 rfl (.c 4 rfl (.c 4 rfl (.c 4 rfl (.c 4 rfl (.c 4 rfl (.c 4 rfl (.c 4 rfl (.d 0 (.d 0 (.d 0 (.d 0 .r)))))))))))))
                      · refine lGN rfl rfl rfl rfl rfl ?_
                        refine lGN rfl rfl rfl rfl rfl ?_
                        refine lGN rfl rfl rfl rfl rfl ?_
                        refine lGU rfl rfl rfl rfl ?_
                        refine lGU rfl rfl rfl rfl ?_
                        refine lGU rfl rfl rfl rfl ?_
                        refine lGU rfl rfl rfl rfl ?_
                        refine lGU rfl rfl rfl rfl ?_
                        refine lGN rfl rfl rfl rfl rfl ?_
                        refine lGY rfl rfl rfl (oV (yPickF rfl rfl) rfl ?_)
                        refine lV (yPickF rfl rfl) rfl rfl ?_
                        refine lV (yMove rfl) rfl rfl ?_
                        refine lGY rfl rfl rfl (oV (yMove rfl) rfl ?_)
                        refine lGY rfl rfl rfl (oV (yEql rfl rfl) rfl ?_)
                        refine known (t := 240) rfl (hh) ?_
                        refine lGY rfl rfl rfl (oV (yMove rfl) rfl ?_)
                        refine lGY rfl rfl rfl (oV (yMove rfl) rfl ?_)
                        refine lGY rfl rfl rfl (oV (yNeq rfl rfl) rfl ?_)
                        refine knownN (t := 243) rfl (fun h => h (finer_apart hfin hM hZ hoz hh).1) ?_
                        refine lGY rfl rfl rfl (oV (yMove rfl) rfl ?_)
                        refine lGY rfl rfl rfl (oV (yMove rfl) rfl ?_)
                        refine lGY rfl rfl rfl (oV (yLoadA (vs := [_, _]) rfl A24 (cOwn 0 rfl rfl)) rfl ?_)
                        refine lGY rfl rfl rfl (oV (yLoadA (vs := [_, _]) rfl A24 (cOwn 5 rfl rfl)) rfl ?_)
                        refine lGY rfl rfl rfl (oV (yCall rfl (.c rfl (.c rfl .n)) C34 (fun w hw => inL_any (apartE z a c).1 (apartE m a c).1 w)) rfl ?_)
                        refine knownB (t := 248) (c := true) rfl (decide_eq_true (finer_apart hfin hM hZ hoz hh).2) ?_
                        refine lGY rfl rfl rfl (oV (yNot rfl) rfl ?_)
                        refine lGY rfl rfl rfl (oV (yPickF rfl rfl) rfl ?_)
                        refine lGY rfl rfl rfl (oV (yPickT rfl rfl) rfl ?_)
                        refine lV (yPickF rfl rfl) rfl rfl ?_
                        refine lNil ?_
                        refine kThen ?_
                        refine kIfF rfl ?_
                        refine kSkip ?_
                        refine kInN ?_
                        refine kThen ?_
                        refine kRegion rfl ?_
                        refine lV (yAdd rfl rfl (by omega)) rfl rfl ?_
                        refine lV (yMove rfl) rfl rfl ?_
                        refine lNil ?_
                        exact kRoundX (i + 1) (by omega) (by omega) rfl (.c rfl .n) (.c rfl (.c rfl (.c rfl (.c rfl (.c rfl (.c rfl (.c rfl (.c rfl (.c rfl (.c rfl (.c rfl (.c rfl (.c rfl (.c rfl (.c rfl (.c rfl (.c rfl (.c rfl (.c rfl (.c rfl (.c rfl (.c rfl (.c rfl (.c rfl (.c rfl (.c rfl (.c rfl (.c rfl (.c rfl (.c rfl (.c rfl (.c rfl (.c rfl (.c rfl (.c rfl (.c rfl (.c rfl (.c rfl (.c rfl (.c rfl (.c rfl (.c rfl (.c rfl (.c rfl (.c rfl (.c rfl (.c rfl (.c rfl (.c rfl (.c rfl (.c rfl (.c rfl (.c rfl (.c rfl (.c rfl (.c rfl (.c rfl (.c rfl (.c rfl (.c rfl (.c rfl (.c rfl (.c rfl (.c rfl (.c rfl (.c rfl (.c rfl (.c rfl (.c rfl (.c rfl (.c rfl (.c rfl (.c rfl (.c rfl (.c rfl (.c rfl (.c rfl (.c rfl (.c rfl (.c rfl (.c rfl (.c rfl (.c rfl (.c rfl (.c rfl (.c rfl (.c rfl (.c rfl (.c rfl (.c rfl (.c rfl (.c rfl (.c rfl (.c rfl (.c rfl (.c rfl (.c rfl (.c rfl (.c rfl (.c rfl (.c rfl (.c rfl (.c rfl (.c rfl (.c rfl (.c rfl (.c rfl (.c rfl (.c rfl (.c rfl (.c rfl (.c rfl (.c rfl (.c rfl (.c rfl (.c rfl (.c rfl (.c rfl (.c rfl (.c rfl (.c rfl (.c rfl (.c rfl (.c rfl (.c rfl .n))))))))))))))))))))))))))))))))))))))))))))))))))))))))))))))))))))))))))))))))))))))))))))))))))))))))))))))))))))))))))))) (.c 4 rfl (.c 4 rfl (.c 4 rfl (.c 4 rfl (.c 4 rfl (.c 4 rfl (.c 4 rfl (.c 4 rfl (.c 4 rfl (.d 0 (.d 0 (.d 0 (.d 0 .r)))))))))))))
                    · refine kRegion rfl ?_
                      refine lV (yLoadA (vs := [_, _, _, _, _, _, _]) rfl A29 (cOwn 0 rfl rfl)) rfl rfl ?_
                      refine lV (yCall rfl (.c rfl .n) C18 (fun w hw => sum_any yz z w (hin w (hw.sub (.d 0 (.d 0 (.d 0 (.d 0 (.d 0 (.d 0 (.d 0 (.d 0 (.d 0 (.d 0 .r)))))))))))))) rfl rfl ?_
                      refine lV (yMove rfl) rfl rfl ?_
                      refine lV (yExtract rfl rfl) rfl rfl ?_
                      refine lV (yExtract rfl rfl) rfl rfl ?_
                      refine lE rfl ?_
                      refine eAlloc Z24 fun n28 => ?_
                      refine lE rfl ?_
                      refine eStoreL 0 rfl rfl rfl rfl K24 rfl (rfl) ?_
                      refine lV (yAssign rfl) rfl rfl ?_
                      refine lNil ?_
                      refine kThen ?_
                      refine kSeq ?_
                      refine kSeq ?_
                      refine kRegion rfl ?_
                      refine lV (yMove rfl) rfl rfl ?_
                      refine lV (yNeq rfl rfl) rfl rfl ?_
                      refine known (t := 198) rfl (fun h => hoz (sum_code.1 h).2) ?_
                      refine lNil ?_
                      refine kThen ?_
                      refine kIfT rfl ?_
                      refine kSeq ?_
                      refine kSeq ?_
                      refine kRegion rfl ?_
                      refine lV (yMove rfl) rfl rfl ?_
                      refine lV (yNeq rfl rfl) rfl rfl ?_
                      refine knownN (t := 200) rfl (fun h => h (by rw [sumE_clash hZ hoz])) ?_
                      refine lNil ?_
                      refine kThen ?_
                      refine kIfF rfl ?_
                      refine kSkip ?_
                      refine kThen ?_
                      refine kExit ?_
                      refine kThenX ?_
                      refine kInX ?_
                      refine kThen ?_
                      refine kRegion rfl ?_
                      refine lV (yAdd rfl rfl (by omega)) rfl rfl ?_
                      refine lV (yMove rfl) rfl rfl ?_
                      refine lNil ?_
                      exact kRoundX (i + 1) (by omega) (by omega) rfl (.c rfl .n) (.c rfl (.c rfl (.c rfl (.c rfl (.c rfl (.c rfl (.c rfl (.c rfl (.c rfl (.c rfl (.c rfl (.c rfl (.c rfl (.c rfl (.c rfl (.c rfl (.c rfl (.c rfl (.c rfl (.c rfl (.c rfl (.c rfl (.c rfl (.c rfl (.c rfl (.c rfl (.c rfl (.c rfl (.c rfl (.c rfl (.c rfl (.c rfl (.c rfl (.c rfl (.c rfl (.c rfl (.c rfl (.c rfl (.c rfl (.c rfl (.c rfl (.c rfl (.c rfl (.c rfl (.c rfl (.c rfl (.c rfl (.c rfl (.c rfl (.c rfl (.c rfl (.c rfl (.c rfl (.c rfl (.c rfl (.c rfl (.c rfl (.c rfl (.c rfl (.c rfl (.c rfl (.c rfl (.c rfl (.c rfl (.c rfl (.c rfl (.c rfl (.c rfl (.c rfl (.c rfl (.c rfl (.c rfl (.c rfl (.c rfl (.c rfl (.c rfl (.c rfl (.c rfl (.c rfl (.c rfl (.c rfl (.c rfl (.c rfl (.c rfl (.c rfl (.c rfl (.c rfl (.c rfl (.c rfl (.c rfl (.c rfl (.c rfl (.c rfl (.c rfl (.c rfl (.c rfl (.c rfl (.c rfl (.c rfl (.c rfl (.c rfl (.c rfl (.c rfl (.c rfl (.c rfl (.c rfl (.c rfl (.c rfl (.c rfl (.c rfl (.c rfl (.c rfl (.c rfl (.c rfl (.c rfl (.c rfl (.c rfl (.c rfl (.c rfl (.c rfl (.c rfl (.c rfl (.c rfl (.c rfl (.c rfl .n))))))))))))))))))))))))))))))))))))))))))))))))))))))))))))))))))))))))))))))))))))))))))))))))))))))))))))))))))))))))))))) (.c 2 rfl (.c 2 rfl (.c 2 rfl (.c 2 rfl (.c 2 rfl (.c 2 rfl (.c 2 rfl (.c 2 rfl (.c 2 rfl (.d 0 (.d 0 .r)))))))))))
                · refine kIfF rfl ?_
                  refine kExit ?_
                  refine kThenX ?_
                  refine kThenX ?_
                  refine kInX ?_
                  refine kThen ?_
                  refine kSeq ?_
                  refine kRegion rfl ?_
                  refine lV (yCall rfl .n C15 (fun w hw => alive_any w)) rfl rfl ?_
                  refine lV (yAssign rfl) rfl rfl ?_
                  refine lNil ?_
                  refine kThen ?_
                  refine kRet ?_
                  refine fRet rfl (.t rfl .n) (endRet ?_)
                  first | rfl | (simp [packV, *]; done)
            · refine kRegion rfl ?_
              refine lV (yLoadA (vs := [_, _, _, _, _, _, _]) rfl A29 (cOwn 4 rfl rfl)) rfl rfl ?_
              refine lV (yMove rfl) rfl rfl ?_
              refine lV (yMove rfl) rfl rfl ?_
              refine lV (yCall rfl (.c rfl (.c rfl (.c rfl .n))) C22 (fun w hw => apart_any y m a c w (hm.eff hw))) rfl rfl ?_
              refine lV (yMove rfl) rfl rfl ?_
              refine lV (yExtract rfl rfl) rfl rfl ?_
              refine lV (yExtract rfl rfl) rfl rfl ?_
              refine lE rfl ?_
              refine eAlloc Z24 fun n20 => ?_
              refine lE rfl ?_
              refine eStoreL 0 rfl rfl rfl rfl K24 rfl (rfl) ?_
              refine lV (yAssign rfl) rfl rfl ?_
              refine lNil ?_
              refine kThen ?_
              refine kSeq ?_
              refine kRegion rfl ?_
              refine lV (yLoadA (vs := [_, _, _, _, _, _, _]) rfl A29 (cOwn 5 rfl rfl)) rfl rfl ?_
              refine lV (yCall rfl (.c rfl .n) C27 (fun w hw => drop_any y m w (hm.eff hw))) rfl rfl ?_
              refine same (t := 120) (u := outI (((dropS m : Nat) : Int), 0)) rfl (by rw [dropE_S hM]) ?_
              refine lV (yMove rfl) rfl rfl ?_
              refine lV (yExtract rfl rfl) rfl rfl ?_
              refine lV (yExtract rfl rfl) rfl rfl ?_
              refine lV (yAssign rfl) rfl rfl ?_
              refine lV (yAssign rfl) rfl rfl ?_
              refine lNil ?_
              refine kThen ?_
              refine kSeq ?_
              refine kSeq ?_
              refine kDrawE [] [] [0, 1, 2, 3, 4, 5, 6, 7, 8, 9, 10, 11, 12, 13, 14, 15, 16, 17, 18, 19, 20, 21, 22, 23, 24, 25, 26, 27, 28, 29, 30, 31, 32, 33, 34, 35] 0 hMix (by kernel_rfl) ?_
              refine .run rfl (yMove rfl) rfl rfl ?_
              refine .run rfl (yvFalse (yNeq rfl rfl) (fun h => h rfl)) rfl rfl ?_
              refine .run rfl (yMove rfl) rfl rfl ?_
              refine .runG rfl (yMove rfl) rfl rfl rfl rfl ?_
              refine .runG rfl (yvFalse (yEql rfl rfl) (hh)) rfl rfl rfl rfl ?_
              refine .runG rfl (yMove rfl) rfl rfl rfl rfl ?_
              refine .skip rfl rfl rfl rfl rfl rfl ?_
              refine .skip rfl rfl rfl rfl rfl rfl ?_
              refine .skip rfl rfl rfl rfl rfl rfl ?_
              refine .runG rfl (yPickF rfl rfl) rfl rfl rfl rfl ?_
              refine .runG rfl (yMove rfl) rfl rfl rfl rfl ?_
              refine .skip rfl rfl rfl rfl rfl rfl ?_
              refine .skip rfl rfl rfl rfl rfl rfl ?_
              refine .skip rfl rfl rfl rfl rfl rfl ?_
              refine .skipU rfl rfl rfl rfl rfl ?_
              refine .skipU rfl rfl rfl rfl rfl ?_
              refine .skip rfl rfl rfl rfl rfl rfl ?_
              refine .skip rfl rfl rfl rfl rfl rfl ?_
              refine .skipU rfl rfl rfl rfl rfl ?_
              refine .skipU rfl rfl rfl rfl rfl ?_
              refine .skipU rfl rfl rfl rfl rfl ?_
              refine .skipU rfl rfl rfl rfl rfl ?_
              refine .skipU rfl rfl rfl rfl rfl ?_
              refine .skipU rfl rfl rfl rfl rfl ?_
              refine .skipU rfl rfl rfl rfl rfl ?_
              refine .skipU rfl rfl rfl rfl rfl ?_
              refine .skipU rfl rfl rfl rfl rfl ?_
              refine .skipU rfl rfl rfl rfl rfl ?_
              refine .skipU rfl rfl rfl rfl rfl ?_
              refine .skipU rfl rfl rfl rfl rfl ?_
              refine .skipU rfl rfl rfl rfl rfl ?_
              refine .skipU rfl rfl rfl rfl rfl ?_
              refine .skipU rfl rfl rfl rfl rfl ?_
              refine .skip rfl rfl rfl rfl rfl rfl ?_
              refine .runG rfl (yPickF rfl rfl) rfl rfl rfl rfl ?_
              refine .run rfl (yPickF rfl rfl) rfl rfl ?_
              refine .done ?_
              refine effDone closedSt (hLeft [] (by kernel_rfl) .n) (by kernel_rfl) ?_
              refine kThen ?_
              refine kIfF rfl ?_
              refine kSkip ?_
              refine kThen ?_
              refine kSeq ?_
              refine kSeq ?_
              refine kRegion rfl ?_
              refine lV (yLoadA (vs := [_, _, _, _, _, _, _]) rfl A29 (cOwn 7 rfl rfl)) rfl rfl ?_
              refine lV (yLoadA (vs := [_, _, _, _, _, _, _]) rfl A29 (cOwn 4 rfl rfl)) rfl rfl ?_
              refine lE rfl ?_
              refine eBuildSlice (.c rfl (.c rfl .n)) (fun w => BS59_2_0_1 w) fun n161 => ?_
              refine lV (yLen rfl S59) rfl rfl ?_
              refine lV (yMove rfl) rfl rfl ?_
              refine lNil ?_
              refine kThen ?_
              refine kBlock ?_
              refine kLoopX (ι := Nat) (fun i => i ≤ 2) (fun i => [(163, i64 (i : Nat))]) [(0, _), (1, _), (2, _), (3, _), (4, _), (5, _), (6, _), (11, _), (12, _), (58, _), (59, _), (60, _), (61, _), (62, _), (63, _), (64, _), (65, _), (66, _), (67, _), (68, _), (69, _), (70, _), (71, _), (72, _), (73, _), (74, _), (75, _), (76, _), (77, _), (78, _), (79, _), (80, _), (81, _), (82, _), (83, _), (84, _), (85, _), (86, _), (87, _), (88, _), (89, _), (90, _), (91, _), (92, _), (93, _), (13, _), (95, _), (96, _), (94, _), (97, _), (98, _), (14, _), (15, _), (100, _), (101, _), (102, _), (99, _), (103, _), (104, _), (16, _), (17, _), (106, _), (107, _), (108, _), (105, _), (109, _), (110, _), (18, _), (19, _), (112, _), (113, _), (114, _), (115, _), (111, _), (116, _), (117, _), (20, _), (21, _), (119, _), (120, _), (118, _), (121, _), (122, _), (22, _), (23, _), (123, _), (124, _), (125, _), (126, _), (127, _), (128, _), (132, _), (133, _), (157, _), (158, _), (159, _), (160, _), (161, _), (162, _)] (fun i => []) (fun i => osL 49 g) [(n161, _), (n20, _), (n18, _), (n16, _), (n14, _), (n12, _), (n5, _), (n6, _), (n11, _)] (fun i => 2 - i) 0 (by omega) rfl (.c rfl .n) (.c rfl (.c rfl (.c rfl (.c rfl (.c rfl (.c rfl (.c rfl (.c rfl (.c rfl (.c rfl (.c rfl (.c rfl (.c rfl (.c rfl (.c rfl (.c rfl (.c rfl (.c rfl (.c rfl (.c rfl (.c rfl (.c rfl (.c rfl (.c rfl (.c rfl (.c rfl (.c rfl (.c rfl (.c rfl (.c rfl (.c rfl (.c rfl (.c rfl (.c rfl (.c rfl (.c rfl (.c rfl (.c rfl (.c rfl (.c rfl (.c rfl (.c rfl (.c rfl (.c rfl (.c rfl (.c rfl (.c rfl (.c rfl (.c rfl (.c rfl (.c rfl (.c rfl (.c rfl (.c rfl (.c rfl (.c rfl (.c rfl (.c rfl (.c rfl (.c rfl (.c rfl (.c rfl (.c rfl (.c rfl (.c rfl (.c rfl (.c rfl (.c rfl (.c rfl (.c rfl (.c rfl (.c rfl (.c rfl (.c rfl (.c rfl (.c rfl (.c rfl (.c rfl (.c rfl (.c rfl (.c rfl (.c rfl (.c rfl (.c rfl (.c rfl (.c rfl (.c rfl (.c rfl (.c rfl (.c rfl (.c rfl (.c rfl (.c rfl (.c rfl (.c rfl (.c rfl (.c rfl (.c rfl (.c rfl .n))))))))))))))))))))))))))))))))))))))))))))))))))))))))))))))))))))))))))))))))))))))))))))))))))) (.c 0 rfl (.c 0 rfl (.c 0 rfl (.c 0 rfl (.c 0 rfl (.c 0 rfl (.c 0 rfl (.c 0 rfl (.c 0 rfl .r))))))))) ?_
              rintro i hi
              refine kSeq ?_
              refine kRegion rfl ?_
              refine lV (yLss rfl rfl) rfl rfl ?_
              refine lNil ?_
              refine kThen ?_
              refine kSeq ?_
              refine split (t := 164) rfl (fun h164 => ?_) (fun h164 => ?_)
              · refine kIfT rfl ?_
                refine kSkip ?_
                refine kThen ?_
                refine kSeq ?_
                refine kBlock ?_
                refine kSeq ?_
                obtain ⟨yz, z, hsub, hfin, hin⟩ := pick_more (b := b) (show i < 2 by omega) hm hM hg
                have hnz : z.errs.length ≤ 1000000 := by have := hfin.errs; omega
                refine kRegion rfl ?_
                refine lV (yIndexSl rfl rfl S59 (by omega) (by omega)) rfl rfl ?_
                refine lV (yLoadA (vs := (measC yz z)) rfl A29 (cOwn 0 rfl (hsub))) rfl rfl ?_
                refine lE rfl ?_
                refine eAlloc Z29 fun n25 => ?_
                refine lE rfl ?_
                refine eStoreL 0 rfl rfl rfl rfl K29 rfl (rfl) ?_
                refine lNil ?_
                refine kThen ?_
                refine kSeq ?_
                refine kSeq ?_
                refine kRegion rfl ?_
                refine lV (yLoadA (vs := [_, _, _, _, _, _, _]) rfl A29 (cOwn 0 rfl rfl)) rfl rfl ?_
                refine lV (yCall rfl (.c rfl .n) C28 (fun w hw => rmeasure_any yz z w (hin w (hw.sub (.d 0 (.d 0 (.d 0 (.d 0 (.d 0 (.d 0 (.d 0 (.d 0 (.d 0 (.d 0 .r)))))))))))) hnz)) rfl rfl ?_
                refine lV (yNot rfl) rfl rfl ?_
                refine lNil ?_
                refine kThen ?_
                refine splitB (t := 169) rfl (fun h169 => ?_) (fun h169 => ?_)
                · refine kIfT rfl ?_
                  refine kExit ?_
                  refine kThenX ?_
                  refine kInX ?_
                  refine kThen ?_
                  refine kRegion rfl ?_
                  refine lV (yAdd rfl rfl (by omega)) rfl rfl ?_
                  refine lV (yMove rfl) rfl rfl ?_
                  refine lNil ?_
                  exact kRoundX (i + 1) (by omega) (by omega) rfl (.c rfl .n) (.c rfl (.c rfl (.c rfl (.c rfl (.c rfl (.c rfl (.c rfl (.c rfl (.c rfl (.c rfl (.c rfl (.c rfl (.c rfl (.c rfl (.c rfl (.c rfl (.c rfl (.c rfl (.c rfl (.c rfl (.c rfl (.c rfl (.c rfl (.c rfl (.c rfl (.c rfl (.c rfl (.c rfl (.c rfl (.c rfl (.c rfl (.c rfl (.c rfl (.c rfl (.c rfl (.c rfl (.c rfl (.c rfl (.c rfl (.c rfl (.c rfl (.c rfl (.c rfl (.c rfl (.c rfl (.c rfl (.c rfl (.c rfl (.c rfl (.c rfl (.c rfl (.c rfl (.c rfl (.c rfl (.c rfl (.c rfl (.c rfl (.c rfl (.c rfl (.c rfl (.c rfl (.c rfl (.c rfl (.c rfl (.c rfl (.c rfl (.c rfl (.c rfl (.c rfl (.c rfl (.c rfl (.c rfl (.c rfl (.c rfl (.c rfl (.c rfl (.c rfl (.c rfl (.c rfl (.c rfl (.c rfl (.c rfl (.c rfl (.c rfl (.c rfl (.c rfl (.c rfl (.c rfl (.c rfl (.c rfl (.c rfl (.c rfl (.c rfl (.c rfl (.c rfl (.c rfl (.c rfl (.c rfl (.c rfl .n))))))))))))))))))))))))))))))))))))))))))))))))))))))))))))))))))))))))))))))))))))))))))))))))))) (.c 1 rfl (.c 1 rfl (.c 1 rfl (.c 1 rfl (.c 1 rfl (.c 1 rfl (.c 1 rfl (.c 1 rfl (.c 1 rfl (.d 0 .r))))))))))
                · refine kIfF rfl ?_
                  refine kSkip ?_
                  refine kThen ?_
                  refine kSeq ?_
                  have hZ := notF h169
                  have cz := clash_facts hZ
                  have dlz := cz.dle
                  have hFz := fullS_lt hZ
                  have hdz := hfin.drop hZ
                  refine kRegion rfl ?_
                  refine lV (yLoadA (vs := [_, _, _, _, _, _, _]) rfl A29 (cOwn 0 rfl rfl)) rfl rfl ?_
                  refine lV (yCall rfl (.c rfl .n) C27 (fun w hw => drop_any yz z w (hin w (hw.sub (.d 0 (.d 0 (.d 0 (.d 0 (.d 0 (.d 0 (.d 0 (.d 0 (.d 0 (.d 0 .r)))))))))))))) rfl rfl ?_
                  refine same (t := 172) (u := outI (((dropS z : Nat) : Int), 0)) rfl (by rw [dropE_S hZ]) ?_
                  refine lV (yMove rfl) rfl rfl ?_
                  refine lV (yExtract rfl rfl) rfl rfl ?_
                  refine lV (yExtract rfl rfl) rfl rfl ?_
                  refine lV (yAssign rfl) rfl rfl ?_
                  refine lV (yAssign rfl) rfl rfl ?_
                  refine lNil ?_
                  refine kThen ?_
                  refine kSeq ?_
                  refine kSeq ?_
                  refine kRegion rfl ?_
                  refine lV (yMove rfl) rfl rfl ?_
                  refine lV (yNeq rfl rfl) rfl rfl ?_
                  refine knownN (t := 176) rfl (fun h => h rfl) ?_
                  refine lV (yMove rfl) rfl rfl ?_
                  refine lGY rfl rfl rfl (oV (yMove rfl) rfl ?_)
                  refine lGY rfl rfl rfl (oV (yLss rfl rfl) rfl ?_)
                  refine knownN (t := 179) rfl (by omega) ?_
                  refine lV (yPickF rfl rfl) rfl rfl ?_
                  refine lV (yMove rfl) rfl rfl ?_
                  refine lGY rfl rfl rfl (oV (yMove rfl) rfl ?_)
                  refine lGY rfl rfl rfl (oV (yLss rfl rfl) rfl ?_)
                  refine knownN (t := 183) rfl (by omega) ?_
                  refine lV (yPickF rfl rfl) rfl rfl ?_
                  refine lV (yMove rfl) rfl rfl ?_
                  refine lGY rfl rfl rfl (oV (yMove rfl) rfl ?_)
                  refine lGY rfl rfl rfl (oV (yCall rfl (.c rfl .n) C33 (fun w hw => size_any (dropS z) w (by omega))) rfl ?_)
                  refine lGY rfl rfl rfl (oV (yMove rfl) rfl ?_)
                  refine lGY rfl rfl rfl (oV (yCall rfl (.c rfl .n) C33 (fun w hw => size_any (dropS m) w (by omega))) rfl ?_)
                  refine lGY rfl rfl rfl (oV (yLss rfl rfl) rfl ?_)
                  refine knownN (t := 190) rfl (by omega) ?_
                  refine lV (yPickF rfl rfl) rfl rfl ?_
                  refine lNil ?_
                  refine kThen ?_
                  refine kIfF rfl ?_
                  refine kSkip ?_
                  refine kThen ?_
                  refine kSeq ?_
                  by_cases hoz : okF z
                  · refine kRegion rfl ?_
                    refine lV (yLoadA (vs := [_, _, _, _, _, _, _]) rfl A29 (cOwn 0 rfl rfl)) rfl rfl ?_
                    refine lV (yCall rfl (.c rfl .n) C18 (fun w hw => sum_any yz z w (hin w (hw.sub (.d 0 (.d 0 (.d 0 (.d 0 (.d 0 (.d 0 (.d 0 (.d 0 (.d 0 (.d 0 .r)))))))))))))) rfl rfl ?_
                    refine lV (yMove rfl) rfl rfl ?_
                    refine lV (yExtract rfl rfl) rfl rfl ?_
                    refine lV (yExtract rfl rfl) rfl rfl ?_
                    refine lE rfl ?_
                    refine eAlloc Z24 fun n28 => ?_
                    refine lE rfl ?_
                    refine eStoreL 0 rfl rfl rfl rfl K24 rfl (rfl) ?_
                    refine lV (yAssign rfl) rfl rfl ?_
                    refine lNil ?_
                    refine kThen ?_
                    refine kSeq ?_
                    refine kSeq ?_
                    refine kRegion rfl ?_
                    refine lV (yMove rfl) rfl rfl ?_
                    refine lV (yNeq rfl rfl) rfl rfl ?_
                    refine knownN (t := 198) rfl (fun h => h ((sum_code).2 ⟨hZ, hoz⟩)) ?_
                    refine lNil ?_
                    refine kThen ?_
                    refine kIfF rfl ?_
                    refine kSkip ?_
                    refine kThen ?_
                    refine kSeq ?_
                    have hom := hfin.ok hM hZ hoz
                    refine kRegion rfl ?_
                    refine lV (yLoadA (vs := [_, _, _, _, _, _, _]) rfl A29 (cOwn 1 rfl rfl)) rfl rfl ?_
                    refine lV (yMove rfl) rfl rfl ?_
                    refine lV (yCall rfl (.c rfl (.c rfl .n)) C20 (fun w hw => place_any yz z a w (hin w (hw.sub (.d 0 (.d 0 (.d 0 (.d 0 (.d 0 (.d 0 (.d 0 (.d 0 (.d 0 (.d 0 (.d 0 .r))))))))))))))) rfl rfl ?_
                    refine lV (yMove rfl) rfl rfl ?_
                    refine lV (yExtract rfl rfl) rfl rfl ?_
                    refine lV (yExtract rfl rfl) rfl rfl ?_
                    refine lE rfl ?_
                    refine eAlloc Z24 fun n30 => ?_
                    refine lE rfl ?_
                    refine eStoreL 0 rfl rfl rfl rfl K24 rfl (rfl) ?_
                    refine lV (yAssign rfl) rfl rfl ?_
                    refine lNil ?_
                    refine kThen ?_
                    refine kSeq ?_
                    refine kRegion rfl ?_
                    refine lV (yLoadA (vs := [_, _, _, _, _, _, _]) rfl A29 (cOwn 2 rfl rfl)) rfl rfl ?_
                    refine lV (yMove rfl) rfl rfl ?_
                    refine lV (yMove rfl) rfl rfl ?_
                    refine lV (yCall rfl (.c rfl (.c rfl (.c rfl .n))) C22 (fun w hw => apart_any yz z a c w (hin w (hw.sub (.d 0 (.d 0 (.d 0 (.d 0 (.d 0 (.d 0 (.d 0 (.d 0 (.d 0 (.d 0 (.d 0 (.d 0 .r)))))))))))))))) rfl rfl ?_
                    refine lV (yMove rfl) rfl rfl ?_
                    refine lV (yExtract rfl rfl) rfl rfl ?_
                    refine lV (yExtract rfl rfl) rfl rfl ?_
                    refine lE rfl ?_
                    refine eAlloc Z24 fun n32 => ?_
                    refine lE rfl ?_
                    refine eStoreL 0 rfl rfl rfl rfl K24 rfl (rfl) ?_
                    refine lV (yAssign rfl) rfl rfl ?_
                    refine lNil ?_
                    refine kThen ?_
                    refine kSeq ?_
                    refine kRegion rfl ?_
                    refine lV (yMove rfl) rfl rfl ?_
                    refine lV (yNeq rfl rfl) rfl rfl ?_
                    refine knownN (t := 215) rfl (fun h => h (sum_code.2 ⟨hM, hom⟩)) ?_
                    refine lV (yMove rfl) rfl rfl ?_
                    refine lGY rfl rfl rfl (oV (yMove rfl) rfl ?_)
                    refine lGY rfl rfl rfl (oV (yLoadA (vs := [_, _]) rfl A24 (cOwn 2 rfl rfl)) rfl ?_)
                    refine lGY rfl rfl rfl (oV (yLoadA (vs := [_, _]) rfl A24 (cOwn 8 rfl rfl)) rfl ?_)
                    refine lGY rfl rfl rfl (oV (yCall rfl (.c rfl (.c rfl .n)) C34 (fun w hw => inL_any (sumE z).1 (sumE m).1 w)) rfl ?_)
                    refine knownB (t := 220) (c := true) rfl (decide_eq_true (finer_sum hfin hM hZ hoz)) ?_
                    refine lGY rfl rfl rfl (oV (yNot rfl) rfl ?_)
                    refine lV (yPickF rfl rfl) rfl rfl ?_
                    refine lV (yMove rfl) rfl rfl ?_
                    refine lGY rfl rfl rfl (oV (yMove rfl) rfl ?_)
                    refine lGY rfl rfl rfl (oV (yEql rfl rfl) rfl ?_)
                    refine lGY rfl rfl rfl (oV (yMove rfl) rfl ?_)
                    refine split (t := 226) rfl (fun h226 => ?_) (fun h226 => ?_)
                    · refine lGY rfl rfl rfl (oV (yMove rfl) rfl ?_)
                      refine lGY rfl rfl rfl (oV (yNeq rfl rfl) rfl ?_)
                      refine knownN (t := 228) rfl (fun h => h (finer_place hfin hM hZ hoz h226).1) ?_
                      refine lGY rfl rfl rfl (oV (yMove rfl) rfl ?_)
                      refine lGY rfl rfl rfl (oV (yMove rfl) rfl ?_)
                      refine lGY rfl rfl rfl (oV (yLoadA (vs := [_, _]) rfl A24 (cOwn 1 rfl rfl)) rfl ?_)
                      refine lGY rfl rfl rfl (oV (yLoadA (vs := [_, _]) rfl A24 (cOwn 7 rfl rfl)) rfl ?_)
                      refine lGY rfl rfl rfl (oV (yCall rfl (.c rfl (.c rfl .n)) C34 (fun w hw => inL_any (placeE z a).1 (placeE m a).1 w)) rfl ?_)
                      refine knownB (t := 233) (c := true) rfl (decide_eq_true (finer_place hfin hM hZ hoz h226).2) ?_
                      refine lGY rfl rfl rfl (oV (yNot rfl) rfl ?_)
                      refine lGY rfl rfl rfl (oV (yPickF rfl rfl) rfl ?_)
                      refine lGY rfl rfl rfl (oV (yPickT rfl rfl) rfl ?_)
                      refine lV (yPickF rfl rfl) rfl rfl ?_
                      refine lV (yMove rfl) rfl rfl ?_
                      refine lGY rfl rfl rfl (oV (yMove rfl) rfl ?_)
                      refine lGY rfl rfl rfl (oV (yEql rfl rfl) rfl ?_)
                      refine knownN (t := 240) rfl (hh) ?_
                      refine lGY rfl rfl rfl (oV (yMove rfl) rfl ?_)
                      refine lGN rfl rfl rfl rfl rfl ?_
                      refine lGN rfl rfl rfl rfl rfl ?_
                      refine lGN rfl rfl rfl rfl rfl ?_
                      refine lGU rfl rfl rfl rfl ?_
                      refine lGU rfl rfl rfl rfl ?_
                      refine lGU rfl rfl rfl rfl ?_
                      refine lGU rfl rfl rfl rfl ?_
                      refine lGU rfl rfl rfl rfl ?_
                      refine lGN rfl rfl rfl rfl rfl ?_
                      refine lGY rfl rfl rfl (oV (yPickF rfl rfl) rfl ?_)
                      refine lV (yPickF rfl rfl) rfl rfl ?_
                      refine lNil ?_
                      refine kThen ?_
                      refine kIfF rfl ?_
                      refine kSkip ?_
                      refine kInN ?_
                      refine kThen ?_
                      refine kRegion rfl ?_
                      refine lV (yAdd rfl rfl (by omega)) rfl rfl ?_
                      refine lV (yMove rfl) rfl rfl ?_
                      refine lNil ?_
                      exact kRoundX (i + 1) (by omega) (by omega) rfl (.c rfl .n) (.c rfl (.c rfl (.c rfl (.c rfl (.c rfl (.c rfl (.c rfl (.c rfl (.c rfl (.c rfl (.c rfl (.c rfl (.c rfl (.c rfl (.c rfl (.c rfl (.c rfl (.c rfl (.c rfl (.c rfl (.c rfl (.c rfl (.c rfl (.c rfl (.c rfl (.c rfl (.c rfl (.c rfl (.c rfl (.c rfl (.c rfl (.c rfl (.c rfl (.c rfl (.c rfl (.c rfl (.c rfl (.c rfl (.c rfl (.c rfl (.c rfl (.c rfl (.c rfl (.c rfl (.c rfl (.c rfl (.c rfl (.c rfl (.c rfl (.c rfl (.c rfl (.c rfl (.c rfl (.c rfl (.c rfl (.c rfl (.c rfl (.c rfl (.c rfl (.c rfl (.c rfl (.c rfl (.c rfl (.c rfl (.c rfl (.c rfl (.c rfl (.c rfl (.c rfl (.c rfl (.c rfl (.c rfl (.c rfl (.c rfl (.c rfl (.c rfl (.c rfl (.c rfl (.c rfl (.c rfl (.c rfl (.c rfl (.c rfl (.c rfl (.c rfl (.c rfl (.c rfl (.c rfl (.c rfl (.c rfl (.c rfl (.c rfl (.c rfl (.c rfl (.c rfl (.c rfl (.c rfl (.c rfl (.c rfl .n))))))))))))))))))))))))))))))))))))))))))))))))))))))))))))))))))))))))))))))))))))))))))))))))))) (.c 4 rfl (.c 4 rfl (.c 4 rfl (.c 4 rfl (.c 4 rfl (.c 4 rfl (.c 4 rfl (.c 4 rfl (.c 4 rfl (.d 0 (.d 0 (.d 0 (.d 0 .r)))))))))))))
                    · refine lGN rfl rfl rfl rfl rfl ?_
                      refine lGN rfl rfl rfl rfl rfl ?_
                      refine lGN rfl rfl rfl rfl rfl ?_
                      refine lGU rfl rfl rfl rfl ?_
                      refine lGU rfl rfl rfl rfl ?_
                      refine lGU rfl rfl rfl rfl ?_
                      refine lGU rfl rfl rfl rfl ?_
                      refine lGU rfl rfl rfl rfl ?_
                      refine lGN rfl rfl rfl rfl rfl ?_
                      refine lGY rfl rfl rfl (oV (yPickF rfl rfl) rfl ?_)
                      refine lV (yPickF rfl rfl) rfl rfl ?_
                      refine lV (yMove rfl) rfl rfl ?_
                      refine lGY rfl rfl rfl (oV (yMove rfl) rfl ?_)
                      refine lGY rfl rfl rfl (oV (yEql rfl rfl) rfl ?_)
                      refine knownN (t := 240) rfl (hh) ?_
                      refine lGY rfl rfl rfl (oV (yMove rfl) rfl ?_)
                      refine lGN rfl rfl rfl rfl rfl ?_
                      refine lGN rfl rfl rfl rfl rfl ?_
                      refine lGN rfl rfl rfl rfl rfl ?_
                      refine lGU rfl rfl rfl rfl ?_
                      refine lGU rfl rfl rfl rfl ?_
                      refine lGU rfl rfl rfl rfl ?_
                      refine lGU rfl rfl rfl rfl ?_
                      refine lGU rfl rfl rfl rfl ?_
                      refine lGN rfl rfl rfl rfl rfl ?_
                      refine lGY rfl rfl rfl (oV (yPickF rfl rfl) rfl ?_)
                      refine lV (yPickF rfl rfl) rfl rfl ?_
                      refine lNil ?_
                      refine kThen ?_
                      refine kIfF rfl ?_
                      refine kSkip ?_
                      refine kInN ?_
                      refine kThen ?_
                      refine kRegion rfl ?_
                      refine lV (yAdd rfl rfl (by omega)) rfl rfl ?_
                      refine lV (yMove rfl) rfl rfl ?_
                      refine lNil ?_
                      exact kRoundX (i + 1) (by omega) (by omega) rfl (.c rfl .n) (.c rfl (.c rfl (.c rfl (.c rfl (.c rfl (.c rfl (.c rfl (.c rfl (.c rfl (.c rfl (.c rfl (.c rfl (.c rfl (.c rfl (.c rfl (.c rfl (.c rfl (.c rfl (.c rfl (.c rfl (.c rfl (.c rfl (.c rfl (.c rfl (.c rfl (.c rfl (.c rfl (.c rfl (.c rfl (.c rfl (.c rfl (.c rfl (.c rfl (.c rfl (.c rfl (.c rfl (.c rfl (.c rfl (.c rfl (.c rfl (.c rfl (.c rfl (.c rfl (.c rfl (.c rfl (.c rfl (.c rfl (.c rfl (.c rfl (.c rfl (.c rfl (.c rfl (.c rfl (.c rfl (.c rfl (.c rfl (.c rfl (.c rfl (.c rfl (.c rfl (.c rfl (.c rfl (.c rfl (.c rfl (.c rfl (.c rfl (.c rfl (.c rfl (.c rfl (.c rfl (.c rfl (.c rfl (.c rfl (.c rfl (.c rfl (.c rfl (.c rfl (.c rfl (.c rfl (.c rfl (.c rfl (.c rfl (.c rfl (.c rfl (.c rfl (.c rfl (.c rfl (.c rfl (.c rfl (.c rfl (.c rfl (.c rfl (.c rfl (.c rfl (.c rfl (.c rfl (.c rfl (.c rfl (.c rfl .n))))))))))))))))))))))))))))))))))))))))))))))))))))))))))))))))))))))))))))))))))))))))))))))))))) (.c 4 rfl (.c 4 rfl (.c 4 rfl (.c 4 rfl (.c 4 rfl (.c 4 rfl (.c 4 rfl (.c 4 rfl (.c 4 rfl (.d 0 (.d 0 (.d 0 (.d 0 .r)))))))))))))
                  · refine kRegion rfl ?_
                    refine lV (yLoadA (vs := [_, _, _, _, _, _, _]) rfl A29 (cOwn 0 rfl rfl)) rfl rfl ?_
                    refine lV (yCall rfl (.c rfl .n) C18 (fun w hw => sum_any yz z w (hin w (hw.sub (.d 0 (.d 0 (.d 0 (.d 0 (.d 0 (.d 0 (.d 0 (.d 0 (.d 0 (.d 0 .r)))))))))))))) rfl rfl ?_
                    refine lV (yMove rfl) rfl rfl ?_
                    refine lV (yExtract rfl rfl) rfl rfl ?_
                    refine lV (yExtract rfl rfl) rfl rfl ?_
                    refine lE rfl ?_
                    refine eAlloc Z24 fun n28 => ?_
                    refine lE rfl ?_
                    refine eStoreL 0 rfl rfl rfl rfl K24 rfl (rfl) ?_
                    refine lV (yAssign rfl) rfl rfl ?_
                    refine lNil ?_
                    refine kThen ?_
                    refine kSeq ?_
                    refine kSeq ?_
                    refine kRegion rfl ?_
                    refine lV (yMove rfl) rfl rfl ?_
                    refine lV (yNeq rfl rfl) rfl rfl ?_
                    refine known (t := 198) rfl (fun h => hoz (sum_code.1 h).2) ?_
                    refine lNil ?_
                    refine kThen ?_
                    refine kIfT rfl ?_
                    refine kSeq ?_
                    refine kSeq ?_
                    refine kRegion rfl ?_
                    refine lV (yMove rfl) rfl rfl ?_
                    refine lV (yNeq rfl rfl) rfl rfl ?_
                    refine knownN (t := 200) rfl (fun h => h (by rw [sumE_clash hZ hoz])) ?_
                    refine lNil ?_
                    refine kThen ?_
                    refine kIfF rfl ?_
                    refine kSkip ?_
                    refine kThen ?_
                    refine kExit ?_
                    refine kThenX ?_
                    refine kInX ?_
                    refine kThen ?_
                    refine kRegion rfl ?_
                    refine lV (yAdd rfl rfl (by omega)) rfl rfl ?_
                    refine lV (yMove rfl) rfl rfl ?_
                    refine lNil ?_
                    exact kRoundX (i + 1) (by omega) (by omega) rfl (.c rfl .n) (.c rfl (.c rfl (.c rfl (.c rfl (.c rfl (.c rfl (.c rfl (.c rfl (.c rfl (.c rfl (.c rfl (.c rfl (.c rfl (.c rfl (.c rfl (.c rfl (.c rfl (.c rfl (.c rfl (.c rfl (.c rfl (.c rfl (.c rfl (.c rfl (.c rfl (.c rfl (.c rfl (.c rfl (.c rfl (.c rfl (.c rfl (.c rfl (.c rfl (.c rfl (.c rfl (.c rfl (.c rfl (.c rfl (.c rfl (.c rfl (.c rfl (.c rfl (.c rfl (.c rfl (.c rfl (.c rfl (.c rfl (.c rfl (.c rfl (.c rfl (.c rfl (.c rfl (.c rfl (.c rfl (.c rfl (.c rfl (.c rfl (.c rfl (.c rfl (.c rfl (.c rfl (.c rfl (.c rfl (.c rfl (.c rfl (.c rfl (.c rfl (.c rfl (.c rfl (.c rfl (.c rfl (.c rfl (.c rfl (.c rfl (.c rfl (.c rfl (.c rfl (.c rfl (.c rfl (.c rfl (.c rfl (.c rfl (.c rfl (.c rfl (.c rfl (.c rfl (.c rfl (.c rfl (.c rfl (.c rfl (.c rfl (.c rfl (.c rfl (.c rfl (.c rfl (.c rfl (.c rfl (.c rfl (.c rfl .n))))))))))))))))))))))))))))))))))))))))))))))))))))))))))))))))))))))))))))))))))))))))))))))))))) (.c 2 rfl (.c 2 rfl (.c 2 rfl (.c 2 rfl (.c 2 rfl (.c 2 rfl (.c 2 rfl (.c 2 rfl (.c 2 rfl (.d 0 (.d 0 .r)))))))))))
              · refine kIfF rfl ?_
                refine kExit ?_
                refine kThenX ?_
                refine kThenX ?_
                refine kInX ?_
                refine kThen ?_
                refine kSeq ?_
                refine kRegion rfl ?_
                refine lV (yCall rfl .n C15 (fun w hw => alive_any w)) rfl rfl ?_
                refine lV (yAssign rfl) rfl rfl ?_
                refine lNil ?_
                refine kThen ?_
                refine kRet ?_
                refine fRet rfl (.t rfl .n) (endRet ?_)
                first | rfl | (simp [packV, *]; done)
end Go.Proofs.Ytoefcofplkbnkaa
