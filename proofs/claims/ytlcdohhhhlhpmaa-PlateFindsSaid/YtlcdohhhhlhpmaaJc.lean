/-
  Walks: the document's scales of a plate, or the error.
-/
import Derived.Test.YtlcdohhhhlhpmaaJb
namespace Go.Proofs.Ytlcdohhhhlhpmaa
open ZW

set_option maxRecDepth 100000 in
theorem ropen_bad (y : Option Addr × Nat) (p : Plt) (is : Bool) (w : World) (hm : InP w y p) (hL : p.st.length ≤ 30) (hp : ¬ PltOk p) :
    Calls Try.prog 57 [.agg (pltC y p).toArray, .bool is].toArray w (Ret w (.tuple [.slice none 0 0, i64 1].toArray)) := by
  refine fEnter Try.func57 rfl Try.ntmps57 rfl ?_
  refine kSeq ?_
  refine kRegion rfl ?_
  refine lE rfl ?_
  refine eBoxA rfl fun n2 => ?_
  refine lV (yAssign rfl) rfl rfl ?_
  refine lV (yAssign rfl) rfl rfl ?_
  refine lNil ?_
  refine kThen ?_
  refine kSeq ?_
  refine kSeq ?_
  refine kRegion rfl ?_
  refine lV (yLoadA (vs := [_, _, _]) rfl A26 (cOwn 0 rfl rfl)) rfl rfl ?_
  refine lV (yCall rfl (.c rfl .n) C23 (fun w hw => rplate_any y p w (hm.eff0 hw) (by omega))) rfl rfl ?_
  refine knownB (t := 8) (c := false) rfl (decide_eq_false hp) ?_
  refine lV (yNot rfl) rfl rfl ?_
  refine lNil ?_
  refine kThen ?_
  refine kIfT rfl ?_
  refine kSeq ?_
  refine kRegion rfl ?_
  refine lV (yAssign rfl) rfl rfl ?_
  refine lV (yAssign rfl) rfl rfl ?_
  refine lNil ?_
  refine kThen ?_
  refine kRet ?_
  refine kThenR ?_
  refine fRet rfl (.t rfl (.t rfl .n)) (endRet ?_)
  rfl
set_option maxRecDepth 100000 in
theorem ropen_range (y : Option Addr × Nat) (p : Plt) (w : World) (hm : InP w y p) (hp : PltOk p) :
    Calls Try.prog 57 [.agg (pltC y p).toArray, .bool false].toArray w (Ret w (.tuple [.slice none 0 0, i64 2].toArray)) := by
  have hl := hp.n
  refine fEnter Try.func57 rfl Try.ntmps57 rfl ?_
  refine kSeq ?_
  refine kRegion rfl ?_
  refine lE rfl ?_
  refine eBoxA rfl fun n2 => ?_
  refine lV (yAssign rfl) rfl rfl ?_
  refine lV (yAssign rfl) rfl rfl ?_
  refine lNil ?_
  refine kThen ?_
  refine kSeq ?_
  refine kSeq ?_
  refine kRegion rfl ?_
  refine lV (yLoadA (vs := [_, _, _]) rfl A26 (cOwn 0 rfl rfl)) rfl rfl ?_
  refine lV (yCall rfl (.c rfl .n) C23 (fun w hw => rplate_any y p w (hm.eff0 hw) (by omega))) rfl rfl ?_
  refine knownB (t := 8) (c := true) rfl (decide_eq_true hp) ?_
  refine lV (yNot rfl) rfl rfl ?_
  refine lNil ?_
  refine kThen ?_
  refine kIfF rfl ?_
  refine kSkip ?_
  refine kThen ?_
  refine kSeq ?_
  refine kSeq ?_
  refine kRegion rfl ?_
  refine lV (yMove rfl) rfl rfl ?_
  refine knownB (t := 10) (c := false) rfl (rfl) ?_
  refine lV (yNot rfl) rfl rfl ?_
  refine lNil ?_
  refine kThen ?_
  refine kIfT rfl ?_
  refine kSeq ?_
  refine kRegion rfl ?_
  refine lV (yAssign rfl) rfl rfl ?_
  refine lV (yAssign rfl) rfl rfl ?_
  refine lNil ?_
  refine kThen ?_
  refine kRet ?_
  refine kThenR ?_
  refine fRet rfl (.t rfl (.t rfl .n)) (endRet ?_)
  rfl
set_option maxRecDepth 100000 in
theorem ropen_clash (y : Option Addr × Nat) (p : Plt) (w : World) (hm : InP w y p) (hp : PltOk p) (hs : scalesP p (knownP p) = []) :
    Calls Try.prog 57 [.agg (pltC y p).toArray, .bool true].toArray w (Ret w (.tuple [.slice none 0 0, i64 10].toArray)) := by
  have hl := hp.n
  refine fEnter Try.func57 rfl Try.ntmps57 rfl ?_
  refine kSeq ?_
  refine kRegion rfl ?_
  refine lE rfl ?_
  refine eBoxA rfl fun n2 => ?_
  refine lV (yAssign rfl) rfl rfl ?_
  refine lV (yAssign rfl) rfl rfl ?_
  refine lNil ?_
  refine kThen ?_
  refine kSeq ?_
  refine kSeq ?_
  refine kRegion rfl ?_
  refine lV (yLoadA (vs := [_, _, _]) rfl A26 (cOwn 0 rfl rfl)) rfl rfl ?_
  refine lV (yCall rfl (.c rfl .n) C23 (fun w hw => rplate_any y p w (hm.eff0 hw) (by omega))) rfl rfl ?_
  refine knownB (t := 8) (c := true) rfl (decide_eq_true hp) ?_
  refine lV (yNot rfl) rfl rfl ?_
  refine lNil ?_
  refine kThen ?_
  refine kIfF rfl ?_
  refine kSkip ?_
  refine kThen ?_
  refine kSeq ?_
  refine kSeq ?_
  refine kRegion rfl ?_
  refine lV (yMove rfl) rfl rfl ?_
  refine knownB (t := 10) (c := true) rfl (rfl) ?_
  refine lV (yNot rfl) rfl rfl ?_
  refine lNil ?_
  refine kThen ?_
  refine kIfF rfl ?_
  refine kSkip ?_
  refine kThen ?_
  refine kSeq ?_
  refine kDrawE [(0, none), (1, none), (2, none)] [] [0, 1, 2] 2 hMix (by kernel_rfl) ?_
  refine .run rfl (yLoadA (vs := [_, _, _]) rfl A26 (cOwn 0 rfl rfl)) rfl rfl ?_
  refine .run rfl (yLoadA (vs := [_, _, _]) rfl A26 (cOwn 0 rfl rfl)) rfl rfl ?_
  refine .run rfl (yCall rfl (.c rfl .n) C38 (fun w hw => rknown_any y p w (hm.eff0 hw) (by omega))) rfl rfl ?_
  refine .done ?_
  refine effStep 3 [] (by kernel_rfl) closedSt (hLeft [0, 1, 2] (by kernel_rfl) (.c (fun _ _ hs => hs.ef) (.c (fun _ _ hs => hs.ef) (.c (fun _ _ hs => hs.ef) .n)))) ?_
  refine .c ?_ .n
  refine effOne rfl (gNone rfl (fCallO rfl (.c rfl (.c rfl .n)) C85 (fun w hw => rscales_any y p (knownP p) w (hm.eff0 hw) hp (known_ok p)))) ?_
  refine effStep 4 [] (by kernel_rfl) (closedEx fun g => closedSt) (hLeft [] (by kernel_rfl) .n) ?_
  refine .c ?_ .n
  refine effOne rfl (opEx fun g => (gNone rfl (fV (yAssign rfl) rfl))) ?_
  refine effDone (closedEx fun g => closedSt) (hLeft [] (by kernel_rfl) .n) (by kernel_rfl) ?_
  refine trEx fun g => ?_
  refine kThen ?_
  refine kSeq ?_
  refine kSeq ?_
  refine kRegion rfl ?_
  refine lV (yMove rfl) rfl rfl ?_
  refine lV (yLen rfl S56) rfl rfl ?_
  refine lV (yEql rfl rfl) rfl rfl ?_
  refine known (t := 18) rfl (by rw [hs]; rfl) ?_
  refine lNil ?_
  refine kThen ?_
  refine kIfT rfl ?_
  refine kSeq ?_
  refine kRegion rfl ?_
  refine lV (yAssign rfl) rfl rfl ?_
  refine lV (yAssign rfl) rfl rfl ?_
  refine lNil ?_
  refine kThen ?_
  refine kRet ?_
  refine kThenR ?_
  refine fRet rfl (.t rfl (.t rfl .n)) (endRet ?_)
  rfl
set_option maxRecDepth 100000 in
theorem ropen_ok (y : Option Addr × Nat) (p : Plt) (w : World) (hm : InP w y p) (hp : PltOk p) (hs : scalesP p (knownP p) ≠ []) :
    Calls Try.prog 57 [.agg (pltC y p).toArray, .bool true].toArray w
      (RetX w (fun g : Own => OS 1 g ((scalesP p (knownP p)).map rowI)) (fun g => .tuple [osV g ((scalesP p (knownP p)).map rowI).length, i64 0].toArray) (fun _ => []) (fun g => osL 3 g)) := by
  have hl := hp.n
  have hpos := List.length_pos_iff.2 hs
  refine fEnter Try.func57 rfl Try.ntmps57 rfl ?_
  refine kSeq ?_
  refine kRegion rfl ?_
  refine lE rfl ?_
  refine eBoxA rfl fun n2 => ?_
  refine lV (yAssign rfl) rfl rfl ?_
  refine lV (yAssign rfl) rfl rfl ?_
  refine lNil ?_
  refine kThen ?_
  refine kSeq ?_
  refine kSeq ?_
  refine kRegion rfl ?_
  refine lV (yLoadA (vs := [_, _, _]) rfl A26 (cOwn 0 rfl rfl)) rfl rfl ?_
  refine lV (yCall rfl (.c rfl .n) C23 (fun w hw => rplate_any y p w (hm.eff0 hw) (by omega))) rfl rfl ?_
  refine knownB (t := 8) (c := true) rfl (decide_eq_true hp) ?_
  refine lV (yNot rfl) rfl rfl ?_
  refine lNil ?_
  refine kThen ?_
  refine kIfF rfl ?_
  refine kSkip ?_
  refine kThen ?_
  refine kSeq ?_
  refine kSeq ?_
  refine kRegion rfl ?_
  refine lV (yMove rfl) rfl rfl ?_
  refine knownB (t := 10) (c := true) rfl (rfl) ?_
  refine lV (yNot rfl) rfl rfl ?_
  refine lNil ?_
  refine kThen ?_
  refine kIfF rfl ?_
  refine kSkip ?_
  refine kThen ?_
  refine kSeq ?_
  refine kDrawE [(0, none), (1, none), (2, none)] [] [0, 1, 2] 2 hMix (by kernel_rfl) ?_
  refine .run rfl (yLoadA (vs := [_, _, _]) rfl A26 (cOwn 0 rfl rfl)) rfl rfl ?_
  refine .run rfl (yLoadA (vs := [_, _, _]) rfl A26 (cOwn 0 rfl rfl)) rfl rfl ?_
  refine .run rfl (yCall rfl (.c rfl .n) C38 (fun w hw => rknown_any y p w (hm.eff0 hw) (by omega))) rfl rfl ?_
  refine .done ?_
  refine effStep 3 [] (by kernel_rfl) closedSt (hLeft [0, 1, 2] (by kernel_rfl) (.c (fun _ _ hs => hs.ef) (.c (fun _ _ hs => hs.ef) (.c (fun _ _ hs => hs.ef) .n)))) ?_
  refine .c ?_ .n
  refine effOne rfl (gNone rfl (fCallO rfl (.c rfl (.c rfl .n)) C85 (fun w hw => rscales_any y p (knownP p) w (hm.eff0 hw) hp (known_ok p)))) ?_
  refine effStep 4 [] (by kernel_rfl) (closedEx fun g => closedSt) (hLeft [] (by kernel_rfl) .n) ?_
  refine .c ?_ .n
  refine effOne rfl (opEx fun g => (gNone rfl (fV (yAssign rfl) rfl))) ?_
  refine effDone (closedEx fun g => closedSt) (hLeft [] (by kernel_rfl) .n) (by kernel_rfl) ?_
  refine trEx fun g => ?_
  refine kThen ?_
  refine kSeq ?_
  refine kSeq ?_
  refine kRegion rfl ?_
  refine lV (yMove rfl) rfl rfl ?_
  refine lV (yLen rfl S56) rfl rfl ?_
  refine lV (yEql rfl rfl) rfl rfl ?_
  refine knownN (t := 18) rfl (by rw [List.length_map]; omega) ?_
  refine lNil ?_
  refine kThen ?_
  refine kIfF rfl ?_
  refine kSkip ?_
  refine kThen ?_
  refine kSeq ?_
  refine kRegion rfl ?_
  refine lV (yMove rfl) rfl rfl ?_
  refine lV (yAssign rfl) rfl rfl ?_
  refine lV (yAssign rfl) rfl rfl ?_
  refine lNil ?_
  refine kThen ?_
  refine kRet ?_
  refine fRet rfl (.t rfl (.t rfl .n)) ?_
  exact endX g.1 g.2 rfl rfl (.d 0 .r)
theorem ropen_err (y : Option Addr × Nat) (p : Plt) (is : Bool) (w : World) (hm : InP w y p) (hL : p.st.length ≤ 30) (h : truthE p is ≠ 0) :
    Calls Try.prog 57 [.agg (pltC y p).toArray, .bool is].toArray w (Ret w (.tuple [.slice none 0 0, i64 (truthE p is)].toArray)) := by
  unfold truthE at h ⊢
  by_cases hp : PltOk p
  · rw [if_neg (not_not_intro hp)] at h ⊢
    cases is with
    | false => rw [if_pos rfl]; exact ropen_range y p w hm hp
    | true =>
      rw [if_neg (show ¬ (true = false) by decide)] at h ⊢
      by_cases hs : scalesP p (knownP p) = []
      · rw [if_pos hs]; exact ropen_clash y p w hm hp hs
      · rw [if_neg hs] at h; exact absurd rfl h
  · rw [if_pos hp]; exact ropen_bad y p is w hm hL hp
set_option maxRecDepth 100000 in
theorem rdoubt_err (y : Option Addr × Nat) (p : Plt) (is : Bool) (w : World) (hm : InP w y p) (hL : p.st.length ≤ 30) (h : truthE p is ≠ 0) :
    Calls Try.prog 60 [.agg (pltC y p).toArray, .bool is].toArray w (Ret w (.tuple [.slice none 0 0, i64 (truthE p is)].toArray)) := by
  refine fEnter Try.func60 rfl Try.ntmps60 rfl ?_
  refine kSeq ?_
  refine kRegion rfl ?_
  refine lE rfl ?_
  refine eBoxA rfl fun n2 => ?_
  refine lV (yAssign rfl) rfl rfl ?_
  refine lV (yAssign rfl) rfl rfl ?_
  refine lNil ?_
  refine kThen ?_
  refine kSeq ?_
  refine kRegion rfl ?_
  refine lV (yLoadA (vs := [_, _, _]) rfl A26 (cOwn 0 rfl rfl)) rfl rfl ?_
  refine lV (yMove rfl) rfl rfl ?_
  refine lV (yCall rfl (.c rfl (.c rfl .n)) C57 (fun w hw => ropen_err y p is w (hm.eff0 hw) hL h)) rfl rfl ?_
  refine lV (yMove rfl) rfl rfl ?_
  refine lV (yExtract rfl rfl) rfl rfl ?_
  refine lV (yExtract rfl rfl) rfl rfl ?_
  refine lV (yAssign rfl) rfl rfl ?_
  refine lV (yAssign rfl) rfl rfl ?_
  refine lNil ?_
  refine kThen ?_
  refine kSeq ?_
  refine kSeq ?_
  refine kRegion rfl ?_
  refine lV (yMove rfl) rfl rfl ?_
  refine lV (yEql rfl rfl) rfl rfl ?_
  refine knownN (t := 15) rfl (h) ?_
  refine lV (yMove rfl) rfl rfl ?_
  refine lGN rfl rfl rfl rfl rfl ?_
  refine lGN rfl rfl rfl rfl rfl ?_
  refine lGN rfl rfl rfl rfl rfl ?_
  refine lV (yPickF rfl rfl) rfl rfl ?_
  refine lNil ?_
  refine kThen ?_
  refine kIfF rfl ?_
  refine kSkip ?_
  refine kThen ?_
  refine kSeq ?_
  refine kRegion rfl ?_
  refine lV (yMove rfl) rfl rfl ?_
  refine lV (yMove rfl) rfl rfl ?_
  refine lV (yAssign rfl) rfl rfl ?_
  refine lV (yAssign rfl) rfl rfl ?_
  refine lNil ?_
  refine kThen ?_
  refine kRet ?_
  refine fRet rfl (.t rfl (.t rfl .n)) (endRet ?_)
  rfl
set_option maxRecDepth 100000 in
theorem rdoubt_none (y : Option Addr × Nat) (p : Plt) (w : World) (hm : InP w y p) (hp : PltOk p) (hs : scalesP p (knownP p) ≠ []) (hk : knownP p = 0) :
    Calls Try.prog 60 [.agg (pltC y p).toArray, .bool true].toArray w (Ret w (.tuple [.slice none 0 0, i64 12].toArray)) := by
  have hl := hp.n
  refine fEnter Try.func60 rfl Try.ntmps60 rfl ?_
  refine kSeq ?_
  refine kRegion rfl ?_
  refine lE rfl ?_
  refine eBoxA rfl fun n2 => ?_
  refine lV (yAssign rfl) rfl rfl ?_
  refine lV (yAssign rfl) rfl rfl ?_
  refine lNil ?_
  refine kThen ?_
  refine kSeq ?_
  refine kRegion rfl ?_
  refine lV (yLoadA (vs := [_, _, _]) rfl A26 (cOwn 0 rfl rfl)) rfl rfl ?_
  refine lV (yMove rfl) rfl rfl ?_
  refine lE rfl ?_
  refine eCallO rfl (.c rfl (.c rfl .n)) C57 (fun w hw => ropen_ok y p w (hm.eff0 hw) hp hs) fun g hg => ?_
  refine lV (yMove rfl) rfl rfl ?_
  refine lV (yExtract rfl rfl) rfl rfl ?_
  refine lV (yExtract rfl rfl) rfl rfl ?_
  refine lV (yAssign rfl) rfl rfl ?_
  refine lV (yAssign rfl) rfl rfl ?_
  refine lNil ?_
  refine kThen ?_
  refine kSeq ?_
  refine kSeq ?_
  refine kRegion rfl ?_
  refine lV (yMove rfl) rfl rfl ?_
  refine lV (yEql rfl rfl) rfl rfl ?_
  refine known (t := 15) rfl (rfl) ?_
  refine lV (yMove rfl) rfl rfl ?_
  refine lGY rfl rfl rfl (oV (yLoadA (vs := [_, _, _]) rfl A26 (cOwn 0 rfl rfl)) rfl ?_)
  refine lGY rfl rfl rfl (oV (yCall rfl (.c rfl .n) C38 (fun w hw => rknown_any y p w (hm.eff0 hw) (by omega))) rfl ?_)
  refine lGY rfl rfl rfl (oV (yEql rfl rfl) rfl ?_)
  refine known (t := 19) rfl (by rw [hk]; rfl) ?_
  refine lV (yPickT rfl rfl) rfl rfl ?_
  refine lNil ?_
  refine kThen ?_
  refine kIfT rfl ?_
  refine kSeq ?_
  refine kRegion rfl ?_
  refine lV (yAssign rfl) rfl rfl ?_
  refine lV (yAssign rfl) rfl rfl ?_
  refine lNil ?_
  refine kThen ?_
  refine kRet ?_
  refine kThenR ?_
  refine fRet rfl (.t rfl (.t rfl .n)) (endRet ?_)
  rfl
set_option maxRecDepth 100000 in
theorem rdoubt_ok (y : Option Addr × Nat) (p : Plt) (w : World) (hm : InP w y p) (hp : PltOk p) (hs : scalesP p (knownP p) ≠ []) (hk : knownP p ≠ 0) :
    Calls Try.prog 60 [.agg (pltC y p).toArray, .bool true].toArray w
      (RetX w (fun g : Own => OS 1 g ((scalesP p (knownP p)).map rowI)) (fun g => .tuple [osV g ((scalesP p (knownP p)).map rowI).length, i64 0].toArray) (fun _ => []) (fun g => osL 3 g)) := by
  have hl := hp.n
  refine fEnter Try.func60 rfl Try.ntmps60 rfl ?_
  refine kSeq ?_
  refine kRegion rfl ?_
  refine lE rfl ?_
  refine eBoxA rfl fun n2 => ?_
  refine lV (yAssign rfl) rfl rfl ?_
  refine lV (yAssign rfl) rfl rfl ?_
  refine lNil ?_
  refine kThen ?_
  refine kSeq ?_
  refine kRegion rfl ?_
  refine lV (yLoadA (vs := [_, _, _]) rfl A26 (cOwn 0 rfl rfl)) rfl rfl ?_
  refine lV (yMove rfl) rfl rfl ?_
  refine lE rfl ?_
  refine eCallO rfl (.c rfl (.c rfl .n)) C57 (fun w hw => ropen_ok y p w (hm.eff0 hw) hp hs) fun g hg => ?_
  refine lV (yMove rfl) rfl rfl ?_
  refine lV (yExtract rfl rfl) rfl rfl ?_
  refine lV (yExtract rfl rfl) rfl rfl ?_
  refine lV (yAssign rfl) rfl rfl ?_
  refine lV (yAssign rfl) rfl rfl ?_
  refine lNil ?_
  refine kThen ?_
  refine kSeq ?_
  refine kSeq ?_
  refine kRegion rfl ?_
  refine lV (yMove rfl) rfl rfl ?_
  refine lV (yEql rfl rfl) rfl rfl ?_
  refine known (t := 15) rfl (rfl) ?_
  refine lV (yMove rfl) rfl rfl ?_
  refine lGY rfl rfl rfl (oV (yLoadA (vs := [_, _, _]) rfl A26 (cOwn 0 rfl rfl)) rfl ?_)
  refine lGY rfl rfl rfl (oV (yCall rfl (.c rfl .n) C38 (fun w hw => rknown_any y p w (hm.eff0 hw) (by omega))) rfl ?_)
  refine lGY rfl rfl rfl (oV (yEql rfl rfl) rfl ?_)
  refine knownN (t := 19) rfl (by omega) ?_
  refine lV (yPickT rfl rfl) rfl rfl ?_
  refine lNil ?_
  refine kThen ?_
  refine kIfF rfl ?_
  refine kSkip ?_
  refine kThen ?_
  refine kSeq ?_
  refine kRegion rfl ?_
  refine lV (yMove rfl) rfl rfl ?_
  refine lV (yMove rfl) rfl rfl ?_
  refine lV (yAssign rfl) rfl rfl ?_
  refine lV (yAssign rfl) rfl rfl ?_
  refine lNil ?_
  refine kThen ?_
  refine kRet ?_
  refine fRet rfl (.t rfl (.t rfl .n)) ?_
  exact endX g hg rfl rfl (.d 0 .r)
theorem rdoubt_bad (y : Option Addr × Nat) (p : Plt) (is : Bool) (w : World) (hm : InP w y p) (hL : p.st.length ≤ 30) (h : toldE p is ≠ 0) :
    Calls Try.prog 60 [.agg (pltC y p).toArray, .bool is].toArray w (Ret w (.tuple [.slice none 0 0, i64 (toldE p is)].toArray)) := by
  unfold toldE at h ⊢
  by_cases ht : truthE p is = 0
  · rw [if_neg (not_not_intro ht)] at h ⊢
    obtain ⟨hp, rfl, hs⟩ := truthE_ok ht
    by_cases hk : knownP p = 0
    · rw [if_pos hk]; exact rdoubt_none y p w hm hp hs hk
    · rw [if_neg hk] at h; exact absurd rfl h
  · rw [if_pos ht]; exact rdoubt_err y p is w hm hL ht
end Go.Proofs.Ytlcdohhhhlhpmaa
