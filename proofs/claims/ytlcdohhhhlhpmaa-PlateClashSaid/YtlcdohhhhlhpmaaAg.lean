/-
  Walks: a plate is opened; can some stars be right; the truth of a plate.
-/
import Derived.Test.YtlcdohhhhlhpmaaAf
import Derived.Test.YtlcdohhhhlhpmaaEngX
namespace Go.Proofs.Ytlcdohhhhlhpmaa
open ZW

set_option maxRecDepth 100000 in
theorem scales_any (pb set : Nat) (w : World) : Calls Try.prog 101 [.pointer (some ⟨pb, 0, none⟩), .int .u64 (set : Nat)].toArray w
    (RetX w (fun _ : Nat × Nat => True) (fun x => .func (.func 123) [].toArray [.pointer (some ⟨x.1, 0, none⟩), .pointer (some ⟨x.2, 0, none⟩)].toArray) (fun _ => [])
      (fun x => [(x.1, blk [.pointer (some ⟨pb, 0, none⟩)] 91), (x.2, blk [.int .u64 (set : Nat)] 114)])) := by
  refine fEnter Try.func101 rfl Try.ntmps101 rfl ?_
  refine kSeq ?_
  refine kRegion rfl ?_
  refine lE rfl ?_
  refine eBox1 rfl rfl fun n2 => ?_
  refine lE rfl ?_
  refine eBox1 rfl rfl fun n3 => ?_
  refine lV (yAssign rfl) rfl rfl ?_
  refine lNil ?_
  refine kThen ?_
  refine kSeq ?_
  refine kRegion rfl ?_
  refine lV (yMakeFunc .n (.c rfl (.c rfl .n))) rfl rfl ?_
  refine lV (yAssign rfl) rfl rfl ?_
  refine lNil ?_
  refine kThen ?_
  refine kRet ?_
  refine fRet rfl (.t rfl .n) ?_
  exact endX (n2, n3) trivial rfl rfl (.c 1 rfl (.c 0 rfl .n))

/-- What comes of opening a plate. -/
def OpenR (w : World) (y : Option Addr × Nat) (p : Plt) (is : Bool) : Ending → World → Prop := fun e w' =>
  (PltOk p ∧ is = true ∧ RetX w (fun _ : Nat × Nat => True) (fun x => .pointer (some ⟨x.1, 0, none⟩)) (fun _ => []) (fun x => [(x.1, blk (lookC y p x.2) 90), (x.2, mapO .i64 [])]) e w') ∨
  (¬ PltOk p ∧ Pan w (misV 1) e w') ∨ (PltOk p ∧ is = false ∧ Pan w (misV 2) e w')
set_option maxRecDepth 100000 in
theorem open_all (y : Option Addr × Nat) (p : Plt) (is : Bool) (w : World) (hm : InP w y p) : Calls Try.prog 79 [.agg (pltC y p).toArray, .bool is].toArray w (OpenR w y p is) := by
  refine fEnter Try.func79 rfl Try.ntmps79 rfl ?_
  refine kSeq ?_
  refine kRegion rfl ?_
  refine lE rfl ?_
  refine eBoxA rfl fun n2 => ?_
  refine lV (yAssign rfl) rfl rfl ?_
  refine lNil ?_
  refine kThen ?_
  refine kSeq ?_
  refine kRegion rfl ?_
  refine lV (yLoadA (vs := [_, _, _]) rfl A26 (cOwn 0 rfl rfl)) rfl rfl ?_
  refine lV (yCall rfl (.c rfl .n) C112 (fun w hw => isPlate_any y p w (hm.eff0 hw))) rfl rfl ?_
  refine splitB (t := 6) rfl (fun h6 => ?_) (fun h6 => ?_)
  · refine lV (yCall rfl (.c rfl (.c rfl .n)) C76 (fun w hw => need_ok 1 w)) rfl rfl ?_
    refine lNil ?_
    refine kThen ?_
    refine kSeq ?_
    refine kRegion rfl ?_
    refine lV (yMove rfl) rfl rfl ?_
    refine splitB (t := 8) rfl (fun h8 => ?_) (fun h8 => ?_)
    · refine lV (yCall rfl (.c rfl (.c rfl .n)) C76 (fun w hw => need_ok 2 w)) rfl rfl ?_
      refine lNil ?_
      refine kThen ?_
      refine kSeq ?_
      refine kRegion rfl ?_
      refine lV (yLoadA (vs := [_, _, _]) rfl A26 (cOwn 0 rfl rfl)) rfl rfl ?_
      refine lE rfl ?_
      refine eMakeMap (k := .i64) fun n11 => ?_
      refine lV (yBuild (.c rfl (.c rfl .n)) (fun w => B90_0_1 w)) rfl rfl ?_
      refine lE rfl ?_
      refine eBoxA rfl fun n13 => ?_
      refine lV (yAssign rfl) rfl rfl ?_
      refine lNil ?_
      refine kThen ?_
      refine kRet ?_
      refine fRet rfl (.t rfl .n) ?_
      exact fun w' hw' => .inl ⟨of_decide_eq_true h6, h8, endX (n13, n11) trivial rfl rfl (.c 0 rfl (.c 0 rfl .n)) w' hw'⟩
    · refine lE rfl ?_
      refine eCallP rfl (.c rfl (.c rfl .n)) C76 (fun w hw => need_pan 2 w) ?_
      refine kThenP ?_
      exact fPan (fun w' hw => .inr (.inr ⟨of_decide_eq_true h6, h8, endPan rfl w' hw⟩))
  · refine lE rfl ?_
    refine eCallP rfl (.c rfl (.c rfl .n)) C76 (fun w hw => need_pan 1 w) ?_
    refine kThenP ?_
    exact fPan (fun w' hw => .inr (.inl ⟨of_decide_eq_false h6, endPan rfl w' hw⟩))
theorem open_any (y : Option Addr × Nat) (p : Plt) (w : World) (hm : InP w y p) (hp : PltOk p) : Calls Try.prog 79 [.agg (pltC y p).toArray, .bool true].toArray w
    (RetX w (fun _ : Nat × Nat => True) (fun x => .pointer (some ⟨x.1, 0, none⟩)) (fun _ => []) (fun x => [(x.1, blk (lookC y p x.2) 90), (x.2, mapO .i64 [])])) :=
  (open_all y p true w hm).mono fun _ _ h => h.elim (fun h => h.2.2) (fun h => h.elim (fun h => absurd hp h.1) (fun h => absurd h.2.1 (by decide)))
theorem open_bad (y : Option Addr × Nat) (p : Plt) (is : Bool) (e : Int) (w : World) (hm : InP w y p) (h : (¬ PltOk p ∧ e = 1) ∨ (PltOk p ∧ is = false ∧ e = 2)) : Calls Try.prog 79 [.agg (pltC y p).toArray, .bool is].toArray w (Pan w (misV e)) :=
  (open_all y p is w hm).mono fun _ _ hx => by
    rcases h with ⟨h1, rfl⟩ | ⟨h1, h2, rfl⟩
    · rcases hx with hx | hx | hx
      · exact absurd hx.1 h1
      · exact hx.2
      · exact absurd hx.1 h1
    · rcases hx with hx | hx | hx
      · rw [h2] at hx; exact absurd hx.2.1 (by decide)
      · exact absurd h1 hx.1
      · exact hx.2.2

theorem scalesP_nil {p : Plt} {set : Nat} : scalesP p set = [] ↔ (filS p set (nSc p)).length = 0 := by
  unfold scalesP; rw [List.map_eq_nil_iff, List.length_eq_zero_iff]
set_option maxRecDepth 100000 in
set_option maxHeartbeats 4000000 in
theorem can_any (pb mb : Nat) (y : Option Addr × Nat) (p : Plt) (set : Nat) (w : World) (hb : w.heap[pb]? = some (blk (lookC y p mb) 90)) (hst : InP w y p) (hp : PltOk p) (hset : setOk p set) :
    Calls Try.prog 80 [.pointer (some ⟨pb, 0, none⟩), .int .u64 (set : Nat)].toArray w (Ret w (.bool (decide (scalesP p set ≠ [])))) := by
  refine fEnter Try.func80 rfl Try.ntmps80 rfl ?_
  refine kSeq ?_
  refine kRegion rfl ?_
  refine lE rfl ?_
  refine eAlloc Z4 fun n4 => ?_
  refine lNil ?_
  refine kThen ?_
  refine kSeq ?_
  refine kSeq ?_
  refine kRegion rfl ?_
  refine lV (yMove rfl) rfl rfl ?_
  refine lV (yMove rfl) rfl rfl ?_
  refine lE rfl ?_
  refine eCallX rfl (.c rfl (.c rfl .n)) C101 (fun w hw => scales_any pb set w) fun ⟨pn, sn⟩ _ => ?_
  refine lNil ?_
  refine kThen ?_
  refine kBlock ?_
  refine kRangeS [(pn, _), (sn, _)] (fun w => w.heap[pb]? = some (blk (lookC y p mb) 90)) (yieldV p set) ((filS p set (nSc p)).length) false (fun i => [(n4, blk [.bool (decide (0 < i))] 4)]) rfl C123 rfl rfl (.c 0 rfl (.c 0 rfl (.c 0 rfl .n))) (fun _ => rfl) (scales1_any y p set pn sn pb mb w false hst hp hset) (fun i w L hw => hw.old' hb) ?_ ?_ ?_
  · intro l r i w' hi hr
    refine kSkip ?_
    refine kThen ?_
    refine rBegin hr.1 ?_
    refine kBlock ?_
    refine kSeq ?_
    refine kRegion rfl ?_
    refine lE rfl ?_
    refine eStoreM 3 rfl rfl rfl rfl K4 rfl (rfl) ?_
    refine lNil ?_
    refine kThen ?_
    refine kRet ?_
    refine kInR ?_
    exact rRetS
  · intro hb r l o
    refine kInN ?_
    refine kThen ?_
    refine kSeq ?_
    refine kRegion rfl ?_
    refine lE rfl ?_
    refine eStoreL 4 rfl rfl rfl rfl K4 rfl (rfl) ?_
    refine lNil ?_
    refine kThen ?_
    refine kRet ?_
    refine fMark 1 rfl (.inl rfl) ?_
    refine fRet rfl (.c1 rfl O4 (cOwn 4 rfl rfl) .n) (endRet ?_)
    have h0 : scalesP p set = [] := by rcases hb with h | h; (· cases h); exact scalesP_nil.2 h
    simp only [packV, h0, ne_eq, not_true_eq_false, decide_false]
  · intro hb hn r l o
    refine kInR ?_
    refine kThenR ?_
    refine fMark 1 rfl (.inl rfl) ?_
    refine fRet rfl (.c1 rfl O4 (cOwn 4 rfl rfl) .n) (endRet ?_)
    have h0 : scalesP p set ≠ [] := fun h => by have := scalesP_nil.1 h; omega
    simp only [packV, decide_eq_true h0]; rfl

/-! ### The truth of a plate -/
/-- The first so many entries of the corners. -/
def esP (p : Plt) (set k : Nat) : List (Int × Value) := (List.range k).map fun i => ((scalesP p set).getD i 0, .agg (cornC p set ((scalesP p set).getD i 0)).toArray)
theorem mFind_none : ∀ (es : List (Int × Value)) (a : Int) (i : Nat), (∀ x ∈ es, x.1 ≠ a) → mFind es a i = none
  | [], _, _, _ => rfl
  | (b, v) :: r, a, i, h => by
    rw [mFind, if_neg (fun e => h (b, v) (by simp) e.symm)]
    exact mFind_none r a (i + 1) fun x hx => h x (by simp [hx])
theorem scalesP_nodup (p : Plt) (set : Nat) : (scalesP p set).Nodup := by
  unfold scalesP
  refine List.Pairwise.map _ (R := fun a b => a ≠ b) (fun a b h e => h (by omega)) ?_
  exact List.Nodup.sublist List.filter_sublist List.nodup_range
theorem scalesP_len (p : Plt) (set : Nat) : (scalesP p set).length = (filS p set (nSc p)).length := by unfold scalesP; simp
theorem esP_succ (p : Plt) (set k : Nat) (h : k < (scalesP p set).length) : mPut (esP p set k) ((scalesP p set).getD k 0) (.agg (cornC p set ((scalesP p set).getD k 0)).toArray) = esP p set (k + 1) := by
  have hg : ∀ i (hi : i < (scalesP p set).length), (scalesP p set).getD i 0 = (scalesP p set)[i] := fun i hi => (List.getElem_eq_getD (h := hi) 0).symm
  have hn : mFind (esP p set k) ((scalesP p set).getD k 0) 0 = none := by
    refine mFind_none _ _ _ fun x hx => ?_
    unfold esP at hx
    obtain ⟨j, hj, rfl⟩ := List.mem_map.1 hx
    rw [List.mem_range] at hj
    dsimp only
    rw [hg k h, hg j (by omega)]
    intro e
    have := (List.getElem_inj (scalesP_nodup p set)).1 e
    omega
  rw [mPut, hn, esP, esP, List.range_succ, List.map_append]
  rfl
theorem esP_len (p : Plt) (set k : Nat) : (esP p set k).length = k := by simp [esP]
abbrev esA (p : Plt) (set : Nat) : List (Int × Value) := esP p set (filS p set (nSc p)).length
/-- A plate that has a truth, with its corners. -/
abbrev truthL (y : Option Addr × Nat) (p : Plt) (x : Nat × Nat) : Heap := [(x.1, blk (lookC y p x.2) 90), (x.2, mapO .i64 (esA p (knownP p)))]
set_option maxRecDepth 100000 in
set_option maxHeartbeats 1000000 in
theorem truth_all (y : Option Addr × Nat) (p : Plt) (w : World) (hm : InP w y p) (hp : PltOk p) : Calls Try.prog 55 [.agg (pltC y p).toArray, .bool true].toArray w
    (fun e w' => (scalesP p (knownP p) ≠ [] ∧ RetX w (fun _ : Nat × Nat => True) (fun x => .pointer (some ⟨x.1, 0, none⟩)) (fun _ => []) (truthL y p) e w') ∨ (scalesP p (knownP p) = [] ∧ Pan w (misV 10) e w')) := by
  refine fEnter Try.func55 rfl Try.ntmps55 rfl ?_
  refine kSeq ?_
  refine kRegion rfl ?_
  refine lE rfl ?_
  refine eBoxA rfl fun n2 => ?_
  refine lV (yAssign rfl) rfl rfl ?_
  refine lNil ?_
  refine kThen ?_
  refine kSeq ?_
  refine kRegion rfl ?_
  refine lV (yLoadA (vs := [_, _, _]) rfl A26 (cOwn 0 rfl rfl)) rfl rfl ?_
  refine lV (yMove rfl) rfl rfl ?_
  refine lE rfl ?_
  refine eCallX rfl (.c rfl (.c rfl .n)) C79 (fun w hw => open_any y p w (hm.eff0 hw) hp) fun ⟨pb, mb⟩ _ => ?_
  refine lE rfl ?_
  refine eAlloc Z91 fun n5 => ?_
  refine lE rfl ?_
  refine eStoreL 0 rfl rfl rfl rfl K91 rfl (rfl) ?_
  refine lNil ?_
  refine kThen ?_
  refine kSeq ?_
  refine kSeq ?_
  refine kDrawE [(0, none), (1, none), (2, none)] [] [0, 1, 2] 1 hMix (by kernel_rfl) ?_
  refine .run rfl (yLoad1 rfl O91 (cOwn 0 rfl rfl)) rfl rfl ?_
  refine .run rfl (yLoad1 rfl O91 (cOwn 0 rfl rfl)) rfl rfl ?_
  refine .run rfl (yCall rfl (.c rfl .n) C81 (fun w hw => known_any pb mb y p w (hw.blkAt 1 rfl) (hm.eff0 hw) hp.n)) rfl rfl ?_
  refine .done ?_
  refine effStep 3 [] (by kernel_rfl) closedSt (hLeft [0, 1, 2] (by kernel_rfl) (.c (fun _ _ hs => hs.ef) (.c (fun _ _ hs => hs.ef) (.c (fun _ _ hs => hs.ef) .n)))) ?_
  refine .c ?_ .n
  refine effOne rfl (gNone rfl (fCallO rfl (.c rfl (.c rfl .n)) C101 (fun w hw => scales_any pb (knownP p) w))) ?_
  refine effDone (closedEx fun x => closedSt) (hLeft [] (by kernel_rfl) .n) (by kernel_rfl) ?_
  refine trEx fun x => ?_
  obtain ⟨⟨pn, sn⟩, _⟩ := x
  dsimp only
  refine kThen ?_
  refine kBlock ?_
  refine kRangeS [(pn, _), (sn, _)] (fun w => w.heap[pb]? = some (blk (lookC y p mb) 90)) (yieldV p (knownP p)) ((filS p (knownP p) (nSc p)).length) true (fun i => [(n5, blk [.pointer (some ⟨pb, 0, none⟩)] 91), (pb, blk (lookC y p mb) 90), (mb, mapO .i64 (esP p (knownP p) i))]) rfl C123 rfl rfl (.c 4 rfl (.c 4 rfl (.c 0 rfl (.c 0 rfl (.c 0 rfl .n))))) (fun _ => rfl) (scales1_any y p (knownP p) pn sn pb mb w true hm hp (known_ok p)) (fun i w L hw => hw.own (pb, _) (by simp)) ?_ ?_ ?_
  · intro l r i w' hi hr
    refine kSeq ?_
    refine kRegion rfl ?_
    refine lV (yAssign rfl) rfl rfl ?_
    refine lNil ?_
    refine kThen ?_
    refine kRegion rfl ?_
    refine lE rfl ?_
    refine eAlloc Z97 fun n7 => ?_
    refine lE rfl ?_
    refine eStoreL 0 rfl rfl rfl rfl K97 rfl (rfl) ?_
    refine lNil ?_
    refine kThen ?_
    refine rBegin hr.1 ?_
    refine kBlock ?_
    refine kDrawE [(0, none), (3, none), (5, none)] [] [0, 1, 2, 3, 4, 5] 1 hMix (by kernel_rfl) ?_
    refine .run rfl (yLoad1 rfl O91 (cOwn 3 rfl rfl)) rfl rfl ?_
    refine .run rfl (yNilCheckP rfl) rfl rfl ?_
    refine .run rfl (yFieldAddr rfl F90_1) rfl rfl ?_
    refine .run rfl (yLoad1 rfl O88 (cOwn 4 rfl rfl)) rfl rfl ?_
    refine .run rfl (yMove rfl) rfl rfl ?_
    refine .run rfl (yLoadA (vs := [_, _, _, _]) rfl A97 (cOwn 6 rfl rfl)) rfl rfl ?_
    refine .done ?_
    refine effStep 6 [] (by kernel_rfl) closedSt (hLeft [0, 3, 5] (by kernel_rfl) (.c (fun _ _ hs => hs.ef) (.c (fun _ _ hs => hs.ef) (.c (fun _ _ hs => hs.ef) .n)))) ?_
    refine .c ?_ .n
    refine effOne rfl (gNone rfl (eMapUpdateM 5 MP88 rfl rfl rfl rfl trSelf)) ?_
    refine effDone closedSt (hLeft [] (by kernel_rfl) .n) (by kernel_rfl) ?_
    refine kInN ?_
    rw [← esP_succ p (knownP p) i (by rw [scalesP_len]; exact hi)]
    exact rNormalS hr
  · intro hb r l o
    refine kInN ?_
    refine kThen ?_
    refine kSeq ?_
    refine kRegion rfl ?_
    refine lV (yLoad1 rfl O91 (cOwn 4 rfl rfl)) rfl rfl ?_
    refine lV (yNilCheckP rfl) rfl rfl ?_
    refine lV (yFieldAddr rfl F90_1) rfl rfl ?_
    refine lV (yLoad1 rfl O88 (cOwn 5 rfl rfl)) rfl rfl ?_
    refine lV (yLenM rfl MP88 (fun w hw => hw.blkAt 6 rfl)) rfl rfl ?_
    refine lV (yGtr rfl rfl) rfl rfl ?_
    refine split (t := 28) rfl (fun h28 => ?_) (fun h28 => ?_)
    · refine lV (yCall rfl (.c rfl (.c rfl .n)) C76 (fun w hw => need_ok 10 w)) rfl rfl ?_
      refine lNil ?_
      refine kThen ?_
      refine kSeq ?_
      refine kRegion rfl ?_
      refine lV (yLoad1 rfl O91 (cOwn 4 rfl rfl)) rfl rfl ?_
      refine lV (yAssign rfl) rfl rfl ?_
      refine lNil ?_
      refine kThen ?_
      refine kRet ?_
      refine fMark 1 rfl (.inl rfl) ?_
      refine fRet rfl (.t rfl .n) fun w' hw' => .inl ⟨fun h => by rw [esP_len, scalesP_nil.1 h] at h28; exact absurd h28 (by decide), endX (pb, mb) trivial rfl rfl (.c 5 rfl (.c 5 rfl .n)) w' hw'⟩
    · refine lE rfl ?_
      refine eCallP rfl (.c rfl (.c rfl .n)) C76 (fun w hw => need_pan 10 w) ?_
      refine kThenP ?_
      refine fMarkP 1 rfl ?_
      refine fPan fun w' hw' => .inr ⟨scalesP_nil.2 (by rw [esP_len] at h28; omega), endPan rfl w' hw'⟩
  · intro hb
    cases hb
set_option maxRecDepth 100000 in
theorem truth_pan (y : Option Addr × Nat) (p : Plt) (is : Bool) (e : Int) (w : World) (hm : InP w y p) (h : (¬ PltOk p ∧ e = 1) ∨ (PltOk p ∧ is = false ∧ e = 2)) : Calls Try.prog 55 [.agg (pltC y p).toArray, .bool is].toArray w (Pan w (misV e)) := by
  refine fEnter Try.func55 rfl Try.ntmps55 rfl ?_
  refine kSeq ?_
  refine kRegion rfl ?_
  refine lE rfl ?_
  refine eBoxA rfl fun n2 => ?_
  refine lV (yAssign rfl) rfl rfl ?_
  refine lNil ?_
  refine kThen ?_
  refine kSeq ?_
  refine kRegion rfl ?_
  refine lV (yLoadA (vs := [_, _, _]) rfl A26 (cOwn 0 rfl rfl)) rfl rfl ?_
  refine lV (yMove rfl) rfl rfl ?_
  refine lE rfl ?_
  refine eCallP rfl (.c rfl (.c rfl .n)) C79 (fun w hw => open_bad y p is e w (hm.eff0 hw) h) ?_
  refine kThenP ?_
  exact fPan (endPan rfl)
/-- The errors of what asks for a truth. -/
def truthE (p : Plt) (is : Bool) : Int := if ¬ PltOk p then 1 else if is = false then 2 else if scalesP p (knownP p) = [] then 10 else 0
theorem truth_any (y : Option Addr × Nat) (p : Plt) (is : Bool) (w : World) (hm : InP w y p) (h : truthE p is = 0) : Calls Try.prog 55 [.agg (pltC y p).toArray, .bool is].toArray w
    (RetX w (fun _ : Nat × Nat => True) (fun x => .pointer (some ⟨x.1, 0, none⟩)) (fun _ => []) (truthL y p)) := by
  unfold truthE at h
  split at h
  · cases h
  · rename_i hp
    have hp := Decidable.not_not.1 hp
    cases is with
    | false => cases h
    | true =>
      rw [if_neg (by decide)] at h
      split at h
      · cases h
      · rename_i hs
        exact (truth_all y p w hm hp).mono fun _ _ hx => hx.elim (fun hx => hx.2) (fun hx => absurd hx.1 hs)
theorem truth_bad (y : Option Addr × Nat) (p : Plt) (is : Bool) (w : World) (hm : InP w y p) (h : truthE p is ≠ 0) : Calls Try.prog 55 [.agg (pltC y p).toArray, .bool is].toArray w (Pan w (misV (truthE p is))) := by
  unfold truthE at h ⊢
  split
  · rename_i hp
    exact truth_pan y p is 1 w hm (.inl ⟨hp, rfl⟩)
  · rename_i hp
    have hp := Decidable.not_not.1 hp
    cases is with
    | false => exact truth_pan y p false 2 w hm (.inr ⟨hp, rfl, rfl⟩)
    | true =>
      rw [if_neg (by decide)]
      split
      · rename_i hs
        exact (truth_all y p w hm hp).mono fun _ _ hx => hx.elim (fun hx => absurd hs hx.1) (fun hx => hx.2)
      · rename_i hs
        rw [if_neg (not_not_intro hp), if_neg (by decide), if_neg hs] at h
        exact absurd rfl h
theorem truthE_ok {p : Plt} {is : Bool} (h : truthE p is = 0) : PltOk p ∧ is = true ∧ scalesP p (knownP p) ≠ [] := by
  unfold truthE at h
  split at h
  · cases h
  · rename_i hp
    refine ⟨Decidable.not_not.1 hp, ?_⟩
    cases is with
    | false => cases h
    | true =>
      refine ⟨rfl, fun hs => ?_⟩
      rw [if_neg (by decide), if_pos hs] at h
      cases h
end Go.Proofs.Ytlcdohhhhlhpmaa
