/-
  Walks: the least of the smallest sets; Clash and Drop.
-/
import Derived.Test.YtlcdohhhhlhpmaaAq
namespace Go.Proofs.Ytlcdohhhhlhpmaa
open ZW

def leastT (isB : Nat → Bool) (stars n : Nat) : Nat := (List.range n).foldl (fun b k => if b = 0 then onP isB stars (k + 1) 0 0 b else b) 0
def leastP (isB : Nat → Bool) (stars : Nat) : Nat := leastT isB stars (popc stars)
theorem leastT_succ (isB : Nat → Bool) (stars n : Nat) : leastT isB stars (n + 1) = if leastT isB stars n = 0 then onP isB stars (n + 1) 0 0 (leastT isB stars n) else leastT isB stars n := range_foldl_succ _ _ _
theorem leastT_stop (isB : Nat → Bool) (stars n : Nat) (h : leastT isB stars n ≠ 0) : ∀ k, leastT isB stars (n + k) = leastT isB stars n
  | 0 => rfl
  | k + 1 => by
    have ih := leastT_stop isB stars n h k
    rw [← Nat.add_assoc, leastT_succ, ih, if_neg h]
theorem subS_zero (t : Nat) : subS 0 t := fun i hi => by simp at hi
theorem leastT_lt (isB : Nat → Bool) (stars : Nat) (ht : stars < 1024) : ∀ n, leastT isB stars n < 1024
  | 0 => by simp [leastT]
  | n + 1 => by
    have ih := leastT_lt isB stars ht n
    rw [leastT_succ]
    split
    · exact onP_lt isB stars ht _ _ _ _ (subS_zero _) ih
    · exact ih
theorem popc_10 : ∀ s, s < 1024 → popc s ≤ 10 := by
  have h : ((List.range 1024).all fun s => Nat.ble (popc s) 10) = true := by kernel_rfl
  intro s hs
  exact Nat.le_of_ble_eq_true (List.all_eq_true.1 h s (List.mem_range.2 hs))
set_option maxRecDepth 100000 in
set_option maxHeartbeats 4000000 in
theorem least_any (F : FuncId) (caps : List Value) (hF : callT Try.prog F = true) (isB : Nat → Bool) (stars : Nat) (ht : stars < 1024) (W : World)
    (hI : ∀ w L, Eff W [] L w → ∀ s, subS s stars → Calls Try.prog F ([Value.int .u64 (s : Nat)] ++ caps).toArray w (Ret w (.bool (isB s)))) :
    Calls Try.prog 82 [.int .u64 (stars : Nat), .func (.func F) [].toArray caps.toArray].toArray W (Ret W (.int .u64 ((leastP isB stars : Nat) : Int))) := by
  have hpc := popc_10 stars ht
  refine fEnter Try.func82 rfl Try.ntmps82 rfl ?_
  refine kSeq ?_
  refine kRegion rfl ?_
  refine lE rfl ?_
  refine eBox1 rfl rfl fun n2 => ?_
  refine lE rfl ?_
  refine eBox1 rfl rfl fun n3 => ?_
  refine lE rfl ?_
  refine eAlloc Z114 fun n4 => ?_
  refine lNil ?_
  refine kThen ?_
  refine kSeq ?_
  refine kRegion rfl ?_
  refine lE rfl ?_
  refine eAlloc Z142 fun n5 => ?_
  refine lNil ?_
  refine kThen ?_
  refine kSeq ?_
  refine kRegion rfl ?_
  refine lV (yMakeFunc .n (.c rfl (.c rfl (.c rfl (.c rfl .n))))) rfl rfl ?_
  refine lE rfl ?_
  refine eStoreL 0 rfl rfl rfl rfl K142 rfl (rfl) ?_
  refine lNil ?_
  refine kThen ?_
  refine kSeq ?_
  refine kSeq ?_
  refine kRegion rfl ?_
  refine lV (yAssign rfl) rfl rfl ?_
  refine lNil ?_
  refine kThen ?_
  refine kBlock ?_
  refine kLoopX (ι := Nat) (fun k => k ≤ popc stars) (fun k => [(6, i64 ((k + 1 : Nat) : Int))]) [(0, _), (1, _), (2, _), (3, _), (4, _), (5, _), (7, _)] (fun k => []) (fun k => [(n4, blk [.int .u64 ((leastT isB stars k : Nat) : Int)] 114)]) [(n5, _), (n3, _), (n2, _)] (fun k => popc stars - k) 0 (Nat.zero_le _) rfl (.c rfl .n) (.c rfl (.c rfl (.c rfl (.c rfl (.c rfl (.c rfl (.c rfl .n))))))) (.c 0 rfl (.c 1 rfl (.c 1 rfl (.c 0 rfl .n)))) ?_
  rintro k hk
  have hbl := leastT_lt isB stars ht k
  refine kSeq ?_
  refine kSeq ?_
  refine kRegion rfl ?_
  refine lV (yMove rfl) rfl rfl ?_
  refine lV (yLoad1 rfl O114 (cOwn 2 rfl rfl)) rfl rfl ?_
  refine lV (yCall rfl (.c rfl .n) C115 (fun w hw => ones_any stars w (by omega))) rfl rfl ?_
  refine same (t := 10) (u := i64 (popc stars : Nat)) rfl (rfl) ?_
  refine lV (yLeq rfl rfl) rfl rfl ?_
  refine split (t := 11) rfl (fun h11 => ?_) (fun h11 => ?_)
  · refine lV (yMove rfl) rfl rfl ?_
    refine lGY rfl rfl rfl (oV (yLoad1 rfl O114 (cOwn 3 rfl rfl)) rfl ?_)
    refine lGY rfl rfl rfl (oV (yEql rfl rfl) rfl ?_)
    refine lV (yPickT rfl rfl) rfl rfl ?_
    refine lNil ?_
    refine kThen ?_
    refine split (t := 15) rfl (fun h15 => ?_) (fun h15 => ?_)
    · refine kIfT rfl ?_
      refine kSkip ?_
      refine kThen ?_
      refine kSeq ?_
      refine kBlock ?_
      refine kRegion rfl ?_
      refine lV (yLoad1 rfl O142 (cOwn 0 rfl rfl)) rfl rfl ?_
      refine lV (yMove rfl) rfl rfl ?_
      refine lE rfl ?_
      refine eCallW 3 rfl rfl (.c rfl (.c rfl (.c rfl .n))) C113 (fun w hw hb => on_any F caps hF isB stars ht n4 n3 n2 n5 (k + 1) 0 0 (leastT isB stars k) w (by omega) (by omega) (subS_zero _) hbl (hw.self (.c 3 rfl (.c 1 rfl (.c 1 rfl (.c 0 rfl .n))))) (fun w' o L' hw' => hI w' _ (hw.wroteL (i := 3) rfl hw'))) ?_
      refine lNil ?_
      refine kInN ?_
      refine kThen ?_
      refine kRegion rfl ?_
      refine lV (yMove rfl) rfl rfl ?_
      refine lV (yAdd rfl rfl (by omega)) rfl rfl ?_
      refine lV (yAssign rfl) rfl rfl ?_
      refine lNil ?_
      exact kRoundX (k + 1) (by omega) (by omega) rfl (.c (by show some (i64 _) = _; congr 1) .n) (.c rfl (.c rfl (.c rfl (.c rfl (.c rfl (.c rfl (.c rfl .n))))))) (.c 0 rfl (.c 0 rfl (.c 0 rfl (.c 0 (by rw [leastT_succ, if_pos (by omega)]; rfl) .n))))
    · refine kIfF rfl ?_
      refine kExit ?_
      refine kThenX ?_
      refine kThenX ?_
      refine kInX ?_
      refine kThen ?_
      refine kSeq ?_
      refine kRegion rfl ?_
      refine lV (yLoad1 rfl O114 (cOwn 3 rfl rfl)) rfl rfl ?_
      refine lE rfl ?_
      refine eStoreL 3 rfl rfl rfl rfl K114 rfl (rfl) ?_
      refine lNil ?_
      refine kThen ?_
      refine kRet ?_
      refine fRet rfl (.c1 rfl O114 (cOwn 3 rfl rfl) .n) ?_
      have hfin : leastT isB stars k = leastP isB stars := by
        by_cases h0 : leastT isB stars k = 0
        · have : k = popc stars := by omega
          rw [this]; rfl
        · have := leastT_stop isB stars k h0 (popc stars - k)
          rw [show k + (popc stars - k) = popc stars by omega] at this
          exact this.symm
      rw [← hfin]
      exact endRet rfl
  · refine lV (yMove rfl) rfl rfl ?_
    refine lGN rfl rfl rfl rfl rfl ?_
    refine lGN rfl rfl rfl rfl rfl ?_
    refine lV (yPickF rfl rfl) rfl rfl ?_
    refine lNil ?_
    refine kThen ?_
    refine kIfF rfl ?_
    refine kExit ?_
    refine kThenX ?_
    refine kThenX ?_
    refine kInX ?_
    refine kThen ?_
    refine kSeq ?_
    refine kRegion rfl ?_
    refine lV (yLoad1 rfl O114 (cOwn 3 rfl rfl)) rfl rfl ?_
    refine lE rfl ?_
    refine eStoreL 3 rfl rfl rfl rfl K114 rfl (rfl) ?_
    refine lNil ?_
    refine kThen ?_
    refine kRet ?_
    refine fRet rfl (.c1 rfl O114 (cOwn 3 rfl rfl) .n) ?_
    have hfin : leastT isB stars k = leastP isB stars := by
      by_cases h0 : leastT isB stars k = 0
      · have : k = popc stars := by omega
        rw [this]; rfl
      · have := leastT_stop isB stars k h0 (popc stars - k)
        rw [show k + (popc stars - k) = popc stars by omega] at this
        exact this.symm
    rw [← hfin]
    exact endRet rfl

/-! ### Clash and Drop -/
abbrev outI (r : Int × Int) : Value := .tuple [i64 r.1, i64 r.2].toArray
def clashB (p : Plt) (s : Nat) : Bool := !decide (scalesP p s ≠ [])
def clashE (p : Plt) : Int × Int := if ¬ PltOk p then (0, 1) else if scalesP p (knownP p) ≠ [] then (0, 0) else (((leastP (clashB p) (knownP p) : Nat) : Int), 0)
theorem subS_ok {p : Plt} {s : Nat} (h : subS s (knownP p)) : setOk p s := fun i hi => known_ok p i (h i hi)
set_option maxRecDepth 100000 in
theorem clash2_any (cn pb mb : Nat) (y : Option Addr × Nat) (p : Plt) (s : Nat) (w : World) (hc : w.heap[cn]? = some (blk [.pointer (some ⟨pb, 0, none⟩)] 91)) (hb : w.heap[pb]? = some (blk (lookC y p mb) 90)) (hst : InP w y p) (hp : PltOk p) (hs : setOk p s) :
    Calls Try.prog 83 [.int .u64 (s : Nat), .pointer (some ⟨cn, 0, none⟩)].toArray w (Ret w (.bool (clashB p s))) := by
  refine fEnter Try.func83 rfl Try.ntmps83 rfl ?_
  refine kSeq ?_
  refine kRegion rfl ?_
  refine lV (yAssign rfl) rfl rfl ?_
  refine lNil ?_
  refine kThen ?_
  refine kSeq ?_
  refine kRegion rfl ?_
  refine lV (yLoad1 rfl O91 (cOldB (hc) rfl)) rfl rfl ?_
  refine lV (yMove rfl) rfl rfl ?_
  refine lV (yCall rfl (.c rfl (.c rfl .n)) C80 (fun w hw => can_any pb mb y p s w (hw.old' hb) (hst.eff0 hw) hp hs)) rfl rfl ?_
  refine lV (yNot rfl) rfl rfl ?_
  refine lV (yAssign rfl) rfl rfl ?_
  refine lNil ?_
  refine kThen ?_
  refine kRet ?_
  refine fRet rfl (.t rfl .n) (endRet ?_)
  rfl
set_option maxRecDepth 100000 in
theorem clash_1 (y : Option Addr × Nat) (p : Plt) (w : World) (hm : InP w y p) (hp : ¬ PltOk p) : Calls Try.prog 26 [.agg (pltC y p).toArray].toArray w (Ret w (outI (clashE p))) := by
  refine fEnter Try.func26 rfl Try.ntmps26 rfl ?_
  refine kSeq ?_
  refine kRegion rfl ?_
  refine lE rfl ?_
  refine eBoxA rfl fun n1 => ?_
  refine lV (yAssign rfl) rfl rfl ?_
  refine lE rfl ?_
  refine eAlloc Z29 fun n3 => ?_
  refine lNil ?_
  refine kThen ?_
  refine kSeq ?_
  refine kRegion rfl ?_
  refine lV (yMakeFunc .n (.c rfl .n)) rfl rfl ?_
  refine lE rfl ?_
  refine eDefer rfl .n ?_
  refine lNil ?_
  refine kThen ?_
  refine kSeq ?_
  refine kRegion rfl ?_
  refine lV (yLoadA (vs := [_, _, _]) rfl A26 (cOwn 1 rfl rfl)) rfl rfl ?_
  refine lE rfl ?_
  refine eCallP rfl (.c rfl (.c rfl .n)) C79 (fun w hw => open_bad y p true 1 w (hm.eff0 hw) (.inl ⟨hp, rfl⟩)) ?_
  refine kThenP ?_
  refine fPanC 0 DClash C78 rfl rfl (.t rfl (.c1 rfl O29 (cOwn 0 rfl rfl) .n)) (endRet ?_)
  simp only [packV, clashE, if_pos hp]
set_option maxRecDepth 100000 in
set_option maxHeartbeats 2000000 in
theorem clash_0 (y : Option Addr × Nat) (p : Plt) (w : World) (hm : InP w y p) (hp : PltOk p) : Calls Try.prog 26 [.agg (pltC y p).toArray].toArray w (Ret w (outI (clashE p))) := by
  have hlt := setOk_lt (known_ok p) hp.n
  have hll : leastP (clashB p) (knownP p) < 1024 := leastT_lt _ _ hlt _
  refine fEnter Try.func26 rfl Try.ntmps26 rfl ?_
  refine kSeq ?_
  refine kRegion rfl ?_
  refine lE rfl ?_
  refine eBoxA rfl fun n1 => ?_
  refine lV (yAssign rfl) rfl rfl ?_
  refine lE rfl ?_
  refine eAlloc Z29 fun n3 => ?_
  refine lNil ?_
  refine kThen ?_
  refine kSeq ?_
  refine kRegion rfl ?_
  refine lV (yMakeFunc .n (.c rfl .n)) rfl rfl ?_
  refine lE rfl ?_
  refine eDefer rfl .n ?_
  refine lNil ?_
  refine kThen ?_
  refine kSeq ?_
  refine kRegion rfl ?_
  refine lV (yLoadA (vs := [_, _, _]) rfl A26 (cOwn 1 rfl rfl)) rfl rfl ?_
  refine lE rfl ?_
  refine eCallX rfl (.c rfl (.c rfl .n)) C79 (fun w hw => open_any y p w (hm.eff0 hw) hp) fun ⟨pb, mb⟩ _ => ?_
  refine lE rfl ?_
  refine eAlloc Z91 fun n4 => ?_
  refine lE rfl ?_
  refine eStoreL 0 rfl rfl rfl rfl K91 rfl (rfl) ?_
  refine lNil ?_
  refine kThen ?_
  refine kSeq ?_
  refine kSeq ?_
  refine kDrawE [(0, none), (1, none), (2, none), (3, none)] [] [0, 1, 2, 3] 0 hMix (by kernel_rfl) ?_
  refine .run rfl (yLoad1 rfl O91 (cOwn 0 rfl rfl)) rfl rfl ?_
  refine .run rfl (yLoad1 rfl O91 (cOwn 0 rfl rfl)) rfl rfl ?_
  refine .run rfl (yCall rfl (.c rfl .n) C81 (fun w hw => known_any pb mb y p w (hw.blkAt 1 rfl) (hm.eff0 hw) hp.n)) rfl rfl ?_
  refine .run rfl (yCall rfl (.c rfl (.c rfl .n)) C80 (fun w hw => can_any pb mb y p _ w (hw.blkAt 1 rfl) (hm.eff0 hw) hp (known_ok p))) rfl rfl ?_
  refine .done ?_
  refine effDone closedSt (hLeft [0, 1, 2, 3] (by kernel_rfl) (.c (fun _ _ hs => hs.ef) (.c (fun _ _ hs => hs.ef) (.c (fun _ _ hs => hs.ef) (.c (fun _ _ hs => hs.ef) .n))))) (by kernel_rfl) ?_
  refine kThen ?_
  refine splitB (t := 11) rfl (fun h11 => ?_) (fun h11 => ?_)
  · refine kIfT rfl ?_
    refine kSeq ?_
    refine kRegion rfl ?_
    refine lV (yAssign rfl) rfl rfl ?_
    refine lE rfl ?_
    refine eStoreL 3 rfl rfl rfl rfl K29 rfl (rfl) ?_
    refine lNil ?_
    refine kThen ?_
    refine kRet ?_
    refine kThenR ?_
    refine fRetC DClash C78 rfl (.t rfl (.c1 rfl O29 (cOwn 3 rfl rfl) .n)) (endRet ?_)
    have hx := of_decide_eq_true h11
    simp only [packV, clashE, if_neg (not_not_intro hp), if_pos hx]
  · refine kIfF rfl ?_
    refine kSkip ?_
    refine kThen ?_
    refine kSeq ?_
    refine kRegion rfl ?_
    refine lV (yLoad1 rfl O91 (cOwn 0 rfl rfl)) rfl rfl ?_
    refine lV (yCall rfl (.c rfl .n) C81 (fun w hw => known_any pb mb y p w (hw.blkAt 1 rfl) (hm.eff0 hw) hp.n)) rfl rfl ?_
    refine lV (yMakeFunc .n (.c rfl .n)) rfl rfl ?_
    refine lV (yCall rfl (.c rfl (.c rfl .n)) C82 (fun w hw => least_any 83 [.pointer (some ⟨n4, 0, none⟩)] C83 (clashB p) (knownP p) hlt w (fun w' L hw' s hs => clash2_any n4 pb mb y p s w' (hw'.old' (hw.blkAt 0 rfl)) (hw'.old' (hw.blkAt 1 rfl)) ((hm.eff0 hw).eff0 hw') hp (subS_ok hs)))) rfl rfl ?_
    refine lV (yConvInt rfl U114 U3 (conv_ok (by omega))) rfl rfl ?_
    refine lV (yAssign rfl) rfl rfl ?_
    refine lE rfl ?_
    refine eStoreL 3 rfl rfl rfl rfl K29 rfl (rfl) ?_
    refine lNil ?_
    refine kThen ?_
    refine kRet ?_
    refine fRetC DClash C78 rfl (.t rfl (.c1 rfl O29 (cOwn 3 rfl rfl) .n)) (endRet ?_)
    have hx := of_decide_eq_false h11
    simp only [packV, clashE, if_neg (not_not_intro hp), if_neg hx]
theorem clash_any (y : Option Addr × Nat) (p : Plt) (w : World) (hm : InP w y p) : Calls Try.prog 26 [.agg (pltC y p).toArray].toArray w (Ret w (outI (clashE p))) := by
  by_cases hp : PltOk p
  · exact clash_0 y p w hm hp
  · exact clash_1 y p w hm hp

def dropB (p : Plt) (s : Nat) : Bool := decide (scalesP p (less (knownP p) s) ≠ [])
def dropE (p : Plt) : Int × Int := if ¬ PltOk p then (0, 1) else if scalesP p (knownP p) ≠ [] then (0, 0) else (((leastP (dropB p) (knownP p) : Nat) : Int), 0)
theorem less_bit (a b i : Nat) : (less a b).testBit i = (a.testBit i && !b.testBit i) := by
  unfold less
  rw [Nat.testBit_xor, Nat.testBit_and]
  cases a.testBit i <;> cases b.testBit i <;> rfl
theorem less_ok (p : Plt) (s : Nat) : setOk p (less (knownP p) s) := fun i hi => known_ok p i (by
  rw [less_bit, Bool.and_eq_true] at hi; exact hi.1)
set_option maxRecDepth 100000 in
theorem drop2_any (cn pb mb : Nat) (y : Option Addr × Nat) (p : Plt) (s : Nat) (w : World) (hc : w.heap[cn]? = some (blk [.pointer (some ⟨pb, 0, none⟩)] 91)) (hb : w.heap[pb]? = some (blk (lookC y p mb) 90)) (hst : InP w y p) (hp : PltOk p) (hs : s < 1024) :
    Calls Try.prog 87 [.int .u64 (s : Nat), .pointer (some ⟨cn, 0, none⟩)].toArray w (Ret w (.bool (dropB p s))) := by
  have hlt := setOk_lt (known_ok p) hp.n
  refine fEnter Try.func87 rfl Try.ntmps87 rfl ?_
  refine kSeq ?_
  refine kRegion rfl ?_
  refine lV (yAssign rfl) rfl rfl ?_
  refine lNil ?_
  refine kThen ?_
  refine kSeq ?_
  refine kDrawE [(0, none), (1, none), (2, none), (5, none)] [] [0, 1, 2, 3, 4, 5, 6] 0 hMix (by kernel_rfl) ?_
  refine .run rfl (yLoad1 rfl O91 (cOldB (hc) rfl)) rfl rfl ?_
  refine .run rfl (yLoad1 rfl O91 (cOldB (hc) rfl)) rfl rfl ?_
  refine .run rfl (yCall rfl (.c rfl .n) C81 (fun w hw => known_any pb mb y p w (hw.old' hb) (hst.eff0 hw) hp.n)) rfl rfl ?_
  refine .run rfl (yMove rfl) rfl rfl ?_
  refine .run rfl (yAndNot rfl rfl rfl (by omega) (by omega)) rfl rfl ?_
  refine .run rfl (yCall rfl (.c rfl (.c rfl .n)) C80 (fun w hw => can_any pb mb y p _ w (hw.old' hb) (hst.eff0 hw) hp (less_ok p s))) rfl rfl ?_
  refine .run rfl (yAssign rfl) rfl rfl ?_
  refine .done ?_
  refine effDone closedSt (hLeft [0, 1, 2, 5] (by kernel_rfl) (.c (fun _ _ hs => hs.ef) (.c (fun _ _ hs => hs.ef) (.c (fun _ _ hs => hs.ef) (.c (fun _ _ hs => hs.ef) .n))))) (by kernel_rfl) ?_
  refine kThen ?_
  refine kRet ?_
  refine fRet rfl (.t rfl .n) (endRet ?_)
  rfl
set_option maxRecDepth 100000 in
theorem drop_1 (y : Option Addr × Nat) (p : Plt) (w : World) (hm : InP w y p) (hp : ¬ PltOk p) : Calls Try.prog 28 [.agg (pltC y p).toArray].toArray w (Ret w (outI (dropE p))) := by
  refine fEnter Try.func28 rfl Try.ntmps28 rfl ?_
  refine kSeq ?_
  refine kRegion rfl ?_
  refine lE rfl ?_
  refine eBoxA rfl fun n1 => ?_
  refine lV (yAssign rfl) rfl rfl ?_
  refine lE rfl ?_
  refine eAlloc Z29 fun n3 => ?_
  refine lNil ?_
  refine kThen ?_
  refine kSeq ?_
  refine kRegion rfl ?_
  refine lV (yMakeFunc .n (.c rfl .n)) rfl rfl ?_
  refine lE rfl ?_
  refine eDefer rfl .n ?_
  refine lNil ?_
  refine kThen ?_
  refine kSeq ?_
  refine kRegion rfl ?_
  refine lV (yLoadA (vs := [_, _, _]) rfl A26 (cOwn 1 rfl rfl)) rfl rfl ?_
  refine lE rfl ?_
  refine eCallP rfl (.c rfl (.c rfl .n)) C79 (fun w hw => open_bad y p true 1 w (hm.eff0 hw) (.inl ⟨hp, rfl⟩)) ?_
  refine kThenP ?_
  refine fPanC 0 DDrop C86 rfl rfl (.t rfl (.c1 rfl O29 (cOwn 0 rfl rfl) .n)) (endRet ?_)
  simp only [packV, dropE, if_pos hp]
set_option maxRecDepth 100000 in
set_option maxHeartbeats 2000000 in
theorem drop_0 (y : Option Addr × Nat) (p : Plt) (w : World) (hm : InP w y p) (hp : PltOk p) : Calls Try.prog 28 [.agg (pltC y p).toArray].toArray w (Ret w (outI (dropE p))) := by
  have hlt := setOk_lt (known_ok p) hp.n
  have hll : leastP (dropB p) (knownP p) < 1024 := leastT_lt _ _ hlt _
  refine fEnter Try.func28 rfl Try.ntmps28 rfl ?_
  refine kSeq ?_
  refine kRegion rfl ?_
  refine lE rfl ?_
  refine eBoxA rfl fun n1 => ?_
  refine lV (yAssign rfl) rfl rfl ?_
  refine lE rfl ?_
  refine eAlloc Z29 fun n3 => ?_
  refine lNil ?_
  refine kThen ?_
  refine kSeq ?_
  refine kRegion rfl ?_
  refine lV (yMakeFunc .n (.c rfl .n)) rfl rfl ?_
  refine lE rfl ?_
  refine eDefer rfl .n ?_
  refine lNil ?_
  refine kThen ?_
  refine kSeq ?_
  refine kRegion rfl ?_
  refine lV (yLoadA (vs := [_, _, _]) rfl A26 (cOwn 1 rfl rfl)) rfl rfl ?_
  refine lE rfl ?_
  refine eCallX rfl (.c rfl (.c rfl .n)) C79 (fun w hw => open_any y p w (hm.eff0 hw) hp) fun ⟨pb, mb⟩ _ => ?_
  refine lE rfl ?_
  refine eAlloc Z91 fun n4 => ?_
  refine lE rfl ?_
  refine eStoreL 0 rfl rfl rfl rfl K91 rfl (rfl) ?_
  refine lNil ?_
  refine kThen ?_
  refine kSeq ?_
  refine kSeq ?_
  refine kDrawE [(0, none), (1, none), (2, none), (3, none)] [] [0, 1, 2, 3] 0 hMix (by kernel_rfl) ?_
  refine .run rfl (yLoad1 rfl O91 (cOwn 0 rfl rfl)) rfl rfl ?_
  refine .run rfl (yLoad1 rfl O91 (cOwn 0 rfl rfl)) rfl rfl ?_
  refine .run rfl (yCall rfl (.c rfl .n) C81 (fun w hw => known_any pb mb y p w (hw.blkAt 1 rfl) (hm.eff0 hw) hp.n)) rfl rfl ?_
  refine .run rfl (yCall rfl (.c rfl (.c rfl .n)) C80 (fun w hw => can_any pb mb y p _ w (hw.blkAt 1 rfl) (hm.eff0 hw) hp (known_ok p))) rfl rfl ?_
  refine .done ?_
  refine effDone closedSt (hLeft [0, 1, 2, 3] (by kernel_rfl) (.c (fun _ _ hs => hs.ef) (.c (fun _ _ hs => hs.ef) (.c (fun _ _ hs => hs.ef) (.c (fun _ _ hs => hs.ef) .n))))) (by kernel_rfl) ?_
  refine kThen ?_
  refine splitB (t := 11) rfl (fun h11 => ?_) (fun h11 => ?_)
  · refine kIfT rfl ?_
    refine kSeq ?_
    refine kRegion rfl ?_
    refine lV (yAssign rfl) rfl rfl ?_
    refine lE rfl ?_
    refine eStoreL 3 rfl rfl rfl rfl K29 rfl (rfl) ?_
    refine lNil ?_
    refine kThen ?_
    refine kRet ?_
    refine kThenR ?_
    refine fRetC DDrop C86 rfl (.t rfl (.c1 rfl O29 (cOwn 3 rfl rfl) .n)) (endRet ?_)
    have hx := of_decide_eq_true h11
    simp only [packV, dropE, if_neg (not_not_intro hp), if_pos hx]
  · refine kIfF rfl ?_
    refine kSkip ?_
    refine kThen ?_
    refine kSeq ?_
    refine kRegion rfl ?_
    refine lV (yLoad1 rfl O91 (cOwn 0 rfl rfl)) rfl rfl ?_
    refine lV (yCall rfl (.c rfl .n) C81 (fun w hw => known_any pb mb y p w (hw.blkAt 1 rfl) (hm.eff0 hw) hp.n)) rfl rfl ?_
    refine lV (yMakeFunc .n (.c rfl .n)) rfl rfl ?_
    refine lV (yCall rfl (.c rfl (.c rfl .n)) C82 (fun w hw => least_any 87 [.pointer (some ⟨n4, 0, none⟩)] C87 (dropB p) (knownP p) hlt w (fun w' L hw' s hs => drop2_any n4 pb mb y p s w' (hw'.old' (hw.blkAt 0 rfl)) (hw'.old' (hw.blkAt 1 rfl)) ((hm.eff0 hw).eff0 hw') hp (subS_lt hs hlt)))) rfl rfl ?_
    refine lV (yConvInt rfl U114 U3 (conv_ok (by omega))) rfl rfl ?_
    refine lV (yAssign rfl) rfl rfl ?_
    refine lE rfl ?_
    refine eStoreL 3 rfl rfl rfl rfl K29 rfl (rfl) ?_
    refine lNil ?_
    refine kThen ?_
    refine kRet ?_
    refine fRetC DDrop C86 rfl (.t rfl (.c1 rfl O29 (cOwn 3 rfl rfl) .n)) (endRet ?_)
    have hx := of_decide_eq_false h11
    simp only [packV, dropE, if_neg (not_not_intro hp), if_neg hx]
theorem drop_any (y : Option Addr × Nat) (p : Plt) (w : World) (hm : InP w y p) : Calls Try.prog 28 [.agg (pltC y p).toArray].toArray w (Ret w (outI (dropE p))) := by
  by_cases hp : PltOk p
  · exact drop_0 y p w hm hp
  · exact drop_1 y p w hm hp
end Go.Proofs.Ytlcdohhhhlhpmaa
