/-
  Walks: errors; what is kept of numbers; which stars are known.
-/
import Derived.Test.YtlcdohhhhlhpmaaAb
namespace Go.Proofs.Ytlcdohhhhlhpmaa
open ZW

set_option maxRecDepth 100000 in
theorem within_any (n a b : Int) (w : World) : Calls Try.prog 75 [i64 n, i64 a, i64 b].toArray w (Ret w (.bool (decide (a ≤ n ∧ n ≤ b)))) := by
  refine fEnter Try.func75 rfl Try.ntmps75 rfl ?_
  refine kSeq ?_
  refine kRegion rfl ?_
  refine lV (yAssign rfl) rfl rfl ?_
  refine lNil ?_
  refine kThen ?_
  refine kSeq ?_
  refine kRegion rfl ?_
  refine lV (yMove rfl) rfl rfl ?_
  refine lV (yMove rfl) rfl rfl ?_
  refine lV (yLeq rfl rfl) rfl rfl ?_
  refine lV (yMove rfl) rfl rfl ?_
  refine split (t := 10) rfl (fun h10 => ?_) (fun h10 => ?_)
  · refine lGY rfl rfl rfl (oV (yMove rfl) rfl ?_)
    refine lGY rfl rfl rfl (oV (yMove rfl) rfl ?_)
    refine lGY rfl rfl rfl (oV (yLeq rfl rfl) rfl ?_)
    refine lV (yPickT rfl rfl) rfl rfl ?_
    refine lV (yAssign rfl) rfl rfl ?_
    refine lNil ?_
    refine kThen ?_
    refine kRet ?_
    refine fRet rfl (.t rfl .n) (endRet ?_)
    simp [packV, *]
  · refine lGN rfl rfl rfl rfl rfl ?_
    refine lGN rfl rfl rfl rfl rfl ?_
    refine lGN rfl rfl rfl rfl rfl ?_
    refine lV (yPickF rfl rfl) rfl rfl ?_
    refine lV (yAssign rfl) rfl rfl ?_
    refine lNil ?_
    refine kThen ?_
    refine kRet ?_
    refine fRet rfl (.t rfl .n) (endRet ?_)
    simp [packV, *]
set_option maxRecDepth 100000 in
theorem need_ok (e : Int) (w : World) : Calls Try.prog 76 [.bool true, i64 e].toArray w (Ret w (.tuple #[])) := by
  refine fEnter Try.func76 rfl Try.ntmps76 rfl ?_
  refine kSeq ?_
  refine kRegion rfl ?_
  refine lV (yMove rfl) rfl rfl ?_
  refine lV (yNot rfl) rfl rfl ?_
  refine lNil ?_
  refine kThen ?_
  refine kIfF rfl ?_
  refine kSkip ?_
  refine fEnd rfl .n (endRet ?_)
  rfl
abbrev misV (e : Int) : Value := .iface 129 (.agg [i64 e].toArray)
set_option maxRecDepth 100000 in
theorem need_pan (e : Int) (w : World) : Calls Try.prog 76 [.bool false, i64 e].toArray w (Pan w (misV e)) := by
  refine fEnter Try.func76 rfl Try.ntmps76 rfl ?_
  refine kSeq ?_
  refine kRegion rfl ?_
  refine lV (yMove rfl) rfl rfl ?_
  refine lV (yNot rfl) rfl rfl ?_
  refine lNil ?_
  refine kThen ?_
  refine kIfT rfl ?_
  refine kRegion rfl ?_
  refine lV (yMove rfl) rfl rfl ?_
  refine lV (yBuild (.c rfl .n) (fun w => B129_0 w)) rfl rfl ?_
  refine lV (yMakeInterface rfl I129) rfl rfl ?_
  refine lE rfl ?_
  refine ePanic rfl ?_
  exact fPan (endPan rfl)
set_option maxRecDepth 100000 in
theorem caught_nil (v : Value) (w : World) : Calls Try.prog 53 [.nilIface, v].toArray w (Ret w (.tuple #[])) := by
  refine fEnter Try.func53 rfl Try.ntmps53 rfl ?_
  refine kSeq ?_
  refine kSeq ?_
  refine kRegion rfl ?_
  refine lV (yMove rfl) rfl rfl ?_
  refine lV (yEqNilNil' rfl J20) rfl rfl ?_
  refine lNil ?_
  refine kThen ?_
  refine kIfT rfl ?_
  refine kRet ?_
  refine kThenR ?_
  refine fRet rfl .n (endRet ?_)
  rfl
set_option maxRecDepth 100000 in
theorem caught_mis (e x : Int) (n : Nat) (w : World) (hb : w.heap[n]? = some (blk [i64 x] 29)) : Calls Try.prog 53 [misV e, .pointer (some ⟨n, 0, none⟩)].toArray w (Wr w n (blk [i64 e] 29) (.tuple #[])) := by
  refine fEnterM (Eff.one hb) Try.func53 rfl Try.ntmps53 rfl ?_
  refine kSeq ?_
  refine kSeq ?_
  refine kRegion rfl ?_
  refine lV (yMove rfl) rfl rfl ?_
  refine lV (yEqNilIf' rfl J20) rfl rfl ?_
  refine lNil ?_
  refine kThen ?_
  refine kIfF rfl ?_
  refine kSkip ?_
  refine kThen ?_
  refine kSeq ?_
  refine kRegion rfl ?_
  refine lV (yMove rfl) rfl rfl ?_
  refine lV (yAssertY rfl I129) rfl rfl ?_
  refine lV (yMove rfl) rfl rfl ?_
  refine lV (yExtract rfl rfl) rfl rfl ?_
  refine lV (yExtract rfl rfl) rfl rfl ?_
  refine lE rfl ?_
  refine eAlloc Z129 fun n4 => ?_
  refine lE rfl ?_
  refine eStoreL 0 rfl rfl rfl rfl K129 rfl (rfl) ?_
  refine lV (yAssign rfl) rfl rfl ?_
  refine lNil ?_
  refine kThen ?_
  refine kSeq ?_
  refine kSeq ?_
  refine kRegion rfl ?_
  refine lV (yMove rfl) rfl rfl ?_
  refine lV (yNot rfl) rfl rfl ?_
  refine lNil ?_
  refine kThen ?_
  refine kIfF rfl ?_
  refine kSkip ?_
  refine kThen ?_
  refine kRegion rfl ?_
  refine lV (yMove rfl) rfl rfl ?_
  refine lV (yFieldAddr rfl F129_0) rfl rfl ?_
  refine lV (yLoad1 rfl O29 (cOwn 1 rfl rfl)) rfl rfl ?_
  refine lV (yNilCheckP rfl) rfl rfl ?_
  refine lE rfl ?_
  refine eStoreM 0 rfl rfl rfl rfl K29 rfl (rfl) ?_
  refine lNil ?_
  refine fEnd rfl .n ?_
  exact endW rfl rfl

/-! ### Deferred closures that catch a misfit -/
structure Catch (f : FuncId) : Prop where
  ret : ∀ p w, CallsDIn (FW none) 0 Try.prog f #[p] .returning w (fun e u' w' => (∃ v, e = .returned v) ∧ u' = .returning ∧ Eff w [] [] w')
  pan : ∀ (n : Nat) (x e : Int) (w : World), w.heap[n]? = some (blk [i64 x] 29) → CallsDIn (FW none) 0 Try.prog f #[.pointer (some ⟨n, 0, none⟩)] (.panicking [{ v := misV e, recovered := false }]) w
    (fun en u' w' => (∃ v, en = .returned v) ∧ u' = .panicking [{ v := misV e, recovered := true }] ∧ Eff w [(n, blk [i64 e] 29)] [] w')
theorem catchOf {f : FuncId} {fn : Func} {id : Nat} {T1 T2 : TypeId} {p1 p2 : String} {af1 af2 : Array Edge} {tys : Array TypeId}
    (hf : Try.prog.funcs[f]? = some fn)
    (hb : fn.body = some (.region id #[⟨some 1, .call ⟨.builtin .recover, #[], #[]⟩, T1, p1, af1, none⟩, ⟨some 2, .call ⟨.value (.func 53), #[.tmp 1, .tmp 0], tys⟩, T2, p2, af2, none⟩] false))
    (hn : fn.ntmps = 3) (hr : fn.results = #[]) : Catch f where
  ret p w := catchD hf hb hn hr C53 (x := .nilIface) (fun c₀ cs h => recover_idle c₀ cs h) ((caught_nil p w).mono fun _ _ ⟨he, hE⟩ => ⟨⟨_, he⟩, hE⟩)
  pan n x e w h := catchD hf hb hn hr C53 (x := misV e) (fun c₀ cs h => recover_some _ c₀ cs h) ((caught_mis e x n w h).mono fun _ _ ⟨he, hE⟩ => ⟨⟨_, he⟩, hE⟩)
theorem DScale : Catch 52 := catchOf Try.func52 rfl rfl rfl
theorem DZero : Catch 58 := catchOf Try.func58 rfl rfl rfl
theorem DStar : Catch 63 := catchOf Try.func63 rfl rfl rfl
theorem DApart : Catch 68 := catchOf Try.func68 rfl rfl rfl
theorem DFind : Catch 73 := catchOf Try.func73 rfl rfl rfl
theorem DClash : Catch 78 := catchOf Try.func78 rfl rfl rfl
theorem DDrop : Catch 86 := catchOf Try.func86 rfl rfl rfl
theorem DPoor : Catch 88 := catchOf Try.func88 rfl rfl rfl
section
variable {N : Nat} {S : Slots} {W : World} {M L : Heap} {fn : Func} {rs : List ResultVar} {vs : List Value} {R : Ending → World → Prop} {f : FuncId} {p : Value}
theorem fRetC (hC : Catch f) (hg : callT Try.prog f = true) (hr : fn.results = rs.toArray) (h : ResV Try.prog S (Eff W M L) rs vs) (k : ∀ w, Eff W M L w → R (.returned (packV vs)) w) :
    Tr (St N S [dfr f p] W M L) (bodyPostM (FW none) 0 Try.prog fn R .ret) := fRetD hg hr h (fun w _ => hC.ret p w) k
theorem fPanC {n : Nat} {x e : Int} (i : Nat) (hC : Catch f) (hg : callT Try.prog f = true) (hi : L[i]? = some (n, blk [i64 x] 29)) (hr : fn.results = rs.toArray) (h : ResV Try.prog S (Eff W M (upd L i (blk [i64 e] 29))) rs vs)
    (k : ∀ w, Eff W M (upd L i (blk [i64 e] 29)) w → R (.returned (packV vs)) w) :
    Tr (St N S [dfr f (.pointer (some ⟨n, 0, none⟩))] W M L) (bodyPostM (FW none) 0 Try.prog fn R (.panic [{ v := misV e, recovered := false }])) :=
  fPanD hg hr h (fun w hw => (hC.pan n x e w (hw.own _ (List.mem_append.2 (.inr (List.mem_of_getElem? hi))))).mono fun _ _ _ ⟨h1, h2, h3⟩ => ⟨h1, h2, by simpa using hw.wroteL hi h3⟩) k
end

/-! ### The least and the greatest of what is kept -/
structure Ends where
  lo : Int
  hi : Int
  some : Bool
def keepE (a : Ends) (x : Int) : Ends := if a.some then ⟨min a.lo x, max a.hi x, true⟩ else ⟨x, x, true⟩
abbrev endC (a : Ends) : List Value := [i64 a.lo, i64 a.hi, .bool a.some]
abbrev endC2 (a b : Ends) : List Value := [i64 a.lo, i64 a.hi, .bool a.some, i64 b.lo, i64 b.hi, .bool b.some]
abbrev end0 : Ends := ⟨0, 0, false⟩
set_option maxRecDepth 100000 in
set_option maxHeartbeats 4000000 in
theorem keep1 (n : Nat) (a : Ends) (x : Int) (w : World) (hb : w.heap[n]? = some (blk (endC a) 86)) : Calls Try.prog 54 [.pointer (some ⟨n, 0, none⟩), i64 x].toArray w (Wr w n (blk (endC (keepE a x)) 86) (.tuple #[])) := by
  refine fEnterM (Eff.one hb) Try.func54 rfl Try.ntmps54 rfl ?_
  refine kSeq ?_
  refine kSeq ?_
  refine kRegion rfl ?_
  refine lV (yMove rfl) rfl rfl ?_
  refine lV (yNilCheckP rfl) rfl rfl ?_
  refine lV (yFieldAddr rfl F86_2) rfl rfl ?_
  refine lV (yLoad1 rfl O4 (cOwn 0 rfl rfl)) rfl rfl ?_
  refine lV (yNot rfl) rfl rfl ?_
  refine splitB (t := 8) rfl (fun h8 => ?_) (fun h8 => ?_)
  · refine lNil ?_
    refine kThen ?_
    refine kIfT rfl ?_
    refine kRegion rfl ?_
    refine lV (yMove rfl) rfl rfl ?_
    refine lV (yMove rfl) rfl rfl ?_
    refine lV (yMove rfl) rfl rfl ?_
    refine lV (yMove rfl) rfl rfl ?_
    refine lV (yMove rfl) rfl rfl ?_
    refine lV (yNilCheckP rfl) rfl rfl ?_
    refine lV (yFieldAddr rfl F86_0) rfl rfl ?_
    refine lE rfl ?_
    refine eStoreM 0 rfl rfl rfl rfl K3 rfl (rfl) ?_
    refine lV (yNilCheckP rfl) rfl rfl ?_
    refine lV (yFieldAddr rfl F86_1) rfl rfl ?_
    refine lE rfl ?_
    refine eStoreM 0 rfl rfl rfl rfl K3 rfl (rfl) ?_
    refine lV (yNilCheckP rfl) rfl rfl ?_
    refine lV (yFieldAddr rfl F86_2) rfl rfl ?_
    refine lE rfl ?_
    refine eStoreM 0 rfl rfl rfl rfl K4 rfl (rfl) ?_
    refine lNil ?_
    refine kThen ?_
    refine kDrawE [(5, none), (11, none)] [] [0, 1, 2, 3, 4, 5, 6, 7, 8, 9, 10, 11, 12, 13, 14, 15, 17, 18] 2 hMix (by kernel_rfl) ?_
    refine .run rfl (yMove rfl) rfl rfl ?_
    refine .run rfl (yMove rfl) rfl rfl ?_
    refine .run rfl (yMove rfl) rfl rfl ?_
    refine .run rfl (yNilCheckP rfl) rfl rfl ?_
    refine .run rfl (yFieldAddr rfl F86_0) rfl rfl ?_
    refine .run rfl (yLoad1 rfl O3 (cOwn 0 rfl rfl)) rfl rfl ?_
    refine .run rfl (yMove rfl) rfl rfl ?_
    refine .run rfl (yMin rfl rfl) rfl rfl ?_
    refine .run rfl (yMove rfl) rfl rfl ?_
    refine .run rfl (yNilCheckP rfl) rfl rfl ?_
    refine .run rfl (yFieldAddr rfl F86_1) rfl rfl ?_
    refine .run rfl (yLoad1 rfl O3 (cOwn 0 rfl rfl)) rfl rfl ?_
    refine .run rfl (yMove rfl) rfl rfl ?_
    refine .run rfl (yMax rfl rfl) rfl rfl ?_
    refine .run rfl (yNilCheckP rfl) rfl rfl ?_
    refine .run rfl (yFieldAddr rfl F86_0) rfl rfl ?_
    refine .run rfl (yNilCheckP rfl) rfl rfl ?_
    refine .run rfl (yFieldAddr rfl F86_1) rfl rfl ?_
    refine .done ?_
    refine effStep 16 [] (by kernel_rfl) closedSt (hLeft [5, 11] (by kernel_rfl) (.c (fun _ _ hs => hs.ef) (.c (fun _ _ hs => hs.ef) .n))) ?_
    refine .c ?_ .n
    refine effOne rfl (gNone rfl (fStoreM 0 rfl rfl rfl rfl K3 rfl (rfl))) ?_
    refine effStep 19 [] (by kernel_rfl) closedSt (hLeft [] (by kernel_rfl) .n) ?_
    refine .c ?_ .n
    refine effOne rfl (gNone rfl (fStoreM 0 rfl rfl rfl rfl K3 rfl (rfl))) ?_
    refine effDone closedSt (hLeft [] (by kernel_rfl) .n) (by kernel_rfl) ?_
    refine fEnd rfl .n ?_
    have h8' : a.some = false := by simpa using h8
    refine endW rfl ?_
    simp [keepE, h8']; try rfl
  · refine lNil ?_
    refine kThen ?_
    refine kIfF rfl ?_
    refine kSkip ?_
    refine kThen ?_
    refine kDrawE [(5, none), (11, none)] [] [0, 1, 2, 3, 4, 5, 6, 7, 8, 9, 10, 11, 12, 13, 14, 15, 17, 18] 2 hMix (by kernel_rfl) ?_
    refine .run rfl (yMove rfl) rfl rfl ?_
    refine .run rfl (yMove rfl) rfl rfl ?_
    refine .run rfl (yMove rfl) rfl rfl ?_
    refine .run rfl (yNilCheckP rfl) rfl rfl ?_
    refine .run rfl (yFieldAddr rfl F86_0) rfl rfl ?_
    refine .run rfl (yLoad1 rfl O3 (cOwn 0 rfl rfl)) rfl rfl ?_
    refine .run rfl (yMove rfl) rfl rfl ?_
    refine .run rfl (yMin rfl rfl) rfl rfl ?_
    refine .run rfl (yMove rfl) rfl rfl ?_
    refine .run rfl (yNilCheckP rfl) rfl rfl ?_
    refine .run rfl (yFieldAddr rfl F86_1) rfl rfl ?_
    refine .run rfl (yLoad1 rfl O3 (cOwn 0 rfl rfl)) rfl rfl ?_
    refine .run rfl (yMove rfl) rfl rfl ?_
    refine .run rfl (yMax rfl rfl) rfl rfl ?_
    refine .run rfl (yNilCheckP rfl) rfl rfl ?_
    refine .run rfl (yFieldAddr rfl F86_0) rfl rfl ?_
    refine .run rfl (yNilCheckP rfl) rfl rfl ?_
    refine .run rfl (yFieldAddr rfl F86_1) rfl rfl ?_
    refine .done ?_
    refine effStep 16 [] (by kernel_rfl) closedSt (hLeft [5, 11] (by kernel_rfl) (.c (fun _ _ hs => hs.ef) (.c (fun _ _ hs => hs.ef) .n))) ?_
    refine .c ?_ .n
    refine effOne rfl (gNone rfl (fStoreM 0 rfl rfl rfl rfl K3 rfl (rfl))) ?_
    refine effStep 19 [] (by kernel_rfl) closedSt (hLeft [] (by kernel_rfl) .n) ?_
    refine .c ?_ .n
    refine effOne rfl (gNone rfl (fStoreM 0 rfl rfl rfl rfl K3 rfl (rfl))) ?_
    refine effDone closedSt (hLeft [] (by kernel_rfl) .n) (by kernel_rfl) ?_
    refine fEnd rfl .n ?_
    have h8' : a.some = true := by simpa using h8
    refine endW rfl ?_
    simp only [keepE, h8', if_true, endC]; rfl
set_option maxRecDepth 100000 in
set_option maxHeartbeats 4000000 in
theorem keepA (n : Nat) (a b : Ends) (x : Int) (w : World) (hb : w.heap[n]? = some (blk (endC2 a b) 96)) : Calls Try.prog 54 [.pointer (some ⟨n, 0, none⟩), i64 x].toArray w (Wr w n (blk (endC2 (keepE a x) b) 96) (.tuple #[])) := by
  refine fEnterM (Eff.one hb) Try.func54 rfl Try.ntmps54 rfl ?_
  refine kSeq ?_
  refine kSeq ?_
  refine kRegion rfl ?_
  refine lV (yMove rfl) rfl rfl ?_
  refine lV (yNilCheckP rfl) rfl rfl ?_
  refine lV (yFieldAddr rfl F86_2) rfl rfl ?_
  refine lV (yLoad1 rfl O4 (cOwn 0 rfl rfl)) rfl rfl ?_
  refine lV (yNot rfl) rfl rfl ?_
  refine splitB (t := 8) rfl (fun h8 => ?_) (fun h8 => ?_)
  · refine lNil ?_
    refine kThen ?_
    refine kIfT rfl ?_
    refine kRegion rfl ?_
    refine lV (yMove rfl) rfl rfl ?_
    refine lV (yMove rfl) rfl rfl ?_
    refine lV (yMove rfl) rfl rfl ?_
    refine lV (yMove rfl) rfl rfl ?_
    refine lV (yMove rfl) rfl rfl ?_
    refine lV (yNilCheckP rfl) rfl rfl ?_
    refine lV (yFieldAddr rfl F86_0) rfl rfl ?_
    refine lE rfl ?_
    refine eStoreM 0 rfl rfl rfl rfl K3 rfl (rfl) ?_
    refine lV (yNilCheckP rfl) rfl rfl ?_
    refine lV (yFieldAddr rfl F86_1) rfl rfl ?_
    refine lE rfl ?_
    refine eStoreM 0 rfl rfl rfl rfl K3 rfl (rfl) ?_
    refine lV (yNilCheckP rfl) rfl rfl ?_
    refine lV (yFieldAddr rfl F86_2) rfl rfl ?_
    refine lE rfl ?_
    refine eStoreM 0 rfl rfl rfl rfl K4 rfl (rfl) ?_
    refine lNil ?_
    refine kThen ?_
    refine kDrawE [(5, none), (11, none)] [] [0, 1, 2, 3, 4, 5, 6, 7, 8, 9, 10, 11, 12, 13, 14, 15, 17, 18] 2 hMix (by kernel_rfl) ?_
    refine .run rfl (yMove rfl) rfl rfl ?_
    refine .run rfl (yMove rfl) rfl rfl ?_
    refine .run rfl (yMove rfl) rfl rfl ?_
    refine .run rfl (yNilCheckP rfl) rfl rfl ?_
    refine .run rfl (yFieldAddr rfl F86_0) rfl rfl ?_
    refine .run rfl (yLoad1 rfl O3 (cOwn 0 rfl rfl)) rfl rfl ?_
    refine .run rfl (yMove rfl) rfl rfl ?_
    refine .run rfl (yMin rfl rfl) rfl rfl ?_
    refine .run rfl (yMove rfl) rfl rfl ?_
    refine .run rfl (yNilCheckP rfl) rfl rfl ?_
    refine .run rfl (yFieldAddr rfl F86_1) rfl rfl ?_
    refine .run rfl (yLoad1 rfl O3 (cOwn 0 rfl rfl)) rfl rfl ?_
    refine .run rfl (yMove rfl) rfl rfl ?_
    refine .run rfl (yMax rfl rfl) rfl rfl ?_
    refine .run rfl (yNilCheckP rfl) rfl rfl ?_
    refine .run rfl (yFieldAddr rfl F86_0) rfl rfl ?_
    refine .run rfl (yNilCheckP rfl) rfl rfl ?_
    refine .run rfl (yFieldAddr rfl F86_1) rfl rfl ?_
    refine .done ?_
    refine effStep 16 [] (by kernel_rfl) closedSt (hLeft [5, 11] (by kernel_rfl) (.c (fun _ _ hs => hs.ef) (.c (fun _ _ hs => hs.ef) .n))) ?_
    refine .c ?_ .n
    refine effOne rfl (gNone rfl (fStoreM 0 rfl rfl rfl rfl K3 rfl (rfl))) ?_
    refine effStep 19 [] (by kernel_rfl) closedSt (hLeft [] (by kernel_rfl) .n) ?_
    refine .c ?_ .n
    refine effOne rfl (gNone rfl (fStoreM 0 rfl rfl rfl rfl K3 rfl (rfl))) ?_
    refine effDone closedSt (hLeft [] (by kernel_rfl) .n) (by kernel_rfl) ?_
    refine fEnd rfl .n ?_
    have h8' : a.some = false := by simpa using h8
    refine endW rfl ?_
    simp [keepE, h8']; try rfl
  · refine lNil ?_
    refine kThen ?_
    refine kIfF rfl ?_
    refine kSkip ?_
    refine kThen ?_
    refine kDrawE [(5, none), (11, none)] [] [0, 1, 2, 3, 4, 5, 6, 7, 8, 9, 10, 11, 12, 13, 14, 15, 17, 18] 2 hMix (by kernel_rfl) ?_
    refine .run rfl (yMove rfl) rfl rfl ?_
    refine .run rfl (yMove rfl) rfl rfl ?_
    refine .run rfl (yMove rfl) rfl rfl ?_
    refine .run rfl (yNilCheckP rfl) rfl rfl ?_
    refine .run rfl (yFieldAddr rfl F86_0) rfl rfl ?_
    refine .run rfl (yLoad1 rfl O3 (cOwn 0 rfl rfl)) rfl rfl ?_
    refine .run rfl (yMove rfl) rfl rfl ?_
    refine .run rfl (yMin rfl rfl) rfl rfl ?_
    refine .run rfl (yMove rfl) rfl rfl ?_
    refine .run rfl (yNilCheckP rfl) rfl rfl ?_
    refine .run rfl (yFieldAddr rfl F86_1) rfl rfl ?_
    refine .run rfl (yLoad1 rfl O3 (cOwn 0 rfl rfl)) rfl rfl ?_
    refine .run rfl (yMove rfl) rfl rfl ?_
    refine .run rfl (yMax rfl rfl) rfl rfl ?_
    refine .run rfl (yNilCheckP rfl) rfl rfl ?_
    refine .run rfl (yFieldAddr rfl F86_0) rfl rfl ?_
    refine .run rfl (yNilCheckP rfl) rfl rfl ?_
    refine .run rfl (yFieldAddr rfl F86_1) rfl rfl ?_
    refine .done ?_
    refine effStep 16 [] (by kernel_rfl) closedSt (hLeft [5, 11] (by kernel_rfl) (.c (fun _ _ hs => hs.ef) (.c (fun _ _ hs => hs.ef) .n))) ?_
    refine .c ?_ .n
    refine effOne rfl (gNone rfl (fStoreM 0 rfl rfl rfl rfl K3 rfl (rfl))) ?_
    refine effStep 19 [] (by kernel_rfl) closedSt (hLeft [] (by kernel_rfl) .n) ?_
    refine .c ?_ .n
    refine effOne rfl (gNone rfl (fStoreM 0 rfl rfl rfl rfl K3 rfl (rfl))) ?_
    refine effDone closedSt (hLeft [] (by kernel_rfl) .n) (by kernel_rfl) ?_
    refine fEnd rfl .n ?_
    have h8' : a.some = true := by simpa using h8
    refine endW rfl ?_
    simp only [keepE, h8', if_true, endC2]; rfl
set_option maxRecDepth 100000 in
set_option maxHeartbeats 4000000 in
theorem keepB (n : Nat) (a b : Ends) (x : Int) (w : World) (hb : w.heap[n]? = some (blk (endC2 a b) 96)) : Calls Try.prog 54 [.pointer (some ⟨n, 3, none⟩), i64 x].toArray w (Wr w n (blk (endC2 a (keepE b x)) 96) (.tuple #[])) := by
  refine fEnterM (Eff.one hb) Try.func54 rfl Try.ntmps54 rfl ?_
  refine kSeq ?_
  refine kSeq ?_
  refine kRegion rfl ?_
  refine lV (yMove rfl) rfl rfl ?_
  refine lV (yNilCheckP rfl) rfl rfl ?_
  refine lV (yFieldAddr rfl F86_2) rfl rfl ?_
  refine lV (yLoad1 rfl O4 (cOwn 0 rfl rfl)) rfl rfl ?_
  refine lV (yNot rfl) rfl rfl ?_
  refine splitB (t := 8) rfl (fun h8 => ?_) (fun h8 => ?_)
  · refine lNil ?_
    refine kThen ?_
    refine kIfT rfl ?_
    refine kRegion rfl ?_
    refine lV (yMove rfl) rfl rfl ?_
    refine lV (yMove rfl) rfl rfl ?_
    refine lV (yMove rfl) rfl rfl ?_
    refine lV (yMove rfl) rfl rfl ?_
    refine lV (yMove rfl) rfl rfl ?_
    refine lV (yNilCheckP rfl) rfl rfl ?_
    refine lV (yFieldAddr rfl F86_0) rfl rfl ?_
    refine lE rfl ?_
    refine eStoreM 0 rfl rfl rfl rfl K3 rfl (rfl) ?_
    refine lV (yNilCheckP rfl) rfl rfl ?_
    refine lV (yFieldAddr rfl F86_1) rfl rfl ?_
    refine lE rfl ?_
    refine eStoreM 0 rfl rfl rfl rfl K3 rfl (rfl) ?_
    refine lV (yNilCheckP rfl) rfl rfl ?_
    refine lV (yFieldAddr rfl F86_2) rfl rfl ?_
    refine lE rfl ?_
    refine eStoreM 0 rfl rfl rfl rfl K4 rfl (rfl) ?_
    refine lNil ?_
    refine kThen ?_
    refine kDrawE [(5, none), (11, none)] [] [0, 1, 2, 3, 4, 5, 6, 7, 8, 9, 10, 11, 12, 13, 14, 15, 17, 18] 2 hMix (by kernel_rfl) ?_
    refine .run rfl (yMove rfl) rfl rfl ?_
    refine .run rfl (yMove rfl) rfl rfl ?_
    refine .run rfl (yMove rfl) rfl rfl ?_
    refine .run rfl (yNilCheckP rfl) rfl rfl ?_
    refine .run rfl (yFieldAddr rfl F86_0) rfl rfl ?_
    refine .run rfl (yLoad1 rfl O3 (cOwn 0 rfl rfl)) rfl rfl ?_
    refine .run rfl (yMove rfl) rfl rfl ?_
    refine .run rfl (yMin rfl rfl) rfl rfl ?_
    refine .run rfl (yMove rfl) rfl rfl ?_
    refine .run rfl (yNilCheckP rfl) rfl rfl ?_
    refine .run rfl (yFieldAddr rfl F86_1) rfl rfl ?_
    refine .run rfl (yLoad1 rfl O3 (cOwn 0 rfl rfl)) rfl rfl ?_
    refine .run rfl (yMove rfl) rfl rfl ?_
    refine .run rfl (yMax rfl rfl) rfl rfl ?_
    refine .run rfl (yNilCheckP rfl) rfl rfl ?_
    refine .run rfl (yFieldAddr rfl F86_0) rfl rfl ?_
    refine .run rfl (yNilCheckP rfl) rfl rfl ?_
    refine .run rfl (yFieldAddr rfl F86_1) rfl rfl ?_
    refine .done ?_
    refine effStep 16 [] (by kernel_rfl) closedSt (hLeft [5, 11] (by kernel_rfl) (.c (fun _ _ hs => hs.ef) (.c (fun _ _ hs => hs.ef) .n))) ?_
    refine .c ?_ .n
    refine effOne rfl (gNone rfl (fStoreM 0 rfl rfl rfl rfl K3 rfl (rfl))) ?_
    refine effStep 19 [] (by kernel_rfl) closedSt (hLeft [] (by kernel_rfl) .n) ?_
    refine .c ?_ .n
    refine effOne rfl (gNone rfl (fStoreM 0 rfl rfl rfl rfl K3 rfl (rfl))) ?_
    refine effDone closedSt (hLeft [] (by kernel_rfl) .n) (by kernel_rfl) ?_
    refine fEnd rfl .n ?_
    have h8' : b.some = false := by simpa using h8
    refine endW rfl ?_
    simp [keepE, h8']; try rfl
  · refine lNil ?_
    refine kThen ?_
    refine kIfF rfl ?_
    refine kSkip ?_
    refine kThen ?_
    refine kDrawE [(5, none), (11, none)] [] [0, 1, 2, 3, 4, 5, 6, 7, 8, 9, 10, 11, 12, 13, 14, 15, 17, 18] 2 hMix (by kernel_rfl) ?_
    refine .run rfl (yMove rfl) rfl rfl ?_
    refine .run rfl (yMove rfl) rfl rfl ?_
    refine .run rfl (yMove rfl) rfl rfl ?_
    refine .run rfl (yNilCheckP rfl) rfl rfl ?_
    refine .run rfl (yFieldAddr rfl F86_0) rfl rfl ?_
    refine .run rfl (yLoad1 rfl O3 (cOwn 0 rfl rfl)) rfl rfl ?_
    refine .run rfl (yMove rfl) rfl rfl ?_
    refine .run rfl (yMin rfl rfl) rfl rfl ?_
    refine .run rfl (yMove rfl) rfl rfl ?_
    refine .run rfl (yNilCheckP rfl) rfl rfl ?_
    refine .run rfl (yFieldAddr rfl F86_1) rfl rfl ?_
    refine .run rfl (yLoad1 rfl O3 (cOwn 0 rfl rfl)) rfl rfl ?_
    refine .run rfl (yMove rfl) rfl rfl ?_
    refine .run rfl (yMax rfl rfl) rfl rfl ?_
    refine .run rfl (yNilCheckP rfl) rfl rfl ?_
    refine .run rfl (yFieldAddr rfl F86_0) rfl rfl ?_
    refine .run rfl (yNilCheckP rfl) rfl rfl ?_
    refine .run rfl (yFieldAddr rfl F86_1) rfl rfl ?_
    refine .done ?_
    refine effStep 16 [] (by kernel_rfl) closedSt (hLeft [5, 11] (by kernel_rfl) (.c (fun _ _ hs => hs.ef) (.c (fun _ _ hs => hs.ef) .n))) ?_
    refine .c ?_ .n
    refine effOne rfl (gNone rfl (fStoreM 0 rfl rfl rfl rfl K3 rfl (rfl))) ?_
    refine effStep 19 [] (by kernel_rfl) closedSt (hLeft [] (by kernel_rfl) .n) ?_
    refine .c ?_ .n
    refine effOne rfl (gNone rfl (fStoreM 0 rfl rfl rfl rfl K3 rfl (rfl))) ?_
    refine effDone closedSt (hLeft [] (by kernel_rfl) .n) (by kernel_rfl) ?_
    refine fEnd rfl .n ?_
    have h8' : b.some = true := by simpa using h8
    refine endW rfl ?_
    simp only [keepE, h8', if_true, endC2]; rfl
set_option maxRecDepth 100000 in
theorem span_any (a : Ends) (w : World) : Calls Try.prog 56 [.agg (endC a).toArray].toArray w (Ret w (.agg (rowE (a.lo, a.hi)).toArray)) := by
  refine fEnter Try.func56 rfl Try.ntmps56 rfl ?_
  refine kSeq ?_
  refine kRegion rfl ?_
  refine lE rfl ?_
  refine eBoxA rfl fun n1 => ?_
  refine lE rfl ?_
  refine eAlloc Z23 fun n2 => ?_
  refine lNil ?_
  refine kThen ?_
  refine kSeq ?_
  refine kRegion rfl ?_
  refine lV (yFieldAddr rfl F86_0) rfl rfl ?_
  refine lV (yLoad1 rfl O3 (cOwn 1 rfl rfl)) rfl rfl ?_
  refine lV (yFieldAddr rfl F86_1) rfl rfl ?_
  refine lV (yLoad1 rfl O3 (cOwn 1 rfl rfl)) rfl rfl ?_
  refine lV (yBuild (.c rfl (.c rfl .n)) (fun w => B23_0_1 w)) rfl rfl ?_
  refine lE rfl ?_
  refine eStoreL 0 rfl rfl rfl rfl K23 rfl (rfl) ?_
  refine lNil ?_
  refine kThen ?_
  refine kRet ?_
  refine fRet rfl (.cA (us := [_, _]) rfl A23 (cOwn 0 rfl rfl) .n) (endRet ?_)
  rfl
set_option maxRecDepth 100000 in
theorem isStar_any (y : Option Addr × Nat) (p : Plt) (n : Int) (w : World) (hn : p.st.length ≤ 1000000) : Calls Try.prog 64 [.agg (pltC y p).toArray, i64 n].toArray w (Ret w (.bool (decide (0 ≤ n ∧ n ≤ p.st.length - 1)))) := by
  refine fEnter Try.func64 rfl Try.ntmps64 rfl ?_
  refine kSeq ?_
  refine kRegion rfl ?_
  refine lE rfl ?_
  refine eBoxA rfl fun n2 => ?_
  refine lV (yAssign rfl) rfl rfl ?_
  refine lNil ?_
  refine kThen ?_
  refine kSeq ?_
  refine kRegion rfl ?_
  refine lV (yMove rfl) rfl rfl ?_
  refine lV (yFieldAddr rfl F26_1) rfl rfl ?_
  refine lV (yLoad1 rfl O24 (cOwn 0 rfl rfl)) rfl rfl ?_
  refine lV (yLen rfl S24) rfl rfl ?_
  refine lV (ySub rfl rfl (by omega)) rfl rfl ?_
  refine lV (yCall rfl (.c rfl (.c rfl (.c rfl .n))) C75 (fun w hw => within_any _ _ _ w)) rfl rfl ?_
  refine lV (yAssign rfl) rfl rfl ?_
  refine lNil ?_
  refine kThen ?_
  refine kRet ?_
  refine fRet rfl (.t rfl .n) (endRet ?_)
  rfl
end Go.Proofs.Ytlcdohhhhlhpmaa
