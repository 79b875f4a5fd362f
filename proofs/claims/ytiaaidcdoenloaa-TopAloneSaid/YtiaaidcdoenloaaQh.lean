/-
  Walks: the first set of which something is so; Clash, Drop, Explain.
-/
import Derived.Test.YtiaaidcdoenloaaQg
namespace Go.Proofs.Ytiaaidcdoenloaa
open ZW

set_option maxRecDepth 100000 in
theorem sets_any (n : Nat) (w : World) : Calls Try.prog 57 [i64 (n : Nat)].toArray w
    (RetX w (fun _ : Nat => True) (fun nb => .func (.func 84) [].toArray [.pointer (some ⟨nb, 0, none⟩)].toArray) (fun _ => []) (fun nb => [(nb, blk [i64 (n : Nat)] 3)])) := by
  refine fEnter Try.func57 rfl Try.ntmps57 rfl ?_
  refine kSeq ?_
  refine kRegion rfl ?_
  refine lE rfl ?_
  refine eBox1 rfl rfl fun n1 => ?_
  refine lV (yAssign rfl) rfl rfl ?_
  refine lNil ?_
  refine kThen ?_
  refine kSeq ?_
  refine kRegion rfl ?_
  refine lV (yMakeFunc .n (.c rfl .n)) rfl rfl ?_
  refine lV (yAssign rfl) rfl rfl ?_
  refine lNil ?_
  refine kThen ?_
  refine kRet ?_
  refine fRet rfl (.t rfl .n) ?_
  exact endX n1 trivial rfl rfl .r

/-- What comes of looking for the first set. -/
def FirstR (w : World) (stop : Nat → Bool) (F : Nat) : Ending → World → Prop := fun e w' =>
  (∃ s, stop s = true ∧ SetsΦ F stop (some s) ∧ Ret w (.tuple [.int .u64 (s : Nat), .bool true].toArray) e w') ∨ (SetsΦ F stop none ∧ Ret w (.tuple [.int .u64 ((0 : Nat) : Int), .bool false].toArray) e w')

set_option maxRecDepth 100000 in
set_option maxHeartbeats 4000000 in
theorem first_any (nb n G : Nat) (caps : List Value) (stop : Nat → Bool) (w : World) (hN : n ≤ 12) (hb : w.heap[nb]? = some (blk [i64 (n : Nat)] 3)) (hG : callT Try.prog G = true)
    (hc : ∀ (L : Heap) (w' : World), Eff w [] L w' → ∀ s, s ≤ 2 ^ n - 1 → Calls Try.prog G ([Value.int .u64 (s : Nat)] ++ caps).toArray w' (Ret w' (.bool (stop s)))) :
    Calls Try.prog 56 [.func (.func 84) [].toArray [.pointer (some ⟨nb, 0, none⟩)].toArray, .func (.func G) [].toArray caps.toArray].toArray w (FirstR w stop (2 ^ n - 1)) := by
  refine fEnter Try.func56 rfl Try.ntmps56 rfl ?_
  refine kSeq ?_
  refine kRegion rfl ?_
  refine lE rfl ?_
  refine eBox1 rfl rfl fun n3 => ?_
  refine lE rfl ?_
  refine eAlloc Z92 fun n4 => ?_
  refine lE rfl ?_
  refine eAlloc Z4 fun n5 => ?_
  refine lNil ?_
  refine kThen ?_
  refine kScope ?_
  refine kSeq ?_
  refine kLabel ?_
  refine kThen ?_
  refine kSeq ?_
  refine kSeq ?_
  refine kRegion rfl ?_
  refine lV (yMove rfl) rfl rfl ?_
  refine lNil ?_
  refine kThen ?_
  refine kBlock ?_
  refine kRange (α := Nat) (fun s => s ≤ 2 ^ n - 1) (fun s => .int .u64 (s : Nat)) (stop) (SetsΦ (2 ^ n - 1) stop) [(n3, _), (n4, _), (n5, _)] (fun s => [(n3, blk [.func (.func G) [].toArray caps.toArray] 100), (n4, blk [.int .u64 (s : Nat)] 92), (n5, blk [.bool true] 4)]) rfl C84 rfl (.c 2 rfl (.c 1 rfl (.c 0 rfl .n))) (fun _ => rfl) (fun w hw => sets1_any nb n w hN (Eff.old' hw hb) stop) ?_ ?_ ?_
  · intro l r w' s hs hr hin hE
    refine kRegion rfl ?_
    refine lV (yAssign rfl) rfl rfl ?_
    refine lNil ?_
    refine kThen ?_
    refine rBegin hr.1 ?_
    refine kBlock ?_
    refine kSeq ?_
    refine kSeq ?_
    refine kRegion rfl ?_
    refine lV (yLoad1 rfl O100 (cOwn 1 rfl rfl)) rfl rfl ?_
    refine lV (yMove rfl) rfl rfl ?_
    refine lV (yCall (us := []) (cs := caps) rfl (.c rfl .n) hG (fun w hw => hc _ w (hin _ _ _ hw) s hs)) rfl rfl ?_
    refine splitB (t := 11) rfl (fun h11 => ?_) (fun h11 => ?_)
    · refine lV (yNot rfl) rfl rfl ?_
      refine lNil ?_
      refine kThen ?_
      refine kIfF rfl ?_
      refine kSkip ?_
      refine kThen ?_
      refine kSeq ?_
      refine kRegion rfl ?_
      refine lV (yMove rfl) rfl rfl ?_
      refine lE rfl ?_
      refine eStoreM 2 rfl rfl rfl rfl K92 rfl (rfl) ?_
      refine lE rfl ?_
      refine eStoreM 3 rfl rfl rfl rfl K4 rfl (rfl) ?_
      refine lNil ?_
      refine kThen ?_
      refine kRet ?_
      refine kInR ?_
      rw [h11]
      exact rRet
    · refine lV (yNot rfl) rfl rfl ?_
      refine lNil ?_
      refine kThen ?_
      refine kIfT rfl ?_
      refine kExit ?_
      refine kThenX ?_
      refine kInX ?_
      rw [h11]
      exact rNormal hr hE
  · intro hΦ r l o
    refine kInN ?_
    refine kThen ?_
    refine kSeq ?_
    refine kRegion rfl ?_
    refine lV (yLoad1 rfl O92 (cOwn 3 rfl rfl)) rfl rfl ?_
    refine lE rfl ?_
    refine eStoreL 3 rfl rfl rfl rfl K92 rfl (rfl) ?_
    refine lE rfl ?_
    refine eStoreL 2 rfl rfl rfl rfl K4 rfl (rfl) ?_
    refine lNil ?_
    refine kThen ?_
    refine kRet ?_
    refine kScR ?_
    refine fMark 1 rfl (.inl rfl) ?_
    exact fRet rfl (.c1 rfl O92 (cOwn 3 rfl rfl) (.c1 rfl O4 (cOwn 2 rfl rfl) .n)) (fun w hw => .inr ⟨hΦ, endRet rfl w hw⟩)
  · intro s hst hΦ r l o
    refine kInR ?_
    refine kThenR ?_
    refine kScR ?_
    refine fMark 1 rfl (.inl rfl) ?_
    exact fRet rfl (.c1 rfl O92 (cOwn 3 rfl rfl) (.c1 rfl O4 (cOwn 4 rfl rfl) .n)) (fun w hw => .inl ⟨s, hst, hΦ, endRet rfl w hw⟩)
theorem best_le (stop : Nat → Bool) (n : Nat) : (bestS stop n).getD 0 ≤ n := by
  have := bestS_spec stop n
  cases h : bestS stop n with
  | none => simp
  | some b => rw [h] at this; simp only [Option.getD_some]; omega
theorem first_ret (nb n G : Nat) (caps : List Value) (stop : Nat → Bool) (w : World) (hN : n ≤ 12) (hb : w.heap[nb]? = some (blk [i64 (n : Nat)] 3)) (hG : callT Try.prog G = true)
    (hc : ∀ (L : Heap) (w' : World), Eff w [] L w' → ∀ s, s ≤ 2 ^ n - 1 → Calls Try.prog G ([Value.int .u64 (s : Nat)] ++ caps).toArray w' (Ret w' (.bool (stop s)))) :
    Calls Try.prog 56 [.func (.func 84) [].toArray [.pointer (some ⟨nb, 0, none⟩)].toArray, .func (.func G) [].toArray caps.toArray].toArray w
      (Ret w (.tuple [.int .u64 (((bestS stop (2 ^ n - 1 + 1)).getD 0 : Nat) : Int), .bool (bestS stop (2 ^ n - 1 + 1)).isSome].toArray)) :=
  (first_any nb n G caps stop w hN hb hG hc).mono fun _ _ h => by
    rcases h with ⟨s, h1, h2, h3⟩ | ⟨h2, h3⟩
    · rw [h2.some_eq h1]; exact h3
    · rw [h2.none_eq]; exact h3

/-! ### The predicates -/
def clashS (X : Wat) (s : Nat) : Bool := !canB X s (allE X)
def dropS (X : Wat) (s : Nat) : Bool := canB X (less (allS X) s) (allE X)
def explS (X : Wat) (s : Nat) : Bool := canB X (allS X) s
set_option maxRecDepth 100000 in
theorem clash1_any (nc nm : Nat) (y : WLoc) (X : Wat) (g : Own) (s : Nat) (w : World) (hcl : w.heap[nc]? = some (blk [.pointer (some ⟨nm, 0, none⟩)] 73)) (hX : InWt w nm y X g) (hM : WatOk X) (hs : s < 2 ^ 63) :
    Calls Try.prog 58 [.int .u64 (s : Nat), .pointer (some ⟨nc, 0, none⟩)].toArray w (Ret w (.bool (clashS X s))) := by
  have hE := hM.e
  have hlt := allE_lt hM
  refine fEnter Try.func58 rfl Try.ntmps58 rfl ?_
  refine kSeq ?_
  refine kRegion rfl ?_
  refine lV (yAssign rfl) rfl rfl ?_
  refine lNil ?_
  refine kThen ?_
  refine kSeq ?_
  refine kDrawE [(0, none), (2, none), (6, none), (7, none), (8, none)] [] [0, 1, 2, 3, 4, 5, 6, 7, 8, 9, 10] 0 hMix (by kernel_rfl) ?_
  refine .run rfl (yLoad1 rfl O73 (cOldB (hcl) rfl)) rfl rfl ?_
  refine .run rfl (yMove rfl) rfl rfl ?_
  refine .run rfl (yLoad1 rfl O73 (cOldB (hcl) rfl)) rfl rfl ?_
  refine .run rfl (yNilCheckP rfl) rfl rfl ?_
  refine .run rfl (yFieldAddr rfl F78_0) rfl rfl ?_
  refine .run rfl (yFieldAddr rfl F29_2) rfl rfl ?_
  refine .run rfl (yvSame (u := i64 ((X.eyes.toNat : Nat) : Int)) (yLoad1 rfl O3 (cOldB (hX.b) rfl)) (by rw [Int.toNat_of_nonneg (by omega)])) rfl rfl ?_
  refine .run rfl (yvSame (u := .int .u64 ((allE X : Nat) : Int)) (yCall rfl (.c rfl .n) C54 (fun w hw => full_any X.eyes.toNat w (by omega))) (rfl)) rfl rfl ?_
  refine .run rfl (yCall rfl (.c rfl (.c rfl (.c rfl .n))) C55 (fun w hw => can_any nm y X g s (allE X) w (hX.eff hw) hM hs (by omega))) rfl rfl ?_
  refine .run rfl (yNot rfl) rfl rfl ?_
  refine .run rfl (yAssign rfl) rfl rfl ?_
  refine .done ?_
  refine effDone closedSt (hLeft [0, 2, 6, 7, 8] (by kernel_rfl) (.c (fun _ _ hs => hs.ef) (.c (fun _ _ hs => hs.ef) (.c (fun _ _ hs => hs.ef) (.c (fun _ _ hs => hs.ef) (.c (fun _ _ hs => hs.ef) .n)))))) (by kernel_rfl) ?_
  refine kThen ?_
  refine kRet ?_
  refine fRet rfl (.t rfl .n) (endRet ?_)
  rfl
set_option maxRecDepth 100000 in
theorem drop1_any (nc nm : Nat) (y : WLoc) (X : Wat) (g : Own) (s : Nat) (w : World) (hcl : w.heap[nc]? = some (blk [.pointer (some ⟨nm, 0, none⟩)] 73)) (hX : InWt w nm y X g) (hM : WatOk X) (hs : s < 2 ^ 63) :
    Calls Try.prog 61 [.int .u64 (s : Nat), .pointer (some ⟨nc, 0, none⟩)].toArray w (Ret w (.bool (dropS X s))) := by
  have hE := hM.e
  have hN := hM.n
  have hlt := allE_lt hM
  have hls := allS_lt hM
  refine fEnter Try.func61 rfl Try.ntmps61 rfl ?_
  refine kSeq ?_
  refine kRegion rfl ?_
  refine lV (yAssign rfl) rfl rfl ?_
  refine lNil ?_
  refine kThen ?_
  refine kSeq ?_
  refine kDrawE [(0, none), (1, none), (5, none), (7, none), (10, none), (14, none), (15, none), (16, none)] [] [0, 1, 2, 3, 4, 5, 6, 7, 8, 9, 10, 11, 12, 13, 14, 15, 16, 17] 0 hMix (by kernel_rfl) ?_
  refine .run rfl (yLoad1 rfl O73 (cOldB (hcl) rfl)) rfl rfl ?_
  refine .run rfl (yLoad1 rfl O73 (cOldB (hcl) rfl)) rfl rfl ?_
  refine .run rfl (yNilCheckP rfl) rfl rfl ?_
  refine .run rfl (yFieldAddr rfl F78_0) rfl rfl ?_
  refine .run rfl (yFieldAddr rfl F29_4) rfl rfl ?_
  refine .run rfl (yLoad1 rfl O27 (cOldB (hX.b) rfl)) rfl rfl ?_
  refine .run rfl (yLen rfl S27) rfl rfl ?_
  refine .run rfl (yvSame (u := .int .u64 ((allS X : Nat) : Int)) (yCall rfl (.c rfl .n) C54 (fun w hw => full_any _ w (by omega))) (rfl)) rfl rfl ?_
  refine .run rfl (yMove rfl) rfl rfl ?_
  refine .run rfl (yAndNot rfl rfl rfl (by omega) (by omega)) rfl rfl ?_
  refine .run rfl (yLoad1 rfl O73 (cOldB (hcl) rfl)) rfl rfl ?_
  refine .run rfl (yNilCheckP rfl) rfl rfl ?_
  refine .run rfl (yFieldAddr rfl F78_0) rfl rfl ?_
  refine .run rfl (yFieldAddr rfl F29_2) rfl rfl ?_
  refine .run rfl (yvSame (u := i64 ((X.eyes.toNat : Nat) : Int)) (yLoad1 rfl O3 (cOldB (hX.b) rfl)) (by rw [Int.toNat_of_nonneg (by omega)])) rfl rfl ?_
  refine .run rfl (yvSame (u := .int .u64 ((allE X : Nat) : Int)) (yCall rfl (.c rfl .n) C54 (fun w hw => full_any X.eyes.toNat w (by omega))) (rfl)) rfl rfl ?_
  refine .run rfl (yCall rfl (.c rfl (.c rfl (.c rfl .n))) C55 (fun w hw => can_any nm y X g (less (allS X) s) (allE X) w (hX.eff hw) hM (by have := less_lt (a := allS X) (b := s) (n := 12) (by omega); omega) (by omega))) rfl rfl ?_
  refine .run rfl (yAssign rfl) rfl rfl ?_
  refine .done ?_
  refine effDone closedSt (hLeft [0, 1, 5, 7, 10, 14, 15, 16] (by kernel_rfl) (.c (fun _ _ hs => hs.ef) (.c (fun _ _ hs => hs.ef) (.c (fun _ _ hs => hs.ef) (.c (fun _ _ hs => hs.ef) (.c (fun _ _ hs => hs.ef) (.c (fun _ _ hs => hs.ef) (.c (fun _ _ hs => hs.ef) (.c (fun _ _ hs => hs.ef) .n))))))))) (by kernel_rfl) ?_
  refine kThen ?_
  refine kRet ?_
  refine fRet rfl (.t rfl .n) (endRet ?_)
  rfl
set_option maxRecDepth 100000 in
theorem expl1_any (nc ne nm : Nat) (y : WLoc) (X : Wat) (g : Own) (s : Nat) (w : World) (hcl : w.heap[nc]? = some (blk [.func (.func 55) [.pointer (some ⟨nm, 0, none⟩)].toArray [].toArray] 94)) (hce : w.heap[ne]? = some (blk [.int .u64 ((allS X : Nat) : Int)] 92))
    (hX : InWt w nm y X g) (hM : WatOk X) (hs : s < 2 ^ 63) :
    Calls Try.prog 62 [.int .u64 (s : Nat), .pointer (some ⟨nc, 0, none⟩), .pointer (some ⟨ne, 0, none⟩)].toArray w (Ret w (.bool (explS X s))) := by
  have hls := allS_lt hM
  refine fEnter Try.func62 rfl Try.ntmps62 rfl ?_
  refine kSeq ?_
  refine kRegion rfl ?_
  refine lV (yAssign rfl) rfl rfl ?_
  refine lNil ?_
  refine kThen ?_
  refine kSeq ?_
  refine kRegion rfl ?_
  refine lV (yLoad1 rfl O94 (cOldB (hcl) rfl)) rfl rfl ?_
  refine lV (yLoad1 rfl O92 (cOldB (hce) rfl)) rfl rfl ?_
  refine lV (yMove rfl) rfl rfl ?_
  refine lV (yCall rfl (.c rfl (.c rfl .n)) C55 (fun w hw => can_any nm y X g (allS X) s w (hX.eff hw) hM (by omega) hs)) rfl rfl ?_
  refine lV (yAssign rfl) rfl rfl ?_
  refine lNil ?_
  refine kThen ?_
  refine kRet ?_
  refine fRet rfl (.t rfl .n) (endRet ?_)
  rfl

def clashE (X : Wat) : Int × Int := if ¬ WatOk X then (0, 1) else if canB X (allS X) (allE X) = true then (0, 0) else ((((bestS (clashS X) (allS X + 1)).getD 0 : Nat) : Int), 0)
def dropE (X : Wat) : Int × Int := if ¬ WatOk X then (0, 1) else ((((bestS (dropS X) (allS X + 1)).getD 0 : Nat) : Int), 0)
def explE (X : Wat) : Int × Int := if ¬ WatOk X then (0, 1) else if ¬ canB X (allS X) (allE X) = true then (0, 10) else ((((bestS (explS X) (allE X + 1)).getD 0 : Nat) : Int), 0)

set_option maxRecDepth 100000 in
set_option maxHeartbeats 4000000 in
theorem clash_any (y : WLoc) (X : Wat) (w : World) (hm : InW w y X) (hL : X.looks.length ≤ 1000000) : Calls Try.prog 23 [.agg (watC y X).toArray].toArray w (Ret w (outI (clashE X))) := by
  refine fEnter Try.func23 rfl Try.ntmps23 rfl ?_
  refine kSeq ?_
  refine kRegion rfl ?_
  refine lE rfl ?_
  refine eBoxA rfl fun n1 => ?_
  refine lV (yAssign rfl) rfl rfl ?_
  refine lE rfl ?_
  refine eAlloc Z32 fun n3 => ?_
  refine lNil ?_
  refine kThen ?_
  refine kSeq ?_
  refine kRegion rfl ?_
  refine lE rfl ?_
  refine eDefer rfl (.c rfl .n) ?_
  refine lNil ?_
  refine kThen ?_
  refine kSeq ?_
  by_cases hM : WatOk X
  · refine kRegion rfl ?_
    refine lV (yLoadA (vs := [_, _, _, _, _, _, _, _]) rfl A29 (cOwn 1 rfl rfl)) rfl rfl ?_
    refine lE rfl ?_
    refine eCallO rfl (.c rfl .n) C47 (fun w hw => open_any y X w (hm.eff hw) hM) fun x hx => ?_
    obtain ⟨nm, g⟩ := x
    dsimp only at hx ⊢
    have hE := hM.e
    have hN := hM.n
    have hlt := allE_lt hM
    have hls := allS_lt hM
    have hbe := best_le (clashS X) (allS X + 1)
    refine lE rfl ?_
    refine eAlloc Z73 fun n4 => ?_
    refine lE rfl ?_
    refine eStoreL 0 rfl rfl rfl rfl K73 rfl (rfl) ?_
    refine lNil ?_
    refine kThen ?_
    refine kSeq ?_
    refine kSeq ?_
    refine kRegion rfl ?_
    refine lV (yLoad1 rfl O73 (cOwn 0 rfl rfl)) rfl rfl ?_
    refine lV (yNilCheckP rfl) rfl rfl ?_
    refine lV (yFieldAddr rfl F78_0) rfl rfl ?_
    refine lV (yFieldAddr rfl F29_4) rfl rfl ?_
    refine lV (yLoad1 rfl O27 (cOwn 3 rfl rfl)) rfl rfl ?_
    refine lV (yLen rfl S27) rfl rfl ?_
    refine lV (yCall rfl (.c rfl .n) C54 (fun w hw => full_any _ w (by omega))) rfl rfl ?_
    refine same (t := 16) (u := .int .u64 ((allS X : Nat) : Int)) rfl (rfl) ?_
    refine lV (yAssign rfl) rfl rfl ?_
    refine lNil ?_
    refine kThen ?_
    refine kSeq ?_
    by_cases hf : canB X (allS X) (allE X) = true
    · refine kDrawE [(0, none), (2, none), (6, none), (7, none), (8, none)] [] [0, 1, 2, 3, 4, 5, 6, 7, 8] 0 hMix (by kernel_rfl) ?_
      refine .run rfl (yLoad1 rfl O73 (cOwn 0 rfl rfl)) rfl rfl ?_
      refine .run rfl (yMove rfl) rfl rfl ?_
      refine .run rfl (yLoad1 rfl O73 (cOwn 0 rfl rfl)) rfl rfl ?_
      refine .run rfl (yNilCheckP rfl) rfl rfl ?_
      refine .run rfl (yFieldAddr rfl F78_0) rfl rfl ?_
      refine .run rfl (yFieldAddr rfl F29_2) rfl rfl ?_
      refine .run rfl (yvSame (u := i64 ((X.eyes.toNat : Nat) : Int)) (yLoad1 rfl O3 (cOwn 3 rfl rfl)) (by rw [Int.toNat_of_nonneg (by omega)])) rfl rfl ?_
      refine .run rfl (yvSame (u := .int .u64 ((allE X : Nat) : Int)) (yCall rfl (.c rfl .n) C54 (fun w hw => full_any X.eyes.toNat w (by omega))) (rfl)) rfl rfl ?_
      refine .run rfl (yvIs (c := true) (yCall rfl (.c rfl (.c rfl (.c rfl .n))) C55 (fun w hw => can_any nm y X g (allS X) (allE X) w (InWt.mk' hx hm hw (.d 0 (.d 0 (.d 0 (.d 0 .r)))) (hw.blkAt 3 rfl)) hM (by omega) (by omega))) (hf)) rfl rfl ?_
      refine .done ?_
      refine effDone closedSt (hLeft [0, 2, 6, 7, 8] (by kernel_rfl) (.c (fun _ _ hs => hs.ef) (.c (fun _ _ hs => hs.ef) (.c (fun _ _ hs => hs.ef) (.c (fun _ _ hs => hs.ef) (.c (fun _ _ hs => hs.ef) .n)))))) (by kernel_rfl) ?_
      refine kThen ?_
      refine kIfT rfl ?_
      refine kSeq ?_
      refine kRegion rfl ?_
      refine lV (yAssign rfl) rfl rfl ?_
      refine lE rfl ?_
      refine eStoreL 1 rfl rfl rfl rfl K32 rfl (rfl) ?_
      refine lNil ?_
      refine kThen ?_
      refine kRet ?_
      refine kThenR ?_
      refine fRetE rfl (.t rfl (.c1 rfl O32 (cOwn 1 rfl rfl) .n)) (endRet ?_)
      simp only [packV, clashE, if_neg (not_not_intro hM), if_pos hf]
    · refine kDrawE [(0, none), (2, none), (6, none), (7, none), (8, none)] [] [0, 1, 2, 3, 4, 5, 6, 7, 8] 0 hMix (by kernel_rfl) ?_
      refine .run rfl (yLoad1 rfl O73 (cOwn 0 rfl rfl)) rfl rfl ?_
      refine .run rfl (yMove rfl) rfl rfl ?_
      refine .run rfl (yLoad1 rfl O73 (cOwn 0 rfl rfl)) rfl rfl ?_
      refine .run rfl (yNilCheckP rfl) rfl rfl ?_
      refine .run rfl (yFieldAddr rfl F78_0) rfl rfl ?_
      refine .run rfl (yFieldAddr rfl F29_2) rfl rfl ?_
      refine .run rfl (yvSame (u := i64 ((X.eyes.toNat : Nat) : Int)) (yLoad1 rfl O3 (cOwn 3 rfl rfl)) (by rw [Int.toNat_of_nonneg (by omega)])) rfl rfl ?_
      refine .run rfl (yvSame (u := .int .u64 ((allE X : Nat) : Int)) (yCall rfl (.c rfl .n) C54 (fun w hw => full_any X.eyes.toNat w (by omega))) (rfl)) rfl rfl ?_
      refine .run rfl (yvIs (c := false) (yCall rfl (.c rfl (.c rfl (.c rfl .n))) C55 (fun w hw => can_any nm y X g (allS X) (allE X) w (InWt.mk' hx hm hw (.d 0 (.d 0 (.d 0 (.d 0 .r)))) (hw.blkAt 3 rfl)) hM (by omega) (by omega))) (Bool.eq_false_iff.2 hf)) rfl rfl ?_
      refine .done ?_
      refine effDone closedSt (hLeft [0, 2, 6, 7, 8] (by kernel_rfl) (.c (fun _ _ hs => hs.ef) (.c (fun _ _ hs => hs.ef) (.c (fun _ _ hs => hs.ef) (.c (fun _ _ hs => hs.ef) (.c (fun _ _ hs => hs.ef) .n)))))) (by kernel_rfl) ?_
      refine kThen ?_
      refine kIfF rfl ?_
      refine kSkip ?_
      refine kThen ?_
      refine kSeq ?_
      refine kRegion rfl ?_
      refine lV (yLoad1 rfl O73 (cOwn 0 rfl rfl)) rfl rfl ?_
      refine lV (yNilCheckP rfl) rfl rfl ?_
      refine lV (yFieldAddr rfl F78_0) rfl rfl ?_
      refine lV (yFieldAddr rfl F29_4) rfl rfl ?_
      refine lV (yLoad1 rfl O27 (cOwn 3 rfl rfl)) rfl rfl ?_
      refine lV (yLen rfl S27) rfl rfl ?_
      refine lE rfl ?_
      refine eCallX rfl (.c rfl .n) C57 (fun w hw => sets_any X.looks.length w) fun nb _ => ?_
      refine lV (yMakeFunc .n (.c rfl .n)) rfl rfl ?_
      refine lV (yCall rfl (.c rfl (.c rfl .n)) C56 (fun w hw => first_ret nb X.looks.length 58 [.pointer (some ⟨n4, 0, none⟩)] (clashS X) w (by omega) (hw.blkAt 0 rfl) C58 (fun L w' hw' s hs => clash1_any n4 nm y X g s w' (Eff.old' hw' (hw.blkAt 1 rfl)) ((InWt.mk' hx hm hw (.d 0 (.d 0 (.d 0 (.d 0 (.d 0 .r))))) (hw.blkAt 4 rfl)).eff hw') hM (by have h : s ≤ allS X := hs; omega)))) rfl rfl ?_
      refine lV (yMove rfl) rfl rfl ?_
      refine lV (yExtract rfl rfl) rfl rfl ?_
      refine same (t := 36) (u := .int .u64 (((bestS (clashS X) (allS X + 1)).getD 0 : Nat) : Int)) rfl (rfl) ?_
      refine lV (yExtract rfl rfl) rfl rfl ?_
      refine lV (yAssign rfl) rfl rfl ?_
      refine lV (yAssign rfl) rfl rfl ?_
      refine lNil ?_
      refine kThen ?_
      refine kSeq ?_
      refine kRegion rfl ?_
      refine lV (yMove rfl) rfl rfl ?_
      refine lV (yConvInt rfl U92 U3 (conv_ok (by omega))) rfl rfl ?_
      refine lV (yAssign rfl) rfl rfl ?_
      refine lE rfl ?_
      refine eStoreL 2 rfl rfl rfl rfl K32 rfl (rfl) ?_
      refine lNil ?_
      refine kThen ?_
      refine kRet ?_
      refine fRetE rfl (.t rfl (.c1 rfl O32 (cOwn 2 rfl rfl) .n)) (endRet ?_)
      simp only [packV, clashE, if_neg (not_not_intro hM), if_neg hf]
  · refine kRegion rfl ?_
    refine lV (yLoadA (vs := [_, _, _, _, _, _, _, _]) rfl A29 (cOwn 1 rfl rfl)) rfl rfl ?_
    refine lE rfl ?_
    refine eCallP rfl (.c rfl .n) C47 (fun w hw => open_bad y X w (hm.eff hw) hL hM) ?_
    refine kThenP ?_
    refine fPanE 0 rfl rfl (.t rfl (.c1 rfl O32 (cOwn 0 rfl rfl) .n)) (endRet ?_)
    simp only [packV, clashE, if_pos hM]

set_option maxRecDepth 100000 in
set_option maxHeartbeats 4000000 in
theorem drop_any (y : WLoc) (X : Wat) (w : World) (hm : InW w y X) (hL : X.looks.length ≤ 1000000) : Calls Try.prog 25 [.agg (watC y X).toArray].toArray w (Ret w (outI (dropE X))) := by
  refine fEnter Try.func25 rfl Try.ntmps25 rfl ?_
  refine kSeq ?_
  refine kRegion rfl ?_
  refine lE rfl ?_
  refine eBoxA rfl fun n1 => ?_
  refine lV (yAssign rfl) rfl rfl ?_
  refine lE rfl ?_
  refine eAlloc Z32 fun n3 => ?_
  refine lNil ?_
  refine kThen ?_
  refine kSeq ?_
  refine kRegion rfl ?_
  refine lE rfl ?_
  refine eDefer rfl (.c rfl .n) ?_
  refine lNil ?_
  refine kThen ?_
  refine kSeq ?_
  by_cases hM : WatOk X
  · refine kRegion rfl ?_
    refine lV (yLoadA (vs := [_, _, _, _, _, _, _, _]) rfl A29 (cOwn 1 rfl rfl)) rfl rfl ?_
    refine lE rfl ?_
    refine eCallO rfl (.c rfl .n) C47 (fun w hw => open_any y X w (hm.eff hw) hM) fun x hx => ?_
    obtain ⟨nm, g⟩ := x
    dsimp only at hx ⊢
    have hE := hM.e
    have hN := hM.n
    have hls := allS_lt hM
    have hbe := best_le (dropS X) (allS X + 1)
    refine lE rfl ?_
    refine eAlloc Z73 fun n4 => ?_
    refine lE rfl ?_
    refine eStoreL 0 rfl rfl rfl rfl K73 rfl (rfl) ?_
    refine lNil ?_
    refine kThen ?_
    refine kSeq ?_
    refine kRegion rfl ?_
    refine lV (yLoad1 rfl O73 (cOwn 0 rfl rfl)) rfl rfl ?_
    refine lV (yNilCheckP rfl) rfl rfl ?_
    refine lV (yFieldAddr rfl F78_0) rfl rfl ?_
    refine lV (yFieldAddr rfl F29_4) rfl rfl ?_
    refine lV (yLoad1 rfl O27 (cOwn 3 rfl rfl)) rfl rfl ?_
    refine lV (yLen rfl S27) rfl rfl ?_
    refine lE rfl ?_
    refine eCallX rfl (.c rfl .n) C57 (fun w hw => sets_any X.looks.length w) fun nb _ => ?_
    refine lV (yMakeFunc .n (.c rfl .n)) rfl rfl ?_
    refine lV (yCall rfl (.c rfl (.c rfl .n)) C56 (fun w hw => first_ret nb X.looks.length 61 [.pointer (some ⟨n4, 0, none⟩)] (dropS X) w (by omega) (hw.blkAt 0 rfl) C61 (fun L w' hw' s hs => drop1_any n4 nm y X g s w' (Eff.old' hw' (hw.blkAt 1 rfl)) ((InWt.mk' hx hm hw (.d 0 (.d 0 (.d 0 (.d 0 (.d 0 .r))))) (hw.blkAt 4 rfl)).eff hw') hM (by have h : s ≤ allS X := hs; omega)))) rfl rfl ?_
    refine lV (yMove rfl) rfl rfl ?_
    refine lV (yExtract rfl rfl) rfl rfl ?_
    refine same (t := 19) (u := .int .u64 (((bestS (dropS X) (allS X + 1)).getD 0 : Nat) : Int)) rfl (rfl) ?_
    refine lV (yExtract rfl rfl) rfl rfl ?_
    refine lV (yAssign rfl) rfl rfl ?_
    refine lV (yAssign rfl) rfl rfl ?_
    refine lNil ?_
    refine kThen ?_
    refine kSeq ?_
    refine kRegion rfl ?_
    refine lV (yMove rfl) rfl rfl ?_
    refine lV (yConvInt rfl U92 U3 (conv_ok (by omega))) rfl rfl ?_
    refine lV (yAssign rfl) rfl rfl ?_
    refine lE rfl ?_
    refine eStoreL 2 rfl rfl rfl rfl K32 rfl (rfl) ?_
    refine lNil ?_
    refine kThen ?_
    refine kRet ?_
    refine fRetE rfl (.t rfl (.c1 rfl O32 (cOwn 2 rfl rfl) .n)) (endRet ?_)
    simp only [packV, dropE, if_neg (not_not_intro hM)]
  · refine kRegion rfl ?_
    refine lV (yLoadA (vs := [_, _, _, _, _, _, _, _]) rfl A29 (cOwn 1 rfl rfl)) rfl rfl ?_
    refine lE rfl ?_
    refine eCallP rfl (.c rfl .n) C47 (fun w hw => open_bad y X w (hm.eff hw) hL hM) ?_
    refine kThenP ?_
    refine fPanE 0 rfl rfl (.t rfl (.c1 rfl O32 (cOwn 0 rfl rfl) .n)) (endRet ?_)
    simp only [packV, dropE, if_pos hM]

set_option maxRecDepth 100000 in
set_option maxHeartbeats 4000000 in
theorem expl_any (y : WLoc) (X : Wat) (w : World) (hm : InW w y X) (hL : X.looks.length ≤ 1000000) : Calls Try.prog 27 [.agg (watC y X).toArray].toArray w (Ret w (outI (explE X))) := by
  refine fEnter Try.func27 rfl Try.ntmps27 rfl ?_
  refine kSeq ?_
  refine kRegion rfl ?_
  refine lE rfl ?_
  refine eBoxA rfl fun n1 => ?_
  refine lV (yAssign rfl) rfl rfl ?_
  refine lE rfl ?_
  refine eAlloc Z32 fun n3 => ?_
  refine lNil ?_
  refine kThen ?_
  refine kSeq ?_
  refine kRegion rfl ?_
  refine lE rfl ?_
  refine eDefer rfl (.c rfl .n) ?_
  refine lNil ?_
  refine kThen ?_
  refine kSeq ?_
  by_cases hM : WatOk X
  · refine kRegion rfl ?_
    refine lV (yLoadA (vs := [_, _, _, _, _, _, _, _]) rfl A29 (cOwn 1 rfl rfl)) rfl rfl ?_
    refine lE rfl ?_
    refine eCallO rfl (.c rfl .n) C47 (fun w hw => open_any y X w (hm.eff hw) hM) fun x hx => ?_
    obtain ⟨nm, g⟩ := x
    dsimp only at hx ⊢
    have hE := hM.e
    have hN := hM.n
    have hlt := allE_lt hM
    have hls := allS_lt hM
    have hbe := best_le (explS X) (allE X + 1)
    refine lV (yAssign rfl) rfl rfl ?_
    refine lNil ?_
    refine kThen ?_
    refine kSeq ?_
    refine kRegion rfl ?_
    refine lV (yMove rfl) rfl rfl ?_
    refine lV (yNilCheckP rfl) rfl rfl ?_
    refine lV (yFieldAddr rfl F78_0) rfl rfl ?_
    refine lV (yFieldAddr rfl F29_4) rfl rfl ?_
    refine lV (yLoad1 rfl O27 (cOwn 2 rfl rfl)) rfl rfl ?_
    refine lV (yLen rfl S27) rfl rfl ?_
    refine lV (yCall rfl (.c rfl .n) C54 (fun w hw => full_any _ w (by omega))) rfl rfl ?_
    refine same (t := 17) (u := .int .u64 ((allS X : Nat) : Int)) rfl (rfl) ?_
    refine lE rfl ?_
    refine eAlloc Z92 fun n5 => ?_
    refine lE rfl ?_
    refine eStoreL 0 rfl rfl rfl rfl K92 rfl (rfl) ?_
    refine lNil ?_
    refine kThen ?_
    refine kSeq ?_
    by_cases hf : canB X (allS X) (allE X) = true
    · refine kDrawE [(1, none), (6, none), (7, none), (8, none)] [] [0, 1, 2, 3, 4, 5, 6, 7, 8] 1 hMix (by kernel_rfl) ?_
      refine .run rfl (yMove rfl) rfl rfl ?_
      refine .run rfl (yLoad1 rfl O92 (cOwn 0 rfl rfl)) rfl rfl ?_
      refine .run rfl (yMove rfl) rfl rfl ?_
      refine .run rfl (yNilCheckP rfl) rfl rfl ?_
      refine .run rfl (yFieldAddr rfl F78_0) rfl rfl ?_
      refine .run rfl (yFieldAddr rfl F29_2) rfl rfl ?_
      refine .run rfl (yvSame (u := i64 ((X.eyes.toNat : Nat) : Int)) (yLoad1 rfl O3 (cOwn 3 rfl rfl)) (by rw [Int.toNat_of_nonneg (by omega)])) rfl rfl ?_
      refine .run rfl (yvSame (u := .int .u64 ((allE X : Nat) : Int)) (yCall rfl (.c rfl .n) C54 (fun w hw => full_any X.eyes.toNat w (by omega))) (rfl)) rfl rfl ?_
      refine .run rfl (yvIs (c := true) (yCall rfl (.c rfl (.c rfl (.c rfl .n))) C55 (fun w hw => can_any nm y X g (allS X) (allE X) w (InWt.mk' hx hm hw (.d 0 (.d 0 (.d 0 (.d 0 .r)))) (hw.blkAt 3 rfl)) hM (by omega) (by omega))) (hf)) rfl rfl ?_
      refine .done ?_
      refine effStep 9 [] (by kernel_rfl) closedSt (hLeft [1, 6, 7, 8] (by kernel_rfl) (.c (fun _ _ hs => hs.ef) (.c (fun _ _ hs => hs.ef) (.c (fun _ _ hs => hs.ef) (.c (fun _ _ hs => hs.ef) .n))))) ?_
      refine .c ?_ .n
      refine effOne rfl (gNone rfl (fV (yCall rfl (.c rfl (.c rfl .n)) C48 (fun w hw => must_ok 10 w)) rfl)) ?_
      refine effDone closedSt (hLeft [] (by kernel_rfl) .n) (by kernel_rfl) ?_
      refine kThen ?_
      refine kSeq ?_
      refine kRegion rfl ?_
      refine lV (yMove rfl) rfl rfl ?_
      refine lV (yMakeFunc (.c rfl .n) .n) rfl rfl ?_
      refine lE rfl ?_
      refine eAlloc Z94 fun n6 => ?_
      refine lE rfl ?_
      refine eStoreL 0 rfl rfl rfl rfl K94 rfl (rfl) ?_
      refine lNil ?_
      refine kThen ?_
      refine kSeq ?_
      refine kRegion rfl ?_
      refine lV (yMove rfl) rfl rfl ?_
      refine lV (yNilCheckP rfl) rfl rfl ?_
      refine lV (yFieldAddr rfl F78_0) rfl rfl ?_
      refine lV (yFieldAddr rfl F29_2) rfl rfl ?_
      refine lV (yLoad1 rfl O3 (cOwn 4 rfl rfl)) rfl rfl ?_
      refine same (t := 35) (u := i64 ((X.eyes.toNat : Nat) : Int)) rfl (by rw [Int.toNat_of_nonneg (by omega)]) ?_
      refine lE rfl ?_
      refine eCallX rfl (.c rfl .n) C57 (fun w hw => sets_any X.eyes.toNat w) fun nb _ => ?_
      refine lV (yMakeFunc .n (.c rfl (.c rfl .n))) rfl rfl ?_
      refine lV (yCall rfl (.c rfl (.c rfl .n)) C56 (fun w hw => first_ret nb X.eyes.toNat 62 [.pointer (some ⟨n6, 0, none⟩), .pointer (some ⟨n5, 0, none⟩)] (explS X) w (by omega) (hw.blkAt 0 rfl) C62 (fun L w' hw' s hs => expl1_any n6 n5 nm y X g s w' (Eff.old' hw' (hw.blkAt 1 rfl)) (Eff.old' hw' (hw.blkAt 2 rfl)) ((InWt.mk' hx hm hw (.d 0 (.d 0 (.d 0 (.d 0 (.d 0 (.d 0 .r)))))) (hw.blkAt 5 rfl)).eff hw') hM (by have h : s ≤ allE X := hs; omega)))) rfl rfl ?_
      refine lV (yMove rfl) rfl rfl ?_
      refine lV (yExtract rfl rfl) rfl rfl ?_
      refine same (t := 39) (u := .int .u64 (((bestS (explS X) (allE X + 1)).getD 0 : Nat) : Int)) rfl (rfl) ?_
      refine lV (yExtract rfl rfl) rfl rfl ?_
      refine lV (yAssign rfl) rfl rfl ?_
      refine lV (yAssign rfl) rfl rfl ?_
      refine lNil ?_
      refine kThen ?_
      refine kSeq ?_
      refine kRegion rfl ?_
      refine lV (yMove rfl) rfl rfl ?_
      refine lV (yConvInt rfl U92 U3 (conv_ok (by omega))) rfl rfl ?_
      refine lV (yAssign rfl) rfl rfl ?_
      refine lE rfl ?_
      refine eStoreL 3 rfl rfl rfl rfl K32 rfl (rfl) ?_
      refine lNil ?_
      refine kThen ?_
      refine kRet ?_
      refine fRetE rfl (.t rfl (.c1 rfl O32 (cOwn 3 rfl rfl) .n)) (endRet ?_)
      simp only [packV, explE, if_neg (not_not_intro hM), if_neg (not_not_intro hf)]
    · refine kDrawE [(1, none), (6, none), (7, none), (8, none)] [] [0, 1, 2, 3, 4, 5, 6, 7, 8] 1 hMix (by kernel_rfl) ?_
      refine .run rfl (yMove rfl) rfl rfl ?_
      refine .run rfl (yLoad1 rfl O92 (cOwn 0 rfl rfl)) rfl rfl ?_
      refine .run rfl (yMove rfl) rfl rfl ?_
      refine .run rfl (yNilCheckP rfl) rfl rfl ?_
      refine .run rfl (yFieldAddr rfl F78_0) rfl rfl ?_
      refine .run rfl (yFieldAddr rfl F29_2) rfl rfl ?_
      refine .run rfl (yvSame (u := i64 ((X.eyes.toNat : Nat) : Int)) (yLoad1 rfl O3 (cOwn 3 rfl rfl)) (by rw [Int.toNat_of_nonneg (by omega)])) rfl rfl ?_
      refine .run rfl (yvSame (u := .int .u64 ((allE X : Nat) : Int)) (yCall rfl (.c rfl .n) C54 (fun w hw => full_any X.eyes.toNat w (by omega))) (rfl)) rfl rfl ?_
      refine .run rfl (yvIs (c := false) (yCall rfl (.c rfl (.c rfl (.c rfl .n))) C55 (fun w hw => can_any nm y X g (allS X) (allE X) w (InWt.mk' hx hm hw (.d 0 (.d 0 (.d 0 (.d 0 .r)))) (hw.blkAt 3 rfl)) hM (by omega) (by omega))) (Bool.eq_false_iff.2 hf)) rfl rfl ?_
      refine .done ?_
      refine effStep 9 [] (by kernel_rfl) closedSt (hLeft [1, 6, 7, 8] (by kernel_rfl) (.c (fun _ _ hs => hs.ef) (.c (fun _ _ hs => hs.ef) (.c (fun _ _ hs => hs.ef) (.c (fun _ _ hs => hs.ef) .n))))) ?_
      refine .c ?_ .n
      refine effLast rfl rfl (by kernel_rfl) ?_
      refine eCallP rfl (.c rfl (.c rfl .n)) C48 (fun w hw => must_pan 10 w) ?_
      refine kThenP ?_
      refine fPanE 1 rfl rfl (.t rfl (.c1 rfl O32 (cOwn 1 rfl rfl) .n)) (endRet ?_)
      simp only [packV, explE, if_neg (not_not_intro hM), if_pos hf]
  · refine kRegion rfl ?_
    refine lV (yLoadA (vs := [_, _, _, _, _, _, _, _]) rfl A29 (cOwn 1 rfl rfl)) rfl rfl ?_
    refine lE rfl ?_
    refine eCallP rfl (.c rfl .n) C47 (fun w hw => open_bad y X w (hm.eff hw) hL hM) ?_
    refine kThenP ?_
    refine fPanE 0 rfl rfl (.t rfl (.c1 rfl O32 (cOwn 0 rfl rfl) .n)) (endRet ?_)
    simp only [packV, explE, if_pos hM]
end Go.Proofs.Ytiaaidcdoenloaa
