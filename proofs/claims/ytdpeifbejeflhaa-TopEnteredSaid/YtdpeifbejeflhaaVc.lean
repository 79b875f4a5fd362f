/-
  Walks: a field that is looked at.
-/
import Derived.Test.YtdpeifbejeflhaaVb
namespace Go.Proofs.Ytdpeifbejeflhaa
open ZW

/-! ### Sets out of what is so of numbers -/
def setB (p : Nat → Bool) : Nat → Nat
  | 0 => 0
  | k + 1 => if p k = true then setB p k ||| 1 * 2 ^ k else setB p k
theorem setB_lt (p : Nat → Bool) : ∀ k, setB p k < 2 ^ k
  | 0 => by simp [setB]
  | k + 1 => by
    have ih := setB_lt p k
    have h2 : 2 ^ (k + 1) = 2 ^ k + 2 ^ k := by rw [Nat.pow_succ]; omega
    unfold setB
    split
    · exact Nat.or_lt_two_pow (by omega) (by omega)
    · omega
theorem setB_bit (p : Nat → Bool) (i : Nat) : ∀ k, (setB p k).testBit i = (decide (i < k) && p i)
  | 0 => by simp [setB]
  | k + 1 => by
    have ih := setB_bit p i k
    have hb : (1 * 2 ^ k).testBit i = decide (k = i) := by rw [Nat.one_mul, Nat.testBit_two_pow]
    unfold setB
    split
    · rename_i h
      rw [Nat.testBit_or, ih, hb]
      by_cases hik : k = i
      · subst hik; simp [h]
      · have : decide (i < k + 1) = decide (i < k) := by rw [decide_eq_decide]; omega
        simp [hik, this]
    · rename_i h
      rw [ih]
      by_cases hik : i = k
      · subst hik; simp at h; simp [h]
      · have : decide (i < k + 1) = decide (i < k) := by rw [decide_eq_decide]; omega
        rw [this]
def useP (f : Fld) (x : SkyV) : Prop := (f.d.1 ≤ x.day ∧ x.day ≤ f.d.2) ∧ x.depth ≥ f.depth ∧ max f.e.1 x.e.1 ≤ min f.e.2 x.e.2 ∧ max f.n.1 x.n.1 ≤ min f.n.2 x.n.2
instance (f : Fld) (x : SkyV) : Decidable (useP f x) := inferInstanceAs (Decidable (_ ∧ _))
def useB (f : Fld) (i : Nat) : Bool := decide (useP f (f.ps.getD i sky0))
def inP (f : Fld) (x : SkyV) (a b : Int) : Prop := (max x.e.1 f.e.1 ≤ a ∧ a ≤ min x.e.2 f.e.2) ∧ (max x.n.1 f.n.1 ≤ b ∧ b ≤ min x.n.2 f.n.2)
instance (f : Fld) (x : SkyV) (a b : Int) : Decidable (inP f x a b) := inferInstanceAs (Decidable (_ ∧ _))
def atB (f : Fld) (a b : Int) (i : Nat) : Bool := decide (useP f (f.ps.getD i sky0) ∧ inP f (f.ps.getD i sky0) a b)
abbrev useS (f : Fld) : Nat := setB (useB f) f.ps.length
abbrev atS (f : Fld) (a b : Int) : Nat := setB (atB f a b) f.ps.length
abbrev fieldC (y : Option Addr × Nat) (f : Fld) (U nm : Nat) : List Value := [.slice y.1 f.ps.length y.2, i64 f.e.1, i64 f.e.2, i64 f.n.1, i64 f.n.2, i64 f.d.1, i64 f.d.2, i64 f.depth, i64 f.times, i64 f.gap, u64 U, .map (some nm)]

/-! ### The tests -/
abbrev meetV : Value := .func (.func 64) [].toArray [].toArray
def tstV (n1 : Nat) : Nat → Value
  | 0 => .func (.func 65) [].toArray [].toArray
  | 1 => .func (.func 66) [].toArray [].toArray
  | _ => .func (.func 67) [].toArray [.pointer (some ⟨n1, 0, none⟩)].toArray
def tstB (f : Fld) (x : SkyV) : Nat → Bool
  | 0 => decide (f.d.1 ≤ x.day ∧ x.day ≤ f.d.2)
  | 1 => decide (x.depth ≥ f.depth)
  | _ => decide (max f.e.1 x.e.1 ≤ min f.e.2 x.e.2) && decide (max f.n.1 x.n.1 ≤ min f.n.2 x.n.2)
set_option maxRecDepth 100000 in
theorem meet_any (a b : Int × Int) (w : World) : Calls Try.prog 64 [.agg (rowE a).toArray, .agg (rowE b).toArray].toArray w (Ret w (.bool (decide (max a.1 b.1 ≤ min a.2 b.2)))) := by
  refine fEnter Try.func64 rfl Try.ntmps64 rfl ?_
  refine kSeq ?_
  refine kRegion rfl ?_
  refine lE rfl ?_
  refine eBoxA rfl fun n2 => ?_
  refine lE rfl ?_
  refine eBoxA rfl fun n3 => ?_
  refine lV (yAssign rfl) rfl rfl ?_
  refine lNil ?_
  refine kThen ?_
  refine kSeq ?_
  refine kRegion rfl ?_
  refine lV (yFieldAddr rfl F24_0) rfl rfl ?_
  refine lV (yLoad1 rfl O3 (cOwn 1 rfl rfl)) rfl rfl ?_
  refine lV (yFieldAddr rfl F24_0) rfl rfl ?_
  refine lV (yLoad1 rfl O3 (cOwn 0 rfl rfl)) rfl rfl ?_
  refine lV (yMax rfl rfl) rfl rfl ?_
  refine lV (yFieldAddr rfl F24_1) rfl rfl ?_
  refine lV (yLoad1 rfl O3 (cOwn 1 rfl rfl)) rfl rfl ?_
  refine lV (yFieldAddr rfl F24_1) rfl rfl ?_
  refine lV (yLoad1 rfl O3 (cOwn 0 rfl rfl)) rfl rfl ?_
  refine lV (yMin rfl rfl) rfl rfl ?_
  refine lV (yLeq rfl rfl) rfl rfl ?_
  refine lV (yAssign rfl) rfl rfl ?_
  refine lNil ?_
  refine kThen ?_
  refine kRet ?_
  refine fRet rfl (.t rfl .n) (endRet ?_)
  rfl
section
variable (y : Option Addr × Nat) (f : Fld) (U nm nf n1 n3 n5 : Nat) (x : SkyV) (w : World)
set_option maxRecDepth 100000 in
theorem test2_any (hf : w.heap[nf]? = some (blk (fieldC y f U nm) 81)) : Calls Try.prog 65 [.pointer (some ⟨nf, 0, none⟩), .agg (rowY x).toArray].toArray w (Ret w (.bool (tstB f x 0))) := by
  refine fEnter Try.func65 rfl Try.ntmps65 rfl ?_
  refine kSeq ?_
  refine kRegion rfl ?_
  refine lE rfl ?_
  refine eBoxA rfl fun n3 => ?_
  refine lV (yAssign rfl) rfl rfl ?_
  refine lNil ?_
  refine kThen ?_
  refine kSeq ?_
  refine kDrawE [(1, none), (7, none), (13, none), (14, none)] [] [0, 1, 2, 3, 4, 5, 6, 7, 8, 9, 10, 11, 12, 13, 14, 15] 0 hMix (by kernel_rfl) ?_
  refine .run rfl (yFieldAddr rfl F37_2) rfl rfl ?_
  refine .run rfl (yLoad1 rfl O3 (cOwn 0 rfl rfl)) rfl rfl ?_
  refine .run rfl (yMove rfl) rfl rfl ?_
  refine .run rfl (yNilCheckP rfl) rfl rfl ?_
  refine .run rfl (yFieldAddr rfl F81_0) rfl rfl ?_
  refine .run rfl (yFieldAddr rfl F30_3) rfl rfl ?_
  refine .run rfl (yFieldAddr rfl F24_0) rfl rfl ?_
  refine .run rfl (yLoad1 rfl O3 (cOldB (hf) rfl)) rfl rfl ?_
  refine .run rfl (yMove rfl) rfl rfl ?_
  refine .run rfl (yNilCheckP rfl) rfl rfl ?_
  refine .run rfl (yFieldAddr rfl F81_0) rfl rfl ?_
  refine .run rfl (yFieldAddr rfl F30_3) rfl rfl ?_
  refine .run rfl (yFieldAddr rfl F24_1) rfl rfl ?_
  refine .run rfl (yLoad1 rfl O3 (cOldB (hf) rfl)) rfl rfl ?_
  refine .run rfl (yCall rfl (.c rfl (.c rfl (.c rfl .n))) C52 (fun w hw => kwithin_any _ _ _ w)) rfl rfl ?_
  refine .run rfl (yAssign rfl) rfl rfl ?_
  refine .done ?_
  refine effDone closedSt (hLeft [1, 7, 13, 14] (by kernel_rfl) (.c (fun _ _ hs => hs.ef) (.c (fun _ _ hs => hs.ef) (.c (fun _ _ hs => hs.ef) (.c (fun _ _ hs => hs.ef) .n))))) (by kernel_rfl) ?_
  refine kThen ?_
  refine kRet ?_
  refine fRet rfl (.t rfl .n) (endRet ?_)
  rfl
set_option maxRecDepth 100000 in
theorem test3_any (hf : w.heap[nf]? = some (blk (fieldC y f U nm) 81)) : Calls Try.prog 66 [.pointer (some ⟨nf, 0, none⟩), .agg (rowY x).toArray].toArray w (Ret w (.bool (tstB f x 1))) := by
  refine fEnter Try.func66 rfl Try.ntmps66 rfl ?_
  refine kSeq ?_
  refine kRegion rfl ?_
  refine lE rfl ?_
  refine eBoxA rfl fun n3 => ?_
  refine lV (yAssign rfl) rfl rfl ?_
  refine lNil ?_
  refine kThen ?_
  refine kSeq ?_
  refine kDrawE [(1, none), (6, none)] [] [0, 1, 2, 3, 4, 5, 6, 7, 8] 0 hMix (by kernel_rfl) ?_
  refine .run rfl (yFieldAddr rfl F37_3) rfl rfl ?_
  refine .run rfl (yLoad1 rfl O3 (cOwn 0 rfl rfl)) rfl rfl ?_
  refine .run rfl (yMove rfl) rfl rfl ?_
  refine .run rfl (yNilCheckP rfl) rfl rfl ?_
  refine .run rfl (yFieldAddr rfl F81_0) rfl rfl ?_
  refine .run rfl (yFieldAddr rfl F30_4) rfl rfl ?_
  refine .run rfl (yLoad1 rfl O3 (cOldB (hf) rfl)) rfl rfl ?_
  refine .run rfl (yGeq rfl rfl) rfl rfl ?_
  refine .run rfl (yAssign rfl) rfl rfl ?_
  refine .done ?_
  refine effDone closedSt (hLeft [1, 6] (by kernel_rfl) (.c (fun _ _ hs => hs.ef) (.c (fun _ _ hs => hs.ef) .n))) (by kernel_rfl) ?_
  refine kThen ?_
  refine kRet ?_
  refine fRet rfl (.t rfl .n) (endRet ?_)
  rfl
set_option maxRecDepth 100000 in
theorem test4_any (hf : w.heap[nf]? = some (blk (fieldC y f U nm) 81)) (h1 : w.heap[n1]? = some (blk [meetV] 121)) : Calls Try.prog 67 [.pointer (some ⟨nf, 0, none⟩), .agg (rowY x).toArray, .pointer (some ⟨n1, 0, none⟩)].toArray w (Ret w (.bool (tstB f x 2))) := by
  refine fEnter Try.func67 rfl Try.ntmps67 rfl ?_
  refine kSeq ?_
  refine kRegion rfl ?_
  refine lE rfl ?_
  refine eBoxA rfl fun n4 => ?_
  refine lV (yAssign rfl) rfl rfl ?_
  refine lNil ?_
  refine kThen ?_
  refine kSeq ?_
  by_cases hc : max f.e.1 x.e.1 ≤ min f.e.2 x.e.2
  · refine kDrawE [(0, none), (5, none), (7, none), (8, none), (10, none), (15, none), (17, none), (18, none)] [] [0, 1, 2, 3, 4, 5, 6, 7, 8, 9, 10, 11, 12, 13, 14, 15, 16, 17, 18, 19, 20] 0 hMix (by kernel_rfl) ?_
    refine .run rfl (yLoad1 rfl O121 (cOldB (h1) rfl)) rfl rfl ?_
    refine .run rfl (yMove rfl) rfl rfl ?_
    refine .run rfl (yNilCheckP rfl) rfl rfl ?_
    refine .run rfl (yFieldAddr rfl F81_0) rfl rfl ?_
    refine .run rfl (yFieldAddr rfl F30_1) rfl rfl ?_
    refine .run rfl (yLoadA (vs := [_, _]) rfl A24 (cOldB (hf) rfl)) rfl rfl ?_
    refine .run rfl (yFieldAddr rfl F37_0) rfl rfl ?_
    refine .run rfl (yLoadA (vs := [_, _]) rfl A24 (cOwn 0 rfl rfl)) rfl rfl ?_
    refine .run rfl (yvIs (c := true) (yCall rfl (.c rfl (.c rfl .n)) C64 (fun w hw => meet_any f.e x.e w)) (decide_eq_true hc)) rfl rfl ?_
    refine .run rfl (yMove rfl) rfl rfl ?_
    refine .runG rfl (yLoad1 rfl O121 (cOldB (h1) rfl)) rfl rfl rfl rfl ?_
    refine .runG rfl (yMove rfl) rfl rfl rfl rfl ?_
    refine .runG rfl (yNilCheckP rfl) rfl rfl rfl rfl ?_
    refine .runG rfl (yFieldAddr rfl F81_0) rfl rfl rfl rfl ?_
    refine .runG rfl (yFieldAddr rfl F30_2) rfl rfl rfl rfl ?_
    refine .runG rfl (yLoadA (vs := [_, _]) rfl A24 (cOldB (hf) rfl)) rfl rfl rfl rfl ?_
    refine .runG rfl (yFieldAddr rfl F37_1) rfl rfl rfl rfl ?_
    refine .runG rfl (yLoadA (vs := [_, _]) rfl A24 (cOwn 0 rfl rfl)) rfl rfl rfl rfl ?_
    refine .runG rfl (yCall rfl (.c rfl (.c rfl .n)) C64 (fun w hw => meet_any f.n x.n w)) rfl rfl rfl rfl ?_
    refine .run rfl (yPickT rfl rfl) rfl rfl ?_
    refine .run rfl (yAssign rfl) rfl rfl ?_
    refine .done ?_
    refine effDone closedSt (hLeft [0, 5, 7, 8, 10, 15, 17, 18] (by kernel_rfl) (.c (fun _ _ hs => hs.ef) (.c (fun _ _ hs => hs.ef) (.c (fun _ _ hs => hs.ef) (.c (fun _ _ hs => hs.ef) (.c (fun _ _ hs => hs.ef) (.c (fun _ _ hs => hs.ef) (.c (fun _ _ hs => hs.ef) (.c (fun _ _ hs => hs.ef) .n))))))))) (by kernel_rfl) ?_
    refine kThen ?_
    refine kRet ?_
    refine fRet rfl (.t rfl .n) (endRet ?_)
    simp only [packV, tstB]; rw [decide_eq_true hc, Bool.true_and]
  · refine kDrawE [(0, none), (5, none), (7, none), (8, none)] [] [0, 1, 2, 3, 4, 5, 6, 7, 8, 9, 10, 11, 12, 13, 14, 15, 16, 17, 18, 19, 20] 0 hMix (by kernel_rfl) ?_
    refine .run rfl (yLoad1 rfl O121 (cOldB (h1) rfl)) rfl rfl ?_
    refine .run rfl (yMove rfl) rfl rfl ?_
    refine .run rfl (yNilCheckP rfl) rfl rfl ?_
    refine .run rfl (yFieldAddr rfl F81_0) rfl rfl ?_
    refine .run rfl (yFieldAddr rfl F30_1) rfl rfl ?_
    refine .run rfl (yLoadA (vs := [_, _]) rfl A24 (cOldB (hf) rfl)) rfl rfl ?_
    refine .run rfl (yFieldAddr rfl F37_0) rfl rfl ?_
    refine .run rfl (yLoadA (vs := [_, _]) rfl A24 (cOwn 0 rfl rfl)) rfl rfl ?_
    refine .run rfl (yvIs (c := false) (yCall rfl (.c rfl (.c rfl .n)) C64 (fun w hw => meet_any f.e x.e w)) (decide_eq_false hc)) rfl rfl ?_
    refine .run rfl (yMove rfl) rfl rfl ?_
    refine .skip rfl rfl rfl rfl rfl rfl ?_
    refine .skip rfl rfl rfl rfl rfl rfl ?_
    refine .skip rfl rfl rfl rfl rfl rfl ?_
    refine .skip rfl rfl rfl rfl rfl rfl ?_
    refine .skip rfl rfl rfl rfl rfl rfl ?_
    refine .skip rfl rfl rfl rfl rfl rfl ?_
    refine .skip rfl rfl rfl rfl rfl rfl ?_
    refine .skip rfl rfl rfl rfl rfl rfl ?_
    refine .skip rfl rfl rfl rfl rfl rfl ?_
    refine .run rfl (yPickF rfl rfl) rfl rfl ?_
    refine .run rfl (yAssign rfl) rfl rfl ?_
    refine .done ?_
    refine effDone closedSt (hLeft [0, 5, 7, 8] (by kernel_rfl) (.c (fun _ _ hs => hs.ef) (.c (fun _ _ hs => hs.ef) (.c (fun _ _ hs => hs.ef) (.c (fun _ _ hs => hs.ef) .n))))) (by kernel_rfl) ?_
    refine kThen ?_
    refine kRet ?_
    refine fRet rfl (.t rfl .n) (endRet ?_)
    simp only [packV, tstB]; rw [decide_eq_false hc, Bool.false_and]
set_option maxRecDepth 100000 in
theorem tst_call (i : Nat) (hf : w.heap[nf]? = some (blk (fieldC y f U nm) 81)) (h1 : w.heap[n1]? = some (blk [meetV] 121)) (h3 : w.heap[n3]? = some (blk [.pointer (some ⟨nf, 0, none⟩)] 69)) (h5 : w.heap[n5]? = some (blk (rowY x) 37)) (hi : i < 3) :
    Calls Try.prog 44 ([tstV n1 i] ++ [Value.pointer (some ⟨n3, 0, none⟩), Value.pointer (some ⟨n5, 0, none⟩)]).toArray w (Ret w (.bool (!tstB f x i))) := by
  match i, hi with
  | 0, _ =>
    show Calls Try.prog 44 [tstV n1 0, .pointer (some ⟨n3, 0, none⟩), .pointer (some ⟨n5, 0, none⟩)].toArray w _
    refine fEnter Try.func44 rfl Try.ntmps44 rfl ?_
    refine kSeq ?_
    refine kRegion rfl ?_
    refine lV (yAssign rfl) rfl rfl ?_
    refine lNil ?_
    refine kThen ?_
    refine kSeq ?_
    refine kRegion rfl ?_
    refine lV (yMove rfl) rfl rfl ?_
    refine lV (yLoad1 rfl O69 (cOldB (h3) rfl)) rfl rfl ?_
    refine lV (yLoadA (vs := [_, _, _, _, _, _]) rfl A37 (cOldB (h5) rfl)) rfl rfl ?_
    refine lV (yCall rfl (.c rfl (.c rfl .n)) C65 (fun w hw => test2_any y f U nm nf x w (Eff.old' hw hf))) rfl rfl ?_
    refine lV (yNot rfl) rfl rfl ?_
    refine lV (yAssign rfl) rfl rfl ?_
    refine lNil ?_
    refine kThen ?_
    refine kRet ?_
    refine fRet rfl (.t rfl .n) (endRet ?_)
    rfl
  | 1, _ =>
    show Calls Try.prog 44 [tstV n1 1, .pointer (some ⟨n3, 0, none⟩), .pointer (some ⟨n5, 0, none⟩)].toArray w _
    refine fEnter Try.func44 rfl Try.ntmps44 rfl ?_
    refine kSeq ?_
    refine kRegion rfl ?_
    refine lV (yAssign rfl) rfl rfl ?_
    refine lNil ?_
    refine kThen ?_
    refine kSeq ?_
    refine kRegion rfl ?_
    refine lV (yMove rfl) rfl rfl ?_
    refine lV (yLoad1 rfl O69 (cOldB (h3) rfl)) rfl rfl ?_
    refine lV (yLoadA (vs := [_, _, _, _, _, _]) rfl A37 (cOldB (h5) rfl)) rfl rfl ?_
    refine lV (yCall rfl (.c rfl (.c rfl .n)) C66 (fun w hw => test3_any y f U nm nf x w (Eff.old' hw hf))) rfl rfl ?_
    refine lV (yNot rfl) rfl rfl ?_
    refine lV (yAssign rfl) rfl rfl ?_
    refine lNil ?_
    refine kThen ?_
    refine kRet ?_
    refine fRet rfl (.t rfl .n) (endRet ?_)
    rfl
  | 2, _ =>
    show Calls Try.prog 44 [tstV n1 2, .pointer (some ⟨n3, 0, none⟩), .pointer (some ⟨n5, 0, none⟩)].toArray w _
    refine fEnter Try.func44 rfl Try.ntmps44 rfl ?_
    refine kSeq ?_
    refine kRegion rfl ?_
    refine lV (yAssign rfl) rfl rfl ?_
    refine lNil ?_
    refine kThen ?_
    refine kSeq ?_
    refine kRegion rfl ?_
    refine lV (yMove rfl) rfl rfl ?_
    refine lV (yLoad1 rfl O69 (cOldB (h3) rfl)) rfl rfl ?_
    refine lV (yLoadA (vs := [_, _, _, _, _, _]) rfl A37 (cOldB (h5) rfl)) rfl rfl ?_
    refine lV (yCall rfl (.c rfl (.c rfl .n)) C67 (fun w hw => test4_any y f U nm nf n1 x w (Eff.old' hw hf) (Eff.old' hw h1))) rfl rfl ?_
    refine lV (yNot rfl) rfl rfl ?_
    refine lV (yAssign rfl) rfl rfl ?_
    refine lNil ?_
    refine kThen ?_
    refine kRet ?_
    refine fRet rfl (.t rfl .n) (endRet ?_)
    rfl
end
set_option maxRecDepth 100000 in
theorem tests_any (w : World) : Calls Try.prog 43 [].toArray w (RetX w (fun _ : Nat × Nat => True) (fun n => .slice (some ⟨n.2, 0, none⟩) 3 3) (fun _ => []) (fun n => [(n.2, blk [tstV n.1 0, tstV n.1 1, tstV n.1 2] 103), (n.1, blk [meetV] 121)])) := by
  refine fEnter Try.func43 rfl Try.ntmps43 rfl ?_
  refine kSeq ?_
  refine kRegion rfl ?_
  refine lV (yAssign rfl) rfl rfl ?_
  refine lNil ?_
  refine kThen ?_
  refine kSeq ?_
  refine kRegion rfl ?_
  refine lE rfl ?_
  refine eAlloc Z121 fun n1 => ?_
  refine lE rfl ?_
  refine eStoreL 0 rfl rfl rfl rfl K121 rfl (rfl) ?_
  refine lNil ?_
  refine kThen ?_
  refine kSeq ?_
  refine kRegion rfl ?_
  refine lV (yMakeFunc .n (.c rfl .n)) rfl rfl ?_
  refine lE rfl ?_
  refine eBuildSlice (.c rfl (.c rfl (.c rfl .n))) (fun w => BS102_3_0_1_2 w) fun n3 => ?_
  refine lV (yAssign rfl) rfl rfl ?_
  refine lNil ?_
  refine kThen ?_
  refine kRet ?_
  refine fRet rfl (.t rfl .n) ?_
  exact endX (n1, n3) trivial rfl rfl .r
abbrev rowT (n1 i : Nat) : List Value := [tstV n1 i]

set_option maxRecDepth 100000 in
theorem indexFn_any (n1 : Nat) (a : Option Addr) (c n : Nat) (F : FuncId) (caps : List Value) (w : World) (l : List (Nat)) (p : Nat → Bool) (hn : n = l.length) (hl : n ≤ 1000000) (hs : SlE w a n 1 (fun i => rowT n1 (l.getD i 0))) (hf : callT Try.prog F = true)
    (hc : ∀ w', Eff w [] [] w' → ∀ x ∈ l, Calls Try.prog F ([tstV n1 x] ++ caps).toArray w' (Ret w' (.bool (p x)))) :
    Calls Try.prog 63 [.slice a n c, .func (.func F) [].toArray caps.toArray].toArray w (Ret w (i64 (idxP p l))) := by
  subst hn
  refine fEnter Try.func63 rfl Try.ntmps63 rfl ?_
  refine kSeq ?_
  refine kRegion rfl ?_
  refine lV (yAssign rfl) rfl rfl ?_
  refine lNil ?_
  refine kThen ?_
  refine kSeq ?_
  refine kSeq ?_
  refine kRegion rfl ?_
  refine lV (yMove rfl) rfl rfl ?_
  refine lV (yLen rfl S102) rfl rfl ?_
  refine lV (yMove rfl) rfl rfl ?_
  refine lNil ?_
  refine kThen ?_
  refine kBlock ?_
  refine kLoopX (ι := Nat) (fun i => i ≤ l.length ∧ ∀ j, j < i → p (l.getD j 0) = false) (fun i => [(8, i64 (i : Nat))]) [(0, _), (1, _), (6, _), (7, _)] (fun i => []) (fun i => []) [] (fun i => l.length - i) 0 (⟨Nat.zero_le _, fun j hj => absurd hj (by omega)⟩) rfl (.c rfl .n) (.c rfl (.c rfl (.c rfl (.c rfl .n)))) .n ?_
  rintro i ⟨hi, hj⟩
  refine kSeq ?_
  refine kRegion rfl ?_
  refine lV (yLss rfl rfl) rfl rfl ?_
  refine lNil ?_
  refine kThen ?_
  refine kSeq ?_
  refine split (t := 9) rfl (fun h9 => ?_) (fun h9 => ?_)
  · refine kIfT rfl ?_
    refine kSkip ?_
    refine kThen ?_
    refine kSeq ?_
    refine kBlock ?_
    refine kSeq ?_
    refine kRegion rfl ?_
    refine lV (yMove rfl) rfl rfl ?_
    refine lV (yAssign rfl) rfl rfl ?_
    refine lNil ?_
    refine kThen ?_
    refine kSeq ?_
    refine kRegion rfl ?_
    refine lV (yMove rfl) rfl rfl ?_
    refine lV (yMove rfl) rfl rfl ?_
    refine lV (yMove rfl) rfl rfl ?_
    refine lV (yIndexS  rfl rfl S102 (hs.r) ((by omega))) rfl rfl ?_
    refine lV (yLoad1 rfl O103 (cSl0 (hs.r) ((by omega)) rfl)) rfl rfl ?_
    refine lV (yCall (us := []) (cs := caps) rfl (.c rfl .n) hf (fun w' hw => hc w' (hw.forget (List.nil_sublist _)) _ (getD_mem (i := i) (by omega) 0))) rfl rfl ?_
    refine lNil ?_
    refine kThen ?_
    refine splitB (t := 16) rfl (fun h16 => ?_) (fun h16 => ?_)
    · refine kIfT rfl ?_
      refine kSeq ?_
      refine kRegion rfl ?_
      refine lV (yMove rfl) rfl rfl ?_
      refine lV (yAssign rfl) rfl rfl ?_
      refine lNil ?_
      refine kThen ?_
      refine kRet ?_
      refine kInR ?_
      refine kThenR ?_
      refine kThenR ?_
      refine kInR ?_
      refine kThenR ?_
      refine fRet rfl (.t rfl .n) (endRet ?_)
      simp only [packV]; rw [idxP_some 0 (by omega) h16 hj]
    · refine kIfF rfl ?_
      refine kSkip ?_
      refine kInN ?_
      refine kThen ?_
      refine kRegion rfl ?_
      refine lV (yAdd rfl rfl (by omega)) rfl rfl ?_
      refine lV (yMove rfl) rfl rfl ?_
      refine lNil ?_
      exact kRoundX (i + 1) (⟨by omega, fun j hl => by rcases Nat.lt_or_ge j i with h | h; (· exact hj j h); (obtain rfl : j = i := by omega); exact h16⟩) (by omega) rfl (.c rfl .n) (.c rfl (.c rfl (.c rfl (.c rfl .n)))) .n
  · refine kIfF rfl ?_
    refine kExit ?_
    refine kThenX ?_
    refine kThenX ?_
    refine kInX ?_
    refine kThen ?_
    refine kSeq ?_
    refine kRegion rfl ?_
    refine lV (yAssign rfl) rfl rfl ?_
    refine lNil ?_
    refine kThen ?_
    refine kRet ?_
    refine fRet rfl (.t rfl .n) (endRet ?_)
    simp only [packV]; rw [idxP_none 0 fun j hl => hj j (by omega)]
set_option maxRecDepth 100000 in
theorem containsFn_any (n1 : Nat) (a : Option Addr) (c n : Nat) (F : FuncId) (caps : List Value) (w : World) (l : List (Nat)) (p : Nat → Bool) (hn : n = l.length) (hl : n ≤ 1000000) (hs : SlE w a n 1 (fun i => rowT n1 (l.getD i 0))) (hf : callT Try.prog F = true)
    (hc : ∀ w', Eff w [] [] w' → ∀ x ∈ l, Calls Try.prog F ([tstV n1 x] ++ caps).toArray w' (Ret w' (.bool (p x)))) :
    Calls Try.prog 42 [.slice a n c, .func (.func F) [].toArray caps.toArray].toArray w (Ret w (.bool (l.any p))) := by
  refine fEnter Try.func42 rfl Try.ntmps42 rfl ?_
  refine kSeq ?_
  refine kRegion rfl ?_
  refine lV (yAssign rfl) rfl rfl ?_
  refine lNil ?_
  refine kThen ?_
  refine kSeq ?_
  refine kRegion rfl ?_
  refine lV (yMove rfl) rfl rfl ?_
  refine lV (yMove rfl) rfl rfl ?_
  refine lV (yCall rfl (.c rfl (.c rfl .n)) C63 (fun w hw => indexFn_any n1 _ _ _ _ _ w l p hn hl (hs.eff0 hw) hf (fun w' hw' x hx => hc w' (by simpa using hw.trans hw') x hx))) rfl rfl ?_
  refine lV (yGeq rfl rfl) rfl rfl ?_
  refine lV (yAssign rfl) rfl rfl ?_
  refine lNil ?_
  refine kThen ?_
  refine kRet ?_
  refine fRet rfl (.t rfl .n) (endRet ?_)
  simp only [packV]; rw [idxP_ge]

theorem tests_all (f : Fld) (x : SkyV) : ([0, 1, 2] : List Nat).any (fun i => !tstB f x i) = !decide (useP f x) := by
  simp only [List.any_cons, List.any_nil, Bool.or_false]
  unfold useP tstB
  by_cases h1 : f.d.1 ≤ x.day ∧ x.day ≤ f.d.2 <;> by_cases h2 : x.depth ≥ f.depth <;> by_cases h3 : max f.e.1 x.e.1 ≤ min f.e.2 x.e.2 <;> by_cases h4 : max f.n.1 x.n.1 ≤ min f.n.2 x.n.2 <;> simp [h1, h2, h3, h4]
end Go.Proofs.Ytdpeifbejeflhaa
