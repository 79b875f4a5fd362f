/-
  Walks: errors of the eye; sets; things.
-/
import Derived.Test.YtiaaidcdoenloaaPb
import Derived.Test.YtiaaidcdoenloaaEngT
namespace Go.Proofs.Ytiaaidcdoenloaa
open ZW

set_option maxRecDepth 100000 in
theorem ewithin_any (n a b : Int) (w : World) : Calls Try.prog 49 [i64 n, i64 a, i64 b].toArray w (Ret w (.bool (decide (a ≤ n ∧ n ≤ b)))) := by
  refine fEnter Try.func49 rfl Try.ntmps49 rfl ?_
  refine kSeq ?_
  refine kRegion rfl ?_
  refine lV (yAssign rfl) rfl rfl ?_
  refine lNil ?_
  refine kThen ?_
  refine kSeq ?_
  refine kRegion rfl ?_
  refine lV (yMove rfl) rfl rfl ?_
  refine lV (yMove rfl) rfl rfl ?_
  refine lV (yLeq rfl rfl) rfl rfl ?_
  refine lV (yMove rfl) rfl rfl ?_
  refine split (t := 10) rfl (fun h10 => ?_) (fun h10 => ?_)
  · refine lGY rfl rfl rfl (oV (yMove rfl) rfl ?_)
    refine lGY rfl rfl rfl (oV (yMove rfl) rfl ?_)
    refine lGY rfl rfl rfl (oV (yLeq rfl rfl) rfl ?_)
    refine lV (yPickT rfl rfl) rfl rfl ?_
    refine lV (yAssign rfl) rfl rfl ?_
    refine lNil ?_
    refine kThen ?_
    refine kRet ?_
    refine fRet rfl (.t rfl .n) (endRet ?_)
    simp [packV, *]
  · refine lGN rfl rfl rfl rfl rfl ?_
    refine lGN rfl rfl rfl rfl rfl ?_
    refine lGN rfl rfl rfl rfl rfl ?_
    refine lV (yPickF rfl rfl) rfl rfl ?_
    refine lV (yAssign rfl) rfl rfl ?_
    refine lNil ?_
    refine kThen ?_
    refine kRet ?_
    refine fRet rfl (.t rfl .n) (endRet ?_)
    simp [packV, *]
set_option maxRecDepth 100000 in
theorem must_ok (e : Int) (w : World) : Calls Try.prog 48 [.bool true, i64 e].toArray w (Ret w (.tuple #[])) := by
  refine fEnter Try.func48 rfl Try.ntmps48 rfl ?_
  refine kSeq ?_
  refine kRegion rfl ?_
  refine lV (yMove rfl) rfl rfl ?_
  refine lV (yNot rfl) rfl rfl ?_
  refine lNil ?_
  refine kThen ?_
  refine kIfF rfl ?_
  refine kSkip ?_
  refine fEnd rfl .n (endRet ?_)
  rfl
abbrev failV (e : Int) : Value := .iface 127 (.agg [i64 e].toArray)
set_option maxRecDepth 100000 in
theorem must_pan (e : Int) (w : World) : Calls Try.prog 48 [.bool false, i64 e].toArray w (Pan w (failV e)) := by
  refine fEnter Try.func48 rfl Try.ntmps48 rfl ?_
  refine kSeq ?_
  refine kRegion rfl ?_
  refine lV (yMove rfl) rfl rfl ?_
  refine lV (yNot rfl) rfl rfl ?_
  refine lNil ?_
  refine kThen ?_
  refine kIfT rfl ?_
  refine kRegion rfl ?_
  refine lV (yMove rfl) rfl rfl ?_
  refine lV (yBuild (.c rfl .n) (fun w => B127_0 w)) rfl rfl ?_
  refine lV (yMakeInterface rfl I127) rfl rfl ?_
  refine lE rfl ?_
  refine ePanic rfl ?_
  exact fPan (endPan rfl)

/-! ### What a panic tells -/
set_option maxRecDepth 100000 in
theorem told_ret (v : Value) (w : World) : CallsDIn (FW none) 0 Try.prog 46 [v].toArray .returning w (fun e u' w' => (∃ v, e = .returned v) ∧ u' = .returning ∧ Eff w [] [] w') := by
  refine fEnterT (Eff.refl w) Try.func46 rfl rfl rfl rfl (recover_idle) fun c₀ cs => ?_
  refine kBlock ?_
  refine kSeq ?_
  refine kRegion rfl ?_
  refine lV (yEqNilNil' rfl J20) rfl rfl ?_
  refine lNil ?_
  refine kThen ?_
  refine kIfT rfl ?_
  refine kRegion rfl ?_
  refine lV (yAssign rfl) rfl rfl ?_
  refine lNil ?_
  refine kInN ?_
  exact tEnd rfl fun w' hw' => ⟨⟨_, rfl⟩, rfl, hw'.sub .n⟩
set_option maxRecDepth 100000 in
theorem told_pan (n : Nat) (x e : Int) (w : World) (hb : w.heap[n]? = some (blk [i64 x] 32)) : CallsDIn (FW none) 0 Try.prog 46 [.pointer (some ⟨n, 0, none⟩)].toArray (.panicking [{ v := failV e, recovered := false }]) w
    (fun en u' w' => (∃ v, en = .returned v) ∧ u' = .panicking [{ v := failV e, recovered := true }] ∧ Eff w [(n, blk [i64 e] 32)] [] w') := by
  refine fEnterT (Eff.one hb) Try.func46 rfl rfl rfl rfl (recover_some _) fun c₀ cs => ?_
  refine kBlock ?_
  refine kSeq ?_
  refine kRegion rfl ?_
  refine lV (yEqNilIf' rfl J20) rfl rfl ?_
  refine lNil ?_
  refine kThen ?_
  refine kIfF rfl ?_
  refine kSeq ?_
  refine kRegion rfl ?_
  refine lV (yAssertY rfl I127) rfl rfl ?_
  refine lV (yExtract rfl rfl) rfl rfl ?_
  refine lV (yExtract rfl rfl) rfl rfl ?_
  refine lNil ?_
  refine kThen ?_
  refine kIfT rfl ?_
  refine kSeq ?_
  refine kRegion rfl ?_
  refine lE rfl ?_
  refine eAlloc Z127 fun n3 => ?_
  refine lE rfl ?_
  refine eStoreL 0 rfl rfl rfl rfl K127 rfl (rfl) ?_
  refine lNil ?_
  refine kThen ?_
  refine kRegion rfl ?_
  refine lV (yMove rfl) rfl rfl ?_
  refine lV (yFieldAddr rfl F127_0) rfl rfl ?_
  refine lV (yLoad1 rfl O32 (cOwn 1 rfl rfl)) rfl rfl ?_
  refine lV (yNilCheckP rfl) rfl rfl ?_
  refine lE rfl ?_
  refine eStoreM 0 rfl rfl rfl rfl K32 rfl (rfl) ?_
  refine lNil ?_
  refine kInN ?_
  exact tEnd rfl fun w' hw' => ⟨⟨_, rfl⟩, rfl, hw'.sub .n⟩
theorem CT : callT Try.prog 46 = true := by kernel_rfl
section
variable {N : Nat} {S : Slots} {W : World} {M L : Heap} {fn : Func} {rs : List ResultVar} {vs : List Value} {R : Ending → World → Prop} {p : Value}
/-- The end of a function that tells its panics, by return. -/
theorem fRetE (hr : fn.results = rs.toArray) (h : ResV Try.prog S (Eff W M L) rs vs) (k : ∀ w, Eff W M L w → R (.returned (packV vs)) w) :
    Tr (St N S [dfa 46 p] W M L) (bodyPostM (FW none) 0 Try.prog fn R .ret) := fRetT CT hr h (fun w _ => told_ret p w) k
/-- By a panic. -/
theorem fPanE {n : Nat} {x e : Int} (i : Nat) (hi : L[i]? = some (n, blk [i64 x] 32)) (hr : fn.results = rs.toArray) (h : ResV Try.prog S (Eff W M (upd L i (blk [i64 e] 32))) rs vs)
    (k : ∀ w, Eff W M (upd L i (blk [i64 e] 32)) w → R (.returned (packV vs)) w) :
    Tr (St N S [dfa 46 (.pointer (some ⟨n, 0, none⟩))] W M L) (bodyPostM (FW none) 0 Try.prog fn R (.panic [{ v := failV e, recovered := false }])) :=
  fPanT CT hr h (fun w hw => (told_pan n x e w (hw.own _ (List.mem_append.2 (.inr (List.mem_of_getElem? hi))))).mono fun _ _ _ ⟨h1, h2, h3⟩ => ⟨h1, h2, by simpa using hw.wroteL hi h3⟩) k
end

/-! ### Sets -/
theorem bit_iff (s i : Nat) : (((s / 2 ^ i &&& 1 : Nat) : Int) = 1) ↔ s.testBit i = true := by
  rw [Nat.testBit_eq_decide_div_mod_eq, decide_eq_true_eq, Nat.and_one_is_mod]
  omega
set_option maxRecDepth 100000 in
theorem has_any (s n : Nat) (w : World) (hs : s < 2 ^ 63) (hn : n ≤ 60) : Calls Try.prog 105 [.int .u64 (s : Nat), i64 (n : Nat)].toArray w (Ret w (.bool (s.testBit n))) := by
  refine fEnter Try.func105 rfl Try.ntmps105 rfl ?_
  refine kSeq ?_
  refine kRegion rfl ?_
  refine lV (yAssign rfl) rfl rfl ?_
  refine lNil ?_
  refine kThen ?_
  refine kSeq ?_
  refine kRegion rfl ?_
  refine lV (yMove rfl) rfl rfl ?_
  refine lV (yMove rfl) rfl rfl ?_
  refine lV (yShr rfl rfl rfl (by omega)) rfl rfl ?_
  refine lV (yAnd (b := 1) rfl rfl rfl (by have := Nat.div_le_self s (2 ^ n); omega) (by have := Nat.div_le_self s (2 ^ n); omega)) rfl rfl ?_
  refine lV (yEql rfl rfl) rfl rfl ?_
  refine lV (yAssign rfl) rfl rfl ?_
  refine lNil ?_
  refine kThen ?_
  refine kRet ?_
  refine fRet rfl (.t rfl .n) (endRet ?_)
  simp only [packV]
  congr 1
  rw [Bool.eq_iff_iff, decide_eq_true_eq]; exact bit_iff s n
set_option maxRecDepth 100000 in
theorem full_any (n : Nat) (w : World) (hn : n ≤ 60) : Calls Try.prog 54 [i64 (n : Nat)].toArray w (Ret w (.int .u64 ((2 ^ n - 1 : Nat) : Int))) := by
  have hp : 2 ^ n ≤ 2 ^ 60 := Nat.pow_le_pow_right (by omega) hn
  have hp0 : 0 < 2 ^ n := Nat.two_pow_pos _
  refine fEnter Try.func54 rfl Try.ntmps54 rfl ?_
  refine kSeq ?_
  refine kRegion rfl ?_
  refine lV (yAssign rfl) rfl rfl ?_
  refine lNil ?_
  refine kThen ?_
  refine kSeq ?_
  refine kRegion rfl ?_
  refine lV (yMove rfl) rfl rfl ?_
  refine lV (yShl (a := 1) rfl rfl rfl (by omega) (by omega)) rfl rfl ?_
  refine lV (ySubN (b := 1) rfl rfl rfl (by omega)) rfl rfl ?_
  refine lV (yAssign rfl) rfl rfl ?_
  refine lNil ?_
  refine kThen ?_
  refine kRet ?_
  refine fRet rfl (.t rfl .n) (endRet ?_)
  simp only [packV, Nat.one_mul]

/-! ### Things -/
inductive Thing where
  | zero
  | habit (m : Nat)
  | place (i : Nat)
def Thing.ty : Thing → TypeId
  | .zero => 82
  | .habit _ => 84
  | .place _ => 90
def Thing.val : Thing → Value
  | .zero => .agg [].toArray
  | .habit m => .agg [i64 (m : Nat)].toArray
  | .place i => .agg [i64 (i : Nat)].toArray
def Thing.fn : Thing → FuncId
  | .zero => 131
  | .habit _ => 132
  | .place _ => 133
/-- Its number, of so many measurers. -/
def Thing.num (e : Nat) : Thing → Nat
  | .zero => 0
  | .habit m => 1 + m
  | .place i => 1 + e + i
def Thing.ok : Thing → Prop
  | .zero => True
  | .habit m => m ≤ 1000
  | .place i => i ≤ 1000
abbrev thV (t : Thing) : Value := .iface t.ty t.val
theorem MTz : methT Try.prog 82 "zoneworks/eye.at" = some 131 := by kernel_rfl
theorem MTh : methT Try.prog 84 "zoneworks/eye.at" = some 132 := by kernel_rfl
theorem MTp : methT Try.prog 90 "zoneworks/eye.at" = some 133 := by kernel_rfl
theorem thing_m : ∀ t : Thing, methT Try.prog t.ty "zoneworks/eye.at" = some t.fn
  | .zero => MTz
  | .habit _ => MTh
  | .place _ => MTp
theorem thing_c : ∀ t : Thing, callT Try.prog t.fn = true
  | .zero => by unfold Thing.fn; kernel_rfl
  | .habit _ => by show callT Try.prog 132 = true; kernel_rfl
  | .place _ => by show callT Try.prog 133 = true; kernel_rfl
set_option maxRecDepth 100000 in
theorem zat_any (e : Int) (w : World) : Calls Try.prog 131 [.agg [].toArray, i64 e].toArray w (Ret w (i64 ((0 : Nat) : Int))) := by
  refine fEnter Try.func131 rfl Try.ntmps131 rfl ?_
  refine kSeq ?_
  refine kRegion rfl ?_
  refine lE rfl ?_
  refine eBoxA rfl fun n2 => ?_
  refine lV (yAssign rfl) rfl rfl ?_
  refine lNil ?_
  refine kThen ?_
  refine kSeq ?_
  refine kRegion rfl ?_
  refine lV (yAssign rfl) rfl rfl ?_
  refine lNil ?_
  refine kThen ?_
  refine kRet ?_
  refine fRet rfl (.t rfl .n) (endRet ?_)
  rfl
set_option maxRecDepth 100000 in
theorem hat_any (m : Nat) (e : Int) (w : World) (hm : m ≤ 1000) : Calls Try.prog 132 [.agg [i64 (m : Nat)].toArray, i64 e].toArray w (Ret w (i64 ((1 + m : Nat) : Int))) := by
  refine fEnter Try.func132 rfl Try.ntmps132 rfl ?_
  refine kSeq ?_
  refine kRegion rfl ?_
  refine lE rfl ?_
  refine eBoxA rfl fun n2 => ?_
  refine lV (yAssign rfl) rfl rfl ?_
  refine lNil ?_
  refine kThen ?_
  refine kSeq ?_
  refine kRegion rfl ?_
  refine lV (yFieldAddr rfl F84_0) rfl rfl ?_
  refine lV (yLoad1 rfl O3 (cOwn 0 rfl rfl)) rfl rfl ?_
  refine lV (yAdd rfl rfl (by omega)) rfl rfl ?_
  refine lV (yAssign rfl) rfl rfl ?_
  refine lNil ?_
  refine kThen ?_
  refine kRet ?_
  refine fRet rfl (.t rfl .n) (endRet ?_)
  simp only [packV]; congr 1
set_option maxRecDepth 100000 in
theorem pat_any (i : Nat) (e : Nat) (w : World) (hm : i ≤ 1000) (he : e ≤ 1000) : Calls Try.prog 133 [.agg [i64 (i : Nat)].toArray, i64 (e : Nat)].toArray w (Ret w (i64 ((1 + e + i : Nat) : Int))) := by
  refine fEnter Try.func133 rfl Try.ntmps133 rfl ?_
  refine kSeq ?_
  refine kRegion rfl ?_
  refine lE rfl ?_
  refine eBoxA rfl fun n2 => ?_
  refine lV (yAssign rfl) rfl rfl ?_
  refine lNil ?_
  refine kThen ?_
  refine kSeq ?_
  refine kRegion rfl ?_
  refine lV (yMove rfl) rfl rfl ?_
  refine lV (yAdd rfl rfl (by omega)) rfl rfl ?_
  refine lV (yFieldAddr rfl F90_0) rfl rfl ?_
  refine lV (yLoad1 rfl O3 (cOwn 0 rfl rfl)) rfl rfl ?_
  refine lV (yAdd rfl rfl (by omega)) rfl rfl ?_
  refine lV (yAssign rfl) rfl rfl ?_
  refine lNil ?_
  refine kThen ?_
  refine kRet ?_
  refine fRet rfl (.t rfl .n) (endRet ?_)
  simp only [packV]; congr 1
theorem thing_at (t : Thing) (e : Nat) (w : World) (ht : t.ok) (he : e ≤ 1000) : Calls Try.prog t.fn [t.val, i64 (e : Nat)].toArray w (Ret w (i64 (t.num e : Nat))) := by
  cases t with
  | zero => exact zat_any e w
  | habit m => exact hat_any m e w ht
  | place i => exact pat_any i e w ht he
end Go.Proofs.Ytiaaidcdoenloaa
