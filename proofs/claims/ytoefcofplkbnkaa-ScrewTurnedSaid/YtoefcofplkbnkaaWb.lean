/-
  Walks: what is valid.
-/
import Derived.Test.YtoefcofplkbnkaaWa
namespace Go.Proofs.Ytoefcofplkbnkaa
open ZW

abbrev rowE (x : Int × Int) : List Value := [i64 x.1, i64 x.2]
abbrev rowS (x : Int × Int × Bool) : List Value := [i64 x.1, i64 x.2.1, .bool x.2.2]

theorem rowsE_len (l : List (Int × Int)) : ∀ x ∈ l.map rowE, x.length = 2 := by
  intro x hx; obtain ⟨y, _, rfl⟩ := List.mem_map.1 hx; rfl
theorem rowsE_one (l : List (Int × Int)) : ∀ x ∈ l.map rowE, ∀ u ∈ x, u.oneCell' = true := by
  intro x hx u hu; obtain ⟨y, _, rfl⟩ := List.mem_map.1 hx
  simp only [rowE, List.mem_cons, List.not_mem_nil, or_false] at hu
  rcases hu with rfl | rfl <;> rfl

/-- Where the first one is of which something is so; -1: nowhere. -/
def idxP {α : Type} (p : α → Bool) (l : List α) : Int := match l.findIdx? p with
  | some i => (i : Int)
  | none => -1
theorem idxP_none {α : Type} {p : α → Bool} {l : List α} (d : α) (h : ∀ j, j < l.length → p (l.getD j d) = false) : idxP p l = -1 := by
  have : l.findIdx? p = none := by
    rw [List.findIdx?_eq_none_iff]
    intro x hx
    obtain ⟨j, hj, rfl⟩ := List.mem_iff_getElem.1 hx
    have := h j hj
    rw [← List.getElem_eq_getD (h := hj)] at this
    exact this
  simp [idxP, this]
theorem idxP_some {α : Type} {p : α → Bool} {l : List α} {i : Nat} (d : α) (hi : i < l.length) (hp : p (l.getD i d) = true) (h : ∀ j, j < i → p (l.getD j d) = false) : idxP p l = i := by
  have : l.findIdx? p = some i := by
    rw [List.findIdx?_eq_some_iff_getElem]
    refine ⟨hi, by rw [← List.getElem_eq_getD (h := hi)] at hp; exact hp, fun j hj => ?_⟩
    have h1 := h j hj
    rw [← List.getElem_eq_getD (h := by omega)] at h1
    simp [h1]
  simp [idxP, this]
theorem idxP_ge {α : Type} (p : α → Bool) (l : List α) : decide (idxP p l ≥ 0) = l.any p := by
  by_cases h : l.any p = true
  · rw [h]
    obtain ⟨i, hi, hp⟩ : ∃ i, l.findIdx? p = some i ∧ True := by
      cases hf : l.findIdx? p with
      | some i => exact ⟨i, rfl, trivial⟩
      | none =>
        rw [List.findIdx?_eq_none_iff] at hf
        rw [List.any_eq_true] at h
        obtain ⟨x, hx, hp⟩ := h
        rw [hf x hx] at hp; cases hp
    simp [idxP, hi]
  · have h' : l.any p = false := by simpa using h
    rw [h']
    have hf : l.findIdx? p = none := by
      rw [List.findIdx?_eq_none_iff]
      intro x hx
      rw [List.any_eq_false] at h'
      simpa using h' x hx
    simp [idxP, hf]

section
variable (a : Option Addr) (c n : Nat) (F : FuncId) (caps : List Value) (w : World)

set_option maxRecDepth 100000 in
theorem indexSpan_any (l : List (Int × Int)) (p : Int × Int → Bool) (hn : n = l.length) (hl : n ≤ 1000000) (hs : SlE w a n 2 (errC l)) (hf : callT Try.prog F = true)
    (hc : ∀ w', Eff w [] [] w' → ∀ x ∈ l, Calls Try.prog F ([Value.agg (rowE x).toArray] ++ caps).toArray w' (Ret w' (.bool (p x)))) :
    Calls Try.prog 93 [.slice a n c, .func (.func F) [].toArray caps.toArray].toArray w (Ret w (i64 (idxP p l))) := by
  subst hn
  refine fEnter Try.func93 rfl Try.ntmps93 rfl ?_
  refine kSeq ?_
  refine kRegion rfl ?_
  refine lV (yAssign rfl) rfl rfl ?_
  refine lNil ?_
  refine kThen ?_
  refine kSeq ?_
  refine kSeq ?_
  refine kRegion rfl ?_
  refine lV (yMove rfl) rfl rfl ?_
  refine lV (yLen rfl S22) rfl rfl ?_
  refine lV (yMove rfl) rfl rfl ?_
  refine lNil ?_
  refine kThen ?_
  refine kBlock ?_
  refine kLoopX (ι := Nat) (fun i => i ≤ l.length ∧ ∀ j, j < i → p (l.getD j (0, 0)) = false) (fun i => [(8, i64 (i : Nat))]) [(0, _), (1, _), (6, _), (7, _)] (fun i => []) (fun i => []) [] (fun i => l.length - i) 0 (⟨Nat.zero_le _, fun j hj => absurd hj (by omega)⟩) rfl (.c rfl .n) (.c rfl (.c rfl (.c rfl (.c rfl .n)))) .n ?_
  rintro i ⟨hi, hj⟩
  refine kSeq ?_
  refine kRegion rfl ?_
  refine lV (yLss rfl rfl) rfl rfl ?_
  refine lNil ?_
  refine kThen ?_
  refine kSeq ?_
  refine split (t := 9) rfl (fun h9 => ?_) (fun h9 => ?_)
  · refine kIfT rfl ?_
    refine kSkip ?_
    refine kThen ?_
    refine kSeq ?_
    refine kBlock ?_
    refine kSeq ?_
    refine kRegion rfl ?_
    refine lV (yMove rfl) rfl rfl ?_
    refine lV (yAssign rfl) rfl rfl ?_
    refine lNil ?_
    refine kThen ?_
    refine kSeq ?_
    refine kRegion rfl ?_
    refine lV (yMove rfl) rfl rfl ?_
    refine lV (yMove rfl) rfl rfl ?_
    refine lV (yMove rfl) rfl rfl ?_
    refine lV (yIndexS  rfl rfl S22 (hs.r) ((by omega))) rfl rfl ?_
    refine lV (yLoadA (vs := [_, _]) rfl A24 (cSl0 (hs.r) ((by omega)) rfl)) rfl rfl ?_
    refine lV (yCall (us := []) (cs := caps) rfl (.c rfl .n) hf (fun w' hw => hc w' (hw.forget (List.nil_sublist _)) _ (getD_mem (i := i) (by omega) (0, 0)))) rfl rfl ?_
    refine lNil ?_
    refine kThen ?_
    refine splitB (t := 16) rfl (fun h16 => ?_) (fun h16 => ?_)
    · refine kIfT rfl ?_
      refine kSeq ?_
      refine kRegion rfl ?_
      refine lV (yMove rfl) rfl rfl ?_
      refine lV (yAssign rfl) rfl rfl ?_
      refine lNil ?_
      refine kThen ?_
      refine kRet ?_
      refine kInR ?_
      refine kThenR ?_
      refine kThenR ?_
      refine kInR ?_
      refine kThenR ?_
      refine fRet rfl (.t rfl .n) (endRet ?_)
      simp only [packV]; rw [idxP_some (0, 0) (by omega) h16 hj]
    · refine kIfF rfl ?_
      refine kSkip ?_
      refine kInN ?_
      refine kThen ?_
      refine kRegion rfl ?_
      refine lV (yAdd rfl rfl (by omega)) rfl rfl ?_
      refine lV (yMove rfl) rfl rfl ?_
      refine lNil ?_
      exact kRoundX (i + 1) (⟨by omega, fun j hl => by rcases Nat.lt_or_ge j i with h | h; (· exact hj j h); (obtain rfl : j = i := by omega); exact h16⟩) (by omega) rfl (.c rfl .n) (.c rfl (.c rfl (.c rfl (.c rfl .n)))) .n
  · refine kIfF rfl ?_
    refine kExit ?_
    refine kThenX ?_
    refine kThenX ?_
    refine kInX ?_
    refine kThen ?_
    refine kSeq ?_
    refine kRegion rfl ?_
    refine lV (yAssign rfl) rfl rfl ?_
    refine lNil ?_
    refine kThen ?_
    refine kRet ?_
    refine fRet rfl (.t rfl .n) (endRet ?_)
    simp only [packV]; rw [idxP_none (0, 0) fun j hl => hj j (by omega)]
set_option maxRecDepth 100000 in
theorem containsSpan_any (l : List (Int × Int)) (p : Int × Int → Bool) (hn : n = l.length) (hl : n ≤ 1000000) (hs : SlE w a n 2 (errC l)) (hf : callT Try.prog F = true)
    (hc : ∀ w', Eff w [] [] w' → ∀ x ∈ l, Calls Try.prog F ([Value.agg (rowE x).toArray] ++ caps).toArray w' (Ret w' (.bool (p x)))) :
    Calls Try.prog 82 [.slice a n c, .func (.func F) [].toArray caps.toArray].toArray w (Ret w (.bool (l.any p))) := by
  refine fEnter Try.func82 rfl Try.ntmps82 rfl ?_
  refine kSeq ?_
  refine kRegion rfl ?_
  refine lV (yAssign rfl) rfl rfl ?_
  refine lNil ?_
  refine kThen ?_
  refine kSeq ?_
  refine kRegion rfl ?_
  refine lV (yMove rfl) rfl rfl ?_
  refine lV (yMove rfl) rfl rfl ?_
  refine lV (yCall rfl (.c rfl (.c rfl .n)) C93 (fun w hw => indexSpan_any _ _ _ _ _ w l p hn hl (hs.eff0 hw) hf (fun w' hw' x hx => hc w' (by simpa using hw.trans hw') x hx))) rfl rfl ?_
  refine lV (yGeq rfl rfl) rfl rfl ?_
  refine lV (yAssign rfl) rfl rfl ?_
  refine lNil ?_
  refine kThen ?_
  refine kRet ?_
  refine fRet rfl (.t rfl .n) (endRet ?_)
  simp only [packV]; rw [idxP_ge]

set_option maxRecDepth 100000 in
theorem indexSet_any (l : List (Int × Int × Bool)) (p : Int × Int × Bool → Bool) (hn : n = l.length) (hl : n ≤ 1000000) (hs : SlE w a n 3 (setC l)) (hf : callT Try.prog F = true)
    (hc : ∀ w', Eff w [] [] w' → ∀ x ∈ l, Calls Try.prog F ([Value.agg (rowS x).toArray] ++ caps).toArray w' (Ret w' (.bool (p x)))) :
    Calls Try.prog 99 [.slice a n c, .func (.func F) [].toArray caps.toArray].toArray w (Ret w (i64 (idxP p l))) := by
  subst hn
  refine fEnter Try.func99 rfl Try.ntmps99 rfl ?_
  refine kSeq ?_
  refine kRegion rfl ?_
  refine lV (yAssign rfl) rfl rfl ?_
  refine lNil ?_
  refine kThen ?_
  refine kSeq ?_
  refine kSeq ?_
  refine kRegion rfl ?_
  refine lV (yMove rfl) rfl rfl ?_
  refine lV (yLen rfl S27) rfl rfl ?_
  refine lV (yMove rfl) rfl rfl ?_
  refine lNil ?_
  refine kThen ?_
  refine kBlock ?_
  refine kLoopX (ι := Nat) (fun i => i ≤ l.length ∧ ∀ j, j < i → p (l.getD j (0, 0, false)) = false) (fun i => [(8, i64 (i : Nat))]) [(0, _), (1, _), (6, _), (7, _)] (fun i => []) (fun i => []) [] (fun i => l.length - i) 0 (⟨Nat.zero_le _, fun j hj => absurd hj (by omega)⟩) rfl (.c rfl .n) (.c rfl (.c rfl (.c rfl (.c rfl .n)))) .n ?_
  rintro i ⟨hi, hj⟩
  refine kSeq ?_
  refine kRegion rfl ?_
  refine lV (yLss rfl rfl) rfl rfl ?_
  refine lNil ?_
  refine kThen ?_
  refine kSeq ?_
  refine split (t := 9) rfl (fun h9 => ?_) (fun h9 => ?_)
  · refine kIfT rfl ?_
    refine kSkip ?_
    refine kThen ?_
    refine kSeq ?_
    refine kBlock ?_
    refine kSeq ?_
    refine kRegion rfl ?_
    refine lV (yMove rfl) rfl rfl ?_
    refine lV (yAssign rfl) rfl rfl ?_
    refine lNil ?_
    refine kThen ?_
    refine kSeq ?_
    refine kRegion rfl ?_
    refine lV (yMove rfl) rfl rfl ?_
    refine lV (yMove rfl) rfl rfl ?_
    refine lV (yMove rfl) rfl rfl ?_
    refine lV (yIndexS  rfl rfl S27 (hs.r) ((by omega))) rfl rfl ?_
    refine lV (yLoadA (vs := [_, _, _]) rfl A49 (cSl0 (hs.r) ((by omega)) rfl)) rfl rfl ?_
    refine lV (yCall (us := []) (cs := caps) rfl (.c rfl .n) hf (fun w' hw => hc w' (hw.forget (List.nil_sublist _)) _ (getD_mem (i := i) (by omega) (0, 0, false)))) rfl rfl ?_
    refine lNil ?_
    refine kThen ?_
    refine splitB (t := 16) rfl (fun h16 => ?_) (fun h16 => ?_)
    · refine kIfT rfl ?_
      refine kSeq ?_
      refine kRegion rfl ?_
      refine lV (yMove rfl) rfl rfl ?_
      refine lV (yAssign rfl) rfl rfl ?_
      refine lNil ?_
      refine kThen ?_
      refine kRet ?_
      refine kInR ?_
      refine kThenR ?_
      refine kThenR ?_
      refine kInR ?_
      refine kThenR ?_
      refine fRet rfl (.t rfl .n) (endRet ?_)
      simp only [packV]; rw [idxP_some (0, 0, false) (by omega) h16 hj]
    · refine kIfF rfl ?_
      refine kSkip ?_
      refine kInN ?_
      refine kThen ?_
      refine kRegion rfl ?_
      refine lV (yAdd rfl rfl (by omega)) rfl rfl ?_
      refine lV (yMove rfl) rfl rfl ?_
      refine lNil ?_
      exact kRoundX (i + 1) (⟨by omega, fun j hl => by rcases Nat.lt_or_ge j i with h | h; (· exact hj j h); (obtain rfl : j = i := by omega); exact h16⟩) (by omega) rfl (.c rfl .n) (.c rfl (.c rfl (.c rfl (.c rfl .n)))) .n
  · refine kIfF rfl ?_
    refine kExit ?_
    refine kThenX ?_
    refine kThenX ?_
    refine kInX ?_
    refine kThen ?_
    refine kSeq ?_
    refine kRegion rfl ?_
    refine lV (yAssign rfl) rfl rfl ?_
    refine lNil ?_
    refine kThen ?_
    refine kRet ?_
    refine fRet rfl (.t rfl .n) (endRet ?_)
    simp only [packV]; rw [idxP_none (0, 0, false) fun j hl => hj j (by omega)]
set_option maxRecDepth 100000 in
theorem containsSet_any (l : List (Int × Int × Bool)) (p : Int × Int × Bool → Bool) (hn : n = l.length) (hl : n ≤ 1000000) (hs : SlE w a n 3 (setC l)) (hf : callT Try.prog F = true)
    (hc : ∀ w', Eff w [] [] w' → ∀ x ∈ l, Calls Try.prog F ([Value.agg (rowS x).toArray] ++ caps).toArray w' (Ret w' (.bool (p x)))) :
    Calls Try.prog 95 [.slice a n c, .func (.func F) [].toArray caps.toArray].toArray w (Ret w (.bool (l.any p))) := by
  refine fEnter Try.func95 rfl Try.ntmps95 rfl ?_
  refine kSeq ?_
  refine kRegion rfl ?_
  refine lV (yAssign rfl) rfl rfl ?_
  refine lNil ?_
  refine kThen ?_
  refine kSeq ?_
  refine kRegion rfl ?_
  refine lV (yMove rfl) rfl rfl ?_
  refine lV (yMove rfl) rfl rfl ?_
  refine lV (yCall rfl (.c rfl (.c rfl .n)) C99 (fun w hw => indexSet_any _ _ _ _ _ w l p hn hl (hs.eff0 hw) hf (fun w' hw' x hx => hc w' (by simpa using hw.trans hw') x hx))) rfl rfl ?_
  refine lV (yGeq rfl rfl) rfl rfl ?_
  refine lV (yAssign rfl) rfl rfl ?_
  refine lNil ?_
  refine kThen ?_
  refine kRet ?_
  refine fRet rfl (.t rfl .n) (endRet ?_)
  simp only [packV]; rw [idxP_ge]

set_option maxRecDepth 100000 in
theorem cloneSpan_any (l : List (Int × Int)) (hn : n = l.length) (hl : n ≤ 1000) (hs : SlE w a n 2 (errC l)) :
    Calls Try.prog 83 [.slice a n c].toArray w (RetX w (fun g => OS 2 g (l.map rowE)) (fun g => osV g (l.map rowE).length) (fun _ => []) (fun g => osL 24 g)) := by
  subst hn
  refine fEnter Try.func83 rfl Try.ntmps83 rfl ?_
  refine kSeq ?_
  refine kRegion rfl ?_
  refine lV (yAssign rfl) rfl rfl ?_
  refine lNil ?_
  refine kThen ?_
  refine kSeq ?_
  refine kSeq ?_
  refine kRegion rfl ?_
  refine lV (yMove rfl) rfl rfl ?_
  refine lV (yEqNilSl rfl U22) rfl rfl ?_
  refine lNil ?_
  refine kThen ?_
  refine splitB (t := 4) rfl (fun h4 => ?_) (fun h4 => ?_)
  · refine kIfT rfl ?_
    refine kSeq ?_
    refine kRegion rfl ?_
    refine lV (yAssign rfl) rfl rfl ?_
    refine lNil ?_
    refine kThen ?_
    refine kRet ?_
    refine kThenR ?_
    refine fRet rfl (.t rfl .n) ?_
    have h0 : l = [] := List.eq_nil_of_length_eq_zero (by rcases Nat.eq_zero_or_pos l.length with h | h; (· exact h); rw [hs.at_ h] at h4; cases h4)
    subst h0
    exact endX (.e none) OS.empty rfl rfl .n
  · refine kIfF rfl ?_
    refine kSkip ?_
    refine kThen ?_
    refine kSeq ?_
    refine kRegion rfl ?_
    refine lE rfl ?_
    refine eBuildSlice .n (fun w => BS22_0_ w) fun n5 => ?_
    refine lV (yMove rfl) rfl rfl ?_
    refine lE rfl ?_
    skip
    refine eAppend (gs := .b n5 0 []) (es := []) [] (l.map rowE) AP22 rfl rfl .r (OS.lit (es := []) (by simp) rfl (by simp)) (by simp) (rowsE_len l) (flatten_range (f := rowE) l (0, 0) ▸ SlN.sl hs.r) (rowsE_one l) (by simp; omega) (by simp; omega) fun g hg => ?_
    refine lV (yAssign rfl) rfl rfl ?_
    refine lNil ?_
    refine kThen ?_
    refine kRet ?_
    refine fRet rfl (.t rfl .n) ?_
    exact endX g (by simpa using hg) (by simp [packV]) rfl .r
end

set_option maxRecDepth 100000 in
theorem isScrew1_any (x : Int × Int) (w : World) : Calls Try.prog 79 [.agg (rowE x).toArray].toArray w (Ret w (.bool (!decide (spanOk (-100) 100 x)))) := by
  refine fEnter Try.func79 rfl Try.ntmps79 rfl ?_
  refine kSeq ?_
  refine kRegion rfl ?_
  refine lE rfl ?_
  refine eBoxA rfl fun n1 => ?_
  refine lV (yAssign rfl) rfl rfl ?_
  refine lNil ?_
  refine kThen ?_
  refine kSeq ?_
  refine kRegion rfl ?_
  refine lV (yLoadA (vs := [_, _]) rfl A24 (cOwn 0 rfl rfl)) rfl rfl ?_
  refine lV (yCall rfl (.c rfl (.c rfl (.c rfl .n))) C80 (fun w hw => isSpan_any _ _ _ _ w)) rfl rfl ?_
  refine lV (yNot rfl) rfl rfl ?_
  refine lV (yAssign rfl) rfl rfl ?_
  refine lNil ?_
  refine kThen ?_
  refine kRet ?_
  refine fRet rfl (.t rfl .n) (endRet ?_)
  rfl

set_option maxRecDepth 100000 in
theorem isReading_any (y : Loc) (m : Meas) (n : Int) (w : World) (hn : m.errs.length ≤ 1000000) : Calls Try.prog 48 [.agg (screwC y m).toArray, i64 n].toArray w (Ret w (.bool (decide (readOk m n)))) := by
  refine fEnter Try.func48 rfl Try.ntmps48 rfl ?_
  refine kSeq ?_
  refine kRegion rfl ?_
  refine lE rfl ?_
  refine eBoxA rfl fun n2 => ?_
  refine lV (yAssign rfl) rfl rfl ?_
  refine lNil ?_
  refine kThen ?_
  refine kSeq ?_
  refine kRegion rfl ?_
  refine lV (yMove rfl) rfl rfl ?_
  refine lV (yFieldAddr rfl F26_0) rfl rfl ?_
  refine lV (yLoad1 rfl O22 (cOwn 0 rfl rfl)) rfl rfl ?_
  refine lV (yLen rfl S22) rfl rfl ?_
  refine lV (yMul rfl rfl (by omega)) rfl rfl ?_
  refine lV (ySub rfl rfl (by omega)) rfl rfl ?_
  refine lV (yCall rfl (.c rfl (.c rfl (.c rfl .n))) C81 (fun w hw => within_any _ _ _ w)) rfl rfl ?_
  refine lV (yAssign rfl) rfl rfl ?_
  refine lNil ?_
  refine kThen ?_
  refine kRet ?_
  refine fRet rfl (.t rfl .n) (endRet ?_)
  rfl
theorem screw_val (m : Meas) (h : 1 ≤ (m.errs.length : Int) ∧ (m.errs.length : Int) ≤ 40) : (!((m.errs ++ [m.eye]).any fun x => !decide (spanOk (-100) 100 x))) = decide (ScrewOk m) := by
  rw [Bool.eq_iff_iff, Bool.not_eq_true', List.any_eq_false, decide_eq_true_eq]
  constructor
  · intro h1
    refine ⟨by omega, fun x hx => ?_, ?_⟩
    · simpa using h1 x (by simp [hx])
    · simpa using h1 m.eye (by simp)
  · intro h1 x hx
    rcases List.mem_append.1 hx with hx | hx
    · simpa using h1.e x hx
    · simp only [List.mem_singleton] at hx; subst hx; simpa using h1.y

set_option maxRecDepth 100000 in
theorem isScrew_any (y : Loc) (m : Meas) (w : World) (hm : SlE w y.ea m.errs.length 2 (errC m.errs)) : Calls Try.prog 47 [.agg (screwC y m).toArray].toArray w (Ret w (.bool (decide (ScrewOk m)))) := by
  have C79 : callT Try.prog 79 = true := C79
  refine fEnter Try.func47 rfl Try.ntmps47 rfl ?_
  refine kSeq ?_
  refine kRegion rfl ?_
  refine lE rfl ?_
  refine eBoxA rfl fun n1 => ?_
  refine lV (yAssign rfl) rfl rfl ?_
  refine lNil ?_
  refine kThen ?_
  refine kSeq ?_
  refine kRegion rfl ?_
  refine lV (yAssign rfl) rfl rfl ?_
  refine lNil ?_
  refine kThen ?_
  refine kSeq ?_
  by_cases hc : 1 ≤ (m.errs.length : Int) ∧ (m.errs.length : Int) ≤ 40
  · refine kDrawE [(1, none), (3, none), (6, none), (9, none)] [] [0, 1, 2, 3, 4, 5, 6, 8, 9, 12] 7 hMix (by kernel_rfl) ?_
    refine .run rfl (yFieldAddr rfl F26_0) rfl rfl ?_
    refine .run rfl (yLoad1 rfl O22 (cOwn 0 rfl rfl)) rfl rfl ?_
    refine .run rfl (yLen rfl S22) rfl rfl ?_
    refine .run rfl (yvIs (c := true) (yCall rfl (.c rfl (.c rfl (.c rfl .n))) C81 (fun w hw => within_any _ _ _ w)) (decide_eq_true hc)) rfl rfl ?_
    refine .run rfl (yMove rfl) rfl rfl ?_
    refine .runG rfl (yFieldAddr rfl F26_0) rfl rfl rfl rfl ?_
    refine .runG rfl (yLoad1 rfl O22 (cOwn 0 rfl rfl)) rfl rfl rfl rfl ?_
    refine .runG rfl (yFieldAddr rfl F26_1) rfl rfl rfl rfl ?_
    refine .runG rfl (yLoadA (vs := [_, _]) rfl A24 (cOwn 0 rfl rfl)) rfl rfl rfl rfl ?_
    refine .runG rfl (yMove rfl) rfl rfl rfl rfl ?_
    refine .done ?_
    refine effStep 7 [10] (by kernel_rfl) closedSt (hLeft [1, 3, 6, 9] (by kernel_rfl) (.c (fun _ _ hs => hs.ef) (.c (fun _ _ hs => hs.ef) (.c (fun _ _ hs => hs.ef) (.c (fun _ _ hs => hs.ef) .n))))) ?_
    refine (.c ?_ (.c ?_ .n))
    · refine effOne rfl (gYes rfl rfl rfl (fCallO rfl (.c rfl .n) C83 (fun w' hw => cloneSpan_any _ _ _ w' m.errs rfl (by omega) (hm.eff0 hw)))) ?_
      refine effStep 10 [] (by kernel_rfl) (closedEx fun g => closedSt) (hLeft [1, 9] (by kernel_rfl) (.c (fun _ _ ⟨g, hs⟩ => hs.ef.sub (.c 0 rfl .n)) (.c (fun _ _ ⟨g, hs⟩ => hs.ef.sub (.c 0 rfl .n)) .n))) ?_
      refine .c ?_ .n
      refine effOne rfl (opEx fun g => (gYes rfl rfl rfl (fBuildSlice (.c rfl .n) (fun w => BS22_1_0 w)))) ?_
      refine effStep 11 [] (by kernel_rfl) (closedEx fun g => (closedEx fun n14 => closedSt)) (hLeft [1] (by kernel_rfl) (.c (fun _ _ ⟨g, ⟨n14, hs⟩⟩ => hs.ef.sub (.c 1 rfl .n)) .n)) ?_
      refine .c ?_ .n
      refine effOne rfl (opEx fun g => (opEx fun n14 => (gYes rfl rfl rfl (fAppend (gs := g.1) [(n14, _), (n1, _)] [rowE m.eye] AP22 rfl rfl .r g.2 rfl (by simp) (SlN.own 0 rfl rfl) (by simp [rowE]; exact ⟨rfl, rfl⟩) (by simp; omega) (by simp; omega))))) ?_
      refine effStep 13 [] (by kernel_rfl) (closedEx fun g => (closedEx fun n14 => (closedEx fun h => closedSt))) (hLeft [1] (by kernel_rfl) (.c (fun _ _ ⟨g, ⟨n14, ⟨h, hs⟩⟩⟩ => hs.ef.sub (.c 1 rfl .n)) .n)) ?_
      refine .c ?_ .n
      refine effOne rfl (opEx fun g => (opEx fun n14 => (opEx fun h => (gYes rfl rfl rfl (fV (yCall rfl (.c rfl (.c rfl .n)) C82 (fun w hw => containsSpan_any _ _ _ _ _ w (m.errs ++ [m.eye]) (fun x => !decide (spanOk (-100) 100 x)) (by simp) (by simp; omega) ((OS.rowsE (f := rowE) (0, 0) (by simpa using h.2) hw (.d 0 (.d 0 .r))).congr (by simp) fun i _ => rfl) C79 (fun w' _ x _ => isScrew1_any x w'))) rfl))))) ?_
      refine effStep 14 [] (by kernel_rfl) (closedEx fun g => (closedEx fun n14 => (closedEx fun h => closedSt))) (hLeft [1] (by kernel_rfl) (.c (fun _ _ ⟨g, ⟨n14, ⟨h, hs⟩⟩⟩ => hs.ef.sub (.c 1 rfl .n)) .n)) ?_
      refine .c ?_ .n
      refine effOne rfl (opEx fun g => (opEx fun n14 => (opEx fun h => (gYes rfl rfl rfl (fV (yNot rfl) rfl))))) ?_
      refine effStep 15 [] (by kernel_rfl) (closedEx fun g => (closedEx fun n14 => (closedEx fun h => closedSt))) (hLeft [1] (by kernel_rfl) (.c (fun _ _ ⟨g, ⟨n14, ⟨h, hs⟩⟩⟩ => hs.ef.sub (.c 1 rfl .n)) .n)) ?_
      refine .c ?_ .n
      refine effOne rfl (opEx fun g => (opEx fun n14 => (opEx fun h => (gNone rfl (fV (yPickT rfl rfl) rfl))))) ?_
      refine effStep 16 [] (by kernel_rfl) (closedEx fun g => (closedEx fun n14 => (closedEx fun h => closedSt))) (hLeft [1] (by kernel_rfl) (.c (fun _ _ ⟨g, ⟨n14, ⟨h, hs⟩⟩⟩ => hs.ef.sub (.c 1 rfl .n)) .n)) ?_
      refine .c ?_ .n
      refine effOne rfl (opEx fun g => (opEx fun n14 => (opEx fun h => (gNone rfl (fV (yAssign rfl) rfl))))) ?_
      refine effDone (closedEx fun g => (closedEx fun n14 => (closedEx fun h => closedSt))) (hLeft [] (by kernel_rfl) .n) (by kernel_rfl) ?_
      refine trEx fun g => ?_
      refine trEx fun n14 => ?_
      refine trEx fun h => ?_
      refine kThen ?_
      refine kRet ?_
      refine fRet rfl (.t rfl .n) (endRet ?_)
      simp only [packV]
      rw [screw_val m hc]
    · refine effOne rfl (gYes rfl rfl rfl (fBuildSlice (.c rfl .n) (fun w => BS22_1_0 w))) ?_
      refine effStep 7 [] (by kernel_rfl) (closedEx fun n14 => closedSt) (hLeft [1, 6] (by kernel_rfl) (.c (fun _ _ ⟨n14, hs⟩ => hs.ef.sub (.c 1 rfl .n)) (.c (fun _ _ ⟨n14, hs⟩ => hs.ef.sub (.c 1 rfl .n)) .n))) ?_
      refine .c ?_ .n
      refine effOne rfl (opEx fun n14 => (gYes rfl rfl rfl (fCallO rfl (.c rfl .n) C83 (fun w' hw => cloneSpan_any _ _ _ w' m.errs rfl (by omega) (hm.eff0 hw))))) ?_
      refine effStep 11 [] (by kernel_rfl) (closedEx fun n14 => (closedEx fun g => closedSt)) (hLeft [1] (by kernel_rfl) (.c (fun _ _ ⟨n14, ⟨g, hs⟩⟩ => hs.ef.sub (.c 1 rfl .n)) .n)) ?_
      refine .c ?_ .n
      refine effOne rfl (opEx fun n14 => (opEx fun g => (gYes rfl rfl rfl (fAppend (gs := g.1) [(n14, _), (n1, _)] [rowE m.eye] AP22 rfl rfl .r g.2 rfl (by simp) (SlN.own 0 rfl rfl) (by simp [rowE]; exact ⟨rfl, rfl⟩) (by simp; omega) (by simp; omega))))) ?_
      refine effStep 13 [] (by kernel_rfl) (closedEx fun n14 => (closedEx fun g => (closedEx fun h => closedSt))) (hLeft [1] (by kernel_rfl) (.c (fun _ _ ⟨n14, ⟨g, ⟨h, hs⟩⟩⟩ => hs.ef.sub (.c 1 rfl .n)) .n)) ?_
      refine .c ?_ .n
      refine effOne rfl (opEx fun n14 => (opEx fun g => (opEx fun h => (gYes rfl rfl rfl (fV (yCall rfl (.c rfl (.c rfl .n)) C82 (fun w hw => containsSpan_any _ _ _ _ _ w (m.errs ++ [m.eye]) (fun x => !decide (spanOk (-100) 100 x)) (by simp) (by simp; omega) ((OS.rowsE (f := rowE) (0, 0) (by simpa using h.2) hw (.d 0 (.d 0 .r))).congr (by simp) fun i _ => rfl) C79 (fun w' _ x _ => isScrew1_any x w'))) rfl))))) ?_
      refine effStep 14 [] (by kernel_rfl) (closedEx fun n14 => (closedEx fun g => (closedEx fun h => closedSt))) (hLeft [1] (by kernel_rfl) (.c (fun _ _ ⟨n14, ⟨g, ⟨h, hs⟩⟩⟩ => hs.ef.sub (.c 1 rfl .n)) .n)) ?_
      refine .c ?_ .n
      refine effOne rfl (opEx fun n14 => (opEx fun g => (opEx fun h => (gYes rfl rfl rfl (fV (yNot rfl) rfl))))) ?_
      refine effStep 15 [] (by kernel_rfl) (closedEx fun n14 => (closedEx fun g => (closedEx fun h => closedSt))) (hLeft [1] (by kernel_rfl) (.c (fun _ _ ⟨n14, ⟨g, ⟨h, hs⟩⟩⟩ => hs.ef.sub (.c 1 rfl .n)) .n)) ?_
      refine .c ?_ .n
      refine effOne rfl (opEx fun n14 => (opEx fun g => (opEx fun h => (gNone rfl (fV (yPickT rfl rfl) rfl))))) ?_
      refine effStep 16 [] (by kernel_rfl) (closedEx fun n14 => (closedEx fun g => (closedEx fun h => closedSt))) (hLeft [1] (by kernel_rfl) (.c (fun _ _ ⟨n14, ⟨g, ⟨h, hs⟩⟩⟩ => hs.ef.sub (.c 1 rfl .n)) .n)) ?_
      refine .c ?_ .n
      refine effOne rfl (opEx fun n14 => (opEx fun g => (opEx fun h => (gNone rfl (fV (yAssign rfl) rfl))))) ?_
      refine effDone (closedEx fun n14 => (closedEx fun g => (closedEx fun h => closedSt))) (hLeft [] (by kernel_rfl) .n) (by kernel_rfl) ?_
      refine trEx fun n14 => ?_
      refine trEx fun g => ?_
      refine trEx fun h => ?_
      refine kThen ?_
      refine kRet ?_
      refine fRet rfl (.t rfl .n) (endRet ?_)
      simp only [packV]
      rw [screw_val m hc]
  · refine kDrawE [(1, none), (3, none)] [] [0, 1, 2, 3, 4, 5, 6, 8, 9, 12] 7 hMix (by kernel_rfl) ?_
    refine .run rfl (yFieldAddr rfl F26_0) rfl rfl ?_
    refine .run rfl (yLoad1 rfl O22 (cOwn 0 rfl rfl)) rfl rfl ?_
    refine .run rfl (yLen rfl S22) rfl rfl ?_
    refine .run rfl (yvIs (c := false) (yCall rfl (.c rfl (.c rfl (.c rfl .n))) C81 (fun w hw => within_any _ _ _ w)) (decide_eq_false hc)) rfl rfl ?_
    refine .run rfl (yMove rfl) rfl rfl ?_
    refine .skip rfl rfl rfl rfl rfl rfl ?_
    refine .skip rfl rfl rfl rfl rfl rfl ?_
    refine .skip rfl rfl rfl rfl rfl rfl ?_
    refine .skip rfl rfl rfl rfl rfl rfl ?_
    refine .skip rfl rfl rfl rfl rfl rfl ?_
    refine .done ?_
    refine effStep 7 [10] (by kernel_rfl) closedSt (hLeft [1, 3] (by kernel_rfl) (.c (fun _ _ hs => hs.ef) (.c (fun _ _ hs => hs.ef) .n))) ?_
    refine (.c ?_ (.c ?_ .n))
    · refine effOne rfl (gNo rfl rfl rfl rfl rfl) ?_
      refine effStep 10 [] (by kernel_rfl) closedSt (hLeft [1] (by kernel_rfl) (.c (fun _ _ hs => hs.ef) .n)) ?_
      refine .c ?_ .n
      refine effOne rfl (gNo rfl rfl rfl rfl rfl) ?_
      refine effStep 11 [] (by kernel_rfl) closedSt (hLeft [1] (by kernel_rfl) (.c (fun _ _ hs => hs.ef) .n)) ?_
      refine .c ?_ .n
      refine effOne rfl (gNo rfl rfl rfl rfl rfl) ?_
      refine effStep 13 [] (by kernel_rfl) closedSt (hLeft [1] (by kernel_rfl) (.c (fun _ _ hs => hs.ef) .n)) ?_
      refine .c ?_ .n
      refine effOne rfl (gNo rfl rfl rfl rfl rfl) ?_
      refine effStep 14 [] (by kernel_rfl) closedSt (hLeft [1] (by kernel_rfl) (.c (fun _ _ hs => hs.ef) .n)) ?_
      refine .c ?_ .n
      refine effOne rfl (gNo rfl rfl rfl rfl rfl) ?_
      refine effStep 15 [] (by kernel_rfl) closedSt (hLeft [1] (by kernel_rfl) (.c (fun _ _ hs => hs.ef) .n)) ?_
      refine .c ?_ .n
      refine effOne rfl (gNone rfl (fV (yPickF rfl rfl) rfl)) ?_
      refine effStep 16 [] (by kernel_rfl) closedSt (hLeft [1] (by kernel_rfl) (.c (fun _ _ hs => hs.ef) .n)) ?_
      refine .c ?_ .n
      refine effOne rfl (gNone rfl (fV (yAssign rfl) rfl)) ?_
      refine effDone closedSt (hLeft [] (by kernel_rfl) .n) (by kernel_rfl) ?_
      refine kThen ?_
      refine kRet ?_
      refine fRet rfl (.t rfl .n) (endRet ?_)
      simp only [packV]
      rw [decide_eq_false fun h : ScrewOk m => hc (by have := h.n; omega)]
    · refine effOne rfl (gNo rfl rfl rfl rfl rfl) ?_
      refine effStep 7 [] (by kernel_rfl) closedSt (hLeft [1] (by kernel_rfl) (.c (fun _ _ hs => hs.ef) .n)) ?_
      refine .c ?_ .n
      refine effOne rfl (gNo rfl rfl rfl rfl rfl) ?_
      refine effStep 11 [] (by kernel_rfl) closedSt (hLeft [1] (by kernel_rfl) (.c (fun _ _ hs => hs.ef) .n)) ?_
      refine .c ?_ .n
      refine effOne rfl (gNo rfl rfl rfl rfl rfl) ?_
      refine effStep 13 [] (by kernel_rfl) closedSt (hLeft [1] (by kernel_rfl) (.c (fun _ _ hs => hs.ef) .n)) ?_
      refine .c ?_ .n
      refine effOne rfl (gNo rfl rfl rfl rfl rfl) ?_
      refine effStep 14 [] (by kernel_rfl) closedSt (hLeft [1] (by kernel_rfl) (.c (fun _ _ hs => hs.ef) .n)) ?_
      refine .c ?_ .n
      refine effOne rfl (gNo rfl rfl rfl rfl rfl) ?_
      refine effStep 15 [] (by kernel_rfl) closedSt (hLeft [1] (by kernel_rfl) (.c (fun _ _ hs => hs.ef) .n)) ?_
      refine .c ?_ .n
      refine effOne rfl (gNone rfl (fV (yPickF rfl rfl) rfl)) ?_
      refine effStep 16 [] (by kernel_rfl) closedSt (hLeft [1] (by kernel_rfl) (.c (fun _ _ hs => hs.ef) .n)) ?_
      refine .c ?_ .n
      refine effOne rfl (gNone rfl (fV (yAssign rfl) rfl)) ?_
      refine effDone closedSt (hLeft [] (by kernel_rfl) .n) (by kernel_rfl) ?_
      refine kThen ?_
      refine kRet ?_
      refine fRet rfl (.t rfl .n) (endRet ?_)
      simp only [packV]
      rw [decide_eq_false fun h : ScrewOk m => hc (by have := h.n; omega)]
set_option maxRecDepth 100000 in
theorem isMeasure1_any (y : Loc) (m : Meas) (x : Int × Int × Bool) (n : Nat) (w : World) (hb : w.heap[n]? = some (blk (measC y m) 29)) (hn : m.errs.length ≤ 1000000) (hi : 1 ≤ m.images ∧ m.images ≤ 6) :
    Calls Try.prog 94 [.agg (rowS x).toArray, .pointer (some ⟨n, 0, none⟩)].toArray w (Ret w (.bool (!decide ((0 ≤ x.1 ∧ x.1 ≤ m.images - 1) ∧ readOk m x.2.1)))) := by
  refine fEnterM (Eff.one hb) Try.func94 rfl Try.ntmps94 rfl ?_
  refine kSeq ?_
  refine kRegion rfl ?_
  refine lE rfl ?_
  refine eBoxA rfl fun n2 => ?_
  refine lV (yAssign rfl) rfl rfl ?_
  refine lNil ?_
  refine kThen ?_
  refine kSeq ?_
  refine kRegion rfl ?_
  refine lV (yFieldAddr rfl F49_0) rfl rfl ?_
  refine lV (yLoad1 rfl O3 (cOwn 1 rfl rfl)) rfl rfl ?_
  refine lV (yFieldAddr rfl F29_1) rfl rfl ?_
  refine lV (yLoad1 rfl O3 (cOwn 0 rfl rfl)) rfl rfl ?_
  refine lV (ySub rfl rfl (by omega)) rfl rfl ?_
  refine lV (yCall rfl (.c rfl (.c rfl (.c rfl .n))) C81 (fun w hw => within_any _ _ _ w)) rfl rfl ?_
  refine lV (yNot rfl) rfl rfl ?_
  refine lV (yMove rfl) rfl rfl ?_
  refine splitB (t := 11) rfl (fun h11 => ?_) (fun h11 => ?_)
  · refine lGN rfl rfl rfl rfl rfl ?_
    refine lGN rfl rfl rfl rfl rfl ?_
    refine lGN rfl rfl rfl rfl rfl ?_
    refine lGN rfl rfl rfl rfl rfl ?_
    refine lGN rfl rfl rfl rfl rfl ?_
    refine lGN rfl rfl rfl rfl rfl ?_
    refine lV (yPickT rfl rfl) rfl rfl ?_
    refine lV (yAssign rfl) rfl rfl ?_
    refine lNil ?_
    refine kThen ?_
    refine kRet ?_
    refine fRet rfl (.t rfl .n) (endRetM ((Eff.one hb)) ?_)
    simp only [Bool.not_eq_true', decide_eq_false_iff_not] at h11
    simp [packV, h11]
  · refine lGY rfl rfl rfl (oV (yFieldAddr rfl F29_0) rfl ?_)
    refine lGY rfl rfl rfl (oV (yLoadA (vs := [_, _, _]) rfl A26 (cOwn 0 rfl rfl)) rfl ?_)
    refine lGY rfl rfl rfl (oV (yFieldAddr rfl F49_1) rfl ?_)
    refine lGY rfl rfl rfl (oV (yLoad1 rfl O3 (cOwn 1 rfl rfl)) rfl ?_)
    refine lGY rfl rfl rfl (oV (yCall rfl (.c rfl (.c rfl .n)) C48 (fun w hw => isReading_any y m _ w hn)) rfl ?_)
    refine lGY rfl rfl rfl (oV (yNot rfl) rfl ?_)
    refine lV (yPickF rfl rfl) rfl rfl ?_
    refine lV (yAssign rfl) rfl rfl ?_
    refine lNil ?_
    refine kThen ?_
    refine kRet ?_
    refine fRet rfl (.t rfl .n) (endRetM ((Eff.one hb)) ?_)
    simp only [Bool.not_eq_false', decide_eq_true_eq] at h11
    simp [packV, h11]

theorem meas_val (m : Meas) (hs : ScrewOk m) (hi : 1 ≤ m.images ∧ m.images ≤ 6) (hu : spanOk 0 131072 m.sum) (hn : m.sets.length ≤ 12) :
    (!(m.sets.any fun x => !decide ((0 ≤ x.1 ∧ x.1 ≤ m.images - 1) ∧ readOk m x.2.1))) = decide (MeasOk m) := by
  rw [Bool.eq_iff_iff, Bool.not_eq_true', List.any_eq_false, decide_eq_true_eq]
  constructor
  · intro h1
    exact ⟨hs, hi, hu, hn, fun x hx => by simpa only [Bool.not_eq_true', decide_eq_false_iff_not, Classical.not_not] using h1 x hx⟩
  · intro h1 x hx
    simpa only [Bool.not_eq_true', decide_eq_false_iff_not, Classical.not_not] using h1.a x hx

set_option maxRecDepth 100000 in
theorem isMeasure_any (y : Loc) (m : Meas) (w : World) (hm : InM w y m) :
    Calls Try.prog 86 [.agg (measC y m).toArray].toArray w (Ret w (.bool (decide (MeasOk m)))) := by
  have C94 : callT Try.prog 94 = true := C94
  refine fEnter Try.func86 rfl Try.ntmps86 rfl ?_
  refine kSeq ?_
  refine kRegion rfl ?_
  refine lE rfl ?_
  refine eBoxA rfl fun n1 => ?_
  refine lV (yAssign rfl) rfl rfl ?_
  refine lNil ?_
  refine kThen ?_
  refine kSeq ?_
  refine kRegion rfl ?_
  refine lV (yMakeFunc .n (.c rfl .n)) rfl rfl ?_
  refine lV (yAssign rfl) rfl rfl ?_
  refine lNil ?_
  refine kThen ?_
  refine kSeq ?_
  refine kRegion rfl ?_
  refine lV (yFieldAddr rfl F29_1) rfl rfl ?_
  refine lV (yLoad1 rfl O3 (cOwn 0 rfl rfl)) rfl rfl ?_
  refine lV (yCall rfl (.c rfl (.c rfl (.c rfl .n))) C81 (fun w hw => within_any _ _ _ w)) rfl rfl ?_
  refine lV (yMove rfl) rfl rfl ?_
  refine splitB (t := 9) rfl (fun h9 => ?_) (fun h9 => ?_)
  · refine lGY rfl rfl rfl (oV (yFieldAddr rfl F29_2) rfl ?_)
    refine lGY rfl rfl rfl (oV (yLoadA (vs := [_, _]) rfl A24 (cOwn 0 rfl rfl)) rfl ?_)
    refine lGY rfl rfl rfl (oV (yCall rfl (.c rfl (.c rfl (.c rfl .n))) C80 (fun w hw => isSpan_any _ _ _ _ w)) rfl ?_)
    refine lV (yPickT rfl rfl) rfl rfl ?_
    refine lV (yMove rfl) rfl rfl ?_
    refine splitB (t := 14) rfl (fun h14 => ?_) (fun h14 => ?_)
    · refine lGY rfl rfl rfl (oV (yFieldAddr rfl F29_3) rfl ?_)
      refine lGY rfl rfl rfl (oV (yLoad1 rfl O27 (cOwn 0 rfl rfl)) rfl ?_)
      refine lGY rfl rfl rfl (oV (yLen rfl S27) rfl ?_)
      refine lGY rfl rfl rfl (oV (yLeq rfl rfl) rfl ?_)
      refine lV (yPickT rfl rfl) rfl rfl ?_
      refine lV (yAssign rfl) rfl rfl ?_
      refine lNil ?_
      refine kThen ?_
      refine kSeq ?_
      refine kRegion rfl ?_
      refine lV (yFieldAddr rfl F29_0) rfl rfl ?_
      refine lV (yLoadA (vs := [_, _, _]) rfl A26 (cOwn 0 rfl rfl)) rfl rfl ?_
      refine lV (yCall rfl (.c rfl .n) C47 (fun w hw => isScrew_any y m w (hm.e.eff0 hw))) rfl rfl ?_
      refine lV (yMove rfl) rfl rfl ?_
      refine splitB (t := 23) rfl (fun h23 => ?_) (fun h23 => ?_)
      · refine lGY rfl rfl rfl (oV (yMove rfl) rfl ?_)
        refine lV (yPickT rfl rfl) rfl rfl ?_
        refine lV (yMove rfl) rfl rfl ?_
        refine split (t := 26) rfl (fun h26 => ?_) (fun h26 => ?_)
        · refine lGY rfl rfl rfl (oV (yFieldAddr rfl F29_3) rfl ?_)
          refine lGY rfl rfl rfl (oV (yLoad1 rfl O27 (cOwn 0 rfl rfl)) rfl ?_)
          refine lGY rfl rfl rfl (oV (yMove rfl) rfl ?_)
          refine lGY rfl rfl rfl (oV (yCall rfl (.c rfl (.c rfl .n)) C95 (fun w hw => containsSet_any _ _ _ _ [.pointer (some ⟨n1, 0, none⟩)] w m.sets (fun x => !decide ((0 ≤ x.1 ∧ x.1 ≤ m.images - 1) ∧ readOk m x.2.1)) rfl (by omega) (hm.s.eff0 hw) C94 (fun w' hw' x _ => isMeasure1_any y m x n1 w' ((hw.trans hw').blkAt 0 rfl) (by have := (of_decide_eq_true h23).n; omega) (of_decide_eq_true h9)))) rfl ?_)
          refine lGY rfl rfl rfl (oV (yNot rfl) rfl ?_)
          refine lV (yPickT rfl rfl) rfl rfl ?_
          refine lV (yAssign rfl) rfl rfl ?_
          refine lNil ?_
          refine kThen ?_
          refine kRet ?_
          refine fRet rfl (.t rfl .n) (endRet ?_)
          simp only [packV]
          rw [meas_val m (of_decide_eq_true h23) (of_decide_eq_true h9) (of_decide_eq_true h14) (by omega)]
        · refine lGN rfl rfl rfl rfl rfl ?_
          refine lGN rfl rfl rfl rfl rfl ?_
          refine lGN rfl rfl rfl rfl rfl ?_
          refine lGN rfl rfl rfl rfl rfl ?_
          refine lGN rfl rfl rfl rfl rfl ?_
          refine lV (yPickF rfl rfl) rfl rfl ?_
          refine lV (yAssign rfl) rfl rfl ?_
          refine lNil ?_
          refine kThen ?_
          refine kRet ?_
          refine fRet rfl (.t rfl .n) (endRet ?_)
          have hneg : ¬ MeasOk m := by
            intro hk
            have h1 := hk.i
            have h2 := hk.u
            have h3 := hk.n
            unfold spanOk at h2
            first | (rw [decide_eq_false_iff_not] at h9; exact h9 h1) | (rw [decide_eq_false_iff_not] at h14; exact h14 h2) | (rw [decide_eq_false_iff_not] at h23; exact h23 hk.s) | omega
          simp only [packV]
          rw [decide_eq_false hneg]
      · refine lGN rfl rfl rfl rfl rfl ?_
        refine lV (yPickF rfl rfl) rfl rfl ?_
        refine lV (yMove rfl) rfl rfl ?_
        refine lGN rfl rfl rfl rfl rfl ?_
        refine lGN rfl rfl rfl rfl rfl ?_
        refine lGN rfl rfl rfl rfl rfl ?_
        refine lGN rfl rfl rfl rfl rfl ?_
        refine lGN rfl rfl rfl rfl rfl ?_
        refine lV (yPickF rfl rfl) rfl rfl ?_
        refine lV (yAssign rfl) rfl rfl ?_
        refine lNil ?_
        refine kThen ?_
        refine kRet ?_
        refine fRet rfl (.t rfl .n) (endRet ?_)
        have hneg : ¬ MeasOk m := by
          intro hk
          have h1 := hk.i
          have h2 := hk.u
          have h3 := hk.n
          unfold spanOk at h2
          first | (rw [decide_eq_false_iff_not] at h9; exact h9 h1) | (rw [decide_eq_false_iff_not] at h14; exact h14 h2) | (rw [decide_eq_false_iff_not] at h23; exact h23 hk.s) | omega
        simp only [packV]
        rw [decide_eq_false hneg]
    · refine lGN rfl rfl rfl rfl rfl ?_
      refine lGN rfl rfl rfl rfl rfl ?_
      refine lGN rfl rfl rfl rfl rfl ?_
      refine lGN rfl rfl rfl rfl rfl ?_
      refine lV (yPickF rfl rfl) rfl rfl ?_
      refine lV (yAssign rfl) rfl rfl ?_
      refine lNil ?_
      refine kThen ?_
      refine kSeq ?_
      refine kRegion rfl ?_
      refine lV (yFieldAddr rfl F29_0) rfl rfl ?_
      refine lV (yLoadA (vs := [_, _, _]) rfl A26 (cOwn 0 rfl rfl)) rfl rfl ?_
      refine lV (yCall rfl (.c rfl .n) C47 (fun w hw => isScrew_any y m w (hm.e.eff0 hw))) rfl rfl ?_
      refine lV (yMove rfl) rfl rfl ?_
      refine splitB (t := 23) rfl (fun h23 => ?_) (fun h23 => ?_)
      · refine lGY rfl rfl rfl (oV (yMove rfl) rfl ?_)
        refine lV (yPickT rfl rfl) rfl rfl ?_
        refine lV (yMove rfl) rfl rfl ?_
        refine lGN rfl rfl rfl rfl rfl ?_
        refine lGN rfl rfl rfl rfl rfl ?_
        refine lGN rfl rfl rfl rfl rfl ?_
        refine lGN rfl rfl rfl rfl rfl ?_
        refine lGN rfl rfl rfl rfl rfl ?_
        refine lV (yPickF rfl rfl) rfl rfl ?_
        refine lV (yAssign rfl) rfl rfl ?_
        refine lNil ?_
        refine kThen ?_
        refine kRet ?_
        refine fRet rfl (.t rfl .n) (endRet ?_)
        have hneg : ¬ MeasOk m := by
          intro hk
          have h1 := hk.i
          have h2 := hk.u
          have h3 := hk.n
          unfold spanOk at h2
          first | (rw [decide_eq_false_iff_not] at h9; exact h9 h1) | (rw [decide_eq_false_iff_not] at h14; exact h14 h2) | (rw [decide_eq_false_iff_not] at h23; exact h23 hk.s) | omega
        simp only [packV]
        rw [decide_eq_false hneg]
      · refine lGN rfl rfl rfl rfl rfl ?_
        refine lV (yPickF rfl rfl) rfl rfl ?_
        refine lV (yMove rfl) rfl rfl ?_
        refine lGN rfl rfl rfl rfl rfl ?_
        refine lGN rfl rfl rfl rfl rfl ?_
        refine lGN rfl rfl rfl rfl rfl ?_
        refine lGN rfl rfl rfl rfl rfl ?_
        refine lGN rfl rfl rfl rfl rfl ?_
        refine lV (yPickF rfl rfl) rfl rfl ?_
        refine lV (yAssign rfl) rfl rfl ?_
        refine lNil ?_
        refine kThen ?_
        refine kRet ?_
        refine fRet rfl (.t rfl .n) (endRet ?_)
        have hneg : ¬ MeasOk m := by
          intro hk
          have h1 := hk.i
          have h2 := hk.u
          have h3 := hk.n
          unfold spanOk at h2
          first | (rw [decide_eq_false_iff_not] at h9; exact h9 h1) | (rw [decide_eq_false_iff_not] at h14; exact h14 h2) | (rw [decide_eq_false_iff_not] at h23; exact h23 hk.s) | omega
        simp only [packV]
        rw [decide_eq_false hneg]
  · refine lGN rfl rfl rfl rfl rfl ?_
    refine lGN rfl rfl rfl rfl rfl ?_
    refine lGN rfl rfl rfl rfl rfl ?_
    refine lV (yPickF rfl rfl) rfl rfl ?_
    refine lV (yMove rfl) rfl rfl ?_
    refine lGN rfl rfl rfl rfl rfl ?_
    refine lGN rfl rfl rfl rfl rfl ?_
    refine lGN rfl rfl rfl rfl rfl ?_
    refine lGN rfl rfl rfl rfl rfl ?_
    refine lV (yPickF rfl rfl) rfl rfl ?_
    refine lV (yAssign rfl) rfl rfl ?_
    refine lNil ?_
    refine kThen ?_
    refine kSeq ?_
    refine kRegion rfl ?_
    refine lV (yFieldAddr rfl F29_0) rfl rfl ?_
    refine lV (yLoadA (vs := [_, _, _]) rfl A26 (cOwn 0 rfl rfl)) rfl rfl ?_
    refine lV (yCall rfl (.c rfl .n) C47 (fun w hw => isScrew_any y m w (hm.e.eff0 hw))) rfl rfl ?_
    refine lV (yMove rfl) rfl rfl ?_
    refine splitB (t := 23) rfl (fun h23 => ?_) (fun h23 => ?_)
    · refine lGY rfl rfl rfl (oV (yMove rfl) rfl ?_)
      refine lV (yPickT rfl rfl) rfl rfl ?_
      refine lV (yMove rfl) rfl rfl ?_
      refine lGN rfl rfl rfl rfl rfl ?_
      refine lGN rfl rfl rfl rfl rfl ?_
      refine lGN rfl rfl rfl rfl rfl ?_
      refine lGN rfl rfl rfl rfl rfl ?_
      refine lGN rfl rfl rfl rfl rfl ?_
      refine lV (yPickF rfl rfl) rfl rfl ?_
      refine lV (yAssign rfl) rfl rfl ?_
      refine lNil ?_
      refine kThen ?_
      refine kRet ?_
      refine fRet rfl (.t rfl .n) (endRet ?_)
      have hneg : ¬ MeasOk m := by
        intro hk
        have h1 := hk.i
        have h2 := hk.u
        have h3 := hk.n
        unfold spanOk at h2
        first | (rw [decide_eq_false_iff_not] at h9; exact h9 h1) | (rw [decide_eq_false_iff_not] at h14; exact h14 h2) | (rw [decide_eq_false_iff_not] at h23; exact h23 hk.s) | omega
      simp only [packV]
      rw [decide_eq_false hneg]
    · refine lGN rfl rfl rfl rfl rfl ?_
      refine lV (yPickF rfl rfl) rfl rfl ?_
      refine lV (yMove rfl) rfl rfl ?_
      refine lGN rfl rfl rfl rfl rfl ?_
      refine lGN rfl rfl rfl rfl rfl ?_
      refine lGN rfl rfl rfl rfl rfl ?_
      refine lGN rfl rfl rfl rfl rfl ?_
      refine lGN rfl rfl rfl rfl rfl ?_
      refine lV (yPickF rfl rfl) rfl rfl ?_
      refine lV (yAssign rfl) rfl rfl ?_
      refine lNil ?_
      refine kThen ?_
      refine kRet ?_
      refine fRet rfl (.t rfl .n) (endRet ?_)
      have hneg : ¬ MeasOk m := by
        intro hk
        have h1 := hk.i
        have h2 := hk.u
        have h3 := hk.n
        unfold spanOk at h2
        first | (rw [decide_eq_false_iff_not] at h9; exact h9 h1) | (rw [decide_eq_false_iff_not] at h14; exact h14 h2) | (rw [decide_eq_false_iff_not] at h23; exact h23 hk.s) | omega
      simp only [packV]
      rw [decide_eq_false hneg]

end Go.Proofs.Ytoefcofplkbnkaa
