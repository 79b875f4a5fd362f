/-
  Walks: errors, sets, lists of the program's library.
-/
import Derived.Test.YtdpeifbejeflhaaFacts
import Derived.Test.YtdpeifbejeflhaaEngO
namespace Go.Proofs.Ytdpeifbejeflhaa
open ZW

abbrev i64 (n : Int) : Value := .int .i64 n
abbrev u64 (n : Nat) : Value := .int .u64 (n : Nat)
theorem getD_mem {α : Type} {l : List α} {i : Nat} (h : i < l.length) (d : α) : l.getD i d ∈ l := by
  rw [← List.getElem_eq_getD (h := h)]; exact List.getElem_mem h
abbrev rowE (x : Int × Int) : List Value := [i64 x.1, i64 x.2]
/-- A plate in the sky. -/
structure SkyV where
  e : Int × Int
  n : Int × Int
  day : Int
  depth : Int
abbrev sky0 : SkyV := ⟨(0, 0), (0, 0), 0, 0⟩
abbrev rowY (x : SkyV) : List Value := [i64 x.e.1, i64 x.e.2, i64 x.n.1, i64 x.n.2, i64 x.day, i64 x.depth]
abbrev rowI (x : Int) : List Value := [i64 x]
abbrev rowU (x : Nat) : List Value := [u64 x]
abbrev SkyV.V (x : SkyV) : Value := .agg (rowY x).toArray
abbrev SkV (x : SkyV) : Value := .agg (rowY x).toArray
abbrev InV (x : Int) : Value := i64 x
abbrev UnV (x : Nat) : Value := u64 x
/-- Where the first one is of which something is so; -1: nowhere. -/
def idxP {α : Type} (p : α → Bool) (l : List α) : Int := match l.findIdx? p with
  | some i => (i : Int)
  | none => -1
theorem idxP_none {α : Type} {p : α → Bool} {l : List α} (d : α) (h : ∀ j, j < l.length → p (l.getD j d) = false) : idxP p l = -1 := by
  have : l.findIdx? p = none := by
    rw [List.findIdx?_eq_none_iff]
    intro x hx
    obtain ⟨j, hj, rfl⟩ := List.mem_iff_getElem.1 hx
    have := h j hj
    rw [← List.getElem_eq_getD (h := hj)] at this
    exact this
  simp [idxP, this]
theorem idxP_some {α : Type} {p : α → Bool} {l : List α} {i : Nat} (d : α) (hi : i < l.length) (hp : p (l.getD i d) = true) (h : ∀ j, j < i → p (l.getD j d) = false) : idxP p l = i := by
  have : l.findIdx? p = some i := by
    rw [List.findIdx?_eq_some_iff_getElem]
    refine ⟨hi, by rw [← List.getElem_eq_getD (h := hi)] at hp; exact hp, fun j hj => ?_⟩
    have h1 := h j hj
    rw [← List.getElem_eq_getD (h := by omega)] at h1
    simp [h1]
  simp [idxP, this]
theorem idxP_ge {α : Type} (p : α → Bool) (l : List α) : decide (idxP p l ≥ 0) = l.any p := by
  by_cases h : l.any p = true
  · rw [h]
    obtain ⟨i, hi, hp⟩ : ∃ i, l.findIdx? p = some i ∧ True := by
      cases hf : l.findIdx? p with
      | some i => exact ⟨i, rfl, trivial⟩
      | none =>
        rw [List.findIdx?_eq_none_iff] at hf
        rw [List.any_eq_true] at h
        obtain ⟨x, hx, hp⟩ := h
        rw [hf x hx] at hp; cases hp
    simp [idxP, hi]
  · have h' : l.any p = false := by simpa using h
    rw [h']
    have hf : l.findIdx? p = none := by
      rw [List.findIdx?_eq_none_iff]
      intro x hx
      rw [List.any_eq_false] at h'
      simpa using h' x hx
    simp [idxP, hf]

/-- How many there are in a set. -/
def popF : Nat → Nat → Nat
  | 0, _ => 0
  | f + 1, n => n % 2 + popF f (n / 2)
def popc (n : Nat) : Nat := popF 13 n
def oc1 (s : Nat) : Nat := (s / 2 ^ 1 &&& 6148914691236517205) + (s &&& 6148914691236517205)
def oc2 (s : Nat) : Nat := (s / 2 ^ 2 &&& 3689348814741910323) + (s &&& 3689348814741910323)
def oc3 (s : Nat) : Nat := (s / 2 ^ 4 + s) &&& 1085102592571150095
def oc4 (s : Nat) : Nat := s + s / 2 ^ 8
def oc5 (s : Nat) : Nat := s + s / 2 ^ 16
def oc6 (s : Nat) : Nat := s + s / 2 ^ 32
theorem oc_popc : ∀ s, s < 8192 → (oc6 (oc5 (oc4 (oc3 (oc2 (oc1 s))))) &&& 127) = popF 13 s := by
  have h : ((List.range 8192).all fun s => (oc6 (oc5 (oc4 (oc3 (oc2 (oc1 s))))) &&& 127) == popF 13 s) = true := by kernel_rfl
  intro s hs
  simpa using List.all_eq_true.1 h s (List.mem_range.2 hs)
theorem oc1_lt {s n : Nat} (h : s < n) : oc1 s < 2 * n := by
  have h1 := Nat.and_le_left (n := s / 2 ^ 1) (m := 6148914691236517205)
  have h2 := Nat.and_le_left (n := s) (m := 6148914691236517205)
  unfold oc1; omega
theorem oc2_lt {s n : Nat} (h : s < n) : oc2 s < 2 * n := by
  have h1 := Nat.and_le_left (n := s / 2 ^ 2) (m := 3689348814741910323)
  have h2 := Nat.and_le_left (n := s) (m := 3689348814741910323)
  unfold oc2; omega
theorem oc3_lt {s n : Nat} (h : s < n) : oc3 s < 2 * n := by
  have h1 := Nat.and_le_left (n := s / 2 ^ 4 + s) (m := 1085102592571150095)
  unfold oc3; omega

set_option maxRecDepth 100000 in
theorem ones64_any (s : Nat) (w : World) (hs : s < 8192) : Calls Try.prog 74 [.int .u64 (s : Nat)].toArray w (Ret w (i64 (popF 13 s : Nat))) := by
  have h1 := oc1_lt hs
  have h2 := oc2_lt h1
  have h3 := oc3_lt h2
  have h4 : oc4 (oc3 (oc2 (oc1 s))) < 200000 := by unfold oc4; omega
  have h5 : oc5 (oc4 (oc3 (oc2 (oc1 s)))) < 400000 := by unfold oc5; omega
  have h6 : oc6 (oc5 (oc4 (oc3 (oc2 (oc1 s))))) < 800000 := by unfold oc6; omega
  have hc := oc_popc s hs
  have e1 : oc1 s = _ := rfl
  have e2 : ∀ s, oc2 s = _ := fun _ => rfl
  have q1 := Nat.and_le_left (n := s / 2 ^ 1) (m := 6148914691236517205)
  have q2 := Nat.and_le_left (n := s) (m := 6148914691236517205)
  have q3 := Nat.and_le_left (n := oc1 s / 2 ^ 2) (m := 3689348814741910323)
  have q4 := Nat.and_le_left (n := oc1 s) (m := 3689348814741910323)
  refine fEnter Try.func74 rfl Try.ntmps74 rfl ?_
  refine kSeq ?_
  refine kRegion rfl ?_
  refine lV (yAssign rfl) rfl rfl ?_
  refine lNil ?_
  refine kThen ?_
  refine kSeq ?_
  refine kRegion rfl ?_
  refine lV (yMove rfl) rfl rfl ?_
  refine lV (yShr (b := 1) rfl rfl rfl (by omega)) rfl rfl ?_
  refine lV (yAnd (b := 6148914691236517205) rfl rfl rfl (by omega) (by omega)) rfl rfl ?_
  refine lV (yMove rfl) rfl rfl ?_
  refine lV (yAnd (b := 6148914691236517205) rfl rfl rfl (by omega) (by omega)) rfl rfl ?_
  refine lV (yAddN  rfl rfl rfl (by omega)) rfl rfl ?_
  refine same (t := 8) (u := .int .u64 ((oc1 s : Nat) : Int)) rfl (rfl) ?_
  refine lV (yAssign rfl) rfl rfl ?_
  refine lNil ?_
  refine kThen ?_
  refine kSeq ?_
  refine kRegion rfl ?_
  refine lV (yMove rfl) rfl rfl ?_
  refine lV (yShr (b := 2) rfl rfl rfl (by omega)) rfl rfl ?_
  refine lV (yAnd (b := 3689348814741910323) rfl rfl rfl (by omega) (by omega)) rfl rfl ?_
  refine lV (yMove rfl) rfl rfl ?_
  refine lV (yAnd (b := 3689348814741910323) rfl rfl rfl (by omega) (by omega)) rfl rfl ?_
  refine lV (yAddN  rfl rfl rfl (by omega)) rfl rfl ?_
  refine same (t := 14) (u := .int .u64 ((oc2 (oc1 s) : Nat) : Int)) rfl (rfl) ?_
  refine lV (yAssign rfl) rfl rfl ?_
  refine lNil ?_
  refine kThen ?_
  refine kSeq ?_
  refine kRegion rfl ?_
  refine lV (yMove rfl) rfl rfl ?_
  refine lV (yShr (b := 4) rfl rfl rfl (by omega)) rfl rfl ?_
  refine lV (yMove rfl) rfl rfl ?_
  refine lV (yAddN  rfl rfl rfl (by omega)) rfl rfl ?_
  refine lV (yAnd (b := 1085102592571150095) rfl rfl rfl (by omega) (by omega)) rfl rfl ?_
  refine same (t := 19) (u := .int .u64 ((oc3 (oc2 (oc1 s)) : Nat) : Int)) rfl (rfl) ?_
  refine lV (yAssign rfl) rfl rfl ?_
  refine lNil ?_
  refine kThen ?_
  refine kSeq ?_
  refine kRegion rfl ?_
  refine lV (yMove rfl) rfl rfl ?_
  refine lV (yMove rfl) rfl rfl ?_
  refine lV (yShr (b := 8) rfl rfl rfl (by omega)) rfl rfl ?_
  refine lV (yAddN  rfl rfl rfl (by omega)) rfl rfl ?_
  refine same (t := 23) (u := .int .u64 ((oc4 (oc3 (oc2 (oc1 s))) : Nat) : Int)) rfl (rfl) ?_
  refine lV (yAssign rfl) rfl rfl ?_
  refine lNil ?_
  refine kThen ?_
  refine kSeq ?_
  refine kRegion rfl ?_
  refine lV (yMove rfl) rfl rfl ?_
  refine lV (yMove rfl) rfl rfl ?_
  refine lV (yShr (b := 16) rfl rfl rfl (by omega)) rfl rfl ?_
  refine lV (yAddN  rfl rfl rfl (by omega)) rfl rfl ?_
  refine same (t := 27) (u := .int .u64 ((oc5 (oc4 (oc3 (oc2 (oc1 s)))) : Nat) : Int)) rfl (rfl) ?_
  refine lV (yAssign rfl) rfl rfl ?_
  refine lNil ?_
  refine kThen ?_
  refine kSeq ?_
  refine kRegion rfl ?_
  refine lV (yMove rfl) rfl rfl ?_
  refine lV (yMove rfl) rfl rfl ?_
  refine lV (yShr (b := 32) rfl rfl rfl (by omega)) rfl rfl ?_
  refine lV (yAddN  rfl rfl rfl (by omega)) rfl rfl ?_
  refine same (t := 31) (u := .int .u64 ((oc6 (oc5 (oc4 (oc3 (oc2 (oc1 s))))) : Nat) : Int)) rfl (rfl) ?_
  refine lV (yAssign rfl) rfl rfl ?_
  refine lNil ?_
  refine kThen ?_
  refine kSeq ?_
  refine kRegion rfl ?_
  refine lV (yMove rfl) rfl rfl ?_
  refine lV (yConvInt rfl U130 U3 (conv_ok (by omega))) rfl rfl ?_
  refine lV (yAnd (b := 127) rfl rfl rfl (by omega) (by omega)) rfl rfl ?_
  refine lV (yAssign rfl) rfl rfl ?_
  refine lNil ?_
  refine kThen ?_
  refine kRet ?_
  refine fRet rfl (.t rfl .n) (endRet ?_)
  simp only [packV]; rw [hc]
set_option maxRecDepth 100000 in
theorem ones_any (s : Nat) (w : World) (hs : s < 8192) : Calls Try.prog 68 [.int .u64 (s : Nat)].toArray w (Ret w (i64 (popF 13 s : Nat))) := by
  refine fEnter Try.func68 rfl Try.ntmps68 rfl ?_
  refine kSeq ?_
  refine kRegion rfl ?_
  refine lV (yAssign rfl) rfl rfl ?_
  refine lNil ?_
  refine kThen ?_
  refine kSeq ?_
  refine kIfF rfl ?_
  refine kSkip ?_
  refine kThen ?_
  refine kSeq ?_
  refine kRegion rfl ?_
  refine lV (yMove rfl) rfl rfl ?_
  refine lV (yCall rfl (.c rfl .n) C74 (fun w hw => ones64_any s w hs)) rfl rfl ?_
  refine lV (yAssign rfl) rfl rfl ?_
  refine lNil ?_
  refine kThen ?_
  refine kRet ?_
  refine fRet rfl (.t rfl .n) (endRet ?_)
  rfl


theorem bit_iff (s i : Nat) : (((s / 2 ^ i &&& 1 : Nat) : Int) = 1) ↔ s.testBit i = true := by
  rw [Nat.testBit_eq_decide_div_mod_eq, decide_eq_true_eq, Nat.and_one_is_mod]
  omega

/-! ### Package cover: errors -/
set_option maxRecDepth 100000 in
theorem kwithin_any (n a b : Int) (w : World) : Calls Try.prog 52 [i64 n, i64 a, i64 b].toArray w (Ret w (.bool (decide (a ≤ n ∧ n ≤ b)))) := by
  refine fEnter Try.func52 rfl Try.ntmps52 rfl ?_
  refine kSeq ?_
  refine kRegion rfl ?_
  refine lV (yAssign rfl) rfl rfl ?_
  refine lNil ?_
  refine kThen ?_
  refine kSeq ?_
  refine kRegion rfl ?_
  refine lV (yMove rfl) rfl rfl ?_
  refine lV (yMove rfl) rfl rfl ?_
  refine lV (yLeq rfl rfl) rfl rfl ?_
  refine lV (yMove rfl) rfl rfl ?_
  refine split (t := 10) rfl (fun h10 => ?_) (fun h10 => ?_)
  · refine lGY rfl rfl rfl (oV (yMove rfl) rfl ?_)
    refine lGY rfl rfl rfl (oV (yMove rfl) rfl ?_)
    refine lGY rfl rfl rfl (oV (yLeq rfl rfl) rfl ?_)
    refine lV (yPickT rfl rfl) rfl rfl ?_
    refine lV (yAssign rfl) rfl rfl ?_
    refine lNil ?_
    refine kThen ?_
    refine kRet ?_
    refine fRet rfl (.t rfl .n) (endRet ?_)
    simp [packV, *]
  · refine lGN rfl rfl rfl rfl rfl ?_
    refine lGN rfl rfl rfl rfl rfl ?_
    refine lGN rfl rfl rfl rfl rfl ?_
    refine lV (yPickF rfl rfl) rfl rfl ?_
    refine lV (yAssign rfl) rfl rfl ?_
    refine lNil ?_
    refine kThen ?_
    refine kRet ?_
    refine fRet rfl (.t rfl .n) (endRet ?_)
    simp [packV, *]
set_option maxRecDepth 100000 in
theorem kmust_ok (e : Int) (w : World) : Calls Try.prog 28 [.bool true, i64 e].toArray w (Ret w (.tuple #[])) := by
  refine fEnter Try.func28 rfl Try.ntmps28 rfl ?_
  refine kSeq ?_
  refine kRegion rfl ?_
  refine lV (yMove rfl) rfl rfl ?_
  refine lV (yNot rfl) rfl rfl ?_
  refine lNil ?_
  refine kThen ?_
  refine kIfF rfl ?_
  refine kSkip ?_
  refine fEnd rfl .n (endRet ?_)
  rfl
abbrev kfailV (e : Int) : Value := .iface 100 (.agg [i64 e].toArray)
set_option maxRecDepth 100000 in
theorem kmust_pan (e : Int) (w : World) : Calls Try.prog 28 [.bool false, i64 e].toArray w (Pan w (kfailV e)) := by
  refine fEnter Try.func28 rfl Try.ntmps28 rfl ?_
  refine kSeq ?_
  refine kRegion rfl ?_
  refine lV (yMove rfl) rfl rfl ?_
  refine lV (yNot rfl) rfl rfl ?_
  refine lNil ?_
  refine kThen ?_
  refine kIfT rfl ?_
  refine kRegion rfl ?_
  refine lV (yMove rfl) rfl rfl ?_
  refine lV (yBuild (.c rfl .n) (fun w => B100_0 w)) rfl rfl ?_
  refine lV (yMakeInterface rfl I100) rfl rfl ?_
  refine lE rfl ?_
  refine ePanic rfl ?_
  exact fPan (endPan rfl)
set_option maxRecDepth 100000 in
theorem ktold_ret (v : Value) (w : World) : CallsDIn (FW none) 0 Try.prog 22 [v].toArray .returning w (fun e u' w' => (∃ v, e = .returned v) ∧ u' = .returning ∧ Eff w [] [] w') := by
  refine fEnterT (Eff.refl w) Try.func22 rfl rfl rfl rfl (recover_idle) fun c₀ cs => ?_
  refine kBlock ?_
  refine kSeq ?_
  refine kRegion rfl ?_
  refine lV (yEqNilNil' rfl J20) rfl rfl ?_
  refine lNil ?_
  refine kThen ?_
  refine kIfT rfl ?_
  refine kRegion rfl ?_
  refine lV (yAssign rfl) rfl rfl ?_
  refine lNil ?_
  refine kInN ?_
  exact tEnd rfl fun w' hw' => ⟨⟨_, rfl⟩, rfl, hw'.sub .n⟩
set_option maxRecDepth 100000 in
theorem ktold_pan (n : Nat) (x e : Int) (w : World) (hb : w.heap[n]? = some (blk [i64 x] 33)) : CallsDIn (FW none) 0 Try.prog 22 [.pointer (some ⟨n, 0, none⟩)].toArray (.panicking [{ v := kfailV e, recovered := false }]) w
    (fun en u' w' => (∃ v, en = .returned v) ∧ u' = .panicking [{ v := kfailV e, recovered := true }] ∧ Eff w [(n, blk [i64 e] 33)] [] w') := by
  refine fEnterT (Eff.one hb) Try.func22 rfl rfl rfl rfl (recover_some _) fun c₀ cs => ?_
  refine kBlock ?_
  refine kSeq ?_
  refine kRegion rfl ?_
  refine lV (yEqNilIf' rfl J20) rfl rfl ?_
  refine lNil ?_
  refine kThen ?_
  refine kIfF rfl ?_
  refine kSeq ?_
  refine kRegion rfl ?_
  refine lV (yAssertY rfl I100) rfl rfl ?_
  refine lV (yExtract rfl rfl) rfl rfl ?_
  refine lV (yExtract rfl rfl) rfl rfl ?_
  refine lNil ?_
  refine kThen ?_
  refine kIfT rfl ?_
  refine kSeq ?_
  refine kRegion rfl ?_
  refine lE rfl ?_
  refine eAlloc Z100 fun n3 => ?_
  refine lE rfl ?_
  refine eStoreL 0 rfl rfl rfl rfl K100 rfl (rfl) ?_
  refine lNil ?_
  refine kThen ?_
  refine kRegion rfl ?_
  refine lV (yMove rfl) rfl rfl ?_
  refine lV (yFieldAddr rfl F100_0) rfl rfl ?_
  refine lV (yLoad1 rfl O33 (cOwn 1 rfl rfl)) rfl rfl ?_
  refine lV (yNilCheckP rfl) rfl rfl ?_
  refine lE rfl ?_
  refine eStoreM 0 rfl rfl rfl rfl K33 rfl (rfl) ?_
  refine lNil ?_
  refine kInN ?_
  exact tEnd rfl fun w' hw' => ⟨⟨_, rfl⟩, rfl, hw'.sub .n⟩
theorem kCT : callT Try.prog 22 = true := by kernel_rfl
section
variable {N : Nat} {S : Slots} {W : World} {M L : Heap} {fn : Func} {rs : List ResultVar} {vs : List Value} {R : Ending → World → Prop} {p : Value}
theorem kfRetE (hr : fn.results = rs.toArray) (h : ResV Try.prog S (Eff W M L) rs vs) (k : ∀ w, Eff W M L w → R (.returned (packV vs)) w) :
    Tr (St N S [dfa 22 p] W M L) (bodyPostM (FW none) 0 Try.prog fn R .ret) := fRetT kCT hr h (fun w _ => ktold_ret p w) k
theorem kfPanE {n : Nat} {x e : Int} (i : Nat) (hi : L[i]? = some (n, blk [i64 x] 33)) (hr : fn.results = rs.toArray) (h : ResV Try.prog S (Eff W M (upd L i (blk [i64 e] 33))) rs vs)
    (k : ∀ w, Eff W M (upd L i (blk [i64 e] 33)) w → R (.returned (packV vs)) w) :
    Tr (St N S [dfa 22 (.pointer (some ⟨n, 0, none⟩))] W M L) (bodyPostM (FW none) 0 Try.prog fn R (.panic [{ v := kfailV e, recovered := false }])) :=
  fPanT kCT hr h (fun w hw => (ktold_pan n x e w (hw.own _ (List.mem_append.2 (.inr (List.mem_of_getElem? hi))))).mono fun _ _ _ ⟨h1, h2, h3⟩ => ⟨h1, h2, by simpa using hw.wroteL hi h3⟩) k
end

/-! ### Package twice: errors -/
set_option maxRecDepth 100000 in
theorem twithin_any (n a b : Int) (w : World) : Calls Try.prog 33 [i64 n, i64 a, i64 b].toArray w (Ret w (.bool (decide (a ≤ n ∧ n ≤ b)))) := by
  refine fEnter Try.func33 rfl Try.ntmps33 rfl ?_
  refine kSeq ?_
  refine kRegion rfl ?_
  refine lV (yAssign rfl) rfl rfl ?_
  refine lNil ?_
  refine kThen ?_
  refine kSeq ?_
  refine kRegion rfl ?_
  refine lV (yMove rfl) rfl rfl ?_
  refine lV (yMove rfl) rfl rfl ?_
  refine lV (yLeq rfl rfl) rfl rfl ?_
  refine lV (yMove rfl) rfl rfl ?_
  refine split (t := 10) rfl (fun h10 => ?_) (fun h10 => ?_)
  · refine lGY rfl rfl rfl (oV (yMove rfl) rfl ?_)
    refine lGY rfl rfl rfl (oV (yMove rfl) rfl ?_)
    refine lGY rfl rfl rfl (oV (yLeq rfl rfl) rfl ?_)
    refine lV (yPickT rfl rfl) rfl rfl ?_
    refine lV (yAssign rfl) rfl rfl ?_
    refine lNil ?_
    refine kThen ?_
    refine kRet ?_
    refine fRet rfl (.t rfl .n) (endRet ?_)
    simp [packV, *]
  · refine lGN rfl rfl rfl rfl rfl ?_
    refine lGN rfl rfl rfl rfl rfl ?_
    refine lGN rfl rfl rfl rfl rfl ?_
    refine lV (yPickF rfl rfl) rfl rfl ?_
    refine lV (yAssign rfl) rfl rfl ?_
    refine lNil ?_
    refine kThen ?_
    refine kRet ?_
    refine fRet rfl (.t rfl .n) (endRet ?_)
    simp [packV, *]
set_option maxRecDepth 100000 in
theorem tmust_ok (e : Int) (w : World) : Calls Try.prog 34 [.bool true, i64 e].toArray w (Ret w (.tuple #[])) := by
  refine fEnter Try.func34 rfl Try.ntmps34 rfl ?_
  refine kSeq ?_
  refine kRegion rfl ?_
  refine lV (yMove rfl) rfl rfl ?_
  refine lV (yNot rfl) rfl rfl ?_
  refine lNil ?_
  refine kThen ?_
  refine kIfF rfl ?_
  refine kSkip ?_
  refine fEnd rfl .n (endRet ?_)
  rfl
abbrev tfailV (e : Int) : Value := .iface 89 (.agg [i64 e].toArray)
set_option maxRecDepth 100000 in
theorem tmust_pan (e : Int) (w : World) : Calls Try.prog 34 [.bool false, i64 e].toArray w (Pan w (tfailV e)) := by
  refine fEnter Try.func34 rfl Try.ntmps34 rfl ?_
  refine kSeq ?_
  refine kRegion rfl ?_
  refine lV (yMove rfl) rfl rfl ?_
  refine lV (yNot rfl) rfl rfl ?_
  refine lNil ?_
  refine kThen ?_
  refine kIfT rfl ?_
  refine kRegion rfl ?_
  refine lV (yMove rfl) rfl rfl ?_
  refine lV (yBuild (.c rfl .n) (fun w => B89_0 w)) rfl rfl ?_
  refine lV (yMakeInterface rfl I89) rfl rfl ?_
  refine lE rfl ?_
  refine ePanic rfl ?_
  exact fPan (endPan rfl)
set_option maxRecDepth 100000 in
theorem ttold_ret (v : Value) (w : World) : CallsDIn (FW none) 0 Try.prog 14 [v].toArray .returning w (fun e u' w' => (∃ v, e = .returned v) ∧ u' = .returning ∧ Eff w [] [] w') := by
  refine fEnterT (Eff.refl w) Try.func14 rfl rfl rfl rfl (recover_idle) fun c₀ cs => ?_
  refine kBlock ?_
  refine kSeq ?_
  refine kRegion rfl ?_
  refine lV (yEqNilNil' rfl J20) rfl rfl ?_
  refine lNil ?_
  refine kThen ?_
  refine kIfT rfl ?_
  refine kRegion rfl ?_
  refine lV (yAssign rfl) rfl rfl ?_
  refine lNil ?_
  refine kInN ?_
  exact tEnd rfl fun w' hw' => ⟨⟨_, rfl⟩, rfl, hw'.sub .n⟩
set_option maxRecDepth 100000 in
theorem ttold_pan (n : Nat) (x e : Int) (w : World) (hb : w.heap[n]? = some (blk [i64 x] 33)) : CallsDIn (FW none) 0 Try.prog 14 [.pointer (some ⟨n, 0, none⟩)].toArray (.panicking [{ v := tfailV e, recovered := false }]) w
    (fun en u' w' => (∃ v, en = .returned v) ∧ u' = .panicking [{ v := tfailV e, recovered := true }] ∧ Eff w [(n, blk [i64 e] 33)] [] w') := by
  refine fEnterT (Eff.one hb) Try.func14 rfl rfl rfl rfl (recover_some _) fun c₀ cs => ?_
  refine kBlock ?_
  refine kSeq ?_
  refine kRegion rfl ?_
  refine lV (yEqNilIf' rfl J20) rfl rfl ?_
  refine lNil ?_
  refine kThen ?_
  refine kIfF rfl ?_
  refine kSeq ?_
  refine kRegion rfl ?_
  refine lV (yAssertY rfl I89) rfl rfl ?_
  refine lV (yExtract rfl rfl) rfl rfl ?_
  refine lV (yExtract rfl rfl) rfl rfl ?_
  refine lNil ?_
  refine kThen ?_
  refine kIfT rfl ?_
  refine kSeq ?_
  refine kRegion rfl ?_
  refine lE rfl ?_
  refine eAlloc Z89 fun n3 => ?_
  refine lE rfl ?_
  refine eStoreL 0 rfl rfl rfl rfl K89 rfl (rfl) ?_
  refine lNil ?_
  refine kThen ?_
  refine kRegion rfl ?_
  refine lV (yMove rfl) rfl rfl ?_
  refine lV (yFieldAddr rfl F89_0) rfl rfl ?_
  refine lV (yLoad1 rfl O33 (cOwn 1 rfl rfl)) rfl rfl ?_
  refine lV (yNilCheckP rfl) rfl rfl ?_
  refine lE rfl ?_
  refine eStoreM 0 rfl rfl rfl rfl K33 rfl (rfl) ?_
  refine lNil ?_
  refine kInN ?_
  exact tEnd rfl fun w' hw' => ⟨⟨_, rfl⟩, rfl, hw'.sub .n⟩
theorem tCT : callT Try.prog 14 = true := by kernel_rfl
section
variable {N : Nat} {S : Slots} {W : World} {M L : Heap} {fn : Func} {rs : List ResultVar} {vs : List Value} {R : Ending → World → Prop} {p : Value}
theorem tfRetE (hr : fn.results = rs.toArray) (h : ResV Try.prog S (Eff W M L) rs vs) (k : ∀ w, Eff W M L w → R (.returned (packV vs)) w) :
    Tr (St N S [dfa 14 p] W M L) (bodyPostM (FW none) 0 Try.prog fn R .ret) := fRetT tCT hr h (fun w _ => ttold_ret p w) k
theorem tfPanE {n : Nat} {x e : Int} (i : Nat) (hi : L[i]? = some (n, blk [i64 x] 33)) (hr : fn.results = rs.toArray) (h : ResV Try.prog S (Eff W M (upd L i (blk [i64 e] 33))) rs vs)
    (k : ∀ w, Eff W M (upd L i (blk [i64 e] 33)) w → R (.returned (packV vs)) w) :
    Tr (St N S [dfa 14 (.pointer (some ⟨n, 0, none⟩))] W M L) (bodyPostM (FW none) 0 Try.prog fn R (.panic [{ v := tfailV e, recovered := false }])) :=
  fPanT tCT hr h (fun w hw => (ttold_pan n x e w (hw.own _ (List.mem_append.2 (.inr (List.mem_of_getElem? hi))))).mono fun _ _ _ ⟨h1, h2, h3⟩ => ⟨h1, h2, by simpa using hw.wroteL hi h3⟩) k
end

set_option maxRecDepth 100000 in
theorem khas_any (s n : Nat) (w : World) (hs : s < 2 ^ 63) (hn : n ≤ 60) : Calls Try.prog 27 [.int .u64 (s : Nat), i64 (n : Nat)].toArray w (Ret w (.bool (s.testBit n))) := by
  refine fEnter Try.func27 rfl Try.ntmps27 rfl ?_
  refine kSeq ?_
  refine kRegion rfl ?_
  refine lV (yAssign rfl) rfl rfl ?_
  refine lNil ?_
  refine kThen ?_
  refine kSeq ?_
  refine kRegion rfl ?_
  refine lV (yMove rfl) rfl rfl ?_
  refine lV (yMove rfl) rfl rfl ?_
  refine lV (yShr rfl rfl rfl (by omega)) rfl rfl ?_
  refine lV (yAnd (b := 1) rfl rfl rfl (by have := Nat.div_le_self s (2 ^ n); omega) (by have := Nat.div_le_self s (2 ^ n); omega)) rfl rfl ?_
  refine lV (yEql rfl rfl) rfl rfl ?_
  refine lV (yAssign rfl) rfl rfl ?_
  refine lNil ?_
  refine kThen ?_
  refine kRet ?_
  refine fRet rfl (.t rfl .n) (endRet ?_)
  simp only [packV]
  congr 1
  rw [Bool.eq_iff_iff, decide_eq_true_eq]; exact bit_iff s n

set_option maxRecDepth 100000 in
theorem thas_any (s n : Nat) (w : World) (hs : s < 2 ^ 63) (hn : n ≤ 60) : Calls Try.prog 40 [.int .u64 (s : Nat), i64 (n : Nat)].toArray w (Ret w (.bool (s.testBit n))) := by
  refine fEnter Try.func40 rfl Try.ntmps40 rfl ?_
  refine kSeq ?_
  refine kRegion rfl ?_
  refine lV (yAssign rfl) rfl rfl ?_
  refine lNil ?_
  refine kThen ?_
  refine kSeq ?_
  refine kRegion rfl ?_
  refine lV (yMove rfl) rfl rfl ?_
  refine lV (yMove rfl) rfl rfl ?_
  refine lV (yShr rfl rfl rfl (by omega)) rfl rfl ?_
  refine lV (yAnd (b := 1) rfl rfl rfl (by have := Nat.div_le_self s (2 ^ n); omega) (by have := Nat.div_le_self s (2 ^ n); omega)) rfl rfl ?_
  refine lV (yEql rfl rfl) rfl rfl ?_
  refine lV (yAssign rfl) rfl rfl ?_
  refine lNil ?_
  refine kThen ?_
  refine kRet ?_
  refine fRet rfl (.t rfl .n) (endRet ?_)
  simp only [packV]
  congr 1
  rw [Bool.eq_iff_iff, decide_eq_true_eq]; exact bit_iff s n

set_option maxRecDepth 100000 in
theorem ksize_any (s : Nat) (w : World) (hs : s < 8192) : Calls Try.prog 46 [u64 s].toArray w (Ret w (i64 (popF 13 s : Nat))) := by
  refine fEnter Try.func46 rfl Try.ntmps46 rfl ?_
  refine kSeq ?_
  refine kRegion rfl ?_
  refine lV (yAssign rfl) rfl rfl ?_
  refine lNil ?_
  refine kThen ?_
  refine kSeq ?_
  refine kRegion rfl ?_
  refine lV (yMove rfl) rfl rfl ?_
  refine lV (yCall rfl (.c rfl .n) C68 (fun w hw => ones_any s w hs)) rfl rfl ?_
  refine lV (yAssign rfl) rfl rfl ?_
  refine lNil ?_
  refine kThen ?_
  refine kRet ?_
  refine fRet rfl (.t rfl .n) (endRet ?_)
  rfl

set_option maxRecDepth 100000 in
theorem indexIn_any (a : Option Addr) (c n : Nat) (F : FuncId) (caps : List Value) (w : World) (l : List (Int)) (p : Int → Bool) (hn : n = l.length) (hl : n ≤ 1000000) (hs : SlE w a n 1 (fun i => rowI (l.getD i 0))) (hf : callT Try.prog F = true)
    (hc : ∀ w', Eff w [] [] w' → ∀ x ∈ l, Calls Try.prog F ([InV x] ++ caps).toArray w' (Ret w' (.bool (p x)))) :
    Calls Try.prog 56 [.slice a n c, .func (.func F) [].toArray caps.toArray].toArray w (Ret w (i64 (idxP p l))) := by
  subst hn
  refine fEnter Try.func56 rfl Try.ntmps56 rfl ?_
  refine kSeq ?_
  refine kRegion rfl ?_
  refine lV (yAssign rfl) rfl rfl ?_
  refine lNil ?_
  refine kThen ?_
  refine kSeq ?_
  refine kSeq ?_
  refine kRegion rfl ?_
  refine lV (yMove rfl) rfl rfl ?_
  refine lV (yLen rfl S22) rfl rfl ?_
  refine lV (yMove rfl) rfl rfl ?_
  refine lNil ?_
  refine kThen ?_
  refine kBlock ?_
  refine kLoopX (ι := Nat) (fun i => i ≤ l.length ∧ ∀ j, j < i → p (l.getD j 0) = false) (fun i => [(8, i64 (i : Nat))]) [(0, _), (1, _), (6, _), (7, _)] (fun i => []) (fun i => []) [] (fun i => l.length - i) 0 (⟨Nat.zero_le _, fun j hj => absurd hj (by omega)⟩) rfl (.c rfl .n) (.c rfl (.c rfl (.c rfl (.c rfl .n)))) .n ?_
  rintro i ⟨hi, hj⟩
  refine kSeq ?_
  refine kRegion rfl ?_
  refine lV (yLss rfl rfl) rfl rfl ?_
  refine lNil ?_
  refine kThen ?_
  refine kSeq ?_
  refine split (t := 9) rfl (fun h9 => ?_) (fun h9 => ?_)
  · refine kIfT rfl ?_
    refine kSkip ?_
    refine kThen ?_
    refine kSeq ?_
    refine kBlock ?_
    refine kSeq ?_
    refine kRegion rfl ?_
    refine lV (yMove rfl) rfl rfl ?_
    refine lV (yAssign rfl) rfl rfl ?_
    refine lNil ?_
    refine kThen ?_
    refine kSeq ?_
    refine kRegion rfl ?_
    refine lV (yMove rfl) rfl rfl ?_
    refine lV (yMove rfl) rfl rfl ?_
    refine lV (yMove rfl) rfl rfl ?_
    refine lV (yIndexS  rfl rfl S22 (hs.r) ((by omega))) rfl rfl ?_
    refine lV (yLoad1 rfl O3 (cSl0 (hs.r) ((by omega)) rfl)) rfl rfl ?_
    refine lV (yCall (us := []) (cs := caps) rfl (.c rfl .n) hf (fun w' hw => hc w' (hw.forget (List.nil_sublist _)) _ (getD_mem (i := i) (by omega) 0))) rfl rfl ?_
    refine lNil ?_
    refine kThen ?_
    refine splitB (t := 16) rfl (fun h16 => ?_) (fun h16 => ?_)
    · refine kIfT rfl ?_
      refine kSeq ?_
      refine kRegion rfl ?_
      refine lV (yMove rfl) rfl rfl ?_
      refine lV (yAssign rfl) rfl rfl ?_
      refine lNil ?_
      refine kThen ?_
      refine kRet ?_
      refine kInR ?_
      refine kThenR ?_
      refine kThenR ?_
      refine kInR ?_
      refine kThenR ?_
      refine fRet rfl (.t rfl .n) (endRet ?_)
      simp only [packV]; rw [idxP_some 0 (by omega) h16 hj]
    · refine kIfF rfl ?_
      refine kSkip ?_
      refine kInN ?_
      refine kThen ?_
      refine kRegion rfl ?_
      refine lV (yAdd rfl rfl (by omega)) rfl rfl ?_
      refine lV (yMove rfl) rfl rfl ?_
      refine lNil ?_
      exact kRoundX (i + 1) (⟨by omega, fun j hl => by rcases Nat.lt_or_ge j i with h | h; (· exact hj j h); (obtain rfl : j = i := by omega); exact h16⟩) (by omega) rfl (.c rfl .n) (.c rfl (.c rfl (.c rfl (.c rfl .n)))) .n
  · refine kIfF rfl ?_
    refine kExit ?_
    refine kThenX ?_
    refine kThenX ?_
    refine kInX ?_
    refine kThen ?_
    refine kSeq ?_
    refine kRegion rfl ?_
    refine lV (yAssign rfl) rfl rfl ?_
    refine lNil ?_
    refine kThen ?_
    refine kRet ?_
    refine fRet rfl (.t rfl .n) (endRet ?_)
    simp only [packV]; rw [idxP_none 0 fun j hl => hj j (by omega)]
set_option maxRecDepth 100000 in
theorem containsIn_any (a : Option Addr) (c n : Nat) (F : FuncId) (caps : List Value) (w : World) (l : List (Int)) (p : Int → Bool) (hn : n = l.length) (hl : n ≤ 1000000) (hs : SlE w a n 1 (fun i => rowI (l.getD i 0))) (hf : callT Try.prog F = true)
    (hc : ∀ w', Eff w [] [] w' → ∀ x ∈ l, Calls Try.prog F ([InV x] ++ caps).toArray w' (Ret w' (.bool (p x)))) :
    Calls Try.prog 35 [.slice a n c, .func (.func F) [].toArray caps.toArray].toArray w (Ret w (.bool (l.any p))) := by
  refine fEnter Try.func35 rfl Try.ntmps35 rfl ?_
  refine kSeq ?_
  refine kRegion rfl ?_
  refine lV (yAssign rfl) rfl rfl ?_
  refine lNil ?_
  refine kThen ?_
  refine kSeq ?_
  refine kRegion rfl ?_
  refine lV (yMove rfl) rfl rfl ?_
  refine lV (yMove rfl) rfl rfl ?_
  refine lV (yCall rfl (.c rfl (.c rfl .n)) C56 (fun w hw => indexIn_any _ _ _ _ _ w l p hn hl (hs.eff0 hw) hf (fun w' hw' x hx => hc w' (by simpa using hw.trans hw') x hx))) rfl rfl ?_
  refine lV (yGeq rfl rfl) rfl rfl ?_
  refine lV (yAssign rfl) rfl rfl ?_
  refine lNil ?_
  refine kThen ?_
  refine kRet ?_
  refine fRet rfl (.t rfl .n) (endRet ?_)
  simp only [packV]; rw [idxP_ge]

set_option maxRecDepth 100000 in
theorem indexSk_any (a : Option Addr) (c n : Nat) (F : FuncId) (caps : List Value) (w : World) (l : List (SkyV)) (p : SkyV → Bool) (hn : n = l.length) (hl : n ≤ 1000000) (hs : SlE w a n 6 (fun i => rowY (l.getD i sky0))) (hf : callT Try.prog F = true)
    (hc : ∀ w', Eff w [] [] w' → ∀ x ∈ l, Calls Try.prog F ([SkV x] ++ caps).toArray w' (Ret w' (.bool (p x)))) :
    Calls Try.prog 72 [.slice a n c, .func (.func F) [].toArray caps.toArray].toArray w (Ret w (i64 (idxP p l))) := by
  subst hn
  refine fEnter Try.func72 rfl Try.ntmps72 rfl ?_
  refine kSeq ?_
  refine kRegion rfl ?_
  refine lV (yAssign rfl) rfl rfl ?_
  refine lNil ?_
  refine kThen ?_
  refine kSeq ?_
  refine kSeq ?_
  refine kRegion rfl ?_
  refine lV (yMove rfl) rfl rfl ?_
  refine lV (yLen rfl S28) rfl rfl ?_
  refine lV (yMove rfl) rfl rfl ?_
  refine lNil ?_
  refine kThen ?_
  refine kBlock ?_
  refine kLoopX (ι := Nat) (fun i => i ≤ l.length ∧ ∀ j, j < i → p (l.getD j sky0) = false) (fun i => [(8, i64 (i : Nat))]) [(0, _), (1, _), (6, _), (7, _)] (fun i => []) (fun i => []) [] (fun i => l.length - i) 0 (⟨Nat.zero_le _, fun j hj => absurd hj (by omega)⟩) rfl (.c rfl .n) (.c rfl (.c rfl (.c rfl (.c rfl .n)))) .n ?_
  rintro i ⟨hi, hj⟩
  refine kSeq ?_
  refine kRegion rfl ?_
  refine lV (yLss rfl rfl) rfl rfl ?_
  refine lNil ?_
  refine kThen ?_
  refine kSeq ?_
  refine split (t := 9) rfl (fun h9 => ?_) (fun h9 => ?_)
  · refine kIfT rfl ?_
    refine kSkip ?_
    refine kThen ?_
    refine kSeq ?_
    refine kBlock ?_
    refine kSeq ?_
    refine kRegion rfl ?_
    refine lV (yMove rfl) rfl rfl ?_
    refine lV (yAssign rfl) rfl rfl ?_
    refine lNil ?_
    refine kThen ?_
    refine kSeq ?_
    refine kRegion rfl ?_
    refine lV (yMove rfl) rfl rfl ?_
    refine lV (yMove rfl) rfl rfl ?_
    refine lV (yMove rfl) rfl rfl ?_
    refine lV (yIndexS  rfl rfl S28 (hs.r) ((by omega))) rfl rfl ?_
    refine lV (yLoadA (vs := [_, _, _, _, _, _]) rfl A37 (cSl0 (hs.r) ((by omega)) rfl)) rfl rfl ?_
    refine lV (yCall (us := []) (cs := caps) rfl (.c rfl .n) hf (fun w' hw => hc w' (hw.forget (List.nil_sublist _)) _ (getD_mem (i := i) (by omega) sky0))) rfl rfl ?_
    refine lNil ?_
    refine kThen ?_
    refine splitB (t := 16) rfl (fun h16 => ?_) (fun h16 => ?_)
    · refine kIfT rfl ?_
      refine kSeq ?_
      refine kRegion rfl ?_
      refine lV (yMove rfl) rfl rfl ?_
      refine lV (yAssign rfl) rfl rfl ?_
      refine lNil ?_
      refine kThen ?_
      refine kRet ?_
      refine kInR ?_
      refine kThenR ?_
      refine kThenR ?_
      refine kInR ?_
      refine kThenR ?_
      refine fRet rfl (.t rfl .n) (endRet ?_)
      simp only [packV]; rw [idxP_some sky0 (by omega) h16 hj]
    · refine kIfF rfl ?_
      refine kSkip ?_
      refine kInN ?_
      refine kThen ?_
      refine kRegion rfl ?_
      refine lV (yAdd rfl rfl (by omega)) rfl rfl ?_
      refine lV (yMove rfl) rfl rfl ?_
      refine lNil ?_
      exact kRoundX (i + 1) (⟨by omega, fun j hl => by rcases Nat.lt_or_ge j i with h | h; (· exact hj j h); (obtain rfl : j = i := by omega); exact h16⟩) (by omega) rfl (.c rfl .n) (.c rfl (.c rfl (.c rfl (.c rfl .n)))) .n
  · refine kIfF rfl ?_
    refine kExit ?_
    refine kThenX ?_
    refine kThenX ?_
    refine kInX ?_
    refine kThen ?_
    refine kSeq ?_
    refine kRegion rfl ?_
    refine lV (yAssign rfl) rfl rfl ?_
    refine lNil ?_
    refine kThen ?_
    refine kRet ?_
    refine fRet rfl (.t rfl .n) (endRet ?_)
    simp only [packV]; rw [idxP_none sky0 fun j hl => hj j (by omega)]
set_option maxRecDepth 100000 in
theorem containsSk_any (a : Option Addr) (c n : Nat) (F : FuncId) (caps : List Value) (w : World) (l : List (SkyV)) (p : SkyV → Bool) (hn : n = l.length) (hl : n ≤ 1000000) (hs : SlE w a n 6 (fun i => rowY (l.getD i sky0))) (hf : callT Try.prog F = true)
    (hc : ∀ w', Eff w [] [] w' → ∀ x ∈ l, Calls Try.prog F ([SkV x] ++ caps).toArray w' (Ret w' (.bool (p x)))) :
    Calls Try.prog 62 [.slice a n c, .func (.func F) [].toArray caps.toArray].toArray w (Ret w (.bool (l.any p))) := by
  refine fEnter Try.func62 rfl Try.ntmps62 rfl ?_
  refine kSeq ?_
  refine kRegion rfl ?_
  refine lV (yAssign rfl) rfl rfl ?_
  refine lNil ?_
  refine kThen ?_
  refine kSeq ?_
  refine kRegion rfl ?_
  refine lV (yMove rfl) rfl rfl ?_
  refine lV (yMove rfl) rfl rfl ?_
  refine lV (yCall rfl (.c rfl (.c rfl .n)) C72 (fun w hw => indexSk_any _ _ _ _ _ w l p hn hl (hs.eff0 hw) hf (fun w' hw' x hx => hc w' (by simpa using hw.trans hw') x hx))) rfl rfl ?_
  refine lV (yGeq rfl rfl) rfl rfl ?_
  refine lV (yAssign rfl) rfl rfl ?_
  refine lNil ?_
  refine kThen ?_
  refine kRet ?_
  refine fRet rfl (.t rfl .n) (endRet ?_)
  simp only [packV]; rw [idxP_ge]

set_option maxRecDepth 100000 in
theorem indexUn_any (a : Option Addr) (c n : Nat) (F : FuncId) (caps : List Value) (w : World) (l : List (Nat)) (p : Nat → Bool) (hn : n = l.length) (hl : n ≤ 1000000) (hs : SlE w a n 1 (fun i => rowU (l.getD i 0))) (hf : callT Try.prog F = true)
    (hc : ∀ w', Eff w [] [] w' → ∀ x ∈ l, Calls Try.prog F ([UnV x] ++ caps).toArray w' (Ret w' (.bool (p x)))) :
    Calls Try.prog 69 [.slice a n c, .func (.func F) [].toArray caps.toArray].toArray w (Ret w (i64 (idxP p l))) := by
  subst hn
  refine fEnter Try.func69 rfl Try.ntmps69 rfl ?_
  refine kSeq ?_
  refine kRegion rfl ?_
  refine lV (yAssign rfl) rfl rfl ?_
  refine lNil ?_
  refine kThen ?_
  refine kSeq ?_
  refine kSeq ?_
  refine kRegion rfl ?_
  refine lV (yMove rfl) rfl rfl ?_
  refine lV (yLen rfl S108) rfl rfl ?_
  refine lV (yMove rfl) rfl rfl ?_
  refine lNil ?_
  refine kThen ?_
  refine kBlock ?_
  refine kLoopX (ι := Nat) (fun i => i ≤ l.length ∧ ∀ j, j < i → p (l.getD j 0) = false) (fun i => [(8, i64 (i : Nat))]) [(0, _), (1, _), (6, _), (7, _)] (fun i => []) (fun i => []) [] (fun i => l.length - i) 0 (⟨Nat.zero_le _, fun j hj => absurd hj (by omega)⟩) rfl (.c rfl .n) (.c rfl (.c rfl (.c rfl (.c rfl .n)))) .n ?_
  rintro i ⟨hi, hj⟩
  refine kSeq ?_
  refine kRegion rfl ?_
  refine lV (yLss rfl rfl) rfl rfl ?_
  refine lNil ?_
  refine kThen ?_
  refine kSeq ?_
  refine split (t := 9) rfl (fun h9 => ?_) (fun h9 => ?_)
  · refine kIfT rfl ?_
    refine kSkip ?_
    refine kThen ?_
    refine kSeq ?_
    refine kBlock ?_
    refine kSeq ?_
    refine kRegion rfl ?_
    refine lV (yMove rfl) rfl rfl ?_
    refine lV (yAssign rfl) rfl rfl ?_
    refine lNil ?_
    refine kThen ?_
    refine kSeq ?_
    refine kRegion rfl ?_
    refine lV (yMove rfl) rfl rfl ?_
    refine lV (yMove rfl) rfl rfl ?_
    refine lV (yMove rfl) rfl rfl ?_
    refine lV (yIndexS  rfl rfl S108 (hs.r) ((by omega))) rfl rfl ?_
    refine lV (yLoad1 rfl O71 (cSl0 (hs.r) ((by omega)) rfl)) rfl rfl ?_
    refine lV (yCall (us := []) (cs := caps) rfl (.c rfl .n) hf (fun w' hw => hc w' (hw.forget (List.nil_sublist _)) _ (getD_mem (i := i) (by omega) 0))) rfl rfl ?_
    refine lNil ?_
    refine kThen ?_
    refine splitB (t := 16) rfl (fun h16 => ?_) (fun h16 => ?_)
    · refine kIfT rfl ?_
      refine kSeq ?_
      refine kRegion rfl ?_
      refine lV (yMove rfl) rfl rfl ?_
      refine lV (yAssign rfl) rfl rfl ?_
      refine lNil ?_
      refine kThen ?_
      refine kRet ?_
      refine kInR ?_
      refine kThenR ?_
      refine kThenR ?_
      refine kInR ?_
      refine kThenR ?_
      refine fRet rfl (.t rfl .n) (endRet ?_)
      simp only [packV]; rw [idxP_some 0 (by omega) h16 hj]
    · refine kIfF rfl ?_
      refine kSkip ?_
      refine kInN ?_
      refine kThen ?_
      refine kRegion rfl ?_
      refine lV (yAdd rfl rfl (by omega)) rfl rfl ?_
      refine lV (yMove rfl) rfl rfl ?_
      refine lNil ?_
      exact kRoundX (i + 1) (⟨by omega, fun j hl => by rcases Nat.lt_or_ge j i with h | h; (· exact hj j h); (obtain rfl : j = i := by omega); exact h16⟩) (by omega) rfl (.c rfl .n) (.c rfl (.c rfl (.c rfl (.c rfl .n)))) .n
  · refine kIfF rfl ?_
    refine kExit ?_
    refine kThenX ?_
    refine kThenX ?_
    refine kInX ?_
    refine kThen ?_
    refine kSeq ?_
    refine kRegion rfl ?_
    refine lV (yAssign rfl) rfl rfl ?_
    refine lNil ?_
    refine kThen ?_
    refine kRet ?_
    refine fRet rfl (.t rfl .n) (endRet ?_)
    simp only [packV]; rw [idxP_none 0 fun j hl => hj j (by omega)]
set_option maxRecDepth 100000 in
theorem containsUn_any (a : Option Addr) (c n : Nat) (F : FuncId) (caps : List Value) (w : World) (l : List (Nat)) (p : Nat → Bool) (hn : n = l.length) (hl : n ≤ 1000000) (hs : SlE w a n 1 (fun i => rowU (l.getD i 0))) (hf : callT Try.prog F = true)
    (hc : ∀ w', Eff w [] [] w' → ∀ x ∈ l, Calls Try.prog F ([UnV x] ++ caps).toArray w' (Ret w' (.bool (p x)))) :
    Calls Try.prog 50 [.slice a n c, .func (.func F) [].toArray caps.toArray].toArray w (Ret w (.bool (l.any p))) := by
  refine fEnter Try.func50 rfl Try.ntmps50 rfl ?_
  refine kSeq ?_
  refine kRegion rfl ?_
  refine lV (yAssign rfl) rfl rfl ?_
  refine lNil ?_
  refine kThen ?_
  refine kSeq ?_
  refine kRegion rfl ?_
  refine lV (yMove rfl) rfl rfl ?_
  refine lV (yMove rfl) rfl rfl ?_
  refine lV (yCall rfl (.c rfl (.c rfl .n)) C69 (fun w hw => indexUn_any _ _ _ _ _ w l p hn hl (hs.eff0 hw) hf (fun w' hw' x hx => hc w' (by simpa using hw.trans hw') x hx))) rfl rfl ?_
  refine lV (yGeq rfl rfl) rfl rfl ?_
  refine lV (yAssign rfl) rfl rfl ?_
  refine lNil ?_
  refine kThen ?_
  refine kRet ?_
  refine fRet rfl (.t rfl .n) (endRet ?_)
  simp only [packV]; rw [idxP_ge]

set_option maxRecDepth 100000 in
theorem cloneInt_any (a : Option Addr) (c n : Nat) (w : World) (l : List Int) (hn : n = l.length) (hl : n ≤ 1000) (hs : SlE w a n 1 (fun i => rowI (l.getD i 0))) :
    Calls Try.prog 19 [.slice a n c].toArray w (RetX w (fun g => OS 1 g (l.map rowI)) (fun g => osV g (l.map rowI).length) (fun _ => []) (fun g => osL 3 g)) := by
  subst hn
  refine fEnter Try.func19 rfl Try.ntmps19 rfl ?_
  refine kSeq ?_
  refine kRegion rfl ?_
  refine lV (yAssign rfl) rfl rfl ?_
  refine lNil ?_
  refine kThen ?_
  refine kSeq ?_
  refine kSeq ?_
  refine kRegion rfl ?_
  refine lV (yMove rfl) rfl rfl ?_
  refine lV (yEqNilSl rfl U22) rfl rfl ?_
  refine lNil ?_
  refine kThen ?_
  refine splitB (t := 4) rfl (fun h4 => ?_) (fun h4 => ?_)
  · refine kIfT rfl ?_
    refine kSeq ?_
    refine kRegion rfl ?_
    refine lV (yAssign rfl) rfl rfl ?_
    refine lNil ?_
    refine kThen ?_
    refine kRet ?_
    refine kThenR ?_
    refine fRet rfl (.t rfl .n) ?_
    have h0 : l = [] := List.eq_nil_of_length_eq_zero (by rcases Nat.eq_zero_or_pos l.length with h | h; (· exact h); rw [hs.at_ h] at h4; cases h4)
    subst h0
    exact endX (.e none) OS.empty rfl rfl .n
  · refine kIfF rfl ?_
    refine kSkip ?_
    refine kThen ?_
    refine kSeq ?_
    refine kRegion rfl ?_
    refine lE rfl ?_
    refine eBuildSlice .n (fun w => BS22_0_ w) fun n5 => ?_
    refine lV (yMove rfl) rfl rfl ?_
    refine lE rfl ?_
    skip
    refine eAppend (gs := .b n5 0 []) (es := []) [] (l.map rowI) AP22 rfl rfl .r (OS.lit (es := []) (by simp) rfl (by simp)) (by simp) (fun x hx => by obtain ⟨y, _, rfl⟩ := List.mem_map.1 hx; rfl) (flatten_range (f := rowI) l 0 ▸ SlN.sl hs.r) (fun x hx u hu => by obtain ⟨y, _, rfl⟩ := List.mem_map.1 hx; simp only [List.mem_singleton] at hu; subst hu; rfl) (by simp; omega) (by simp; omega) fun g hg => ?_
    refine lV (yAssign rfl) rfl rfl ?_
    refine lNil ?_
    refine kThen ?_
    refine kRet ?_
    refine fRet rfl (.t rfl .n) ?_
    exact endX g (by simpa using hg) (by simp [packV]) rfl .r
set_option maxRecDepth 100000 in
theorem refin10_any (n a b : Int) (w : World) : Calls Try.prog 21 [i64 n, i64 a, i64 b].toArray w (Ret w (.bool (decide (a ≤ n ∧ n ≤ b)))) := by
  refine fEnter Try.func21 rfl Try.ntmps21 rfl ?_
  refine kSeq ?_
  refine kRegion rfl ?_
  refine lV (yAssign rfl) rfl rfl ?_
  refine lNil ?_
  refine kThen ?_
  refine kSeq ?_
  refine kRegion rfl ?_
  refine lV (yMove rfl) rfl rfl ?_
  refine lV (yMove rfl) rfl rfl ?_
  refine lV (yLeq rfl rfl) rfl rfl ?_
  refine lV (yMove rfl) rfl rfl ?_
  refine split (t := 10) rfl (fun h10 => ?_) (fun h10 => ?_)
  · refine lGY rfl rfl rfl (oV (yMove rfl) rfl ?_)
    refine lGY rfl rfl rfl (oV (yMove rfl) rfl ?_)
    refine lGY rfl rfl rfl (oV (yLeq rfl rfl) rfl ?_)
    refine lV (yPickT rfl rfl) rfl rfl ?_
    refine lV (yAssign rfl) rfl rfl ?_
    refine lNil ?_
    refine kThen ?_
    refine kRet ?_
    refine fRet rfl (.t rfl .n) (endRet ?_)
    simp [packV, *]
  · refine lGN rfl rfl rfl rfl rfl ?_
    refine lGN rfl rfl rfl rfl rfl ?_
    refine lGN rfl rfl rfl rfl rfl ?_
    refine lV (yPickF rfl rfl) rfl rfl ?_
    refine lV (yAssign rfl) rfl rfl ?_
    refine lNil ?_
    refine kThen ?_
    refine kRet ?_
    refine fRet rfl (.t rfl .n) (endRet ?_)
    simp [packV, *]
set_option maxRecDepth 100000 in
theorem refin11_any (n a b : Int) (w : World) : Calls Try.prog 12 [i64 n, i64 a, i64 b].toArray w (Ret w (.bool (decide (a ≤ n ∧ n ≤ b)))) := by
  refine fEnter Try.func12 rfl Try.ntmps12 rfl ?_
  refine kSeq ?_
  refine kRegion rfl ?_
  refine lV (yAssign rfl) rfl rfl ?_
  refine lNil ?_
  refine kThen ?_
  refine kSeq ?_
  refine kRegion rfl ?_
  refine lV (yMove rfl) rfl rfl ?_
  refine lV (yMove rfl) rfl rfl ?_
  refine lV (yLeq rfl rfl) rfl rfl ?_
  refine lV (yMove rfl) rfl rfl ?_
  refine split (t := 10) rfl (fun h10 => ?_) (fun h10 => ?_)
  · refine lGY rfl rfl rfl (oV (yMove rfl) rfl ?_)
    refine lGY rfl rfl rfl (oV (yMove rfl) rfl ?_)
    refine lGY rfl rfl rfl (oV (yLeq rfl rfl) rfl ?_)
    refine lV (yPickT rfl rfl) rfl rfl ?_
    refine lV (yAssign rfl) rfl rfl ?_
    refine lNil ?_
    refine kThen ?_
    refine kRet ?_
    refine fRet rfl (.t rfl .n) (endRet ?_)
    simp [packV, *]
  · refine lGN rfl rfl rfl rfl rfl ?_
    refine lGN rfl rfl rfl rfl rfl ?_
    refine lGN rfl rfl rfl rfl rfl ?_
    refine lV (yPickF rfl rfl) rfl rfl ?_
    refine lV (yAssign rfl) rfl rfl ?_
    refine lNil ?_
    refine kThen ?_
    refine kRet ?_
    refine fRet rfl (.t rfl .n) (endRet ?_)
    simp [packV, *]
set_option maxRecDepth 100000 in
theorem refspan_any (x : Int × Int) (a b : Int) (w : World) : Calls Try.prog 20 [.agg (rowE x).toArray, i64 a, i64 b].toArray w (Ret w (.bool (decide (a ≤ x.1 ∧ x.1 ≤ x.2 ∧ x.2 ≤ b)))) := by
  refine fEnter Try.func20 rfl Try.ntmps20 rfl ?_
  refine kSeq ?_
  refine kRegion rfl ?_
  refine lE rfl ?_
  refine eBoxA rfl fun n3 => ?_
  refine lV (yAssign rfl) rfl rfl ?_
  refine lNil ?_
  refine kThen ?_
  refine kSeq ?_
  refine kRegion rfl ?_
  refine lV (yMove rfl) rfl rfl ?_
  refine lV (yFieldAddr rfl F24_0) rfl rfl ?_
  refine lV (yLoad1 rfl O3 (cOwn 0 rfl rfl)) rfl rfl ?_
  refine lV (yLeq rfl rfl) rfl rfl ?_
  refine lV (yMove rfl) rfl rfl ?_
  refine split (t := 11) rfl (fun h11 => ?_) (fun h11 => ?_)
  · refine lGY rfl rfl rfl (oV (yFieldAddr rfl F24_0) rfl ?_)
    refine lGY rfl rfl rfl (oV (yLoad1 rfl O3 (cOwn 0 rfl rfl)) rfl ?_)
    refine lGY rfl rfl rfl (oV (yFieldAddr rfl F24_1) rfl ?_)
    refine lGY rfl rfl rfl (oV (yLoad1 rfl O3 (cOwn 0 rfl rfl)) rfl ?_)
    refine lGY rfl rfl rfl (oV (yLeq rfl rfl) rfl ?_)
    refine lV (yPickT rfl rfl) rfl rfl ?_
    refine lV (yMove rfl) rfl rfl ?_
    refine split (t := 18) rfl (fun h18 => ?_) (fun h18 => ?_)
    · refine lGY rfl rfl rfl (oV (yFieldAddr rfl F24_1) rfl ?_)
      refine lGY rfl rfl rfl (oV (yLoad1 rfl O3 (cOwn 0 rfl rfl)) rfl ?_)
      refine lGY rfl rfl rfl (oV (yMove rfl) rfl ?_)
      refine lGY rfl rfl rfl (oV (yLeq rfl rfl) rfl ?_)
      refine lV (yPickT rfl rfl) rfl rfl ?_
      refine lV (yAssign rfl) rfl rfl ?_
      refine lNil ?_
      refine kThen ?_
      refine kRet ?_
      refine fRet rfl (.t rfl .n) (endRet ?_)
      simp [packV, *]
    · refine lGN rfl rfl rfl rfl rfl ?_
      refine lGN rfl rfl rfl rfl rfl ?_
      refine lGN rfl rfl rfl rfl rfl ?_
      refine lGN rfl rfl rfl rfl rfl ?_
      refine lV (yPickF rfl rfl) rfl rfl ?_
      refine lV (yAssign rfl) rfl rfl ?_
      refine lNil ?_
      refine kThen ?_
      refine kRet ?_
      refine fRet rfl (.t rfl .n) (endRet ?_)
      simp [packV, *]
  · refine lGN rfl rfl rfl rfl rfl ?_
    refine lGN rfl rfl rfl rfl rfl ?_
    refine lGN rfl rfl rfl rfl rfl ?_
    refine lGN rfl rfl rfl rfl rfl ?_
    refine lGN rfl rfl rfl rfl rfl ?_
    refine lV (yPickF rfl rfl) rfl rfl ?_
    refine lV (yMove rfl) rfl rfl ?_
    refine lGN rfl rfl rfl rfl rfl ?_
    refine lGN rfl rfl rfl rfl rfl ?_
    refine lGN rfl rfl rfl rfl rfl ?_
    refine lGN rfl rfl rfl rfl rfl ?_
    refine lV (yPickF rfl rfl) rfl rfl ?_
    refine lV (yAssign rfl) rfl rfl ?_
    refine lNil ?_
    refine kThen ?_
    refine kRet ?_
    refine fRet rfl (.t rfl .n) (endRet ?_)
    simp [packV, *]
set_option maxRecDepth 100000 in
theorem kspan_any (x : Int × Int) (b : Int) (w : World) : Calls Try.prog 61 [.agg (rowE x).toArray, i64 b].toArray w (Ret w (.bool (decide (0 ≤ x.1 ∧ x.1 ≤ x.2 ∧ x.2 ≤ b)))) := by
  refine fEnter Try.func61 rfl Try.ntmps61 rfl ?_
  refine kSeq ?_
  refine kRegion rfl ?_
  refine lE rfl ?_
  refine eBoxA rfl fun n2 => ?_
  refine lV (yAssign rfl) rfl rfl ?_
  refine lNil ?_
  refine kThen ?_
  refine kSeq ?_
  refine kRegion rfl ?_
  refine lV (yFieldAddr rfl F24_0) rfl rfl ?_
  refine lV (yLoad1 rfl O3 (cOwn 0 rfl rfl)) rfl rfl ?_
  refine lV (yLeq rfl rfl) rfl rfl ?_
  refine lV (yMove rfl) rfl rfl ?_
  refine split (t := 8) rfl (fun h8 => ?_) (fun h8 => ?_)
  · refine lGY rfl rfl rfl (oV (yFieldAddr rfl F24_0) rfl ?_)
    refine lGY rfl rfl rfl (oV (yLoad1 rfl O3 (cOwn 0 rfl rfl)) rfl ?_)
    refine lGY rfl rfl rfl (oV (yFieldAddr rfl F24_1) rfl ?_)
    refine lGY rfl rfl rfl (oV (yLoad1 rfl O3 (cOwn 0 rfl rfl)) rfl ?_)
    refine lGY rfl rfl rfl (oV (yLeq rfl rfl) rfl ?_)
    refine lV (yPickT rfl rfl) rfl rfl ?_
    refine lV (yMove rfl) rfl rfl ?_
    refine split (t := 15) rfl (fun h15 => ?_) (fun h15 => ?_)
    · refine lGY rfl rfl rfl (oV (yFieldAddr rfl F24_1) rfl ?_)
      refine lGY rfl rfl rfl (oV (yLoad1 rfl O3 (cOwn 0 rfl rfl)) rfl ?_)
      refine lGY rfl rfl rfl (oV (yMove rfl) rfl ?_)
      refine lGY rfl rfl rfl (oV (yLeq rfl rfl) rfl ?_)
      refine lV (yPickT rfl rfl) rfl rfl ?_
      refine lV (yAssign rfl) rfl rfl ?_
      refine lNil ?_
      refine kThen ?_
      refine kRet ?_
      refine fRet rfl (.t rfl .n) (endRet ?_)
      simp [packV, *]
    · refine lGN rfl rfl rfl rfl rfl ?_
      refine lGN rfl rfl rfl rfl rfl ?_
      refine lGN rfl rfl rfl rfl rfl ?_
      refine lGN rfl rfl rfl rfl rfl ?_
      refine lV (yPickF rfl rfl) rfl rfl ?_
      refine lV (yAssign rfl) rfl rfl ?_
      refine lNil ?_
      refine kThen ?_
      refine kRet ?_
      refine fRet rfl (.t rfl .n) (endRet ?_)
      simp [packV, *]
  · refine lGN rfl rfl rfl rfl rfl ?_
    refine lGN rfl rfl rfl rfl rfl ?_
    refine lGN rfl rfl rfl rfl rfl ?_
    refine lGN rfl rfl rfl rfl rfl ?_
    refine lGN rfl rfl rfl rfl rfl ?_
    refine lV (yPickF rfl rfl) rfl rfl ?_
    refine lV (yMove rfl) rfl rfl ?_
    refine lGN rfl rfl rfl rfl rfl ?_
    refine lGN rfl rfl rfl rfl rfl ?_
    refine lGN rfl rfl rfl rfl rfl ?_
    refine lGN rfl rfl rfl rfl rfl ?_
    refine lV (yPickF rfl rfl) rfl rfl ?_
    refine lV (yAssign rfl) rfl rfl ?_
    refine lNil ?_
    refine kThen ?_
    refine kRet ?_
    refine fRet rfl (.t rfl .n) (endRet ?_)
    simp [packV, *]
end Go.Proofs.Ytdpeifbejeflhaa
