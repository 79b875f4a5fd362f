/-
  The screw, in plain words; walks: what is valid, travels.
-/
import Derived.Test.YtiaaidcdoenloaaFacts
import Derived.Test.YtiaaidcdoenloaaEngS
namespace Go.Proofs.Ytiaaidcdoenloaa
open ZW
/-- A measure. -/
structure Meas where
  errs : List (Int × Int)
  eye : Int × Int
  images : Int
  sum : Int × Int
  sets : List (Int × Int × Bool)

/-- Where the slices of a measure lie. -/
structure Loc where
  ea : Option Addr
  ec : Nat
  sa : Option Addr
  sc : Nat

abbrev i64 (n : Int) : Value := .int .i64 n
abbrev errC (l : List (Int × Int)) (i : Nat) : List Value := [i64 (l.getD i (0, 0)).1, i64 (l.getD i (0, 0)).2]
abbrev setC (l : List (Int × Int × Bool)) (i : Nat) : List Value := [i64 (l.getD i (0, 0, false)).1, i64 (l.getD i (0, 0, false)).2.1, .bool (l.getD i (0, 0, false)).2.2]
abbrev screwC (y : Loc) (m : Meas) : List Value := [.slice y.ea m.errs.length y.ec, i64 m.eye.1, i64 m.eye.2]
abbrev measC (y : Loc) (m : Meas) : List Value := [.slice y.ea m.errs.length y.ec, i64 m.eye.1, i64 m.eye.2, i64 m.images, i64 m.sum.1, i64 m.sum.2, .slice y.sa m.sets.length y.sc]

/-- In this world the slices of a measure hold it. -/
structure InM (w : World) (y : Loc) (m : Meas) : Prop where
  e : SlE w y.ea m.errs.length 2 (errC m.errs)
  s : SlE w y.sa m.sets.length 3 (setC m.sets)
theorem InM.eff {w w' : World} {L : Heap} {y : Loc} {m : Meas} (h : InM w y m) (he : Eff w [] L w') : InM w' y m := ⟨h.e.eff0 he, h.s.eff0 he⟩

/-! ### What is valid -/
def spanOk (lo hi : Int) (s : Int × Int) : Prop := lo ≤ s.1 ∧ s.1 ≤ s.2 ∧ s.2 ≤ hi
instance (lo hi : Int) (s : Int × Int) : Decidable (spanOk lo hi s) := inferInstanceAs (Decidable (_ ∧ _))
structure ScrewOk (m : Meas) : Prop where
  n : 1 ≤ m.errs.length ∧ m.errs.length ≤ 40
  e : ∀ x ∈ m.errs, spanOk (-100) 100 x
  y : spanOk (-100) 100 m.eye
instance (m : Meas) : Decidable (ScrewOk m) := decidable_of_iff ((1 ≤ m.errs.length ∧ m.errs.length ≤ 40) ∧ (∀ x ∈ m.errs, spanOk (-100) 100 x) ∧ spanOk (-100) 100 m.eye) ⟨fun h => ⟨h.1, h.2.1, h.2.2⟩, fun h => ⟨h.n, h.e, h.y⟩⟩
def readOk (m : Meas) (n : Int) : Prop := 0 ≤ n ∧ n ≤ m.errs.length * 1000 - 1
instance (m : Meas) (n : Int) : Decidable (readOk m n) := inferInstanceAs (Decidable (_ ∧ _))
/-! ### Travels -/
def travelP (m : Meas) (n : Int) : Int × Int :=
  let e := m.errs.getD (n / 1000).toNat (0, 0)
  (n + e.1 + m.eye.1, n + e.2 + m.eye.2)

theorem range_foldl_succ {α : Type} (f : α → Nat → α) (x : α) (n : Nat) : (List.range (n + 1)).foldl f x = f ((List.range n).foldl f x) n := by
  rw [List.range_succ, List.foldl_append]; rfl


set_option maxRecDepth 100000 in
theorem within_any (n a b : Int) (w : World) : Calls Try.prog 91 [.int .i64 n, .int .i64 a, .int .i64 b].toArray w (Ret w (.bool (decide (a ≤ n ∧ n ≤ b)))) := by
  refine fEnter Try.func91 rfl Try.ntmps91 rfl ?_
  refine kSeq ?_
  refine kRegion rfl ?_
  refine lV (yAssign rfl) rfl rfl ?_
  refine lNil ?_
  refine kThen ?_
  refine kSeq ?_
  refine kRegion rfl ?_
  refine lV (yMove rfl) rfl rfl ?_
  refine lV (yMove rfl) rfl rfl ?_
  refine lV (yLeq rfl rfl) rfl rfl ?_
  refine lV (yMove rfl) rfl rfl ?_
  refine split (t := 10) rfl (fun h10 => ?_) (fun h10 => ?_)
  · refine lGY rfl rfl rfl (oV (yMove rfl) rfl ?_)
    refine lGY rfl rfl rfl (oV (yMove rfl) rfl ?_)
    refine lGY rfl rfl rfl (oV (yLeq rfl rfl) rfl ?_)
    refine lV (yPickT rfl rfl) rfl rfl ?_
    refine lV (yAssign rfl) rfl rfl ?_
    refine lNil ?_
    refine kThen ?_
    refine kRet ?_
    refine fRet rfl (.t rfl .n) (endRet ?_)
    simp [packV, *]
  · refine lGN rfl rfl rfl rfl rfl ?_
    refine lGN rfl rfl rfl rfl rfl ?_
    refine lGN rfl rfl rfl rfl rfl ?_
    refine lV (yPickF rfl rfl) rfl rfl ?_
    refine lV (yAssign rfl) rfl rfl ?_
    refine lNil ?_
    refine kThen ?_
    refine kRet ?_
    refine fRet rfl (.t rfl .n) (endRet ?_)
    simp [packV, *]

set_option maxRecDepth 100000 in
theorem isSpan_any (lo hi a b : Int) (w : World) : Calls Try.prog 90 [.agg [.int .i64 lo, .int .i64 hi].toArray, .int .i64 a, .int .i64 b].toArray w (Ret w (.bool (decide (a ≤ lo ∧ lo ≤ hi ∧ hi ≤ b)))) := by
  refine fEnter Try.func90 rfl Try.ntmps90 rfl ?_
  refine kSeq ?_
  refine kRegion rfl ?_
  refine lE rfl ?_
  refine eBoxA rfl fun n3 => ?_
  refine lV (yAssign rfl) rfl rfl ?_
  refine lNil ?_
  refine kThen ?_
  refine kSeq ?_
  refine kRegion rfl ?_
  refine lV (yMove rfl) rfl rfl ?_
  refine lV (yFieldAddr rfl F24_0) rfl rfl ?_
  refine lV (yLoad1 rfl O3 (cOwn 0 rfl rfl)) rfl rfl ?_
  refine lV (yLeq rfl rfl) rfl rfl ?_
  refine lV (yMove rfl) rfl rfl ?_
  refine split (t := 11) rfl (fun h11 => ?_) (fun h11 => ?_)
  · refine lGY rfl rfl rfl (oV (yFieldAddr rfl F24_0) rfl ?_)
    refine lGY rfl rfl rfl (oV (yLoad1 rfl O3 (cOwn 0 rfl rfl)) rfl ?_)
    refine lGY rfl rfl rfl (oV (yFieldAddr rfl F24_1) rfl ?_)
    refine lGY rfl rfl rfl (oV (yLoad1 rfl O3 (cOwn 0 rfl rfl)) rfl ?_)
    refine lGY rfl rfl rfl (oV (yLeq rfl rfl) rfl ?_)
    refine lV (yPickT rfl rfl) rfl rfl ?_
    refine lV (yMove rfl) rfl rfl ?_
    refine split (t := 18) rfl (fun h18 => ?_) (fun h18 => ?_)
    · refine lGY rfl rfl rfl (oV (yFieldAddr rfl F24_1) rfl ?_)
      refine lGY rfl rfl rfl (oV (yLoad1 rfl O3 (cOwn 0 rfl rfl)) rfl ?_)
      refine lGY rfl rfl rfl (oV (yMove rfl) rfl ?_)
      refine lGY rfl rfl rfl (oV (yLeq rfl rfl) rfl ?_)
      refine lV (yPickT rfl rfl) rfl rfl ?_
      refine lV (yAssign rfl) rfl rfl ?_
      refine lNil ?_
      refine kThen ?_
      refine kRet ?_
      refine fRet rfl (.t rfl .n) (endRet ?_)
      simp [packV, *]
    · refine lGN rfl rfl rfl rfl rfl ?_
      refine lGN rfl rfl rfl rfl rfl ?_
      refine lGN rfl rfl rfl rfl rfl ?_
      refine lGN rfl rfl rfl rfl rfl ?_
      refine lV (yPickF rfl rfl) rfl rfl ?_
      refine lV (yAssign rfl) rfl rfl ?_
      refine lNil ?_
      refine kThen ?_
      refine kRet ?_
      refine fRet rfl (.t rfl .n) (endRet ?_)
      simp [packV, *]
  · refine lGN rfl rfl rfl rfl rfl ?_
    refine lGN rfl rfl rfl rfl rfl ?_
    refine lGN rfl rfl rfl rfl rfl ?_
    refine lGN rfl rfl rfl rfl rfl ?_
    refine lGN rfl rfl rfl rfl rfl ?_
    refine lV (yPickF rfl rfl) rfl rfl ?_
    refine lV (yMove rfl) rfl rfl ?_
    refine lGN rfl rfl rfl rfl rfl ?_
    refine lGN rfl rfl rfl rfl rfl ?_
    refine lGN rfl rfl rfl rfl rfl ?_
    refine lGN rfl rfl rfl rfl rfl ?_
    refine lV (yPickF rfl rfl) rfl rfl ?_
    refine lV (yAssign rfl) rfl rfl ?_
    refine lNil ?_
    refine kThen ?_
    refine kRet ?_
    refine fRet rfl (.t rfl .n) (endRet ?_)
    simp [packV, *]

/-- The sum of some spans. -/
def sumTo (l : List (Int × Int)) (n : Nat) : Int × Int := (List.range n).foldl (fun s i => (s.1 + (l.getD i (0, 0)).1, s.2 + (l.getD i (0, 0)).2)) (0, 0)
theorem sumTo_succ (l : List (Int × Int)) (n : Nat) : sumTo l (n + 1) = ((sumTo l n).1 + (l.getD n (0, 0)).1, (sumTo l n).2 + (l.getD n (0, 0)).2) := range_foldl_succ _ _ _
def small (x : Int) : Prop := -1000000000000 ≤ x ∧ x ≤ 1000000000000
theorem getD_mem {α : Type} {l : List α} {i : Nat} (h : i < l.length) (d : α) : l.getD i d ∈ l := by
  rw [← List.getElem_eq_getD (h := h)]; exact List.getElem_mem h
theorem sumTo_small {l : List (Int × Int)} (h : ∀ x ∈ l, small x.1 ∧ small x.2) : ∀ n, n ≤ l.length → -1000000000000 * n ≤ (sumTo l n).1 ∧ (sumTo l n).1 ≤ 1000000000000 * n ∧ -1000000000000 * n ≤ (sumTo l n).2 ∧ (sumTo l n).2 ≤ 1000000000000 * n
  | 0, _ => by simp [sumTo]
  | n + 1, hn => by
    have ih := sumTo_small h n (by omega)
    have hx := h _ (getD_mem (l := l) (i := n) (by omega) (0, 0))
    rw [sumTo_succ]
    unfold small at hx
    simp only
    omega

set_option maxRecDepth 100000 in
theorem total_any (a : Option Addr) (c : Nat) (l : List (Int × Int)) (w : World) (hs : SlE w a l.length 2 (errC l)) (hl : ∀ x ∈ l, small x.1 ∧ small x.2) (hn : l.length ≤ 100) :
    Calls Try.prog 94 [.slice a l.length c].toArray w (Ret w (.agg [i64 (sumTo l l.length).1, i64 (sumTo l l.length).2].toArray)) := by
  refine fEnter Try.func94 rfl Try.ntmps94 rfl ?_
  refine kSeq ?_
  refine kRegion rfl ?_
  refine lE rfl ?_
  refine eAlloc Z108 fun n2 => ?_
  refine lNil ?_
  refine kThen ?_
  refine kSeq ?_
  refine kSeq ?_
  refine kRegion rfl ?_
  refine lV (yMove rfl) rfl rfl ?_
  refine lV (yLen rfl S22) rfl rfl ?_
  refine lV (yMove rfl) rfl rfl ?_
  refine lNil ?_
  refine kThen ?_
  refine kBlock ?_
  refine kLoopX (ι := Nat × Int × Int) (fun x => x.1 ≤ l.length ∧ x.2 = sumTo l x.1) (fun x => [(7, i64 (x.1 : Nat))]) [(0, _), (2, _), (5, _), (6, _)] (fun x => []) (fun x => [(n2, blk [i64 x.2.1, i64 x.2.2] 108)]) [] (fun x => l.length - x.1) (0, 0, 0) (⟨Nat.zero_le _, rfl⟩) rfl (.c rfl .n) (.c rfl (.c rfl (.c rfl (.c rfl .n)))) (.c 0 rfl .n) ?_
  rintro ⟨i, s1, s2⟩ ⟨hi, hs2⟩
  dsimp only at hi hs2 ⊢
  refine kSeq ?_
  refine kRegion rfl ?_
  refine lV (yLss rfl rfl) rfl rfl ?_
  refine lNil ?_
  refine kThen ?_
  refine kSeq ?_
  refine split (t := 8) rfl (fun h8 => ?_) (fun h8 => ?_)
  · refine kIfT rfl ?_
    refine kSkip ?_
    refine kThen ?_
    refine kSeq ?_
    refine kBlock ?_
    refine kSeq ?_
    refine kRegion rfl ?_
    refine lV (yIndexS  rfl rfl S22 (hs.r) ((by omega))) rfl rfl ?_
    refine lV (yLoadA (vs := [_, _]) rfl A24 (cSl0 (hs.r) ((by omega)) rfl)) rfl rfl ?_
    refine lE rfl ?_
    refine eAlloc Z24 fun n4 => ?_
    refine lE rfl ?_
    refine eStoreL 0 rfl rfl rfl rfl K24 rfl (rfl) ?_
    refine lNil ?_
    refine kThen ?_
    refine kDrawE [(1, none), (3, none), (6, none), (8, some [0])] [] [0, 1, 2, 3, 4, 5, 6, 7, 8, 9, 10, 12] 2 hMix (by kernel_rfl) ?_
    refine .run rfl (yFieldAddr rfl F108_0) rfl rfl ?_
    refine .run rfl (yLoad1 rfl O3 (cOwn 1 rfl rfl)) rfl rfl ?_
    refine .run rfl (yFieldAddr rfl F24_0) rfl rfl ?_
    refine .run rfl (yLoad1 rfl O3 (cOwn 0 rfl rfl)) rfl rfl ?_
    refine .run rfl (yAdd rfl rfl (by have := sumTo_small hl (i + 1) (by omega); rw [sumTo_succ, ← hs2] at this; dsimp only at this; omega)) rfl rfl ?_
    refine .run rfl (yFieldAddr rfl F108_1) rfl rfl ?_
    refine .run rfl (yLoad1 rfl O3 (cOwn 1 rfl rfl)) rfl rfl ?_
    refine .run rfl (yFieldAddr rfl F24_1) rfl rfl ?_
    refine .run rfl (yLoad1 rfl O3 (cOwn 0 rfl rfl)) rfl rfl ?_
    refine .run rfl (yAdd rfl rfl (by have := sumTo_small hl (i + 1) (by omega); rw [sumTo_succ, ← hs2] at this; dsimp only at this; omega)) rfl rfl ?_
    refine .run rfl (yFieldAddr rfl F108_0) rfl rfl ?_
    refine .run rfl (yFieldAddr rfl F108_1) rfl rfl ?_
    refine .done ?_
    refine effStep 11 [] (by kernel_rfl) closedSt (hLeft [1, 3, 6, 8] (by kernel_rfl) (.c (fun _ _ hs => hs.ef) (.c (fun _ _ hs => hs.ef) (.c (fun _ _ hs => hs.ef) (.c (fun _ _ hs => hs.ef.sub (.c 0 rfl .n)) .n))))) ?_
    refine .c ?_ .n
    refine effOne rfl (gNone rfl (fStoreL 1 rfl rfl rfl rfl K3 rfl (rfl))) ?_
    refine effStep 13 [] (by kernel_rfl) closedSt (hLeft [8] (by kernel_rfl) (.c (fun _ _ hs => hs.ef.sub (.c 0 rfl .n)) .n)) ?_
    refine .c ?_ .n
    refine effOne rfl (gNone rfl (fStoreL 1 rfl rfl rfl rfl K3 rfl (rfl))) ?_
    refine effDone closedSt (hLeft [] (by kernel_rfl) .n) (by kernel_rfl) ?_
    refine kInN ?_
    refine kThen ?_
    refine kRegion rfl ?_
    refine lV (yAdd rfl rfl (by omega)) rfl rfl ?_
    refine lV (yMove rfl) rfl rfl ?_
    refine lNil ?_
    exact kRoundX (i + 1, _, _) (⟨by dsimp only; omega, by rw [sumTo_succ, ← hs2]⟩) (by dsimp only; omega) rfl (.c rfl .n) (.c rfl (.c rfl (.c rfl (.c rfl .n)))) (.c 1 rfl .n)
  · refine kIfF rfl ?_
    refine kExit ?_
    refine kThenX ?_
    refine kThenX ?_
    refine kInX ?_
    refine kThen ?_
    refine kSeq ?_
    refine kRegion rfl ?_
    refine lV (yLoadA (vs := [_, _]) rfl A108 (cOwn 0 rfl rfl)) rfl rfl ?_
    refine lE rfl ?_
    refine eStoreL 0 rfl rfl rfl rfl K108 rfl (rfl) ?_
    refine lNil ?_
    refine kThen ?_
    refine kRet ?_
    refine fRet rfl (.cA (us := [_, _]) rfl A108 (cOwn 0 rfl rfl) .n) (endRet ?_)
    obtain rfl : i = l.length := by omega
    rw [← hs2]; rfl

theorem small_100 {s : Int × Int} (h : spanOk (-100) 100 s) : small s.1 ∧ small s.2 := by unfold spanOk at h; unfold small; omega
theorem readOk_lt {m : Meas} {n : Int} (h : readOk m n) : (n / 1000).toNat < m.errs.length ∧ n / 1000 = ((n / 1000).toNat : Int) := by unfold readOk at h; omega
theorem sum3 (n : Int) (x y : Int × Int) : sumTo [(n, n), x, y] 3 = (n + x.1 + y.1, n + x.2 + y.2) := by simp [sumTo, List.range, List.range.loop]

set_option maxRecDepth 100000 in
theorem travel_any (y : Loc) (m : Meas) (n : Int) (w : World) (hm : InM w y m) (hs : ScrewOk m) (hn : readOk m n) :
    Calls Try.prog 67 [.agg (screwC y m).toArray, i64 n].toArray w (Ret w (.agg [i64 (travelP m n).1, i64 (travelP m n).2].toArray)) := by
  have hk := readOk_lt hn
  have hn0 : 0 ≤ n ∧ n ≤ 9223372036854775807 := by unfold readOk at hn; have := hs.n; omega
  refine fEnter Try.func67 rfl Try.ntmps67 rfl ?_
  refine kSeq ?_
  refine kRegion rfl ?_
  refine lE rfl ?_
  refine eBoxA rfl fun n2 => ?_
  refine lE rfl ?_
  refine eAlloc Z108 fun n4 => ?_
  refine lNil ?_
  refine kThen ?_
  refine kSeq ?_
  refine kDrawE [(4, none), (7, none), (8, none), (10, none)] [] [0, 1, 2, 3, 4, 5, 6, 7, 8, 9, 10] 3 hMix (by kernel_rfl) ?_
  refine .run rfl (yMove rfl) rfl rfl ?_
  refine .run rfl (yMove rfl) rfl rfl ?_
  refine .run rfl (yBuild (.c rfl (.c rfl .n)) (fun w => B24_0_1 w)) rfl rfl ?_
  refine .run rfl (yFieldAddr rfl F26_0) rfl rfl ?_
  refine .run rfl (yLoad1 rfl O22 (cOwn 1 rfl rfl)) rfl rfl ?_
  refine .run rfl (yMove rfl) rfl rfl ?_
  refine .run rfl (yvSame (u := i64 ((n / 1000).toNat : Nat)) (yQuo rfl rfl (by omega) (by omega) (by omega)) (by rw [← hk.2])) rfl rfl ?_
  refine .run rfl (yIndexS  rfl rfl S22 (hm.e.r) (hk.1)) rfl rfl ?_
  refine .run rfl (yLoadA (vs := [_, _]) rfl A24 (cSl0 (hm.e.r) (hk.1) rfl)) rfl rfl ?_
  refine .run rfl (yFieldAddr rfl F26_1) rfl rfl ?_
  refine .run rfl (yLoadA (vs := [_, _]) rfl A24 (cOwn 1 rfl rfl)) rfl rfl ?_
  refine .done ?_
  refine effStep 11 [] (by kernel_rfl) closedSt (hLeft [4, 7, 8, 10] (by kernel_rfl) (.c (fun _ _ hs => hs.ef) (.c (fun _ _ hs => hs.ef) (.c (fun _ _ hs => hs.ef) (.c (fun _ _ hs => hs.ef) .n))))) ?_
  refine .c ?_ .n
  refine effOne rfl (gNone rfl (fBuildSlice (.c rfl (.c rfl (.c rfl .n))) (fun w => BS22_3_0_1_2 w))) ?_
  refine effStep 12 [] (by kernel_rfl) (closedEx fun n16 => closedSt) (hLeft [] (by kernel_rfl) .n) ?_
  refine .c ?_ .n
  refine effOne rfl (opEx fun n16 => (gNone rfl (fV (yCall rfl (.c rfl .n) C94 (fun w hw => total_any _ 3 [(n, n), m.errs.getD (n / 1000).toNat (0, 0), m.eye] w (sleRows (f := fun x => [i64 x.1, i64 x.2]) (fun _ => rfl) (0, 0) _ rfl (hw.blkAt 0 rfl)) (by
  intro x hx
  simp only [List.mem_cons, List.not_mem_nil, or_false] at hx
  rcases hx with rfl | rfl | rfl
  · unfold readOk at hn; have := hs.n; unfold small; omega
  · exact small_100 (hs.e _ (getD_mem hk.1 _))
  · exact small_100 hs.y) (by simp))) rfl))) ?_
  refine effStep 13 [] (by kernel_rfl) (closedEx fun n16 => closedSt) (hLeft [] (by kernel_rfl) .n) ?_
  refine .c ?_ .n
  refine effOne rfl (opEx fun n16 => (gNone rfl (fStoreL 1 rfl rfl rfl rfl K108 rfl (rfl)))) ?_
  refine effDone (closedEx fun n16 => closedSt) (hLeft [] (by kernel_rfl) .n) (by kernel_rfl) ?_
  refine trEx fun n16 => ?_
  refine kThen ?_
  refine kRet ?_
  refine fRet rfl (.cA (us := [_, _]) rfl A108 (cOwn 1 rfl rfl) .n) (endRet ?_)
  simp only [packV]
  rw [show ([(n, n), m.errs.getD (n / 1000).toNat (0, 0), m.eye] : List (Int × Int)).length = 3 from rfl, sum3]
  rfl

abbrev rowE (x : Int × Int) : List Value := [i64 x.1, i64 x.2]
abbrev rowS (x : Int × Int × Bool) : List Value := [i64 x.1, i64 x.2.1, .bool x.2.2]

theorem rowsE_len (l : List (Int × Int)) : ∀ x ∈ l.map rowE, x.length = 2 := by
  intro x hx; obtain ⟨y, _, rfl⟩ := List.mem_map.1 hx; rfl
theorem rowsE_one (l : List (Int × Int)) : ∀ x ∈ l.map rowE, ∀ u ∈ x, u.oneCell' = true := by
  intro x hx u hu; obtain ⟨y, _, rfl⟩ := List.mem_map.1 hx
  simp only [rowE, List.mem_cons, List.not_mem_nil, or_false] at hu
  rcases hu with rfl | rfl <;> rfl

/-- Where the first one is of which something is so; -1: nowhere. -/
def idxP {α : Type} (p : α → Bool) (l : List α) : Int := match l.findIdx? p with
  | some i => (i : Int)
  | none => -1
theorem idxP_none {α : Type} {p : α → Bool} {l : List α} (d : α) (h : ∀ j, j < l.length → p (l.getD j d) = false) : idxP p l = -1 := by
  have : l.findIdx? p = none := by
    rw [List.findIdx?_eq_none_iff]
    intro x hx
    obtain ⟨j, hj, rfl⟩ := List.mem_iff_getElem.1 hx
    have := h j hj
    rw [← List.getElem_eq_getD (h := hj)] at this
    exact this
  simp [idxP, this]
theorem idxP_some {α : Type} {p : α → Bool} {l : List α} {i : Nat} (d : α) (hi : i < l.length) (hp : p (l.getD i d) = true) (h : ∀ j, j < i → p (l.getD j d) = false) : idxP p l = i := by
  have : l.findIdx? p = some i := by
    rw [List.findIdx?_eq_some_iff_getElem]
    refine ⟨hi, by rw [← List.getElem_eq_getD (h := hi)] at hp; exact hp, fun j hj => ?_⟩
    have h1 := h j hj
    rw [← List.getElem_eq_getD (h := by omega)] at h1
    simp [h1]
  simp [idxP, this]
theorem idxP_ge {α : Type} (p : α → Bool) (l : List α) : decide (idxP p l ≥ 0) = l.any p := by
  by_cases h : l.any p = true
  · rw [h]
    obtain ⟨i, hi, hp⟩ : ∃ i, l.findIdx? p = some i ∧ True := by
      cases hf : l.findIdx? p with
      | some i => exact ⟨i, rfl, trivial⟩
      | none =>
        rw [List.findIdx?_eq_none_iff] at hf
        rw [List.any_eq_true] at h
        obtain ⟨x, hx, hp⟩ := h
        rw [hf x hx] at hp; cases hp
    simp [idxP, hi]
  · have h' : l.any p = false := by simpa using h
    rw [h']
    have hf : l.findIdx? p = none := by
      rw [List.findIdx?_eq_none_iff]
      intro x hx
      rw [List.any_eq_false] at h'
      simpa using h' x hx
    simp [idxP, hf]

section
variable (a : Option Addr) (c n : Nat) (F : FuncId) (caps : List Value) (w : World)

set_option maxRecDepth 100000 in
theorem indexSpan_any (l : List (Int × Int)) (p : Int × Int → Bool) (hn : n = l.length) (hl : n ≤ 1000000) (hs : SlE w a n 2 (errC l)) (hf : callT Try.prog F = true)
    (hc : ∀ w', Eff w [] [] w' → ∀ x ∈ l, Calls Try.prog F ([Value.agg (rowE x).toArray] ++ caps).toArray w' (Ret w' (.bool (p x)))) :
    Calls Try.prog 109 [.slice a n c, .func (.func F) [].toArray caps.toArray].toArray w (Ret w (i64 (idxP p l))) := by
  subst hn
  refine fEnter Try.func109 rfl Try.ntmps109 rfl ?_
  refine kSeq ?_
  refine kRegion rfl ?_
  refine lV (yAssign rfl) rfl rfl ?_
  refine lNil ?_
  refine kThen ?_
  refine kSeq ?_
  refine kSeq ?_
  refine kRegion rfl ?_
  refine lV (yMove rfl) rfl rfl ?_
  refine lV (yLen rfl S22) rfl rfl ?_
  refine lV (yMove rfl) rfl rfl ?_
  refine lNil ?_
  refine kThen ?_
  refine kBlock ?_
  refine kLoopX (ι := Nat) (fun i => i ≤ l.length ∧ ∀ j, j < i → p (l.getD j (0, 0)) = false) (fun i => [(8, i64 (i : Nat))]) [(0, _), (1, _), (6, _), (7, _)] (fun i => []) (fun i => []) [] (fun i => l.length - i) 0 (⟨Nat.zero_le _, fun j hj => absurd hj (by omega)⟩) rfl (.c rfl .n) (.c rfl (.c rfl (.c rfl (.c rfl .n)))) .n ?_
  rintro i ⟨hi, hj⟩
  refine kSeq ?_
  refine kRegion rfl ?_
  refine lV (yLss rfl rfl) rfl rfl ?_
  refine lNil ?_
  refine kThen ?_
  refine kSeq ?_
  refine split (t := 9) rfl (fun h9 => ?_) (fun h9 => ?_)
  · refine kIfT rfl ?_
    refine kSkip ?_
    refine kThen ?_
    refine kSeq ?_
    refine kBlock ?_
    refine kSeq ?_
    refine kRegion rfl ?_
    refine lV (yMove rfl) rfl rfl ?_
    refine lV (yAssign rfl) rfl rfl ?_
    refine lNil ?_
    refine kThen ?_
    refine kSeq ?_
    refine kRegion rfl ?_
    refine lV (yMove rfl) rfl rfl ?_
    refine lV (yMove rfl) rfl rfl ?_
    refine lV (yMove rfl) rfl rfl ?_
    refine lV (yIndexS  rfl rfl S22 (hs.r) ((by omega))) rfl rfl ?_
    refine lV (yLoadA (vs := [_, _]) rfl A24 (cSl0 (hs.r) ((by omega)) rfl)) rfl rfl ?_
    refine lV (yCall (us := []) (cs := caps) rfl (.c rfl .n) hf (fun w' hw => hc w' (hw.forget (List.nil_sublist _)) _ (getD_mem (i := i) (by omega) (0, 0)))) rfl rfl ?_
    refine lNil ?_
    refine kThen ?_
    refine splitB (t := 16) rfl (fun h16 => ?_) (fun h16 => ?_)
    · refine kIfT rfl ?_
      refine kSeq ?_
      refine kRegion rfl ?_
      refine lV (yMove rfl) rfl rfl ?_
      refine lV (yAssign rfl) rfl rfl ?_
      refine lNil ?_
      refine kThen ?_
      refine kRet ?_
      refine kInR ?_
      refine kThenR ?_
      refine kThenR ?_
      refine kInR ?_
      refine kThenR ?_
      refine fRet rfl (.t rfl .n) (endRet ?_)
      simp only [packV]; rw [idxP_some (0, 0) (by omega) h16 hj]
    · refine kIfF rfl ?_
      refine kSkip ?_
      refine kInN ?_
      refine kThen ?_
      refine kRegion rfl ?_
      refine lV (yAdd rfl rfl (by omega)) rfl rfl ?_
      refine lV (yMove rfl) rfl rfl ?_
      refine lNil ?_
      exact kRoundX (i + 1) (⟨by omega, fun j hl => by rcases Nat.lt_or_ge j i with h | h; (· exact hj j h); (obtain rfl : j = i := by omega); exact h16⟩) (by omega) rfl (.c rfl .n) (.c rfl (.c rfl (.c rfl (.c rfl .n)))) .n
  · refine kIfF rfl ?_
    refine kExit ?_
    refine kThenX ?_
    refine kThenX ?_
    refine kInX ?_
    refine kThen ?_
    refine kSeq ?_
    refine kRegion rfl ?_
    refine lV (yAssign rfl) rfl rfl ?_
    refine lNil ?_
    refine kThen ?_
    refine kRet ?_
    refine fRet rfl (.t rfl .n) (endRet ?_)
    simp only [packV]; rw [idxP_none (0, 0) fun j hl => hj j (by omega)]
set_option maxRecDepth 100000 in
theorem containsSpan_any (l : List (Int × Int)) (p : Int × Int → Bool) (hn : n = l.length) (hl : n ≤ 1000000) (hs : SlE w a n 2 (errC l)) (hf : callT Try.prog F = true)
    (hc : ∀ w', Eff w [] [] w' → ∀ x ∈ l, Calls Try.prog F ([Value.agg (rowE x).toArray] ++ caps).toArray w' (Ret w' (.bool (p x)))) :
    Calls Try.prog 92 [.slice a n c, .func (.func F) [].toArray caps.toArray].toArray w (Ret w (.bool (l.any p))) := by
  refine fEnter Try.func92 rfl Try.ntmps92 rfl ?_
  refine kSeq ?_
  refine kRegion rfl ?_
  refine lV (yAssign rfl) rfl rfl ?_
  refine lNil ?_
  refine kThen ?_
  refine kSeq ?_
  refine kRegion rfl ?_
  refine lV (yMove rfl) rfl rfl ?_
  refine lV (yMove rfl) rfl rfl ?_
  refine lV (yCall rfl (.c rfl (.c rfl .n)) C109 (fun w hw => indexSpan_any _ _ _ _ _ w l p hn hl (hs.eff0 hw) hf (fun w' hw' x hx => hc w' (by simpa using hw.trans hw') x hx))) rfl rfl ?_
  refine lV (yGeq rfl rfl) rfl rfl ?_
  refine lV (yAssign rfl) rfl rfl ?_
  refine lNil ?_
  refine kThen ?_
  refine kRet ?_
  refine fRet rfl (.t rfl .n) (endRet ?_)
  simp only [packV]; rw [idxP_ge]

set_option maxRecDepth 100000 in
theorem cloneSpan_any (l : List (Int × Int)) (hn : n = l.length) (hl : n ≤ 1000) (hs : SlE w a n 2 (errC l)) :
    Calls Try.prog 93 [.slice a n c].toArray w (RetX w (fun g => OS 2 g (l.map rowE)) (fun g => osV g (l.map rowE).length) (fun _ => []) (fun g => osL 24 g)) := by
  subst hn
  refine fEnter Try.func93 rfl Try.ntmps93 rfl ?_
  refine kSeq ?_
  refine kRegion rfl ?_
  refine lV (yAssign rfl) rfl rfl ?_
  refine lNil ?_
  refine kThen ?_
  refine kSeq ?_
  refine kSeq ?_
  refine kRegion rfl ?_
  refine lV (yMove rfl) rfl rfl ?_
  refine lV (yEqNilSl rfl U22) rfl rfl ?_
  refine lNil ?_
  refine kThen ?_
  refine splitB (t := 4) rfl (fun h4 => ?_) (fun h4 => ?_)
  · refine kIfT rfl ?_
    refine kSeq ?_
    refine kRegion rfl ?_
    refine lV (yAssign rfl) rfl rfl ?_
    refine lNil ?_
    refine kThen ?_
    refine kRet ?_
    refine kThenR ?_
    refine fRet rfl (.t rfl .n) ?_
    have h0 : l = [] := List.eq_nil_of_length_eq_zero (by rcases Nat.eq_zero_or_pos l.length with h | h; (· exact h); rw [hs.at_ h] at h4; cases h4)
    subst h0
    exact endX (.e none) OS.empty rfl rfl .n
  · refine kIfF rfl ?_
    refine kSkip ?_
    refine kThen ?_
    refine kSeq ?_
    refine kRegion rfl ?_
    refine lE rfl ?_
    refine eBuildSlice .n (fun w => BS22_0_ w) fun n5 => ?_
    refine lV (yMove rfl) rfl rfl ?_
    refine lE rfl ?_
    skip
    refine eAppend (gs := .b n5 0 []) (es := []) [] (l.map rowE) AP22 rfl rfl .r (OS.lit (es := []) (by simp) rfl (by simp)) (by simp) (rowsE_len l) (flatten_range (f := rowE) l (0, 0) ▸ SlN.sl hs.r) (rowsE_one l) (by simp; omega) (by simp; omega) fun g hg => ?_
    refine lV (yAssign rfl) rfl rfl ?_
    refine lNil ?_
    refine kThen ?_
    refine kRet ?_
    refine fRet rfl (.t rfl .n) ?_
    exact endX g (by simpa using hg) (by simp [packV]) rfl .r
end

set_option maxRecDepth 100000 in
theorem isScrew1_any (x : Int × Int) (w : World) : Calls Try.prog 89 [.agg (rowE x).toArray].toArray w (Ret w (.bool (!decide (spanOk (-100) 100 x)))) := by
  refine fEnter Try.func89 rfl Try.ntmps89 rfl ?_
  refine kSeq ?_
  refine kRegion rfl ?_
  refine lE rfl ?_
  refine eBoxA rfl fun n1 => ?_
  refine lV (yAssign rfl) rfl rfl ?_
  refine lNil ?_
  refine kThen ?_
  refine kSeq ?_
  refine kRegion rfl ?_
  refine lV (yLoadA (vs := [_, _]) rfl A24 (cOwn 0 rfl rfl)) rfl rfl ?_
  refine lV (yCall rfl (.c rfl (.c rfl (.c rfl .n))) C90 (fun w hw => isSpan_any _ _ _ _ w)) rfl rfl ?_
  refine lV (yNot rfl) rfl rfl ?_
  refine lV (yAssign rfl) rfl rfl ?_
  refine lNil ?_
  refine kThen ?_
  refine kRet ?_
  refine fRet rfl (.t rfl .n) (endRet ?_)
  rfl

set_option maxRecDepth 100000 in
theorem isReading_any (y : Loc) (m : Meas) (n : Int) (w : World) (hn : m.errs.length ≤ 1000000) : Calls Try.prog 66 [.agg (screwC y m).toArray, i64 n].toArray w (Ret w (.bool (decide (readOk m n)))) := by
  refine fEnter Try.func66 rfl Try.ntmps66 rfl ?_
  refine kSeq ?_
  refine kRegion rfl ?_
  refine lE rfl ?_
  refine eBoxA rfl fun n2 => ?_
  refine lV (yAssign rfl) rfl rfl ?_
  refine lNil ?_
  refine kThen ?_
  refine kSeq ?_
  refine kRegion rfl ?_
  refine lV (yMove rfl) rfl rfl ?_
  refine lV (yFieldAddr rfl F26_0) rfl rfl ?_
  refine lV (yLoad1 rfl O22 (cOwn 0 rfl rfl)) rfl rfl ?_
  refine lV (yLen rfl S22) rfl rfl ?_
  refine lV (yMul rfl rfl (by omega)) rfl rfl ?_
  refine lV (ySub rfl rfl (by omega)) rfl rfl ?_
  refine lV (yCall rfl (.c rfl (.c rfl (.c rfl .n))) C91 (fun w hw => within_any _ _ _ w)) rfl rfl ?_
  refine lV (yAssign rfl) rfl rfl ?_
  refine lNil ?_
  refine kThen ?_
  refine kRet ?_
  refine fRet rfl (.t rfl .n) (endRet ?_)
  rfl
theorem screw_val (m : Meas) (h : 1 ≤ (m.errs.length : Int) ∧ (m.errs.length : Int) ≤ 40) : (!((m.errs ++ [m.eye]).any fun x => !decide (spanOk (-100) 100 x))) = decide (ScrewOk m) := by
  rw [Bool.eq_iff_iff, Bool.not_eq_true', List.any_eq_false, decide_eq_true_eq]
  constructor
  · intro h1
    refine ⟨by omega, fun x hx => ?_, ?_⟩
    · simpa using h1 x (by simp [hx])
    · simpa using h1 m.eye (by simp)
  · intro h1 x hx
    rcases List.mem_append.1 hx with hx | hx
    · simpa using h1.e x hx
    · simp only [List.mem_singleton] at hx; subst hx; simpa using h1.y

set_option maxRecDepth 100000 in
theorem isScrew_any (y : Loc) (m : Meas) (w : World) (hm : SlE w y.ea m.errs.length 2 (errC m.errs)) : Calls Try.prog 65 [.agg (screwC y m).toArray].toArray w (Ret w (.bool (decide (ScrewOk m)))) := by
  have C89 : callT Try.prog 89 = true := C89
  refine fEnter Try.func65 rfl Try.ntmps65 rfl ?_
  refine kSeq ?_
  refine kRegion rfl ?_
  refine lE rfl ?_
  refine eBoxA rfl fun n1 => ?_
  refine lV (yAssign rfl) rfl rfl ?_
  refine lNil ?_
  refine kThen ?_
  refine kSeq ?_
  refine kRegion rfl ?_
  refine lV (yAssign rfl) rfl rfl ?_
  refine lNil ?_
  refine kThen ?_
  refine kSeq ?_
  by_cases hc : 1 ≤ (m.errs.length : Int) ∧ (m.errs.length : Int) ≤ 40
  · refine kDrawE [(1, none), (3, none), (6, none), (9, none)] [] [0, 1, 2, 3, 4, 5, 6, 8, 9, 12] 7 hMix (by kernel_rfl) ?_
    refine .run rfl (yFieldAddr rfl F26_0) rfl rfl ?_
    refine .run rfl (yLoad1 rfl O22 (cOwn 0 rfl rfl)) rfl rfl ?_
    refine .run rfl (yLen rfl S22) rfl rfl ?_
    refine .run rfl (yvIs (c := true) (yCall rfl (.c rfl (.c rfl (.c rfl .n))) C91 (fun w hw => within_any _ _ _ w)) (decide_eq_true hc)) rfl rfl ?_
    refine .run rfl (yMove rfl) rfl rfl ?_
    refine .runG rfl (yFieldAddr rfl F26_0) rfl rfl rfl rfl ?_
    refine .runG rfl (yLoad1 rfl O22 (cOwn 0 rfl rfl)) rfl rfl rfl rfl ?_
    refine .runG rfl (yFieldAddr rfl F26_1) rfl rfl rfl rfl ?_
    refine .runG rfl (yLoadA (vs := [_, _]) rfl A24 (cOwn 0 rfl rfl)) rfl rfl rfl rfl ?_
    refine .runG rfl (yMove rfl) rfl rfl rfl rfl ?_
    refine .done ?_
    refine effStep 7 [10] (by kernel_rfl) closedSt (hLeft [1, 3, 6, 9] (by kernel_rfl) (.c (fun _ _ hs => hs.ef) (.c (fun _ _ hs => hs.ef) (.c (fun _ _ hs => hs.ef) (.c (fun _ _ hs => hs.ef) .n))))) ?_
    refine (.c ?_ (.c ?_ .n))
    · refine effOne rfl (gYes rfl rfl rfl (fCallO rfl (.c rfl .n) C93 (fun w' hw => cloneSpan_any _ _ _ w' m.errs rfl (by omega) (hm.eff0 hw)))) ?_
      refine effStep 10 [] (by kernel_rfl) (closedEx fun g => closedSt) (hLeft [1, 9] (by kernel_rfl) (.c (fun _ _ ⟨g, hs⟩ => hs.ef.sub (.c 0 rfl .n)) (.c (fun _ _ ⟨g, hs⟩ => hs.ef.sub (.c 0 rfl .n)) .n))) ?_
      refine .c ?_ .n
      refine effOne rfl (opEx fun g => (gYes rfl rfl rfl (fBuildSlice (.c rfl .n) (fun w => BS22_1_0 w)))) ?_
      refine effStep 11 [] (by kernel_rfl) (closedEx fun g => (closedEx fun n14 => closedSt)) (hLeft [1] (by kernel_rfl) (.c (fun _ _ ⟨g, ⟨n14, hs⟩⟩ => hs.ef.sub (.c 1 rfl .n)) .n)) ?_
      refine .c ?_ .n
      refine effOne rfl (opEx fun g => (opEx fun n14 => (gYes rfl rfl rfl (fAppend (gs := g.1) [(n14, _), (n1, _)] [rowE m.eye] AP22 rfl rfl .r g.2 rfl (by simp) (SlN.own 0 rfl rfl) (by simp [rowE]; exact ⟨rfl, rfl⟩) (by simp; omega) (by simp; omega))))) ?_
      refine effStep 13 [] (by kernel_rfl) (closedEx fun g => (closedEx fun n14 => (closedEx fun h => closedSt))) (hLeft [1] (by kernel_rfl) (.c (fun _ _ ⟨g, ⟨n14, ⟨h, hs⟩⟩⟩ => hs.ef.sub (.c 1 rfl .n)) .n)) ?_
      refine .c ?_ .n
      refine effOne rfl (opEx fun g => (opEx fun n14 => (opEx fun h => (gYes rfl rfl rfl (fV (yCall rfl (.c rfl (.c rfl .n)) C92 (fun w hw => containsSpan_any _ _ _ _ _ w (m.errs ++ [m.eye]) (fun x => !decide (spanOk (-100) 100 x)) (by simp) (by simp; omega) ((OS.rowsE (f := rowE) (0, 0) (by simpa using h.2) hw (.d 0 (.d 0 .r))).congr (by simp) fun i _ => rfl) C89 (fun w' _ x _ => isScrew1_any x w'))) rfl))))) ?_
      refine effStep 14 [] (by kernel_rfl) (closedEx fun g => (closedEx fun n14 => (closedEx fun h => closedSt))) (hLeft [1] (by kernel_rfl) (.c (fun _ _ ⟨g, ⟨n14, ⟨h, hs⟩⟩⟩ => hs.ef.sub (.c 1 rfl .n)) .n)) ?_
      refine .c ?_ .n
      refine effOne rfl (opEx fun g => (opEx fun n14 => (opEx fun h => (gYes rfl rfl rfl (fV (yNot rfl) rfl))))) ?_
      refine effStep 15 [] (by kernel_rfl) (closedEx fun g => (closedEx fun n14 => (closedEx fun h => closedSt))) (hLeft [1] (by kernel_rfl) (.c (fun _ _ ⟨g, ⟨n14, ⟨h, hs⟩⟩⟩ => hs.ef.sub (.c 1 rfl .n)) .n)) ?_
      refine .c ?_ .n
      refine effOne rfl (opEx fun g => (opEx fun n14 => (opEx fun h => (gNone rfl (fV (yPickT rfl rfl) rfl))))) ?_
      refine effStep 16 [] (by kernel_rfl) (closedEx fun g => (closedEx fun n14 => (closedEx fun h => closedSt))) (hLeft [1] (by kernel_rfl) (.c (fun _ _ ⟨g, ⟨n14, ⟨h, hs⟩⟩⟩ => hs.ef.sub (.c 1 rfl .n)) .n)) ?_
      refine .c ?_ .n
      refine effOne rfl (opEx fun g => (opEx fun n14 => (opEx fun h => (gNone rfl (fV (yAssign rfl) rfl))))) ?_
      refine effDone (closedEx fun g => (closedEx fun n14 => (closedEx fun h => closedSt))) (hLeft [] (by kernel_rfl) .n) (by kernel_rfl) ?_
      refine trEx fun g => ?_
      refine trEx fun n14 => ?_
      refine trEx fun h => ?_
      refine kThen ?_
      refine kRet ?_
      refine fRet rfl (.t rfl .n) (endRet ?_)
      simp only [packV]
      rw [screw_val m hc]
    · refine effOne rfl (gYes rfl rfl rfl (fBuildSlice (.c rfl .n) (fun w => BS22_1_0 w))) ?_
      refine effStep 7 [] (by kernel_rfl) (closedEx fun n14 => closedSt) (hLeft [1, 6] (by kernel_rfl) (.c (fun _ _ ⟨n14, hs⟩ => hs.ef.sub (.c 1 rfl .n)) (.c (fun _ _ ⟨n14, hs⟩ => hs.ef.sub (.c 1 rfl .n)) .n))) ?_
      refine .c ?_ .n
      refine effOne rfl (opEx fun n14 => (gYes rfl rfl rfl (fCallO rfl (.c rfl .n) C93 (fun w' hw => cloneSpan_any _ _ _ w' m.errs rfl (by omega) (hm.eff0 hw))))) ?_
      refine effStep 11 [] (by kernel_rfl) (closedEx fun n14 => (closedEx fun g => closedSt)) (hLeft [1] (by kernel_rfl) (.c (fun _ _ ⟨n14, ⟨g, hs⟩⟩ => hs.ef.sub (.c 1 rfl .n)) .n)) ?_
      refine .c ?_ .n
      refine effOne rfl (opEx fun n14 => (opEx fun g => (gYes rfl rfl rfl (fAppend (gs := g.1) [(n14, _), (n1, _)] [rowE m.eye] AP22 rfl rfl .r g.2 rfl (by simp) (SlN.own 0 rfl rfl) (by simp [rowE]; exact ⟨rfl, rfl⟩) (by simp; omega) (by simp; omega))))) ?_
      refine effStep 13 [] (by kernel_rfl) (closedEx fun n14 => (closedEx fun g => (closedEx fun h => closedSt))) (hLeft [1] (by kernel_rfl) (.c (fun _ _ ⟨n14, ⟨g, ⟨h, hs⟩⟩⟩ => hs.ef.sub (.c 1 rfl .n)) .n)) ?_
      refine .c ?_ .n
      refine effOne rfl (opEx fun n14 => (opEx fun g => (opEx fun h => (gYes rfl rfl rfl (fV (yCall rfl (.c rfl (.c rfl .n)) C92 (fun w hw => containsSpan_any _ _ _ _ _ w (m.errs ++ [m.eye]) (fun x => !decide (spanOk (-100) 100 x)) (by simp) (by simp; omega) ((OS.rowsE (f := rowE) (0, 0) (by simpa using h.2) hw (.d 0 (.d 0 .r))).congr (by simp) fun i _ => rfl) C89 (fun w' _ x _ => isScrew1_any x w'))) rfl))))) ?_
      refine effStep 14 [] (by kernel_rfl) (closedEx fun n14 => (closedEx fun g => (closedEx fun h => closedSt))) (hLeft [1] (by kernel_rfl) (.c (fun _ _ ⟨n14, ⟨g, ⟨h, hs⟩⟩⟩ => hs.ef.sub (.c 1 rfl .n)) .n)) ?_
      refine .c ?_ .n
      refine effOne rfl (opEx fun n14 => (opEx fun g => (opEx fun h => (gYes rfl rfl rfl (fV (yNot rfl) rfl))))) ?_
      refine effStep 15 [] (by kernel_rfl) (closedEx fun n14 => (closedEx fun g => (closedEx fun h => closedSt))) (hLeft [1] (by kernel_rfl) (.c (fun _ _ ⟨n14, ⟨g, ⟨h, hs⟩⟩⟩ => hs.ef.sub (.c 1 rfl .n)) .n)) ?_
      refine .c ?_ .n
      refine effOne rfl (opEx fun n14 => (opEx fun g => (opEx fun h => (gNone rfl (fV (yPickT rfl rfl) rfl))))) ?_
      refine effStep 16 [] (by kernel_rfl) (closedEx fun n14 => (closedEx fun g => (closedEx fun h => closedSt))) (hLeft [1] (by kernel_rfl) (.c (fun _ _ ⟨n14, ⟨g, ⟨h, hs⟩⟩⟩ => hs.ef.sub (.c 1 rfl .n)) .n)) ?_
      refine .c ?_ .n
      refine effOne rfl (opEx fun n14 => (opEx fun g => (opEx fun h => (gNone rfl (fV (yAssign rfl) rfl))))) ?_
      refine effDone (closedEx fun n14 => (closedEx fun g => (closedEx fun h => closedSt))) (hLeft [] (by kernel_rfl) .n) (by kernel_rfl) ?_
      refine trEx fun n14 => ?_
      refine trEx fun g => ?_
      refine trEx fun h => ?_
      refine kThen ?_
      refine kRet ?_
      refine fRet rfl (.t rfl .n) (endRet ?_)
      simp only [packV]
      rw [screw_val m hc]
  · refine kDrawE [(1, none), (3, none)] [] [0, 1, 2, 3, 4, 5, 6, 8, 9, 12] 7 hMix (by kernel_rfl) ?_
    refine .run rfl (yFieldAddr rfl F26_0) rfl rfl ?_
    refine .run rfl (yLoad1 rfl O22 (cOwn 0 rfl rfl)) rfl rfl ?_
    refine .run rfl (yLen rfl S22) rfl rfl ?_
    refine .run rfl (yvIs (c := false) (yCall rfl (.c rfl (.c rfl (.c rfl .n))) C91 (fun w hw => within_any _ _ _ w)) (decide_eq_false hc)) rfl rfl ?_
    refine .run rfl (yMove rfl) rfl rfl ?_
    refine .skip rfl rfl rfl rfl rfl rfl ?_
    refine .skip rfl rfl rfl rfl rfl rfl ?_
    refine .skip rfl rfl rfl rfl rfl rfl ?_
    refine .skip rfl rfl rfl rfl rfl rfl ?_
    refine .skip rfl rfl rfl rfl rfl rfl ?_
    refine .done ?_
    refine effStep 7 [10] (by kernel_rfl) closedSt (hLeft [1, 3] (by kernel_rfl) (.c (fun _ _ hs => hs.ef) (.c (fun _ _ hs => hs.ef) .n))) ?_
    refine (.c ?_ (.c ?_ .n))
    · refine effOne rfl (gNo rfl rfl rfl rfl rfl) ?_
      refine effStep 10 [] (by kernel_rfl) closedSt (hLeft [1] (by kernel_rfl) (.c (fun _ _ hs => hs.ef) .n)) ?_
      refine .c ?_ .n
      refine effOne rfl (gNo rfl rfl rfl rfl rfl) ?_
      refine effStep 11 [] (by kernel_rfl) closedSt (hLeft [1] (by kernel_rfl) (.c (fun _ _ hs => hs.ef) .n)) ?_
      refine .c ?_ .n
      refine effOne rfl (gNo rfl rfl rfl rfl rfl) ?_
      refine effStep 13 [] (by kernel_rfl) closedSt (hLeft [1] (by kernel_rfl) (.c (fun _ _ hs => hs.ef) .n)) ?_
      refine .c ?_ .n
      refine effOne rfl (gNo rfl rfl rfl rfl rfl) ?_
      refine effStep 14 [] (by kernel_rfl) closedSt (hLeft [1] (by kernel_rfl) (.c (fun _ _ hs => hs.ef) .n)) ?_
      refine .c ?_ .n
      refine effOne rfl (gNo rfl rfl rfl rfl rfl) ?_
      refine effStep 15 [] (by kernel_rfl) closedSt (hLeft [1] (by kernel_rfl) (.c (fun _ _ hs => hs.ef) .n)) ?_
      refine .c ?_ .n
      refine effOne rfl (gNone rfl (fV (yPickF rfl rfl) rfl)) ?_
      refine effStep 16 [] (by kernel_rfl) closedSt (hLeft [1] (by kernel_rfl) (.c (fun _ _ hs => hs.ef) .n)) ?_
      refine .c ?_ .n
      refine effOne rfl (gNone rfl (fV (yAssign rfl) rfl)) ?_
      refine effDone closedSt (hLeft [] (by kernel_rfl) .n) (by kernel_rfl) ?_
      refine kThen ?_
      refine kRet ?_
      refine fRet rfl (.t rfl .n) (endRet ?_)
      simp only [packV]
      rw [decide_eq_false fun h : ScrewOk m => hc (by have := h.n; omega)]
    · refine effOne rfl (gNo rfl rfl rfl rfl rfl) ?_
      refine effStep 7 [] (by kernel_rfl) closedSt (hLeft [1] (by kernel_rfl) (.c (fun _ _ hs => hs.ef) .n)) ?_
      refine .c ?_ .n
      refine effOne rfl (gNo rfl rfl rfl rfl rfl) ?_
      refine effStep 11 [] (by kernel_rfl) closedSt (hLeft [1] (by kernel_rfl) (.c (fun _ _ hs => hs.ef) .n)) ?_
      refine .c ?_ .n
      refine effOne rfl (gNo rfl rfl rfl rfl rfl) ?_
      refine effStep 13 [] (by kernel_rfl) closedSt (hLeft [1] (by kernel_rfl) (.c (fun _ _ hs => hs.ef) .n)) ?_
      refine .c ?_ .n
      refine effOne rfl (gNo rfl rfl rfl rfl rfl) ?_
      refine effStep 14 [] (by kernel_rfl) closedSt (hLeft [1] (by kernel_rfl) (.c (fun _ _ hs => hs.ef) .n)) ?_
      refine .c ?_ .n
      refine effOne rfl (gNo rfl rfl rfl rfl rfl) ?_
      refine effStep 15 [] (by kernel_rfl) closedSt (hLeft [1] (by kernel_rfl) (.c (fun _ _ hs => hs.ef) .n)) ?_
      refine .c ?_ .n
      refine effOne rfl (gNone rfl (fV (yPickF rfl rfl) rfl)) ?_
      refine effStep 16 [] (by kernel_rfl) closedSt (hLeft [1] (by kernel_rfl) (.c (fun _ _ hs => hs.ef) .n)) ?_
      refine .c ?_ .n
      refine effOne rfl (gNone rfl (fV (yAssign rfl) rfl)) ?_
      refine effDone closedSt (hLeft [] (by kernel_rfl) .n) (by kernel_rfl) ?_
      refine kThen ?_
      refine kRet ?_
      refine fRet rfl (.t rfl .n) (endRet ?_)
      simp only [packV]
      rw [decide_eq_false fun h : ScrewOk m => hc (by have := h.n; omega)]
theorem notT {p : Prop} [Decidable p] (h : (!decide p) = true) : ¬ p := by simpa using h
theorem notF {p : Prop} [Decidable p] (h : (!decide p) = false) : p := by simpa using h
/-! ### Travel -/
abbrev outC (r : (Int × Int) × Int) : Value := .tuple [.agg [i64 r.1.1, i64 r.1.2].toArray, i64 r.2].toArray
def travelE (m : Meas) (n : Int) : (Int × Int) × Int := if ¬ ScrewOk m then ((0, 0), 1) else if ¬ readOk m n then ((0, 0), 2) else (travelP m n, 0)

set_option maxRecDepth 100000 in
theorem travelX_any (y : Loc) (m : Meas) (n : Int) (w : World) (hm : InM w y m) : Calls Try.prog 31 [.agg (screwC y m).toArray, i64 n].toArray w (Ret w (outC (travelE m n))) := by
  refine fEnter Try.func31 rfl Try.ntmps31 rfl ?_
  refine kSeq ?_
  refine kRegion rfl ?_
  refine lE rfl ?_
  refine eBoxA rfl fun n2 => ?_
  refine lE rfl ?_
  refine eAlloc Z24 fun n4 => ?_
  refine lV (yAssign rfl) rfl rfl ?_
  refine lNil ?_
  refine kThen ?_
  refine kSeq ?_
  refine kBlock ?_
  refine kSeq ?_
  refine kRegion rfl ?_
  refine lV (yLoadA (vs := [_, _, _]) rfl A26 (cOwn 1 rfl rfl)) rfl rfl ?_
  refine lV (yCall rfl (.c rfl .n) C65 (fun w hw => isScrew_any y m w (hm.eff hw).e)) rfl rfl ?_
  refine lV (yNot rfl) rfl rfl ?_
  refine lV (yAssign rfl) rfl rfl ?_
  refine lNil ?_
  refine kThen ?_
  refine splitB (t := 7) rfl (fun h7 => ?_) (fun h7 => ?_)
  · refine kIfT rfl ?_
    refine kSeq ?_
    refine kRegion rfl ?_
    refine lV (yBuild .n (fun w => B24_ w)) rfl rfl ?_
    refine lE rfl ?_
    refine eStoreL 0 rfl rfl rfl rfl K24 rfl (rfl) ?_
    refine lV (yAssign rfl) rfl rfl ?_
    refine lNil ?_
    refine kThen ?_
    refine kRet ?_
    refine kInR ?_
    refine kThenR ?_
    refine fRet rfl (.cA (us := [_, _]) rfl A24 (cOwn 0 rfl rfl) (.t rfl .n)) (endRet ?_)
    have h := notT h7
    simp only [packV, travelE, if_pos h]
  · refine kIfF rfl ?_
    refine kSeq ?_
    refine kRegion rfl ?_
    refine lV (yLoadA (vs := [_, _, _]) rfl A26 (cOwn 1 rfl rfl)) rfl rfl ?_
    refine lV (yMove rfl) rfl rfl ?_
    refine lV (yCall rfl (.c rfl (.c rfl .n)) C66 (fun w hw => isReading_any y m n w (by have := (notF h7).n; omega))) rfl rfl ?_
    refine lV (yNot rfl) rfl rfl ?_
    refine lV (yAssign rfl) rfl rfl ?_
    refine lNil ?_
    refine kThen ?_
    refine splitB (t := 12) rfl (fun h12 => ?_) (fun h12 => ?_)
    · refine kIfT rfl ?_
      refine kSeq ?_
      refine kRegion rfl ?_
      refine lV (yBuild .n (fun w => B24_ w)) rfl rfl ?_
      refine lE rfl ?_
      refine eStoreL 0 rfl rfl rfl rfl K24 rfl (rfl) ?_
      refine lV (yAssign rfl) rfl rfl ?_
      refine lNil ?_
      refine kThen ?_
      refine kRet ?_
      refine kInR ?_
      refine kThenR ?_
      refine fRet rfl (.cA (us := [_, _]) rfl A24 (cOwn 0 rfl rfl) (.t rfl .n)) (endRet ?_)
      have h := notF h7
      have h' := notT h12
      simp only [packV, travelE, if_neg (not_not_intro h), if_pos h']
    · refine kIfF rfl ?_
      refine kSkip ?_
      refine kInN ?_
      refine kThen ?_
      refine kSeq ?_
      refine kRegion rfl ?_
      refine lV (yLoadA (vs := [_, _, _]) rfl A26 (cOwn 1 rfl rfl)) rfl rfl ?_
      refine lV (yMove rfl) rfl rfl ?_
      refine lV (yCall rfl (.c rfl (.c rfl .n)) C67 (fun w hw => travel_any y m n w (hm.eff hw) (notF h7) (notF h12))) rfl rfl ?_
      refine lE rfl ?_
      refine eAlloc Z108 fun n6 => ?_
      refine lE rfl ?_
      refine eStoreL 0 rfl rfl rfl rfl K108 rfl (rfl) ?_
      refine lNil ?_
      refine kThen ?_
      refine kSeq ?_
      refine kRegion rfl ?_
      refine lV (yFieldAddr rfl F108_0) rfl rfl ?_
      refine lV (yLoad1 rfl O3 (cOwn 0 rfl rfl)) rfl rfl ?_
      refine lV (yFieldAddr rfl F108_1) rfl rfl ?_
      refine lV (yLoad1 rfl O3 (cOwn 0 rfl rfl)) rfl rfl ?_
      refine lV (yBuild (.c rfl (.c rfl .n)) (fun w => B24_0_1 w)) rfl rfl ?_
      refine lE rfl ?_
      refine eStoreL 1 rfl rfl rfl rfl K24 rfl (rfl) ?_
      refine lV (yAssign rfl) rfl rfl ?_
      refine lNil ?_
      refine kThen ?_
      refine kRet ?_
      refine fRet rfl (.cA (us := [_, _]) rfl A24 (cOwn 1 rfl rfl) (.t rfl .n)) (endRet ?_)
      have h := notF h7
      have h' := notF h12
      simp only [packV, travelE, if_neg (not_not_intro h), if_neg (not_not_intro h')]

end Go.Proofs.Ytiaaidcdoenloaa
