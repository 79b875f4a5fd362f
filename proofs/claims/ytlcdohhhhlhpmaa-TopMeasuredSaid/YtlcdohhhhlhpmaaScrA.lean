/-
  Texts Pure, Wa, Wb in one.
-/
import Derived.Test.YtlcdohhhhlhpmaaE2
import Derived.Test.YtlcdohhhhlhpmaaP0
namespace Go.Proofs.Ytlcdohhhhlhpmaa.Scr
open ZW

/-- A measure. -/
structure Meas where
  errs : List (Int × Int)
  eye : Int × Int
  images : Int
  sum : Int × Int
  sets : List (Int × Int × Bool)

/-- Where the slices of a measure lie. -/
structure Loc where
  ea : Option Addr
  ec : Nat
  sa : Option Addr
  sc : Nat

abbrev i64 (n : Int) : Value := .int .i64 n
abbrev errC (l : List (Int × Int)) (i : Nat) : List Value := [i64 (l.getD i (0, 0)).1, i64 (l.getD i (0, 0)).2]
abbrev setC (l : List (Int × Int × Bool)) (i : Nat) : List Value := [i64 (l.getD i (0, 0, false)).1, i64 (l.getD i (0, 0, false)).2.1, .bool (l.getD i (0, 0, false)).2.2]
abbrev screwC (y : Loc) (m : Meas) : List Value := [.slice y.ea m.errs.length y.ec, i64 m.eye.1, i64 m.eye.2]
abbrev measC (y : Loc) (m : Meas) : List Value := [.slice y.ea m.errs.length y.ec, i64 m.eye.1, i64 m.eye.2, i64 m.images, i64 m.sum.1, i64 m.sum.2, .slice y.sa m.sets.length y.sc]

/-- In this world the slices of a measure hold it. -/
structure InM (w : World) (y : Loc) (m : Meas) : Prop where
  e : SlE w y.ea m.errs.length 2 (errC m.errs)
  s : SlE w y.sa m.sets.length 3 (setC m.sets)
theorem InM.eff {w w' : World} {L : Heap} {y : Loc} {m : Meas} (h : InM w y m) (he : Eff w [] L w') : InM w' y m := ⟨h.e.eff0 he, h.s.eff0 he⟩

/-! ### What is valid -/
def spanOk (lo hi : Int) (s : Int × Int) : Prop := lo ≤ s.1 ∧ s.1 ≤ s.2 ∧ s.2 ≤ hi
instance (lo hi : Int) (s : Int × Int) : Decidable (spanOk lo hi s) := inferInstanceAs (Decidable (_ ∧ _))
structure ScrewOk (m : Meas) : Prop where
  n : 1 ≤ m.errs.length ∧ m.errs.length ≤ 40
  e : ∀ x ∈ m.errs, spanOk (-100) 100 x
  y : spanOk (-100) 100 m.eye
instance (m : Meas) : Decidable (ScrewOk m) := decidable_of_iff ((1 ≤ m.errs.length ∧ m.errs.length ≤ 40) ∧ (∀ x ∈ m.errs, spanOk (-100) 100 x) ∧ spanOk (-100) 100 m.eye) ⟨fun h => ⟨h.1, h.2.1, h.2.2⟩, fun h => ⟨h.n, h.e, h.y⟩⟩
def readOk (m : Meas) (n : Int) : Prop := 0 ≤ n ∧ n ≤ m.errs.length * 1000 - 1
instance (m : Meas) (n : Int) : Decidable (readOk m n) := inferInstanceAs (Decidable (_ ∧ _))
structure MeasOk (m : Meas) : Prop where
  s : ScrewOk m
  i : 1 ≤ m.images ∧ m.images ≤ 6
  u : spanOk 0 131072 m.sum
  n : m.sets.length ≤ 12
  a : ∀ x ∈ m.sets, (0 ≤ x.1 ∧ x.1 ≤ m.images - 1) ∧ readOk m x.2.1
instance (m : Meas) : Decidable (MeasOk m) := decidable_of_iff (ScrewOk m ∧ (1 ≤ m.images ∧ m.images ≤ 6) ∧ spanOk 0 131072 m.sum ∧ m.sets.length ≤ 12 ∧ ∀ x ∈ m.sets, (0 ≤ x.1 ∧ x.1 ≤ m.images - 1) ∧ readOk m x.2.1)
  ⟨fun h => ⟨h.1, h.2.1, h.2.2.1, h.2.2.2.1, h.2.2.2.2⟩, fun h => ⟨h.s, h.i, h.u, h.n, h.a⟩⟩

/-! ### Travels -/
def travelP (m : Meas) (n : Int) : Int × Int :=
  let e := m.errs.getD (n / 1000).toNat (0, 0)
  (n + e.1 + m.eye.1, n + e.2 + m.eye.2)

/-! ### Bounds -/
abbrev BMat := Nat → Nat → Int
def bCells (b : BMat) : List Value := (List.range 64).map fun k => i64 (b (k / 8) (k % 8))
def bUpd (b : BMat) (i k : Nat) (v : Int) : BMat := fun x y => if x = i ∧ y = k then v else b x y
def never : Int := 1099511627776
def freeP : BMat := fun i k => if i = k then 0 else never
def putP (b : BMat) (f t : Nat) (by_ : Int × Int) : BMat := bUpd (bUpd b f t (min (b f t) by_.2)) t f (min (b t f) (-by_.1))
/-- A setting: its image, what it tells, and whether the plate lay the other way round. -/
abbrev Told := Nat × (Int × Int) × Bool
def tellP (b : BMat) (t : Told) : BMat := if t.2.2 then putP b (2 + t.1) 1 t.2.1 else putP b 0 (2 + t.1) t.2.1
def toldP (m : Meas) : List Told := m.sets.map fun x => (x.1.toNat, travelP m x.2.1, x.2.2)
def stepP (by_ : Nat) (b : BMat) (i k : Nat) : BMat := if b i by_ < never ∧ b by_ k < never then bUpd b i k (min (b i k) (b i by_ + b by_ k)) else b
def rowP (by_ : Nat) (b : BMat) (i n : Nat) : BMat := (List.range n).foldl (fun b k => stepP by_ b i k) b
def roundP (b : BMat) (by_ n : Nat) : BMat := (List.range n).foldl (fun b i => rowP by_ b i 8) b
def closeP (b : BMat) (n : Nat) : BMat := (List.range n).foldl (fun b j => roundP b j 8) b
def tellsP (b : BMat) (l : List Told) (s n : Nat) : BMat := (List.range n).foldl (fun b i => if s.testBit i then tellP b (l.getD i (0, (0, 0), false)) else b) b
def tightB (m : Meas) (s : Nat) : BMat := closeP (tellsP (putP freeP 0 1 m.sum) (toldP m) s m.sets.length) 8
def diagOk (b : BMat) : Prop := ∀ i, i < 8 → 0 ≤ b i i
instance (b : BMat) : Decidable (diagOk b) := inferInstanceAs (Decidable (∀ i, i < 8 → 0 ≤ b i i))

theorem range_foldl_succ {α : Type} (f : α → Nat → α) (x : α) (n : Nat) : (List.range (n + 1)).foldl f x = f ((List.range n).foldl f x) n := by
  rw [List.range_succ, List.foldl_append]; rfl

theorem bCells_length (b : BMat) : (bCells b).length = 64 := by simp [bCells]
theorem bCells_get (b : BMat) {n : Nat} (h : n < 64) : (bCells b)[n]? = some (i64 (b (n / 8) (n % 8))) := by
  simp [bCells, h]
theorem sub_one : ∀ (l : List Value) (n : Nat) (v : Value), l[n]? = some v → sub l n 1 = some [v]
  | [], n, v, h => by simp at h
  | x :: l, 0, v, h => by simp at h; subst h; simp [sub]
  | x :: l, n + 1, v, h => by simpa [sub] using sub_one l n v (by simpa using h)
theorem sub_all : ∀ (l : List Value), sub l 0 l.length = some l
  | [] => by simp [sub]
  | x :: l => by simp [sub, sub_all l]
theorem wr_one : ∀ (l : List Value) (n : Nat) (v : Value), wr l n [v] = l.set n v
  | [], n, v => by simp [wr]
  | x :: l, 0, v => by simp [wr, wr_nil]
  | x :: l, n + 1, v => by simp [wr, wr_one l n v]
theorem wr_all : ∀ (l vs : List Value), vs.length = l.length → wr l 0 vs = vs
  | [], [], _ => by simp [wr]
  | [], _ :: _, h => by simp at h
  | _ :: _, [], h => by simp at h
  | x :: l, v :: vs, h => by simp [wr, wr_all l vs (by simpa using h)]
theorem bSub (b : BMat) {i k : Nat} (hi : i < 8) (hk : k < 8) : sub (bCells b) (0 + i * 8 + k * 1) 1 = some [i64 (b i k)] := by
  refine sub_one _ _ _ ?_
  rw [bCells_get b (by omega)]
  rw [show (0 + i * 8 + k * 1) / 8 = i from by omega, show (0 + i * 8 + k * 1) % 8 = k from by omega]
theorem bWr (b : BMat) {i k : Nat} (hi : i < 8) (hk : k < 8) (v : Int) : wr (bCells b) (0 + i * 8 + k * 1) [i64 v] = bCells (bUpd b i k v) := by
  rw [wr_one]
  refine List.ext_getElem? fun n => ?_
  rw [List.getElem?_set]
  by_cases hn : n < 64
  · rw [bCells_get (bUpd b i k v) hn, bCells_length]
    have h2 : 0 + i * 8 + k * 1 < 64 := by omega
    rw [if_pos h2]
    split
    · rename_i h; subst h
      simp only [bUpd, show (0 + i * 8 + k * 1) / 8 = i from by omega, show (0 + i * 8 + k * 1) % 8 = k from by omega, and_self, if_true]
    · rename_i h
      rw [bCells_get _ hn]
      have : ¬ (n / 8 = i ∧ n % 8 = k) := fun hc => h (by omega)
      simp [bUpd, this]
  · rw [if_neg (by omega), List.getElem?_eq_none (by rw [bCells_length]; omega), List.getElem?_eq_none (by rw [bCells_length]; omega)]
theorem bSubAll (b : BMat) : sub (bCells b) 0 (bCells b).length = some (bCells b) := sub_all _
theorem bWrAll (l : List Value) (b : BMat) (h : l.length = 64) : wr l 0 (bCells b) = bCells b := wr_all _ _ (by rw [bCells_length, h])
theorem bWrB (c b : BMat) : wr (bCells c) 0 (bCells b) = bCells b := wr_all _ _ (by simp [bCells_length])
/-- The bounds that all are nought. -/
def zeroB : BMat := fun _ _ => 0
theorem bCells_congr {b c : BMat} (h : ∀ i k, i < 8 → k < 8 → b i k = c i k) : bCells b = bCells c := by
  unfold bCells
  refine List.map_congr_left fun n hn => ?_
  have := List.mem_range.1 hn
  rw [h (n / 8) (n % 8) (by omega) (by omega)]
theorem bCell {b : BMat} {w : World} {nb : Nat} {e : TypeId} (h : w.heap[nb]? = some (blk (bCells b) e)) {i k : Nat} (hi : i < 8) (hk : k < 8) : w.cell? ⟨nb, 0 + i * 8 + k * 1, none⟩ = some (i64 (b i k)) := by
  rw [cell_blk h, bCells_get b (by omega)]
  rw [show (0 + i * 8 + k * 1) / 8 = i from by omega, show (0 + i * 8 + k * 1) % 8 = k from by omega]
theorem bFits {l : List Value} (hl : l.length = 64) {i k : Nat} (hi : i < 8) (hk : k < 8) : Nat.ble (0 + i * 8 + k * 1 + 1) l.length = true := by
  rw [hl]; simp; omega

/-! ### How far bounds go -/
def Bd (A : Int) (b : BMat) : Prop := ∀ i k, i < 8 → k < 8 → -A ≤ b i k ∧ b i k ≤ never
/-- In a round: what has been gone through (rows less than r, and of row r the first s) and what has not. -/
structure RInv (j : Nat) (A : Int) (r s : Nat) (b : BMat) : Prop where
  all : ∀ i k, i < 8 → k < 8 → -(6 * A) ≤ b i k ∧ b i k ≤ never
  row : ∀ k, k < 8 → -(3 * A) ≤ b j k
  col : ∀ i, i < 8 → -(3 * A) ≤ b i j
  mid : -(2 * A) ≤ b j j
  old : ∀ i k, i < 8 → k < 8 → (r < i ∨ r = i ∧ s ≤ k) → -A ≤ b i k
theorem RInv.start {j : Nat} {A : Int} {b : BMat} (hA : 0 ≤ A) (hj : j < 8) (h : Bd A b) : RInv j A 0 0 b :=
  ⟨fun i k hi hk => by have := h i k hi hk; omega, fun k hk => by have := h j k hj hk; omega, fun i hi => by have := h i j hi hj; omega, by have := h j j hj hj; omega, fun i k hi hk _ => (h i k hi hk).1⟩
theorem RInv.next {j : Nat} {A : Int} {r : Nat} {b : BMat} (h : RInv j A r 8 b) : RInv j A (r + 1) 0 b :=
  ⟨h.all, h.row, h.col, h.mid, fun i k hi hk hik => h.old i k hi hk (by omega)⟩
theorem RInv.step {j : Nat} {A : Int} {r s : Nat} {b : BMat} (_ : 0 ≤ A) (_ : j < 8) (hr : r < 8) (hs : s < 8) (h : RInv j A r s b) : RInv j A r (s + 1) (stepP j b r s) := by
  unfold stepP
  by_cases hc : b r j < never ∧ b j s < never
  · rw [if_pos hc]
    have h1 := h.all r s hr hs
    have h2 := h.row s hs
    have h3 := h.col r hr
    have h4 := h.mid
    have h5 := h.old r s hr hs (by omega)
    refine ⟨fun i k hi hk => ?_, fun k hk => ?_, fun i hi => ?_, ?_, fun i k hi hk hik => ?_⟩
    · have := h.all i k hi hk
      unfold bUpd; split <;> omega
    · have := h.row k hk
      unfold bUpd; split
      · rename_i he
        obtain ⟨rfl, rfl⟩ := he
        omega
      · omega
    · have := h.col i hi
      unfold bUpd; split
      · rename_i he
        obtain ⟨rfl, rfl⟩ := he
        omega
      · omega
    · unfold bUpd; split
      · rename_i he
        obtain ⟨rfl, rfl⟩ := he
        omega
      · omega
    · have := h.old i k hi hk (by omega)
      unfold bUpd; rw [if_neg (by omega)]; omega
  · rw [if_neg hc]
    exact ⟨h.all, h.row, h.col, h.mid, fun i k hi hk hik => h.old i k hi hk (by omega)⟩
theorem rowP_succ (j : Nat) (b : BMat) (i n : Nat) : rowP j b i (n + 1) = stepP j (rowP j b i n) i n := range_foldl_succ _ _ _
theorem roundP_succ (b : BMat) (j n : Nat) : roundP b j (n + 1) = rowP j (roundP b j n) n 8 := range_foldl_succ _ _ _
theorem closeP_succ (b : BMat) (n : Nat) : closeP b (n + 1) = roundP (closeP b n) n 8 := range_foldl_succ _ _ _
theorem RInv.rowP {j : Nat} {A : Int} {r : Nat} {b : BMat} (hA : 0 ≤ A) (hj : j < 8) (hr : r < 8) (h : RInv j A r 0 b) : ∀ n, n ≤ 8 → RInv j A r n (rowP j b r n)
  | 0, _ => h
  | n + 1, hn => by rw [rowP_succ]; exact (RInv.rowP hA hj hr h n (by omega)).step hA hj hr (by omega)
theorem RInv.roundP {j : Nat} {A : Int} {b : BMat} (hA : 0 ≤ A) (hj : j < 8) (h : Bd A b) : ∀ n, n ≤ 8 → RInv j A n 0 (roundP b j n)
  | 0, _ => .start hA hj h
  | n + 1, hn => by rw [roundP_succ]; exact ((RInv.roundP hA hj h n (by omega)).rowP hA hj (by omega) 8 (Nat.le_refl _)).next
theorem Bd.roundP {j : Nat} {A : Int} {b : BMat} (hA : 0 ≤ A) (hj : j < 8) (h : Bd A b) : Bd (6 * A) (roundP b j 8) := fun i k hi hk => (RInv.roundP hA hj h 8 (Nat.le_refl _)).all i k hi hk
theorem Bd.closeP {A : Int} {b : BMat} (hA : 0 ≤ A) (h : Bd A b) : ∀ n, n ≤ 8 → Bd (6 ^ n * A) (closeP b n)
  | 0, _ => by simpa [Go.Proofs.Ytlcdohhhhlhpmaa.Scr.closeP] using h
  | n + 1, hn => by
    rw [closeP_succ]
    have := Bd.roundP (j := n) (Int.mul_nonneg (Int.pow_nonneg (by omega)) hA) (by omega) (Bd.closeP hA h n (by omega))
    rw [show (6 : Int) ^ (n + 1) * A = 6 * (6 ^ n * A) from by rw [Int.pow_succ]; rw [Int.mul_comm (6 ^ n) 6, Int.mul_assoc]]
    exact this
end Go.Proofs.Ytlcdohhhhlhpmaa.Scr
namespace Go.Proofs.Ytlcdohhhhlhpmaa.Scr
open ZW

set_option maxRecDepth 100000 in
theorem within_any (n a b : Int) (w : World) : Calls Try.prog 120 [.int .i64 n, .int .i64 a, .int .i64 b].toArray w (Ret w (.bool (decide (a ≤ n ∧ n ≤ b)))) := by
  refine fEnter Try.func120 rfl Try.ntmps120 rfl ?_
  refine kSeq ?_
  refine kRegion rfl ?_
  refine lV (yAssign rfl) rfl rfl ?_
  refine lNil ?_
  refine kThen ?_
  refine kSeq ?_
  refine kRegion rfl ?_
  refine lV (yMove rfl) rfl rfl ?_
  refine lV (yMove rfl) rfl rfl ?_
  refine lV (yLeq rfl rfl) rfl rfl ?_
  refine lV (yMove rfl) rfl rfl ?_
  refine split (t := 10) rfl (fun h10 => ?_) (fun h10 => ?_)
  · refine lGY rfl rfl rfl (oV (yMove rfl) rfl ?_)
    refine lGY rfl rfl rfl (oV (yMove rfl) rfl ?_)
    refine lGY rfl rfl rfl (oV (yLeq rfl rfl) rfl ?_)
    refine lV (yPickT rfl rfl) rfl rfl ?_
    refine lV (yAssign rfl) rfl rfl ?_
    refine lNil ?_
    refine kThen ?_
    refine kRet ?_
    refine fRet rfl (.t rfl .n) (endRet ?_)
    simp [packV, *]
  · refine lGN rfl rfl rfl rfl rfl ?_
    refine lGN rfl rfl rfl rfl rfl ?_
    refine lGN rfl rfl rfl rfl rfl ?_
    refine lV (yPickF rfl rfl) rfl rfl ?_
    refine lV (yAssign rfl) rfl rfl ?_
    refine lNil ?_
    refine kThen ?_
    refine kRet ?_
    refine fRet rfl (.t rfl .n) (endRet ?_)
    simp [packV, *]

set_option maxRecDepth 100000 in
theorem isSpan_any (lo hi a b : Int) (w : World) : Calls Try.prog 143 [.agg [.int .i64 lo, .int .i64 hi].toArray, .int .i64 a, .int .i64 b].toArray w (Ret w (.bool (decide (a ≤ lo ∧ lo ≤ hi ∧ hi ≤ b)))) := by
  refine fEnter Try.func143 rfl Try.ntmps143 rfl ?_
  refine kSeq ?_
  refine kRegion rfl ?_
  refine lE rfl ?_
  refine eBoxA rfl fun n3 => ?_
  refine lV (yAssign rfl) rfl rfl ?_
  refine lNil ?_
  refine kThen ?_
  refine kSeq ?_
  refine kRegion rfl ?_
  refine lV (yMove rfl) rfl rfl ?_
  refine lV (yFieldAddr rfl F23_0) rfl rfl ?_
  refine lV (yLoad1 rfl O3 (cOwn 0 rfl rfl)) rfl rfl ?_
  refine lV (yLeq rfl rfl) rfl rfl ?_
  refine lV (yMove rfl) rfl rfl ?_
  refine split (t := 11) rfl (fun h11 => ?_) (fun h11 => ?_)
  · refine lGY rfl rfl rfl (oV (yFieldAddr rfl F23_0) rfl ?_)
    refine lGY rfl rfl rfl (oV (yLoad1 rfl O3 (cOwn 0 rfl rfl)) rfl ?_)
    refine lGY rfl rfl rfl (oV (yFieldAddr rfl F23_1) rfl ?_)
    refine lGY rfl rfl rfl (oV (yLoad1 rfl O3 (cOwn 0 rfl rfl)) rfl ?_)
    refine lGY rfl rfl rfl (oV (yLeq rfl rfl) rfl ?_)
    refine lV (yPickT rfl rfl) rfl rfl ?_
    refine lV (yMove rfl) rfl rfl ?_
    refine split (t := 18) rfl (fun h18 => ?_) (fun h18 => ?_)
    · refine lGY rfl rfl rfl (oV (yFieldAddr rfl F23_1) rfl ?_)
      refine lGY rfl rfl rfl (oV (yLoad1 rfl O3 (cOwn 0 rfl rfl)) rfl ?_)
      refine lGY rfl rfl rfl (oV (yMove rfl) rfl ?_)
      refine lGY rfl rfl rfl (oV (yLeq rfl rfl) rfl ?_)
      refine lV (yPickT rfl rfl) rfl rfl ?_
      refine lV (yAssign rfl) rfl rfl ?_
      refine lNil ?_
      refine kThen ?_
      refine kRet ?_
      refine fRet rfl (.t rfl .n) (endRet ?_)
      simp [packV, *]
    · refine lGN rfl rfl rfl rfl rfl ?_
      refine lGN rfl rfl rfl rfl rfl ?_
      refine lGN rfl rfl rfl rfl rfl ?_
      refine lGN rfl rfl rfl rfl rfl ?_
      refine lV (yPickF rfl rfl) rfl rfl ?_
      refine lV (yAssign rfl) rfl rfl ?_
      refine lNil ?_
      refine kThen ?_
      refine kRet ?_
      refine fRet rfl (.t rfl .n) (endRet ?_)
      simp [packV, *]
  · refine lGN rfl rfl rfl rfl rfl ?_
    refine lGN rfl rfl rfl rfl rfl ?_
    refine lGN rfl rfl rfl rfl rfl ?_
    refine lGN rfl rfl rfl rfl rfl ?_
    refine lGN rfl rfl rfl rfl rfl ?_
    refine lV (yPickF rfl rfl) rfl rfl ?_
    refine lV (yMove rfl) rfl rfl ?_
    refine lGN rfl rfl rfl rfl rfl ?_
    refine lGN rfl rfl rfl rfl rfl ?_
    refine lGN rfl rfl rfl rfl rfl ?_
    refine lGN rfl rfl rfl rfl rfl ?_
    refine lV (yPickF rfl rfl) rfl rfl ?_
    refine lV (yAssign rfl) rfl rfl ?_
    refine lNil ?_
    refine kThen ?_
    refine kRet ?_
    refine fRet rfl (.t rfl .n) (endRet ?_)
    simp [packV, *]

/-- The sum of some spans. -/
def sumTo (l : List (Int × Int)) (n : Nat) : Int × Int := (List.range n).foldl (fun s i => (s.1 + (l.getD i (0, 0)).1, s.2 + (l.getD i (0, 0)).2)) (0, 0)
theorem sumTo_succ (l : List (Int × Int)) (n : Nat) : sumTo l (n + 1) = ((sumTo l n).1 + (l.getD n (0, 0)).1, (sumTo l n).2 + (l.getD n (0, 0)).2) := range_foldl_succ _ _ _
def small (x : Int) : Prop := -1000000000000 ≤ x ∧ x ≤ 1000000000000
theorem getD_mem {α : Type} {l : List α} {i : Nat} (h : i < l.length) (d : α) : l.getD i d ∈ l := by
  rw [← List.getElem_eq_getD (h := h)]; exact List.getElem_mem h
theorem sumTo_small {l : List (Int × Int)} (h : ∀ x ∈ l, small x.1 ∧ small x.2) : ∀ n, n ≤ l.length → -1000000000000 * n ≤ (sumTo l n).1 ∧ (sumTo l n).1 ≤ 1000000000000 * n ∧ -1000000000000 * n ≤ (sumTo l n).2 ∧ (sumTo l n).2 ≤ 1000000000000 * n
  | 0, _ => by simp [sumTo]
  | n + 1, hn => by
    have ih := sumTo_small h n (by omega)
    have hx := h _ (getD_mem (l := l) (i := n) (by omega) (0, 0))
    rw [sumTo_succ]
    unfold small at hx
    simp only
    omega

set_option maxRecDepth 100000 in
theorem total_any (a : Option Addr) (c : Nat) (l : List (Int × Int)) (w : World) (hs : SlE w a l.length 2 (errC l)) (hl : ∀ x ∈ l, small x.1 ∧ small x.2) (hn : l.length ≤ 100) :
    Calls Try.prog 146 [.slice a l.length c].toArray w (Ret w (.agg [i64 (sumTo l l.length).1, i64 (sumTo l l.length).2].toArray)) := by
  refine fEnter Try.func146 rfl Try.ntmps146 rfl ?_
  refine kSeq ?_
  refine kRegion rfl ?_
  refine lE rfl ?_
  refine eAlloc Z171 fun n2 => ?_
  refine lNil ?_
  refine kThen ?_
  refine kSeq ?_
  refine kSeq ?_
  refine kRegion rfl ?_
  refine lV (yMove rfl) rfl rfl ?_
  refine lV (yLen rfl S70) rfl rfl ?_
  refine lV (yMove rfl) rfl rfl ?_
  refine lNil ?_
  refine kThen ?_
  refine kBlock ?_
  refine kLoopX (ι := Nat × Int × Int) (fun x => x.1 ≤ l.length ∧ x.2 = sumTo l x.1) (fun x => [(7, i64 (x.1 : Nat))]) [(0, _), (2, _), (5, _), (6, _)] (fun x => []) (fun x => [(n2, blk [i64 x.2.1, i64 x.2.2] 171)]) [] (fun x => l.length - x.1) (0, 0, 0) (⟨Nat.zero_le _, rfl⟩) rfl (.c rfl .n) (.c rfl (.c rfl (.c rfl (.c rfl .n)))) (.c 0 rfl .n) ?_
  rintro ⟨i, s1, s2⟩ ⟨hi, hs2⟩
  dsimp only at hi hs2 ⊢
  refine kSeq ?_
  refine kRegion rfl ?_
  refine lV (yLss rfl rfl) rfl rfl ?_
  refine lNil ?_
  refine kThen ?_
  refine kSeq ?_
  refine split (t := 8) rfl (fun h8 => ?_) (fun h8 => ?_)
  · refine kIfT rfl ?_
    refine kSkip ?_
    refine kThen ?_
    refine kSeq ?_
    refine kBlock ?_
    refine kSeq ?_
    refine kRegion rfl ?_
    refine lV (yIndexS  rfl rfl S70 (hs.r) ((by omega))) rfl rfl ?_
    refine lV (yLoadA (vs := [_, _]) rfl A23 (cSl0 (hs.r) ((by omega)) rfl)) rfl rfl ?_
    refine lE rfl ?_
    refine eAlloc Z23 fun n4 => ?_
    refine lE rfl ?_
    refine eStoreL 0 rfl rfl rfl rfl K23 rfl (rfl) ?_
    refine lNil ?_
    refine kThen ?_
    refine kDrawE [(1, none), (3, none), (6, none), (8, some [0])] [] [0, 1, 2, 3, 4, 5, 6, 7, 8, 9, 10, 12] 2 hMix (by kernel_rfl) ?_
    refine .run rfl (yFieldAddr rfl F171_0) rfl rfl ?_
    refine .run rfl (yLoad1 rfl O3 (cOwn 1 rfl rfl)) rfl rfl ?_
    refine .run rfl (yFieldAddr rfl F23_0) rfl rfl ?_
    refine .run rfl (yLoad1 rfl O3 (cOwn 0 rfl rfl)) rfl rfl ?_
    refine .run rfl (yAdd rfl rfl (by have := sumTo_small hl (i + 1) (by omega); rw [sumTo_succ, ← hs2] at this; dsimp only at this; omega)) rfl rfl ?_
    refine .run rfl (yFieldAddr rfl F171_1) rfl rfl ?_
    refine .run rfl (yLoad1 rfl O3 (cOwn 1 rfl rfl)) rfl rfl ?_
    refine .run rfl (yFieldAddr rfl F23_1) rfl rfl ?_
    refine .run rfl (yLoad1 rfl O3 (cOwn 0 rfl rfl)) rfl rfl ?_
    refine .run rfl (yAdd rfl rfl (by have := sumTo_small hl (i + 1) (by omega); rw [sumTo_succ, ← hs2] at this; dsimp only at this; omega)) rfl rfl ?_
    refine .run rfl (yFieldAddr rfl F171_0) rfl rfl ?_
    refine .run rfl (yFieldAddr rfl F171_1) rfl rfl ?_
    refine .done ?_
    refine effStep 11 [] (by kernel_rfl) closedSt (hLeft [1, 3, 6, 8] (by kernel_rfl) (.c (fun _ _ hs => hs.ef) (.c (fun _ _ hs => hs.ef) (.c (fun _ _ hs => hs.ef) (.c (fun _ _ hs => hs.ef.sub (.c 0 rfl .n)) .n))))) ?_
    refine .c ?_ .n
    refine effOne rfl (gNone rfl (fStoreL 1 rfl rfl rfl rfl K3 rfl (rfl))) ?_
    refine effStep 13 [] (by kernel_rfl) closedSt (hLeft [8] (by kernel_rfl) (.c (fun _ _ hs => hs.ef.sub (.c 0 rfl .n)) .n)) ?_
    refine .c ?_ .n
    refine effOne rfl (gNone rfl (fStoreL 1 rfl rfl rfl rfl K3 rfl (rfl))) ?_
    refine effDone closedSt (hLeft [] (by kernel_rfl) .n) (by kernel_rfl) ?_
    refine kInN ?_
    refine kThen ?_
    refine kRegion rfl ?_
    refine lV (yAdd rfl rfl (by omega)) rfl rfl ?_
    refine lV (yMove rfl) rfl rfl ?_
    refine lNil ?_
    exact kRoundX (i + 1, _, _) (⟨by dsimp only; omega, by rw [sumTo_succ, ← hs2]⟩) (by dsimp only; omega) rfl (.c rfl .n) (.c rfl (.c rfl (.c rfl (.c rfl .n)))) (.c 1 rfl .n)
  · refine kIfF rfl ?_
    refine kExit ?_
    refine kThenX ?_
    refine kThenX ?_
    refine kInX ?_
    refine kThen ?_
    refine kSeq ?_
    refine kRegion rfl ?_
    refine lV (yLoadA (vs := [_, _]) rfl A171 (cOwn 0 rfl rfl)) rfl rfl ?_
    refine lE rfl ?_
    refine eStoreL 0 rfl rfl rfl rfl K171 rfl (rfl) ?_
    refine lNil ?_
    refine kThen ?_
    refine kRet ?_
    refine fRet rfl (.cA (us := [_, _]) rfl A171 (cOwn 0 rfl rfl) .n) (endRet ?_)
    obtain rfl : i = l.length := by omega
    rw [← hs2]; rfl

theorem small_100 {s : Int × Int} (h : spanOk (-100) 100 s) : small s.1 ∧ small s.2 := by unfold spanOk at h; unfold small; omega
theorem readOk_lt {m : Meas} {n : Int} (h : readOk m n) : (n / 1000).toNat < m.errs.length ∧ n / 1000 = ((n / 1000).toNat : Int) := by unfold readOk at h; omega
theorem sum3 (n : Int) (x y : Int × Int) : sumTo [(n, n), x, y] 3 = (n + x.1 + y.1, n + x.2 + y.2) := by simp [sumTo, List.range, List.range.loop]

set_option maxRecDepth 100000 in
theorem travel_any (y : Loc) (m : Meas) (n : Int) (w : World) (hm : InM w y m) (hs : ScrewOk m) (hn : readOk m n) :
    Calls Try.prog 135 [.agg (screwC y m).toArray, i64 n].toArray w (Ret w (.agg [i64 (travelP m n).1, i64 (travelP m n).2].toArray)) := by
  have hk := readOk_lt hn
  have hn0 : 0 ≤ n ∧ n ≤ 9223372036854775807 := by unfold readOk at hn; have := hs.n; omega
  refine fEnter Try.func135 rfl Try.ntmps135 rfl ?_
  refine kSeq ?_
  refine kRegion rfl ?_
  refine lE rfl ?_
  refine eBoxA rfl fun n2 => ?_
  refine lE rfl ?_
  refine eAlloc Z171 fun n4 => ?_
  refine lNil ?_
  refine kThen ?_
  refine kSeq ?_
  refine kDrawE [(4, none), (7, none), (8, none), (10, none)] [] [0, 1, 2, 3, 4, 5, 6, 7, 8, 9, 10] 3 hMix (by kernel_rfl) ?_
  refine .run rfl (yMove rfl) rfl rfl ?_
  refine .run rfl (yMove rfl) rfl rfl ?_
  refine .run rfl (yBuild (.c rfl (.c rfl .n)) (fun w => B23_0_1 w)) rfl rfl ?_
  refine .run rfl (yFieldAddr rfl F72_0) rfl rfl ?_
  refine .run rfl (yLoad1 rfl O70 (cOwn 1 rfl rfl)) rfl rfl ?_
  refine .run rfl (yMove rfl) rfl rfl ?_
  refine .run rfl (yvSame (u := i64 ((n / 1000).toNat : Nat)) (yQuo rfl rfl (by omega) (by omega) (by omega)) (by rw [← hk.2])) rfl rfl ?_
  refine .run rfl (yIndexS  rfl rfl S70 (hm.e.r) (hk.1)) rfl rfl ?_
  refine .run rfl (yLoadA (vs := [_, _]) rfl A23 (cSl0 (hm.e.r) (hk.1) rfl)) rfl rfl ?_
  refine .run rfl (yFieldAddr rfl F72_1) rfl rfl ?_
  refine .run rfl (yLoadA (vs := [_, _]) rfl A23 (cOwn 1 rfl rfl)) rfl rfl ?_
  refine .done ?_
  refine effStep 11 [] (by kernel_rfl) closedSt (hLeft [4, 7, 8, 10] (by kernel_rfl) (.c (fun _ _ hs => hs.ef) (.c (fun _ _ hs => hs.ef) (.c (fun _ _ hs => hs.ef) (.c (fun _ _ hs => hs.ef) .n))))) ?_
  refine .c ?_ .n
  refine effOne rfl (gNone rfl (fBuildSlice (.c rfl (.c rfl (.c rfl .n))) (fun w => BS70_3_0_1_2 w))) ?_
  refine effStep 12 [] (by kernel_rfl) (closedEx fun n16 => closedSt) (hLeft [] (by kernel_rfl) .n) ?_
  refine .c ?_ .n
  refine effOne rfl (opEx fun n16 => (gNone rfl (fV (yCall rfl (.c rfl .n) C146 (fun w hw => total_any _ 3 [(n, n), m.errs.getD (n / 1000).toNat (0, 0), m.eye] w (sleRows (f := fun x => [i64 x.1, i64 x.2]) (fun _ => rfl) (0, 0) _ rfl (hw.blkAt 0 rfl)) (by
  intro x hx
  simp only [List.mem_cons, List.not_mem_nil, or_false] at hx
  rcases hx with rfl | rfl | rfl
  · unfold readOk at hn; have := hs.n; unfold small; omega
  · exact small_100 (hs.e _ (getD_mem hk.1 _))
  · exact small_100 hs.y) (by simp))) rfl))) ?_
  refine effStep 13 [] (by kernel_rfl) (closedEx fun n16 => closedSt) (hLeft [] (by kernel_rfl) .n) ?_
  refine .c ?_ .n
  refine effOne rfl (opEx fun n16 => (gNone rfl (fStoreL 1 rfl rfl rfl rfl K171 rfl (rfl)))) ?_
  refine effDone (closedEx fun n16 => closedSt) (hLeft [] (by kernel_rfl) .n) (by kernel_rfl) ?_
  refine trEx fun n16 => ?_
  refine kThen ?_
  refine kRet ?_
  refine fRet rfl (.cA (us := [_, _]) rfl A171 (cOwn 1 rfl rfl) .n) (endRet ?_)
  simp only [packV]
  rw [show ([(n, n), m.errs.getD (n / 1000).toNat (0, 0), m.eye] : List (Int × Int)).length = 3 from rfl, sum3]
  rfl

end Go.Proofs.Ytlcdohhhhlhpmaa.Scr
namespace Go.Proofs.Ytlcdohhhhlhpmaa.Scr
open ZW

abbrev rowE (x : Int × Int) : List Value := [i64 x.1, i64 x.2]
abbrev rowS (x : Int × Int × Bool) : List Value := [i64 x.1, i64 x.2.1, .bool x.2.2]

theorem rowsE_len (l : List (Int × Int)) : ∀ x ∈ l.map rowE, x.length = 2 := by
  intro x hx; obtain ⟨y, _, rfl⟩ := List.mem_map.1 hx; rfl
theorem rowsE_one (l : List (Int × Int)) : ∀ x ∈ l.map rowE, ∀ u ∈ x, u.oneCell' = true := by
  intro x hx u hu; obtain ⟨y, _, rfl⟩ := List.mem_map.1 hx
  simp only [rowE, List.mem_cons, List.not_mem_nil, or_false] at hu
  rcases hu with rfl | rfl <;> rfl

/-- Where the first one is of which something is so; -1: nowhere. -/
def idxP {α : Type} (p : α → Bool) (l : List α) : Int := match l.findIdx? p with
  | some i => (i : Int)
  | none => -1
theorem idxP_none {α : Type} {p : α → Bool} {l : List α} (d : α) (h : ∀ j, j < l.length → p (l.getD j d) = false) : idxP p l = -1 := by
  have : l.findIdx? p = none := by
    rw [List.findIdx?_eq_none_iff]
    intro x hx
    obtain ⟨j, hj, rfl⟩ := List.mem_iff_getElem.1 hx
    have := h j hj
    rw [← List.getElem_eq_getD (h := hj)] at this
    exact this
  simp [idxP, this]
theorem idxP_some {α : Type} {p : α → Bool} {l : List α} {i : Nat} (d : α) (hi : i < l.length) (hp : p (l.getD i d) = true) (h : ∀ j, j < i → p (l.getD j d) = false) : idxP p l = i := by
  have : l.findIdx? p = some i := by
    rw [List.findIdx?_eq_some_iff_getElem]
    refine ⟨hi, by rw [← List.getElem_eq_getD (h := hi)] at hp; exact hp, fun j hj => ?_⟩
    have h1 := h j hj
    rw [← List.getElem_eq_getD (h := by omega)] at h1
    simp [h1]
  simp [idxP, this]
theorem idxP_ge {α : Type} (p : α → Bool) (l : List α) : decide (idxP p l ≥ 0) = l.any p := by
  by_cases h : l.any p = true
  · rw [h]
    obtain ⟨i, hi, hp⟩ : ∃ i, l.findIdx? p = some i ∧ True := by
      cases hf : l.findIdx? p with
      | some i => exact ⟨i, rfl, trivial⟩
      | none =>
        rw [List.findIdx?_eq_none_iff] at hf
        rw [List.any_eq_true] at h
        obtain ⟨x, hx, hp⟩ := h
        rw [hf x hx] at hp; cases hp
    simp [idxP, hi]
  · have h' : l.any p = false := by simpa using h
    rw [h']
    have hf : l.findIdx? p = none := by
      rw [List.findIdx?_eq_none_iff]
      intro x hx
      rw [List.any_eq_false] at h'
      simpa using h' x hx
    simp [idxP, hf]

section
variable (a : Option Addr) (c n : Nat) (F : FuncId) (caps : List Value) (w : World)

set_option maxRecDepth 100000 in
theorem indexSpan_any (l : List (Int × Int)) (p : Int × Int → Bool) (hn : n = l.length) (hl : n ≤ 1000000) (hs : SlE w a n 2 (errC l)) (hf : callT Try.prog F = true)
    (hc : ∀ w', Eff w [] [] w' → ∀ x ∈ l, Calls Try.prog F ([Value.agg (rowE x).toArray] ++ caps).toArray w' (Ret w' (.bool (p x)))) :
    Calls Try.prog 154 [.slice a n c, .func (.func F) [].toArray caps.toArray].toArray w (Ret w (i64 (idxP p l))) := by
  subst hn
  refine fEnter Try.func154 rfl Try.ntmps154 rfl ?_
  refine kSeq ?_
  refine kRegion rfl ?_
  refine lV (yAssign rfl) rfl rfl ?_
  refine lNil ?_
  refine kThen ?_
  refine kSeq ?_
  refine kSeq ?_
  refine kRegion rfl ?_
  refine lV (yMove rfl) rfl rfl ?_
  refine lV (yLen rfl S70) rfl rfl ?_
  refine lV (yMove rfl) rfl rfl ?_
  refine lNil ?_
  refine kThen ?_
  refine kBlock ?_
  refine kLoopX (ι := Nat) (fun i => i ≤ l.length ∧ ∀ j, j < i → p (l.getD j (0, 0)) = false) (fun i => [(8, i64 (i : Nat))]) [(0, _), (1, _), (6, _), (7, _)] (fun i => []) (fun i => []) [] (fun i => l.length - i) 0 (⟨Nat.zero_le _, fun j hj => absurd hj (by omega)⟩) rfl (.c rfl .n) (.c rfl (.c rfl (.c rfl (.c rfl .n)))) .n ?_
  rintro i ⟨hi, hj⟩
  refine kSeq ?_
  refine kRegion rfl ?_
  refine lV (yLss rfl rfl) rfl rfl ?_
  refine lNil ?_
  refine kThen ?_
  refine kSeq ?_
  refine split (t := 9) rfl (fun h9 => ?_) (fun h9 => ?_)
  · refine kIfT rfl ?_
    refine kSkip ?_
    refine kThen ?_
    refine kSeq ?_
    refine kBlock ?_
    refine kSeq ?_
    refine kRegion rfl ?_
    refine lV (yMove rfl) rfl rfl ?_
    refine lV (yAssign rfl) rfl rfl ?_
    refine lNil ?_
    refine kThen ?_
    refine kSeq ?_
    refine kRegion rfl ?_
    refine lV (yMove rfl) rfl rfl ?_
    refine lV (yMove rfl) rfl rfl ?_
    refine lV (yMove rfl) rfl rfl ?_
    refine lV (yIndexS  rfl rfl S70 (hs.r) ((by omega))) rfl rfl ?_
    refine lV (yLoadA (vs := [_, _]) rfl A23 (cSl0 (hs.r) ((by omega)) rfl)) rfl rfl ?_
    refine lV (yCall (us := []) (cs := caps) rfl (.c rfl .n) hf (fun w' hw => hc w' (hw.forget (List.nil_sublist _)) _ (getD_mem (i := i) (by omega) (0, 0)))) rfl rfl ?_
    refine lNil ?_
    refine kThen ?_
    refine splitB (t := 16) rfl (fun h16 => ?_) (fun h16 => ?_)
    · refine kIfT rfl ?_
      refine kSeq ?_
      refine kRegion rfl ?_
      refine lV (yMove rfl) rfl rfl ?_
      refine lV (yAssign rfl) rfl rfl ?_
      refine lNil ?_
      refine kThen ?_
      refine kRet ?_
      refine kInR ?_
      refine kThenR ?_
      refine kThenR ?_
      refine kInR ?_
      refine kThenR ?_
      refine fRet rfl (.t rfl .n) (endRet ?_)
      simp only [packV]; rw [idxP_some (0, 0) (by omega) h16 hj]
    · refine kIfF rfl ?_
      refine kSkip ?_
      refine kInN ?_
      refine kThen ?_
      refine kRegion rfl ?_
      refine lV (yAdd rfl rfl (by omega)) rfl rfl ?_
      refine lV (yMove rfl) rfl rfl ?_
      refine lNil ?_
      exact kRoundX (i + 1) (⟨by omega, fun j hl => by rcases Nat.lt_or_ge j i with h | h; (· exact hj j h); (obtain rfl : j = i := by omega); exact h16⟩) (by omega) rfl (.c rfl .n) (.c rfl (.c rfl (.c rfl (.c rfl .n)))) .n
  · refine kIfF rfl ?_
    refine kExit ?_
    refine kThenX ?_
    refine kThenX ?_
    refine kInX ?_
    refine kThen ?_
    refine kSeq ?_
    refine kRegion rfl ?_
    refine lV (yAssign rfl) rfl rfl ?_
    refine lNil ?_
    refine kThen ?_
    refine kRet ?_
    refine fRet rfl (.t rfl .n) (endRet ?_)
    simp only [packV]; rw [idxP_none (0, 0) fun j hl => hj j (by omega)]
set_option maxRecDepth 100000 in
theorem containsSpan_any (l : List (Int × Int)) (p : Int × Int → Bool) (hn : n = l.length) (hl : n ≤ 1000000) (hs : SlE w a n 2 (errC l)) (hf : callT Try.prog F = true)
    (hc : ∀ w', Eff w [] [] w' → ∀ x ∈ l, Calls Try.prog F ([Value.agg (rowE x).toArray] ++ caps).toArray w' (Ret w' (.bool (p x)))) :
    Calls Try.prog 150 [.slice a n c, .func (.func F) [].toArray caps.toArray].toArray w (Ret w (.bool (l.any p))) := by
  refine fEnter Try.func150 rfl Try.ntmps150 rfl ?_
  refine kSeq ?_
  refine kRegion rfl ?_
  refine lV (yAssign rfl) rfl rfl ?_
  refine lNil ?_
  refine kThen ?_
  refine kSeq ?_
  refine kRegion rfl ?_
  refine lV (yMove rfl) rfl rfl ?_
  refine lV (yMove rfl) rfl rfl ?_
  refine lV (yCall rfl (.c rfl (.c rfl .n)) C154 (fun w hw => indexSpan_any _ _ _ _ _ w l p hn hl (hs.eff0 hw) hf (fun w' hw' x hx => hc w' (by simpa using hw.trans hw') x hx))) rfl rfl ?_
  refine lV (yGeq rfl rfl) rfl rfl ?_
  refine lV (yAssign rfl) rfl rfl ?_
  refine lNil ?_
  refine kThen ?_
  refine kRet ?_
  refine fRet rfl (.t rfl .n) (endRet ?_)
  simp only [packV]; rw [idxP_ge]

set_option maxRecDepth 100000 in
theorem indexSet_any (l : List (Int × Int × Bool)) (p : Int × Int × Bool → Bool) (hn : n = l.length) (hl : n ≤ 1000000) (hs : SlE w a n 3 (setC l)) (hf : callT Try.prog F = true)
    (hc : ∀ w', Eff w [] [] w' → ∀ x ∈ l, Calls Try.prog F ([Value.agg (rowS x).toArray] ++ caps).toArray w' (Ret w' (.bool (p x)))) :
    Calls Try.prog 152 [.slice a n c, .func (.func F) [].toArray caps.toArray].toArray w (Ret w (i64 (idxP p l))) := by
  subst hn
  refine fEnter Try.func152 rfl Try.ntmps152 rfl ?_
  refine kSeq ?_
  refine kRegion rfl ?_
  refine lV (yAssign rfl) rfl rfl ?_
  refine lNil ?_
  refine kThen ?_
  refine kSeq ?_
  refine kSeq ?_
  refine kRegion rfl ?_
  refine lV (yMove rfl) rfl rfl ?_
  refine lV (yLen rfl S73) rfl rfl ?_
  refine lV (yMove rfl) rfl rfl ?_
  refine lNil ?_
  refine kThen ?_
  refine kBlock ?_
  refine kLoopX (ι := Nat) (fun i => i ≤ l.length ∧ ∀ j, j < i → p (l.getD j (0, 0, false)) = false) (fun i => [(8, i64 (i : Nat))]) [(0, _), (1, _), (6, _), (7, _)] (fun i => []) (fun i => []) [] (fun i => l.length - i) 0 (⟨Nat.zero_le _, fun j hj => absurd hj (by omega)⟩) rfl (.c rfl .n) (.c rfl (.c rfl (.c rfl (.c rfl .n)))) .n ?_
  rintro i ⟨hi, hj⟩
  refine kSeq ?_
  refine kRegion rfl ?_
  refine lV (yLss rfl rfl) rfl rfl ?_
  refine lNil ?_
  refine kThen ?_
  refine kSeq ?_
  refine split (t := 9) rfl (fun h9 => ?_) (fun h9 => ?_)
  · refine kIfT rfl ?_
    refine kSkip ?_
    refine kThen ?_
    refine kSeq ?_
    refine kBlock ?_
    refine kSeq ?_
    refine kRegion rfl ?_
    refine lV (yMove rfl) rfl rfl ?_
    refine lV (yAssign rfl) rfl rfl ?_
    refine lNil ?_
    refine kThen ?_
    refine kSeq ?_
    refine kRegion rfl ?_
    refine lV (yMove rfl) rfl rfl ?_
    refine lV (yMove rfl) rfl rfl ?_
    refine lV (yMove rfl) rfl rfl ?_
    refine lV (yIndexS  rfl rfl S73 (hs.r) ((by omega))) rfl rfl ?_
    refine lV (yLoadA (vs := [_, _, _]) rfl A78 (cSl0 (hs.r) ((by omega)) rfl)) rfl rfl ?_
    refine lV (yCall (us := []) (cs := caps) rfl (.c rfl .n) hf (fun w' hw => hc w' (hw.forget (List.nil_sublist _)) _ (getD_mem (i := i) (by omega) (0, 0, false)))) rfl rfl ?_
    refine lNil ?_
    refine kThen ?_
    refine splitB (t := 16) rfl (fun h16 => ?_) (fun h16 => ?_)
    · refine kIfT rfl ?_
      refine kSeq ?_
      refine kRegion rfl ?_
      refine lV (yMove rfl) rfl rfl ?_
      refine lV (yAssign rfl) rfl rfl ?_
      refine lNil ?_
      refine kThen ?_
      refine kRet ?_
      refine kInR ?_
      refine kThenR ?_
      refine kThenR ?_
      refine kInR ?_
      refine kThenR ?_
      refine fRet rfl (.t rfl .n) (endRet ?_)
      simp only [packV]; rw [idxP_some (0, 0, false) (by omega) h16 hj]
    · refine kIfF rfl ?_
      refine kSkip ?_
      refine kInN ?_
      refine kThen ?_
      refine kRegion rfl ?_
      refine lV (yAdd rfl rfl (by omega)) rfl rfl ?_
      refine lV (yMove rfl) rfl rfl ?_
      refine lNil ?_
      exact kRoundX (i + 1) (⟨by omega, fun j hl => by rcases Nat.lt_or_ge j i with h | h; (· exact hj j h); (obtain rfl : j = i := by omega); exact h16⟩) (by omega) rfl (.c rfl .n) (.c rfl (.c rfl (.c rfl (.c rfl .n)))) .n
  · refine kIfF rfl ?_
    refine kExit ?_
    refine kThenX ?_
    refine kThenX ?_
    refine kInX ?_
    refine kThen ?_
    refine kSeq ?_
    refine kRegion rfl ?_
    refine lV (yAssign rfl) rfl rfl ?_
    refine lNil ?_
    refine kThen ?_
    refine kRet ?_
    refine fRet rfl (.t rfl .n) (endRet ?_)
    simp only [packV]; rw [idxP_none (0, 0, false) fun j hl => hj j (by omega)]
set_option maxRecDepth 100000 in
theorem containsSet_any (l : List (Int × Int × Bool)) (p : Int × Int × Bool → Bool) (hn : n = l.length) (hl : n ≤ 1000000) (hs : SlE w a n 3 (setC l)) (hf : callT Try.prog F = true)
    (hc : ∀ w', Eff w [] [] w' → ∀ x ∈ l, Calls Try.prog F ([Value.agg (rowS x).toArray] ++ caps).toArray w' (Ret w' (.bool (p x)))) :
    Calls Try.prog 145 [.slice a n c, .func (.func F) [].toArray caps.toArray].toArray w (Ret w (.bool (l.any p))) := by
  refine fEnter Try.func145 rfl Try.ntmps145 rfl ?_
  refine kSeq ?_
  refine kRegion rfl ?_
  refine lV (yAssign rfl) rfl rfl ?_
  refine lNil ?_
  refine kThen ?_
  refine kSeq ?_
  refine kRegion rfl ?_
  refine lV (yMove rfl) rfl rfl ?_
  refine lV (yMove rfl) rfl rfl ?_
  refine lV (yCall rfl (.c rfl (.c rfl .n)) C152 (fun w hw => indexSet_any _ _ _ _ _ w l p hn hl (hs.eff0 hw) hf (fun w' hw' x hx => hc w' (by simpa using hw.trans hw') x hx))) rfl rfl ?_
  refine lV (yGeq rfl rfl) rfl rfl ?_
  refine lV (yAssign rfl) rfl rfl ?_
  refine lNil ?_
  refine kThen ?_
  refine kRet ?_
  refine fRet rfl (.t rfl .n) (endRet ?_)
  simp only [packV]; rw [idxP_ge]

set_option maxRecDepth 100000 in
theorem cloneSpan_any (l : List (Int × Int)) (hn : n = l.length) (hl : n ≤ 1000) (hs : SlE w a n 2 (errC l)) :
    Calls Try.prog 151 [.slice a n c].toArray w (RetX w (fun g => OS 2 g (l.map rowE)) (fun g => osV g (l.map rowE).length) (fun _ => []) (fun g => osL 23 g)) := by
  subst hn
  refine fEnter Try.func151 rfl Try.ntmps151 rfl ?_
  refine kSeq ?_
  refine kRegion rfl ?_
  refine lV (yAssign rfl) rfl rfl ?_
  refine lNil ?_
  refine kThen ?_
  refine kSeq ?_
  refine kSeq ?_
  refine kRegion rfl ?_
  refine lV (yMove rfl) rfl rfl ?_
  refine lV (yEqNilSl rfl U70) rfl rfl ?_
  refine lNil ?_
  refine kThen ?_
  refine splitB (t := 4) rfl (fun h4 => ?_) (fun h4 => ?_)
  · refine kIfT rfl ?_
    refine kSeq ?_
    refine kRegion rfl ?_
    refine lV (yAssign rfl) rfl rfl ?_
    refine lNil ?_
    refine kThen ?_
    refine kRet ?_
    refine kThenR ?_
    refine fRet rfl (.t rfl .n) ?_
    have h0 : l = [] := List.eq_nil_of_length_eq_zero (by rcases Nat.eq_zero_or_pos l.length with h | h; (· exact h); rw [hs.at_ h] at h4; cases h4)
    subst h0
    exact endX (.e none) OS.empty rfl rfl .n
  · refine kIfF rfl ?_
    refine kSkip ?_
    refine kThen ?_
    refine kSeq ?_
    refine kRegion rfl ?_
    refine lE rfl ?_
    refine eBuildSlice .n (fun w => BS70_0_ w) fun n5 => ?_
    refine lV (yMove rfl) rfl rfl ?_
    refine lE rfl ?_
    skip
    refine eAppend (gs := .b n5 0 []) (es := []) [] (l.map rowE) AP70 rfl rfl .r (OS.lit (es := []) (by simp) rfl (by simp)) (by simp) (rowsE_len l) (flatten_range (f := rowE) l (0, 0) ▸ SlN.sl hs.r) (rowsE_one l) (by simp; omega) (by simp; omega) fun g hg => ?_
    refine lV (yAssign rfl) rfl rfl ?_
    refine lNil ?_
    refine kThen ?_
    refine kRet ?_
    refine fRet rfl (.t rfl .n) ?_
    exact endX g (by simpa using hg) (by simp [packV]) rfl .r
end

set_option maxRecDepth 100000 in
theorem isScrew1_any (x : Int × Int) (w : World) : Calls Try.prog 149 [.agg (rowE x).toArray].toArray w (Ret w (.bool (!decide (spanOk (-100) 100 x)))) := by
  refine fEnter Try.func149 rfl Try.ntmps149 rfl ?_
  refine kSeq ?_
  refine kRegion rfl ?_
  refine lE rfl ?_
  refine eBoxA rfl fun n1 => ?_
  refine lV (yAssign rfl) rfl rfl ?_
  refine lNil ?_
  refine kThen ?_
  refine kSeq ?_
  refine kRegion rfl ?_
  refine lV (yLoadA (vs := [_, _]) rfl A23 (cOwn 0 rfl rfl)) rfl rfl ?_
  refine lV (yCall rfl (.c rfl (.c rfl (.c rfl .n))) C143 (fun w hw => isSpan_any _ _ _ _ w)) rfl rfl ?_
  refine lV (yNot rfl) rfl rfl ?_
  refine lV (yAssign rfl) rfl rfl ?_
  refine lNil ?_
  refine kThen ?_
  refine kRet ?_
  refine fRet rfl (.t rfl .n) (endRet ?_)
  rfl

set_option maxRecDepth 100000 in
theorem isReading_any (y : Loc) (m : Meas) (n : Int) (w : World) (hn : m.errs.length ≤ 1000000) : Calls Try.prog 142 [.agg (screwC y m).toArray, i64 n].toArray w (Ret w (.bool (decide (readOk m n)))) := by
  refine fEnter Try.func142 rfl Try.ntmps142 rfl ?_
  refine kSeq ?_
  refine kRegion rfl ?_
  refine lE rfl ?_
  refine eBoxA rfl fun n2 => ?_
  refine lV (yAssign rfl) rfl rfl ?_
  refine lNil ?_
  refine kThen ?_
  refine kSeq ?_
  refine kRegion rfl ?_
  refine lV (yMove rfl) rfl rfl ?_
  refine lV (yFieldAddr rfl F72_0) rfl rfl ?_
  refine lV (yLoad1 rfl O70 (cOwn 0 rfl rfl)) rfl rfl ?_
  refine lV (yLen rfl S70) rfl rfl ?_
  refine lV (yMul rfl rfl (by omega)) rfl rfl ?_
  refine lV (ySub rfl rfl (by omega)) rfl rfl ?_
  refine lV (yCall rfl (.c rfl (.c rfl (.c rfl .n))) C120 (fun w hw => within_any _ _ _ w)) rfl rfl ?_
  refine lV (yAssign rfl) rfl rfl ?_
  refine lNil ?_
  refine kThen ?_
  refine kRet ?_
  refine fRet rfl (.t rfl .n) (endRet ?_)
  rfl
theorem screw_val (m : Meas) (h : 1 ≤ (m.errs.length : Int) ∧ (m.errs.length : Int) ≤ 40) : (!((m.errs ++ [m.eye]).any fun x => !decide (spanOk (-100) 100 x))) = decide (ScrewOk m) := by
  rw [Bool.eq_iff_iff, Bool.not_eq_true', List.any_eq_false, decide_eq_true_eq]
  constructor
  · intro h1
    refine ⟨by omega, fun x hx => ?_, ?_⟩
    · simpa using h1 x (by simp [hx])
    · simpa using h1 m.eye (by simp)
  · intro h1 x hx
    rcases List.mem_append.1 hx with hx | hx
    · simpa using h1.e x hx
    · simp only [List.mem_singleton] at hx; subst hx; simpa using h1.y

set_option maxRecDepth 100000 in
theorem isScrew_any (y : Loc) (m : Meas) (w : World) (hm : SlE w y.ea m.errs.length 2 (errC m.errs)) : Calls Try.prog 144 [.agg (screwC y m).toArray].toArray w (Ret w (.bool (decide (ScrewOk m)))) := by
  have C149 : callT Try.prog 149 = true := C149
  refine fEnter Try.func144 rfl Try.ntmps144 rfl ?_
  refine kSeq ?_
  refine kRegion rfl ?_
  refine lE rfl ?_
  refine eBoxA rfl fun n1 => ?_
  refine lV (yAssign rfl) rfl rfl ?_
  refine lNil ?_
  refine kThen ?_
  refine kSeq ?_
  refine kRegion rfl ?_
  refine lV (yAssign rfl) rfl rfl ?_
  refine lNil ?_
  refine kThen ?_
  refine kSeq ?_
  by_cases hc : 1 ≤ (m.errs.length : Int) ∧ (m.errs.length : Int) ≤ 40
  · refine kDrawE [(1, none), (3, none), (6, none), (9, none)] [] [0, 1, 2, 3, 4, 5, 6, 8, 9, 12] 7 hMix (by kernel_rfl) ?_
    refine .run rfl (yFieldAddr rfl F72_0) rfl rfl ?_
    refine .run rfl (yLoad1 rfl O70 (cOwn 0 rfl rfl)) rfl rfl ?_
    refine .run rfl (yLen rfl S70) rfl rfl ?_
    refine .run rfl (yvIs (c := true) (yCall rfl (.c rfl (.c rfl (.c rfl .n))) C120 (fun w hw => within_any _ _ _ w)) (decide_eq_true hc)) rfl rfl ?_
    refine .run rfl (yMove rfl) rfl rfl ?_
    refine .runG rfl (yFieldAddr rfl F72_0) rfl rfl rfl rfl ?_
    refine .runG rfl (yLoad1 rfl O70 (cOwn 0 rfl rfl)) rfl rfl rfl rfl ?_
    refine .runG rfl (yFieldAddr rfl F72_1) rfl rfl rfl rfl ?_
    refine .runG rfl (yLoadA (vs := [_, _]) rfl A23 (cOwn 0 rfl rfl)) rfl rfl rfl rfl ?_
    refine .runG rfl (yMove rfl) rfl rfl rfl rfl ?_
    refine .done ?_
    refine effStep 7 [10] (by kernel_rfl) closedSt (hLeft [1, 3, 6, 9] (by kernel_rfl) (.c (fun _ _ hs => hs.ef) (.c (fun _ _ hs => hs.ef) (.c (fun _ _ hs => hs.ef) (.c (fun _ _ hs => hs.ef) .n))))) ?_
    refine (.c ?_ (.c ?_ .n))
    · refine effOne rfl (gYes rfl rfl rfl (fCallO rfl (.c rfl .n) C151 (fun w' hw => cloneSpan_any _ _ _ w' m.errs rfl (by omega) (hm.eff0 hw)))) ?_
      refine effStep 10 [] (by kernel_rfl) (closedEx fun g => closedSt) (hLeft [1, 9] (by kernel_rfl) (.c (fun _ _ ⟨g, hs⟩ => hs.ef.sub (.c 0 rfl .n)) (.c (fun _ _ ⟨g, hs⟩ => hs.ef.sub (.c 0 rfl .n)) .n))) ?_
      refine .c ?_ .n
      refine effOne rfl (opEx fun g => (gYes rfl rfl rfl (fBuildSlice (.c rfl .n) (fun w => BS70_1_0 w)))) ?_
      refine effStep 11 [] (by kernel_rfl) (closedEx fun g => (closedEx fun n14 => closedSt)) (hLeft [1] (by kernel_rfl) (.c (fun _ _ ⟨g, ⟨n14, hs⟩⟩ => hs.ef.sub (.c 1 rfl .n)) .n)) ?_
      refine .c ?_ .n
      refine effOne rfl (opEx fun g => (opEx fun n14 => (gYes rfl rfl rfl (fAppend (gs := g.1) [(n14, _), (n1, _)] [rowE m.eye] AP70 rfl rfl .r g.2 rfl (by simp) (SlN.own 0 rfl rfl) (by simp [rowE]; exact ⟨rfl, rfl⟩) (by simp; omega) (by simp; omega))))) ?_
      refine effStep 13 [] (by kernel_rfl) (closedEx fun g => (closedEx fun n14 => (closedEx fun h => closedSt))) (hLeft [1] (by kernel_rfl) (.c (fun _ _ ⟨g, ⟨n14, ⟨h, hs⟩⟩⟩ => hs.ef.sub (.c 1 rfl .n)) .n)) ?_
      refine .c ?_ .n
      refine effOne rfl (opEx fun g => (opEx fun n14 => (opEx fun h => (gYes rfl rfl rfl (fV (yCall rfl (.c rfl (.c rfl .n)) C150 (fun w hw => containsSpan_any _ _ _ _ _ w (m.errs ++ [m.eye]) (fun x => !decide (spanOk (-100) 100 x)) (by simp) (by simp; omega) ((OS.rowsE (f := rowE) (0, 0) (by simpa using h.2) hw (.d 0 (.d 0 .r))).congr (by simp) fun i _ => rfl) C149 (fun w' _ x _ => isScrew1_any x w'))) rfl))))) ?_
      refine effStep 14 [] (by kernel_rfl) (closedEx fun g => (closedEx fun n14 => (closedEx fun h => closedSt))) (hLeft [1] (by kernel_rfl) (.c (fun _ _ ⟨g, ⟨n14, ⟨h, hs⟩⟩⟩ => hs.ef.sub (.c 1 rfl .n)) .n)) ?_
      refine .c ?_ .n
      refine effOne rfl (opEx fun g => (opEx fun n14 => (opEx fun h => (gYes rfl rfl rfl (fV (yNot rfl) rfl))))) ?_
      refine effStep 15 [] (by kernel_rfl) (closedEx fun g => (closedEx fun n14 => (closedEx fun h => closedSt))) (hLeft [1] (by kernel_rfl) (.c (fun _ _ ⟨g, ⟨n14, ⟨h, hs⟩⟩⟩ => hs.ef.sub (.c 1 rfl .n)) .n)) ?_
      refine .c ?_ .n
      refine effOne rfl (opEx fun g => (opEx fun n14 => (opEx fun h => (gNone rfl (fV (yPickT rfl rfl) rfl))))) ?_
      refine effStep 16 [] (by kernel_rfl) (closedEx fun g => (closedEx fun n14 => (closedEx fun h => closedSt))) (hLeft [1] (by kernel_rfl) (.c (fun _ _ ⟨g, ⟨n14, ⟨h, hs⟩⟩⟩ => hs.ef.sub (.c 1 rfl .n)) .n)) ?_
      refine .c ?_ .n
      refine effOne rfl (opEx fun g => (opEx fun n14 => (opEx fun h => (gNone rfl (fV (yAssign rfl) rfl))))) ?_
      refine effDone (closedEx fun g => (closedEx fun n14 => (closedEx fun h => closedSt))) (hLeft [] (by kernel_rfl) .n) (by kernel_rfl) ?_
      refine trEx fun g => ?_
      refine trEx fun n14 => ?_
      refine trEx fun h => ?_
      refine kThen ?_
      refine kRet ?_
      refine fRet rfl (.t rfl .n) (endRet ?_)
      simp only [packV]
      rw [screw_val m hc]
    · refine effOne rfl (gYes rfl rfl rfl (fBuildSlice (.c rfl .n) (fun w => BS70_1_0 w))) ?_
      refine effStep 7 [] (by kernel_rfl) (closedEx fun n14 => closedSt) (hLeft [1, 6] (by kernel_rfl) (.c (fun _ _ ⟨n14, hs⟩ => hs.ef.sub (.c 1 rfl .n)) (.c (fun _ _ ⟨n14, hs⟩ => hs.ef.sub (.c 1 rfl .n)) .n))) ?_
      refine .c ?_ .n
      refine effOne rfl (opEx fun n14 => (gYes rfl rfl rfl (fCallO rfl (.c rfl .n) C151 (fun w' hw => cloneSpan_any _ _ _ w' m.errs rfl (by omega) (hm.eff0 hw))))) ?_
      refine effStep 11 [] (by kernel_rfl) (closedEx fun n14 => (closedEx fun g => closedSt)) (hLeft [1] (by kernel_rfl) (.c (fun _ _ ⟨n14, ⟨g, hs⟩⟩ => hs.ef.sub (.c 1 rfl .n)) .n)) ?_
      refine .c ?_ .n
      refine effOne rfl (opEx fun n14 => (opEx fun g => (gYes rfl rfl rfl (fAppend (gs := g.1) [(n14, _), (n1, _)] [rowE m.eye] AP70 rfl rfl .r g.2 rfl (by simp) (SlN.own 0 rfl rfl) (by simp [rowE]; exact ⟨rfl, rfl⟩) (by simp; omega) (by simp; omega))))) ?_
      refine effStep 13 [] (by kernel_rfl) (closedEx fun n14 => (closedEx fun g => (closedEx fun h => closedSt))) (hLeft [1] (by kernel_rfl) (.c (fun _ _ ⟨n14, ⟨g, ⟨h, hs⟩⟩⟩ => hs.ef.sub (.c 1 rfl .n)) .n)) ?_
      refine .c ?_ .n
      refine effOne rfl (opEx fun n14 => (opEx fun g => (opEx fun h => (gYes rfl rfl rfl (fV (yCall rfl (.c rfl (.c rfl .n)) C150 (fun w hw => containsSpan_any _ _ _ _ _ w (m.errs ++ [m.eye]) (fun x => !decide (spanOk (-100) 100 x)) (by simp) (by simp; omega) ((OS.rowsE (f := rowE) (0, 0) (by simpa using h.2) hw (.d 0 (.d 0 .r))).congr (by simp) fun i _ => rfl) C149 (fun w' _ x _ => isScrew1_any x w'))) rfl))))) ?_
      refine effStep 14 [] (by kernel_rfl) (closedEx fun n14 => (closedEx fun g => (closedEx fun h => closedSt))) (hLeft [1] (by kernel_rfl) (.c (fun _ _ ⟨n14, ⟨g, ⟨h, hs⟩⟩⟩ => hs.ef.sub (.c 1 rfl .n)) .n)) ?_
      refine .c ?_ .n
      refine effOne rfl (opEx fun n14 => (opEx fun g => (opEx fun h => (gYes rfl rfl rfl (fV (yNot rfl) rfl))))) ?_
      refine effStep 15 [] (by kernel_rfl) (closedEx fun n14 => (closedEx fun g => (closedEx fun h => closedSt))) (hLeft [1] (by kernel_rfl) (.c (fun _ _ ⟨n14, ⟨g, ⟨h, hs⟩⟩⟩ => hs.ef.sub (.c 1 rfl .n)) .n)) ?_
      refine .c ?_ .n
      refine effOne rfl (opEx fun n14 => (opEx fun g => (opEx fun h => (gNone rfl (fV (yPickT rfl rfl) rfl))))) ?_
      refine effStep 16 [] (by kernel_rfl) (closedEx fun n14 => (closedEx fun g => (closedEx fun h => closedSt))) (hLeft [1] (by kernel_rfl) (.c (fun _ _ ⟨n14, ⟨g, ⟨h, hs⟩⟩⟩ => hs.ef.sub (.c 1 rfl .n)) .n)) ?_
      refine .c ?_ .n
      refine effOne rfl (opEx fun n14 => (opEx fun g => (opEx fun h => (gNone rfl (fV (yAssign rfl) rfl))))) ?_
      refine effDone (closedEx fun n14 => (closedEx fun g => (closedEx fun h => closedSt))) (hLeft [] (by kernel_rfl) .n) (by kernel_rfl) ?_
      refine trEx fun n14 => ?_
      refine trEx fun g => ?_
      refine trEx fun h => ?_
      refine kThen ?_
      refine kRet ?_
      refine fRet rfl (.t rfl .n) (endRet ?_)
      simp only [packV]
      rw [screw_val m hc]
  · refine kDrawE [(1, none), (3, none)] [] [0, 1, 2, 3, 4, 5, 6, 8, 9, 12] 7 hMix (by kernel_rfl) ?_
    refine .run rfl (yFieldAddr rfl F72_0) rfl rfl ?_
    refine .run rfl (yLoad1 rfl O70 (cOwn 0 rfl rfl)) rfl rfl ?_
    refine .run rfl (yLen rfl S70) rfl rfl ?_
    refine .run rfl (yvIs (c := false) (yCall rfl (.c rfl (.c rfl (.c rfl .n))) C120 (fun w hw => within_any _ _ _ w)) (decide_eq_false hc)) rfl rfl ?_
    refine .run rfl (yMove rfl) rfl rfl ?_
    refine .skip rfl rfl rfl rfl rfl rfl ?_
    refine .skip rfl rfl rfl rfl rfl rfl ?_
    refine .skip rfl rfl rfl rfl rfl rfl ?_
    refine .skip rfl rfl rfl rfl rfl rfl ?_
    refine .skip rfl rfl rfl rfl rfl rfl ?_
    refine .done ?_
    refine effStep 7 [10] (by kernel_rfl) closedSt (hLeft [1, 3] (by kernel_rfl) (.c (fun _ _ hs => hs.ef) (.c (fun _ _ hs => hs.ef) .n))) ?_
    refine (.c ?_ (.c ?_ .n))
    · refine effOne rfl (gNo rfl rfl rfl rfl rfl) ?_
      refine effStep 10 [] (by kernel_rfl) closedSt (hLeft [1] (by kernel_rfl) (.c (fun _ _ hs => hs.ef) .n)) ?_
      refine .c ?_ .n
      refine effOne rfl (gNo rfl rfl rfl rfl rfl) ?_
      refine effStep 11 [] (by kernel_rfl) closedSt (hLeft [1] (by kernel_rfl) (.c (fun _ _ hs => hs.ef) .n)) ?_
      refine .c ?_ .n
      refine effOne rfl (gNo rfl rfl rfl rfl rfl) ?_
      refine effStep 13 [] (by kernel_rfl) closedSt (hLeft [1] (by kernel_rfl) (.c (fun _ _ hs => hs.ef) .n)) ?_
      refine .c ?_ .n
      refine effOne rfl (gNo rfl rfl rfl rfl rfl) ?_
      refine effStep 14 [] (by kernel_rfl) closedSt (hLeft [1] (by kernel_rfl) (.c (fun _ _ hs => hs.ef) .n)) ?_
      refine .c ?_ .n
      refine effOne rfl (gNo rfl rfl rfl rfl rfl) ?_
      refine effStep 15 [] (by kernel_rfl) closedSt (hLeft [1] (by kernel_rfl) (.c (fun _ _ hs => hs.ef) .n)) ?_
      refine .c ?_ .n
      refine effOne rfl (gNone rfl (fV (yPickF rfl rfl) rfl)) ?_
      refine effStep 16 [] (by kernel_rfl) closedSt (hLeft [1] (by kernel_rfl) (.c (fun _ _ hs => hs.ef) .n)) ?_
      refine .c ?_ .n
      refine effOne rfl (gNone rfl (fV (yAssign rfl) rfl)) ?_
      refine effDone closedSt (hLeft [] (by kernel_rfl) .n) (by kernel_rfl) ?_
      refine kThen ?_
      refine kRet ?_
      refine fRet rfl (.t rfl .n) (endRet ?_)
      simp only [packV]
      rw [decide_eq_false fun h : ScrewOk m => hc (by have := h.n; omega)]
    · refine effOne rfl (gNo rfl rfl rfl rfl rfl) ?_
      refine effStep 7 [] (by kernel_rfl) closedSt (hLeft [1] (by kernel_rfl) (.c (fun _ _ hs => hs.ef) .n)) ?_
      refine .c ?_ .n
      refine effOne rfl (gNo rfl rfl rfl rfl rfl) ?_
      refine effStep 11 [] (by kernel_rfl) closedSt (hLeft [1] (by kernel_rfl) (.c (fun _ _ hs => hs.ef) .n)) ?_
      refine .c ?_ .n
      refine effOne rfl (gNo rfl rfl rfl rfl rfl) ?_
      refine effStep 13 [] (by kernel_rfl) closedSt (hLeft [1] (by kernel_rfl) (.c (fun _ _ hs => hs.ef) .n)) ?_
      refine .c ?_ .n
      refine effOne rfl (gNo rfl rfl rfl rfl rfl) ?_
      refine effStep 14 [] (by kernel_rfl) closedSt (hLeft [1] (by kernel_rfl) (.c (fun _ _ hs => hs.ef) .n)) ?_
      refine .c ?_ .n
      refine effOne rfl (gNo rfl rfl rfl rfl rfl) ?_
      refine effStep 15 [] (by kernel_rfl) closedSt (hLeft [1] (by kernel_rfl) (.c (fun _ _ hs => hs.ef) .n)) ?_
      refine .c ?_ .n
      refine effOne rfl (gNone rfl (fV (yPickF rfl rfl) rfl)) ?_
      refine effStep 16 [] (by kernel_rfl) closedSt (hLeft [1] (by kernel_rfl) (.c (fun _ _ hs => hs.ef) .n)) ?_
      refine .c ?_ .n
      refine effOne rfl (gNone rfl (fV (yAssign rfl) rfl)) ?_
      refine effDone closedSt (hLeft [] (by kernel_rfl) .n) (by kernel_rfl) ?_
      refine kThen ?_
      refine kRet ?_
      refine fRet rfl (.t rfl .n) (endRet ?_)
      simp only [packV]
      rw [decide_eq_false fun h : ScrewOk m => hc (by have := h.n; omega)]
set_option maxRecDepth 100000 in
theorem isMeasure1_any (y : Loc) (m : Meas) (x : Int × Int × Bool) (n : Nat) (w : World) (hb : w.heap[n]? = some (blk (measC y m) 75)) (hn : m.errs.length ≤ 1000000) (hi : 1 ≤ m.images ∧ m.images ≤ 6) :
    Calls Try.prog 141 [.agg (rowS x).toArray, .pointer (some ⟨n, 0, none⟩)].toArray w (Ret w (.bool (!decide ((0 ≤ x.1 ∧ x.1 ≤ m.images - 1) ∧ readOk m x.2.1)))) := by
  refine fEnterM (Eff.one hb) Try.func141 rfl Try.ntmps141 rfl ?_
  refine kSeq ?_
  refine kRegion rfl ?_
  refine lE rfl ?_
  refine eBoxA rfl fun n2 => ?_
  refine lV (yAssign rfl) rfl rfl ?_
  refine lNil ?_
  refine kThen ?_
  refine kSeq ?_
  refine kRegion rfl ?_
  refine lV (yFieldAddr rfl F78_0) rfl rfl ?_
  refine lV (yLoad1 rfl O3 (cOwn 1 rfl rfl)) rfl rfl ?_
  refine lV (yFieldAddr rfl F75_1) rfl rfl ?_
  refine lV (yLoad1 rfl O3 (cOwn 0 rfl rfl)) rfl rfl ?_
  refine lV (ySub rfl rfl (by omega)) rfl rfl ?_
  refine lV (yCall rfl (.c rfl (.c rfl (.c rfl .n))) C120 (fun w hw => within_any _ _ _ w)) rfl rfl ?_
  refine lV (yNot rfl) rfl rfl ?_
  refine lV (yMove rfl) rfl rfl ?_
  refine splitB (t := 11) rfl (fun h11 => ?_) (fun h11 => ?_)
  · refine lGN rfl rfl rfl rfl rfl ?_
    refine lGN rfl rfl rfl rfl rfl ?_
    refine lGN rfl rfl rfl rfl rfl ?_
    refine lGN rfl rfl rfl rfl rfl ?_
    refine lGN rfl rfl rfl rfl rfl ?_
    refine lGN rfl rfl rfl rfl rfl ?_
    refine lV (yPickT rfl rfl) rfl rfl ?_
    refine lV (yAssign rfl) rfl rfl ?_
    refine lNil ?_
    refine kThen ?_
    refine kRet ?_
    refine fRet rfl (.t rfl .n) (endRetM ((Eff.one hb)) ?_)
    simp only [Bool.not_eq_true', decide_eq_false_iff_not] at h11
    simp [packV, h11]
  · refine lGY rfl rfl rfl (oV (yFieldAddr rfl F75_0) rfl ?_)
    refine lGY rfl rfl rfl (oV (yLoadA (vs := [_, _, _]) rfl A72 (cOwn 0 rfl rfl)) rfl ?_)
    refine lGY rfl rfl rfl (oV (yFieldAddr rfl F78_1) rfl ?_)
    refine lGY rfl rfl rfl (oV (yLoad1 rfl O3 (cOwn 1 rfl rfl)) rfl ?_)
    refine lGY rfl rfl rfl (oV (yCall rfl (.c rfl (.c rfl .n)) C142 (fun w hw => isReading_any y m _ w hn)) rfl ?_)
    refine lGY rfl rfl rfl (oV (yNot rfl) rfl ?_)
    refine lV (yPickF rfl rfl) rfl rfl ?_
    refine lV (yAssign rfl) rfl rfl ?_
    refine lNil ?_
    refine kThen ?_
    refine kRet ?_
    refine fRet rfl (.t rfl .n) (endRetM ((Eff.one hb)) ?_)
    simp only [Bool.not_eq_false', decide_eq_true_eq] at h11
    simp [packV, h11]

theorem meas_val (m : Meas) (hs : ScrewOk m) (hi : 1 ≤ m.images ∧ m.images ≤ 6) (hu : spanOk 0 131072 m.sum) (hn : m.sets.length ≤ 12) :
    (!(m.sets.any fun x => !decide ((0 ≤ x.1 ∧ x.1 ≤ m.images - 1) ∧ readOk m x.2.1))) = decide (MeasOk m) := by
  rw [Bool.eq_iff_iff, Bool.not_eq_true', List.any_eq_false, decide_eq_true_eq]
  constructor
  · intro h1
    exact ⟨hs, hi, hu, hn, fun x hx => by simpa only [Bool.not_eq_true', decide_eq_false_iff_not, Classical.not_not] using h1 x hx⟩
  · intro h1 x hx
    simpa only [Bool.not_eq_true', decide_eq_false_iff_not, Classical.not_not] using h1.a x hx

set_option maxRecDepth 100000 in
theorem isMeasure_any (y : Loc) (m : Meas) (w : World) (hm : InM w y m) :
    Calls Try.prog 134 [.agg (measC y m).toArray].toArray w (Ret w (.bool (decide (MeasOk m)))) := by
  have C141 : callT Try.prog 141 = true := C141
  refine fEnter Try.func134 rfl Try.ntmps134 rfl ?_
  refine kSeq ?_
  refine kRegion rfl ?_
  refine lE rfl ?_
  refine eBoxA rfl fun n1 => ?_
  refine lV (yAssign rfl) rfl rfl ?_
  refine lNil ?_
  refine kThen ?_
  refine kSeq ?_
  refine kRegion rfl ?_
  refine lV (yMakeFunc .n (.c rfl .n)) rfl rfl ?_
  refine lV (yAssign rfl) rfl rfl ?_
  refine lNil ?_
  refine kThen ?_
  refine kSeq ?_
  refine kRegion rfl ?_
  refine lV (yFieldAddr rfl F75_1) rfl rfl ?_
  refine lV (yLoad1 rfl O3 (cOwn 0 rfl rfl)) rfl rfl ?_
  refine lV (yCall rfl (.c rfl (.c rfl (.c rfl .n))) C120 (fun w hw => within_any _ _ _ w)) rfl rfl ?_
  refine lV (yMove rfl) rfl rfl ?_
  refine splitB (t := 9) rfl (fun h9 => ?_) (fun h9 => ?_)
  · refine lGY rfl rfl rfl (oV (yFieldAddr rfl F75_2) rfl ?_)
    refine lGY rfl rfl rfl (oV (yLoadA (vs := [_, _]) rfl A23 (cOwn 0 rfl rfl)) rfl ?_)
    refine lGY rfl rfl rfl (oV (yCall rfl (.c rfl (.c rfl (.c rfl .n))) C143 (fun w hw => isSpan_any _ _ _ _ w)) rfl ?_)
    refine lV (yPickT rfl rfl) rfl rfl ?_
    refine lV (yMove rfl) rfl rfl ?_
    refine splitB (t := 14) rfl (fun h14 => ?_) (fun h14 => ?_)
    · refine lGY rfl rfl rfl (oV (yFieldAddr rfl F75_3) rfl ?_)
      refine lGY rfl rfl rfl (oV (yLoad1 rfl O73 (cOwn 0 rfl rfl)) rfl ?_)
      refine lGY rfl rfl rfl (oV (yLen rfl S73) rfl ?_)
      refine lGY rfl rfl rfl (oV (yLeq rfl rfl) rfl ?_)
      refine lV (yPickT rfl rfl) rfl rfl ?_
      refine lV (yAssign rfl) rfl rfl ?_
      refine lNil ?_
      refine kThen ?_
      refine kSeq ?_
      refine kRegion rfl ?_
      refine lV (yFieldAddr rfl F75_0) rfl rfl ?_
      refine lV (yLoadA (vs := [_, _, _]) rfl A72 (cOwn 0 rfl rfl)) rfl rfl ?_
      refine lV (yCall rfl (.c rfl .n) C144 (fun w hw => isScrew_any y m w (hm.e.eff0 hw))) rfl rfl ?_
      refine lV (yMove rfl) rfl rfl ?_
      refine splitB (t := 23) rfl (fun h23 => ?_) (fun h23 => ?_)
      · refine lGY rfl rfl rfl (oV (yMove rfl) rfl ?_)
        refine lV (yPickT rfl rfl) rfl rfl ?_
        refine lV (yMove rfl) rfl rfl ?_
        refine split (t := 26) rfl (fun h26 => ?_) (fun h26 => ?_)
        · refine lGY rfl rfl rfl (oV (yFieldAddr rfl F75_3) rfl ?_)
          refine lGY rfl rfl rfl (oV (yLoad1 rfl O73 (cOwn 0 rfl rfl)) rfl ?_)
          refine lGY rfl rfl rfl (oV (yMove rfl) rfl ?_)
          refine lGY rfl rfl rfl (oV (yCall rfl (.c rfl (.c rfl .n)) C145 (fun w hw => containsSet_any _ _ _ _ [.pointer (some ⟨n1, 0, none⟩)] w m.sets (fun x => !decide ((0 ≤ x.1 ∧ x.1 ≤ m.images - 1) ∧ readOk m x.2.1)) rfl (by omega) (hm.s.eff0 hw) C141 (fun w' hw' x _ => isMeasure1_any y m x n1 w' ((hw.trans hw').blkAt 0 rfl) (by have := (of_decide_eq_true h23).n; omega) (of_decide_eq_true h9)))) rfl ?_)
          refine lGY rfl rfl rfl (oV (yNot rfl) rfl ?_)
          refine lV (yPickT rfl rfl) rfl rfl ?_
          refine lV (yAssign rfl) rfl rfl ?_
          refine lNil ?_
          refine kThen ?_
          refine kRet ?_
          refine fRet rfl (.t rfl .n) (endRet ?_)
          simp only [packV]
          rw [meas_val m (of_decide_eq_true h23) (of_decide_eq_true h9) (of_decide_eq_true h14) (by omega)]
        · refine lGN rfl rfl rfl rfl rfl ?_
          refine lGN rfl rfl rfl rfl rfl ?_
          refine lGN rfl rfl rfl rfl rfl ?_
          refine lGN rfl rfl rfl rfl rfl ?_
          refine lGN rfl rfl rfl rfl rfl ?_
          refine lV (yPickF rfl rfl) rfl rfl ?_
          refine lV (yAssign rfl) rfl rfl ?_
          refine lNil ?_
          refine kThen ?_
          refine kRet ?_
          refine fRet rfl (.t rfl .n) (endRet ?_)
          have hneg : ¬ MeasOk m := by
            intro hk
            have h1 := hk.i
            have h2 := hk.u
            have h3 := hk.n
            unfold spanOk at h2
            first | (rw [decide_eq_false_iff_not] at h9; exact h9 h1) | (rw [decide_eq_false_iff_not] at h14; exact h14 h2) | (rw [decide_eq_false_iff_not] at h23; exact h23 hk.s) | omega
          simp only [packV]
          rw [decide_eq_false hneg]
      · refine lGN rfl rfl rfl rfl rfl ?_
        refine lV (yPickF rfl rfl) rfl rfl ?_
        refine lV (yMove rfl) rfl rfl ?_
        refine lGN rfl rfl rfl rfl rfl ?_
        refine lGN rfl rfl rfl rfl rfl ?_
        refine lGN rfl rfl rfl rfl rfl ?_
        refine lGN rfl rfl rfl rfl rfl ?_
        refine lGN rfl rfl rfl rfl rfl ?_
        refine lV (yPickF rfl rfl) rfl rfl ?_
        refine lV (yAssign rfl) rfl rfl ?_
        refine lNil ?_
        refine kThen ?_
        refine kRet ?_
        refine fRet rfl (.t rfl .n) (endRet ?_)
        have hneg : ¬ MeasOk m := by
          intro hk
          have h1 := hk.i
          have h2 := hk.u
          have h3 := hk.n
          unfold spanOk at h2
          first | (rw [decide_eq_false_iff_not] at h9; exact h9 h1) | (rw [decide_eq_false_iff_not] at h14; exact h14 h2) | (rw [decide_eq_false_iff_not] at h23; exact h23 hk.s) | omega
        simp only [packV]
        rw [decide_eq_false hneg]
    · refine lGN rfl rfl rfl rfl rfl ?_
      refine lGN rfl rfl rfl rfl rfl ?_
      refine lGN rfl rfl rfl rfl rfl ?_
      refine lGN rfl rfl rfl rfl rfl ?_
      refine lV (yPickF rfl rfl) rfl rfl ?_
      refine lV (yAssign rfl) rfl rfl ?_
      refine lNil ?_
      refine kThen ?_
      refine kSeq ?_
      refine kRegion rfl ?_
      refine lV (yFieldAddr rfl F75_0) rfl rfl ?_
      refine lV (yLoadA (vs := [_, _, _]) rfl A72 (cOwn 0 rfl rfl)) rfl rfl ?_
      refine lV (yCall rfl (.c rfl .n) C144 (fun w hw => isScrew_any y m w (hm.e.eff0 hw))) rfl rfl ?_
      refine lV (yMove rfl) rfl rfl ?_
      refine splitB (t := 23) rfl (fun h23 => ?_) (fun h23 => ?_)
      · refine lGY rfl rfl rfl (oV (yMove rfl) rfl ?_)
        refine lV (yPickT rfl rfl) rfl rfl ?_
        refine lV (yMove rfl) rfl rfl ?_
        refine lGN rfl rfl rfl rfl rfl ?_
        refine lGN rfl rfl rfl rfl rfl ?_
        refine lGN rfl rfl rfl rfl rfl ?_
        refine lGN rfl rfl rfl rfl rfl ?_
        refine lGN rfl rfl rfl rfl rfl ?_
        refine lV (yPickF rfl rfl) rfl rfl ?_
        refine lV (yAssign rfl) rfl rfl ?_
        refine lNil ?_
        refine kThen ?_
        refine kRet ?_
        refine fRet rfl (.t rfl .n) (endRet ?_)
        have hneg : ¬ MeasOk m := by
          intro hk
          have h1 := hk.i
          have h2 := hk.u
          have h3 := hk.n
          unfold spanOk at h2
          first | (rw [decide_eq_false_iff_not] at h9; exact h9 h1) | (rw [decide_eq_false_iff_not] at h14; exact h14 h2) | (rw [decide_eq_false_iff_not] at h23; exact h23 hk.s) | omega
        simp only [packV]
        rw [decide_eq_false hneg]
      · refine lGN rfl rfl rfl rfl rfl ?_
        refine lV (yPickF rfl rfl) rfl rfl ?_
        refine lV (yMove rfl) rfl rfl ?_
        refine lGN rfl rfl rfl rfl rfl ?_
        refine lGN rfl rfl rfl rfl rfl ?_
        refine lGN rfl rfl rfl rfl rfl ?_
        refine lGN rfl rfl rfl rfl rfl ?_
        refine lGN rfl rfl rfl rfl rfl ?_
        refine lV (yPickF rfl rfl) rfl rfl ?_
        refine lV (yAssign rfl) rfl rfl ?_
        refine lNil ?_
        refine kThen ?_
        refine kRet ?_
        refine fRet rfl (.t rfl .n) (endRet ?_)
        have hneg : ¬ MeasOk m := by
          intro hk
          have h1 := hk.i
          have h2 := hk.u
          have h3 := hk.n
          unfold spanOk at h2
          first | (rw [decide_eq_false_iff_not] at h9; exact h9 h1) | (rw [decide_eq_false_iff_not] at h14; exact h14 h2) | (rw [decide_eq_false_iff_not] at h23; exact h23 hk.s) | omega
        simp only [packV]
        rw [decide_eq_false hneg]
  · refine lGN rfl rfl rfl rfl rfl ?_
    refine lGN rfl rfl rfl rfl rfl ?_
    refine lGN rfl rfl rfl rfl rfl ?_
    refine lV (yPickF rfl rfl) rfl rfl ?_
    refine lV (yMove rfl) rfl rfl ?_
    refine lGN rfl rfl rfl rfl rfl ?_
    refine lGN rfl rfl rfl rfl rfl ?_
    refine lGN rfl rfl rfl rfl rfl ?_
    refine lGN rfl rfl rfl rfl rfl ?_
    refine lV (yPickF rfl rfl) rfl rfl ?_
    refine lV (yAssign rfl) rfl rfl ?_
    refine lNil ?_
    refine kThen ?_
    refine kSeq ?_
    refine kRegion rfl ?_
    refine lV (yFieldAddr rfl F75_0) rfl rfl ?_
    refine lV (yLoadA (vs := [_, _, _]) rfl A72 (cOwn 0 rfl rfl)) rfl rfl ?_
    refine lV (yCall rfl (.c rfl .n) C144 (fun w hw => isScrew_any y m w (hm.e.eff0 hw))) rfl rfl ?_
    refine lV (yMove rfl) rfl rfl ?_
    refine splitB (t := 23) rfl (fun h23 => ?_) (fun h23 => ?_)
    · refine lGY rfl rfl rfl (oV (yMove rfl) rfl ?_)
      refine lV (yPickT rfl rfl) rfl rfl ?_
      refine lV (yMove rfl) rfl rfl ?_
      refine lGN rfl rfl rfl rfl rfl ?_
      refine lGN rfl rfl rfl rfl rfl ?_
      refine lGN rfl rfl rfl rfl rfl ?_
      refine lGN rfl rfl rfl rfl rfl ?_
      refine lGN rfl rfl rfl rfl rfl ?_
      refine lV (yPickF rfl rfl) rfl rfl ?_
      refine lV (yAssign rfl) rfl rfl ?_
      refine lNil ?_
      refine kThen ?_
      refine kRet ?_
      refine fRet rfl (.t rfl .n) (endRet ?_)
      have hneg : ¬ MeasOk m := by
        intro hk
        have h1 := hk.i
        have h2 := hk.u
        have h3 := hk.n
        unfold spanOk at h2
        first | (rw [decide_eq_false_iff_not] at h9; exact h9 h1) | (rw [decide_eq_false_iff_not] at h14; exact h14 h2) | (rw [decide_eq_false_iff_not] at h23; exact h23 hk.s) | omega
      simp only [packV]
      rw [decide_eq_false hneg]
    · refine lGN rfl rfl rfl rfl rfl ?_
      refine lV (yPickF rfl rfl) rfl rfl ?_
      refine lV (yMove rfl) rfl rfl ?_
      refine lGN rfl rfl rfl rfl rfl ?_
      refine lGN rfl rfl rfl rfl rfl ?_
      refine lGN rfl rfl rfl rfl rfl ?_
      refine lGN rfl rfl rfl rfl rfl ?_
      refine lGN rfl rfl rfl rfl rfl ?_
      refine lV (yPickF rfl rfl) rfl rfl ?_
      refine lV (yAssign rfl) rfl rfl ?_
      refine lNil ?_
      refine kThen ?_
      refine kRet ?_
      refine fRet rfl (.t rfl .n) (endRet ?_)
      have hneg : ¬ MeasOk m := by
        intro hk
        have h1 := hk.i
        have h2 := hk.u
        have h3 := hk.n
        unfold spanOk at h2
        first | (rw [decide_eq_false_iff_not] at h9; exact h9 h1) | (rw [decide_eq_false_iff_not] at h14; exact h14 h2) | (rw [decide_eq_false_iff_not] at h23; exact h23 hk.s) | omega
      simp only [packV]
      rw [decide_eq_false hneg]

end Go.Proofs.Ytlcdohhhhlhpmaa.Scr
