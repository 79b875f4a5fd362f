/-
  The screw, in plain words: what a measure is, and what the program computes of it, step by step.
-/
import Derived.Test.YtoefcofplkbnkaaEngK
namespace Go.Proofs.Ytoefcofplkbnkaa
open ZW

/-- A measure. -/
structure Meas where
  errs : List (Int × Int)
  eye : Int × Int
  images : Int
  sum : Int × Int
  sets : List (Int × Int × Bool)

/-- Where the slices of a measure lie. -/
structure Loc where
  ea : Option Addr
  ec : Nat
  sa : Option Addr
  sc : Nat

abbrev i64 (n : Int) : Value := .int .i64 n
abbrev errC (l : List (Int × Int)) (i : Nat) : List Value := [i64 (l.getD i (0, 0)).1, i64 (l.getD i (0, 0)).2]
abbrev setC (l : List (Int × Int × Bool)) (i : Nat) : List Value := [i64 (l.getD i (0, 0, false)).1, i64 (l.getD i (0, 0, false)).2.1, .bool (l.getD i (0, 0, false)).2.2]
abbrev screwC (y : Loc) (m : Meas) : List Value := [.slice y.ea m.errs.length y.ec, i64 m.eye.1, i64 m.eye.2]
abbrev measC (y : Loc) (m : Meas) : List Value := [.slice y.ea m.errs.length y.ec, i64 m.eye.1, i64 m.eye.2, i64 m.images, i64 m.sum.1, i64 m.sum.2, .slice y.sa m.sets.length y.sc]

/-- In this world the slices of a measure hold it. -/
structure InM (w : World) (y : Loc) (m : Meas) : Prop where
  e : SlE w y.ea m.errs.length 2 (errC m.errs)
  s : SlE w y.sa m.sets.length 3 (setC m.sets)
theorem InM.eff {w w' : World} {L : Heap} {y : Loc} {m : Meas} (h : InM w y m) (he : Eff w [] L w') : InM w' y m := ⟨h.e.eff0 he, h.s.eff0 he⟩

/-! ### What is valid -/
def spanOk (lo hi : Int) (s : Int × Int) : Prop := lo ≤ s.1 ∧ s.1 ≤ s.2 ∧ s.2 ≤ hi
instance (lo hi : Int) (s : Int × Int) : Decidable (spanOk lo hi s) := inferInstanceAs (Decidable (_ ∧ _))
structure ScrewOk (m : Meas) : Prop where
  n : 1 ≤ m.errs.length ∧ m.errs.length ≤ 40
  e : ∀ x ∈ m.errs, spanOk (-100) 100 x
  y : spanOk (-100) 100 m.eye
instance (m : Meas) : Decidable (ScrewOk m) := decidable_of_iff ((1 ≤ m.errs.length ∧ m.errs.length ≤ 40) ∧ (∀ x ∈ m.errs, spanOk (-100) 100 x) ∧ spanOk (-100) 100 m.eye) ⟨fun h => ⟨h.1, h.2.1, h.2.2⟩, fun h => ⟨h.n, h.e, h.y⟩⟩
def readOk (m : Meas) (n : Int) : Prop := 0 ≤ n ∧ n ≤ m.errs.length * 1000 - 1
instance (m : Meas) (n : Int) : Decidable (readOk m n) := inferInstanceAs (Decidable (_ ∧ _))
structure MeasOk (m : Meas) : Prop where
  s : ScrewOk m
  i : 1 ≤ m.images ∧ m.images ≤ 6
  u : spanOk 0 131072 m.sum
  n : m.sets.length ≤ 12
  a : ∀ x ∈ m.sets, (0 ≤ x.1 ∧ x.1 ≤ m.images - 1) ∧ readOk m x.2.1
instance (m : Meas) : Decidable (MeasOk m) := decidable_of_iff (ScrewOk m ∧ (1 ≤ m.images ∧ m.images ≤ 6) ∧ spanOk 0 131072 m.sum ∧ m.sets.length ≤ 12 ∧ ∀ x ∈ m.sets, (0 ≤ x.1 ∧ x.1 ≤ m.images - 1) ∧ readOk m x.2.1)
  ⟨fun h => ⟨h.1, h.2.1, h.2.2.1, h.2.2.2.1, h.2.2.2.2⟩, fun h => ⟨h.s, h.i, h.u, h.n, h.a⟩⟩

/-! ### Travels -/
def travelP (m : Meas) (n : Int) : Int × Int :=
  let e := m.errs.getD (n / 1000).toNat (0, 0)
  (n + e.1 + m.eye.1, n + e.2 + m.eye.2)

/-! ### Bounds -/
abbrev BMat := Nat → Nat → Int
def bCells (b : BMat) : List Value := (List.range 64).map fun k => i64 (b (k / 8) (k % 8))
def bUpd (b : BMat) (i k : Nat) (v : Int) : BMat := fun x y => if x = i ∧ y = k then v else b x y
def never : Int := 1099511627776
def freeP : BMat := fun i k => if i = k then 0 else never
def putP (b : BMat) (f t : Nat) (by_ : Int × Int) : BMat := bUpd (bUpd b f t (min (b f t) by_.2)) t f (min (b t f) (-by_.1))
/-- A setting: its image, what it tells, and whether the plate lay the other way round. -/
abbrev Told := Nat × (Int × Int) × Bool
def tellP (b : BMat) (t : Told) : BMat := if t.2.2 then putP b (2 + t.1) 1 t.2.1 else putP b 0 (2 + t.1) t.2.1
def toldP (m : Meas) : List Told := m.sets.map fun x => (x.1.toNat, travelP m x.2.1, x.2.2)
def stepP (by_ : Nat) (b : BMat) (i k : Nat) : BMat := if b i by_ < never ∧ b by_ k < never then bUpd b i k (min (b i k) (b i by_ + b by_ k)) else b
def rowP (by_ : Nat) (b : BMat) (i n : Nat) : BMat := (List.range n).foldl (fun b k => stepP by_ b i k) b
def roundP (b : BMat) (by_ n : Nat) : BMat := (List.range n).foldl (fun b i => rowP by_ b i 8) b
def closeP (b : BMat) (n : Nat) : BMat := (List.range n).foldl (fun b j => roundP b j 8) b
def tellsP (b : BMat) (l : List Told) (s n : Nat) : BMat := (List.range n).foldl (fun b i => if s.testBit i then tellP b (l.getD i (0, (0, 0), false)) else b) b
def tightB (m : Meas) (s : Nat) : BMat := closeP (tellsP (putP freeP 0 1 m.sum) (toldP m) s m.sets.length) 8
def diagOk (b : BMat) : Prop := ∀ i, i < 8 → 0 ≤ b i i
instance (b : BMat) : Decidable (diagOk b) := inferInstanceAs (Decidable (∀ i, i < 8 → 0 ≤ b i i))

theorem range_foldl_succ {α : Type} (f : α → Nat → α) (x : α) (n : Nat) : (List.range (n + 1)).foldl f x = f ((List.range n).foldl f x) n := by
  rw [List.range_succ, List.foldl_append]; rfl

theorem bCells_length (b : BMat) : (bCells b).length = 64 := by simp [bCells]
theorem bCells_plain (b : BMat) : (bCells b).all plainV = true := by simp [bCells, plainV]
theorem bCells_get (b : BMat) {n : Nat} (h : n < 64) : (bCells b)[n]? = some (i64 (b (n / 8) (n % 8))) := by
  simp [bCells, h]
theorem sub_one : ∀ (l : List Value) (n : Nat) (v : Value), l[n]? = some v → sub l n 1 = some [v]
  | [], n, v, h => by simp at h
  | x :: l, 0, v, h => by simp at h; subst h; simp [sub]
  | x :: l, n + 1, v, h => by simpa [sub] using sub_one l n v (by simpa using h)
theorem sub_all : ∀ (l : List Value), sub l 0 l.length = some l
  | [] => by simp [sub]
  | x :: l => by simp [sub, sub_all l]
theorem wr_one : ∀ (l : List Value) (n : Nat) (v : Value), wr l n [v] = l.set n v
  | [], n, v => by simp [wr]
  | x :: l, 0, v => by simp [wr, wr_nil]
  | x :: l, n + 1, v => by simp [wr, wr_one l n v]
theorem wr_all : ∀ (l vs : List Value), vs.length = l.length → wr l 0 vs = vs
  | [], [], _ => by simp [wr]
  | [], _ :: _, h => by simp at h
  | _ :: _, [], h => by simp at h
  | x :: l, v :: vs, h => by simp [wr, wr_all l vs (by simpa using h)]
theorem bSub (b : BMat) {i k : Nat} (hi : i < 8) (hk : k < 8) : sub (bCells b) (0 + i * 8 + k * 1) 1 = some [i64 (b i k)] := by
  refine sub_one _ _ _ ?_
  rw [bCells_get b (by omega)]
  rw [show (0 + i * 8 + k * 1) / 8 = i from by omega, show (0 + i * 8 + k * 1) % 8 = k from by omega]
theorem bWr (b : BMat) {i k : Nat} (hi : i < 8) (hk : k < 8) (v : Int) : wr (bCells b) (0 + i * 8 + k * 1) [i64 v] = bCells (bUpd b i k v) := by
  rw [wr_one]
  refine List.ext_getElem? fun n => ?_
  rw [List.getElem?_set]
  by_cases hn : n < 64
  · rw [bCells_get (bUpd b i k v) hn, bCells_length]
    have h2 : 0 + i * 8 + k * 1 < 64 := by omega
    rw [if_pos h2]
    split
    · rename_i h; subst h
      simp only [bUpd, show (0 + i * 8 + k * 1) / 8 = i from by omega, show (0 + i * 8 + k * 1) % 8 = k from by omega, and_self, if_true]
    · rename_i h
      rw [bCells_get _ hn]
      have : ¬ (n / 8 = i ∧ n % 8 = k) := fun hc => h (by omega)
      simp [bUpd, this]
  · rw [if_neg (by omega), List.getElem?_eq_none (by rw [bCells_length]; omega), List.getElem?_eq_none (by rw [bCells_length]; omega)]
theorem bSubAll (b : BMat) : sub (bCells b) 0 (bCells b).length = some (bCells b) := sub_all _
theorem bWrAll (l : List Value) (b : BMat) (h : l.length = 64) : wr l 0 (bCells b) = bCells b := wr_all _ _ (by rw [bCells_length, h])
theorem bWrB (c b : BMat) : wr (bCells c) 0 (bCells b) = bCells b := wr_all _ _ (by simp [bCells_length])
/-- The bounds that all are nought. -/
def zeroB : BMat := fun _ _ => 0
theorem bCells_congr {b c : BMat} (h : ∀ i k, i < 8 → k < 8 → b i k = c i k) : bCells b = bCells c := by
  unfold bCells
  refine List.map_congr_left fun n hn => ?_
  have := List.mem_range.1 hn
  rw [h (n / 8) (n % 8) (by omega) (by omega)]
theorem bCell {b : BMat} {w : World} {nb : Nat} {e : TypeId} (h : w.heap[nb]? = some (blk (bCells b) e)) {i k : Nat} (hi : i < 8) (hk : k < 8) : w.cell? ⟨nb, 0 + i * 8 + k * 1, none⟩ = some (i64 (b i k)) := by
  rw [cell_blk h, bCells_get b (by omega)]
  rw [show (0 + i * 8 + k * 1) / 8 = i from by omega, show (0 + i * 8 + k * 1) % 8 = k from by omega]
theorem bCellW {b : BMat} {w : World} {nb : Nat} {e : TypeId} {i k : Nat} {v : Int} (hi : i < 8) (hk : k < 8) (h : w.heap[nb]? = some (blk (wr (bCells b) (0 + i * 8 + k * 1) [i64 v]) e)) {x y : Nat} (hx : x < 8) (hy : y < 8) (hne : ¬ (x = i ∧ y = k)) :
    w.cell? ⟨nb, 0 + x * 8 + y * 1, none⟩ = some (i64 (b x y)) := by
  rw [bWr b hi hk] at h
  rw [bCell h hx hy]; simp [bUpd, hne]
theorem bFits {l : List Value} (hl : l.length = 64) {i k : Nat} (hi : i < 8) (hk : k < 8) : Nat.ble (0 + i * 8 + k * 1 + 1) l.length = true := by
  rw [hl]; simp; omega

/-! ### How far bounds go -/
def Bd (A : Int) (b : BMat) : Prop := ∀ i k, i < 8 → k < 8 → -A ≤ b i k ∧ b i k ≤ never
/-- In a round: what has been gone through (rows less than r, and of row r the first s) and what has not. -/
structure RInv (j : Nat) (A : Int) (r s : Nat) (b : BMat) : Prop where
  all : ∀ i k, i < 8 → k < 8 → -(6 * A) ≤ b i k ∧ b i k ≤ never
  row : ∀ k, k < 8 → -(3 * A) ≤ b j k
  col : ∀ i, i < 8 → -(3 * A) ≤ b i j
  mid : -(2 * A) ≤ b j j
  old : ∀ i k, i < 8 → k < 8 → (r < i ∨ r = i ∧ s ≤ k) → -A ≤ b i k
theorem RInv.start {j : Nat} {A : Int} {b : BMat} (hA : 0 ≤ A) (hj : j < 8) (h : Bd A b) : RInv j A 0 0 b :=
  ⟨fun i k hi hk => by have := h i k hi hk; omega, fun k hk => by have := h j k hj hk; omega, fun i hi => by have := h i j hi hj; omega, by have := h j j hj hj; omega, fun i k hi hk _ => (h i k hi hk).1⟩
theorem RInv.next {j : Nat} {A : Int} {r : Nat} {b : BMat} (h : RInv j A r 8 b) : RInv j A (r + 1) 0 b :=
  ⟨h.all, h.row, h.col, h.mid, fun i k hi hk hik => h.old i k hi hk (by omega)⟩
theorem RInv.step {j : Nat} {A : Int} {r s : Nat} {b : BMat} (_ : 0 ≤ A) (_ : j < 8) (hr : r < 8) (hs : s < 8) (h : RInv j A r s b) : RInv j A r (s + 1) (stepP j b r s) := by
  unfold stepP
  by_cases hc : b r j < never ∧ b j s < never
  · rw [if_pos hc]
    have h1 := h.all r s hr hs
    have h2 := h.row s hs
    have h3 := h.col r hr
    have h4 := h.mid
    have h5 := h.old r s hr hs (by omega)
    refine ⟨fun i k hi hk => ?_, fun k hk => ?_, fun i hi => ?_, ?_, fun i k hi hk hik => ?_⟩
    · have := h.all i k hi hk
      unfold bUpd; split <;> omega
    · have := h.row k hk
      unfold bUpd; split
      · rename_i he
        obtain ⟨rfl, rfl⟩ := he
        omega
      · omega
    · have := h.col i hi
      unfold bUpd; split
      · rename_i he
        obtain ⟨rfl, rfl⟩ := he
        omega
      · omega
    · unfold bUpd; split
      · rename_i he
        obtain ⟨rfl, rfl⟩ := he
        omega
      · omega
    · have := h.old i k hi hk (by omega)
      unfold bUpd; rw [if_neg (by omega)]; omega
  · rw [if_neg hc]
    exact ⟨h.all, h.row, h.col, h.mid, fun i k hi hk hik => h.old i k hi hk (by omega)⟩
theorem rowP_succ (j : Nat) (b : BMat) (i n : Nat) : rowP j b i (n + 1) = stepP j (rowP j b i n) i n := range_foldl_succ _ _ _
theorem roundP_succ (b : BMat) (j n : Nat) : roundP b j (n + 1) = rowP j (roundP b j n) n 8 := range_foldl_succ _ _ _
theorem closeP_succ (b : BMat) (n : Nat) : closeP b (n + 1) = roundP (closeP b n) n 8 := range_foldl_succ _ _ _
theorem RInv.rowP {j : Nat} {A : Int} {r : Nat} {b : BMat} (hA : 0 ≤ A) (hj : j < 8) (hr : r < 8) (h : RInv j A r 0 b) : ∀ n, n ≤ 8 → RInv j A r n (rowP j b r n)
  | 0, _ => h
  | n + 1, hn => by rw [rowP_succ]; exact (RInv.rowP hA hj hr h n (by omega)).step hA hj hr (by omega)
theorem RInv.roundP {j : Nat} {A : Int} {b : BMat} (hA : 0 ≤ A) (hj : j < 8) (h : Bd A b) : ∀ n, n ≤ 8 → RInv j A n 0 (roundP b j n)
  | 0, _ => .start hA hj h
  | n + 1, hn => by rw [roundP_succ]; exact ((RInv.roundP hA hj h n (by omega)).rowP hA hj (by omega) 8 (Nat.le_refl _)).next
theorem Bd.roundP {j : Nat} {A : Int} {b : BMat} (hA : 0 ≤ A) (hj : j < 8) (h : Bd A b) : Bd (6 * A) (roundP b j 8) := fun i k hi hk => (RInv.roundP hA hj h 8 (Nat.le_refl _)).all i k hi hk
theorem Bd.closeP {A : Int} {b : BMat} (hA : 0 ≤ A) (h : Bd A b) : ∀ n, n ≤ 8 → Bd (6 ^ n * A) (closeP b n)
  | 0, _ => by simpa [Go.Proofs.Ytoefcofplkbnkaa.closeP] using h
  | n + 1, hn => by
    rw [closeP_succ]
    have := Bd.roundP (j := n) (Int.mul_nonneg (Int.pow_nonneg (by omega)) hA) (by omega) (Bd.closeP hA h n (by omega))
    rw [show (6 : Int) ^ (n + 1) * A = 6 * (6 ^ n * A) from by rw [Int.pow_succ]; rw [Int.mul_comm (6 ^ n) 6, Int.mul_assoc]]
    exact this
end Go.Proofs.Ytoefcofplkbnkaa
