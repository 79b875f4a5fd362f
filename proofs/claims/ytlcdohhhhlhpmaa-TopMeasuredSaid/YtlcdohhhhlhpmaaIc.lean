/-
  Walks: plates that are truly made.
-/
import Derived.Test.YtlcdohhhhlhpmaaIb
namespace Go.Proofs.Ytlcdohhhhlhpmaa
open ZW

/-- A star, and where it truly is on the plate and in the sky. -/
structure StarT (s : Int) (c : Int × Int) (x : StarV) (m y : Int × Int) : Prop where
  ok : starOk x
  img : ∀ d, ((imgD d x).1 ≤ pd d m ∧ pd d m ≤ (imgD d x).2) ∧ 0 ≤ pd d m ∧ pd d m ≤ 32768
  sky : ∀ d, pd d y = pd d c + s * pd d m / 1000
  said : x.k = true → ∀ d, (saidD d x).1 ≤ pd d y ∧ pd d y ≤ (saidD d x).2
  b : ∀ d, -100000 ≤ pd d y ∧ pd d y ≤ 100000
/-- All stars so far. -/
structure AllT (s : Int) (c : Int × Int) (st : List StarV) (im sk : List (Int × Int)) (n : Nat) : Prop where
  l1 : st.length = n
  l2 : im.length = n
  l3 : sk.length = n
  all : ∀ i, i < n → StarT s c (st.getD i star0) (im.getD i (0, 0)) (sk.getD i (0, 0))
theorem getD_snoc {α : Type} (l : List α) (x d : α) (j : Nat) : (l ++ [x]).getD j d = if j < l.length then l.getD j d else if j = l.length then x else d := by
  simp only [List.getD_eq_getElem?_getD, List.getElem?_append]
  split
  · rfl
  · by_cases h : j = l.length
    · subst h; simp
    · rw [if_neg h]
      rw [List.getElem?_eq_none (by simp; omega)]; rfl
theorem AllT.snoc {s : Int} {c : Int × Int} {st : List StarV} {im sk : List (Int × Int)} {n : Nat} (h : AllT s c st im sk n) {x : StarV} {m y : Int × Int} (hx : StarT s c x m y) : AllT s c (st ++ [x]) (im ++ [m]) (sk ++ [y]) (n + 1) := by
  refine ⟨by rw [List.length_append, h.l1]; rfl, by rw [List.length_append, h.l2]; rfl, by rw [List.length_append, h.l3]; rfl, fun i hi => ?_⟩
  rw [getD_snoc, getD_snoc, getD_snoc, h.l1, h.l2, h.l3]
  by_cases hin : i < n
  · rw [if_pos hin, if_pos hin, if_pos hin]; exact h.all i hin
  · rw [if_neg hin, if_neg hin, if_neg hin, if_pos (by omega), if_pos (by omega), if_pos (by omega)]; exact hx
theorem AllT.truth {s : Int} {c lh : Int × Int} {st : List StarV} {im sk : List (Int × Int)} {n : Nat} (h : AllT s c st im sk n) (hn : n ≤ 10) (hc : ∀ d, -100000 ≤ pd d c ∧ pd d c ≤ 100000) (hs : 1 ≤ lh.1 ∧ lh.1 ≤ s ∧ s ≤ lh.2 ∧ lh.2 ≤ 1000) :
    TruthP ⟨lh, st⟩ s c im sk ∧ ∀ i, i < st.length → ∀ d, -100000 ≤ pd d (sk.getD i (0, 0)) ∧ pd d (sk.getD i (0, 0)) ≤ 100000 := by
  have l1 := h.l1
  refine ⟨⟨⟨by unfold spanOk; dsimp only; omega, by dsimp only; omega, fun x hx => ?_⟩, by dsimp only; omega, hc, by rw [h.l2]; exact l1.symm, by rw [h.l3]; exact l1.symm, fun i hi => (h.all i (l1 ▸ hi)).img, fun i hi => (h.all i (l1 ▸ hi)).sky, fun i hi => (h.all i (l1 ▸ hi)).said⟩, fun i hi => (h.all i (l1 ▸ hi)).b⟩
  obtain ⟨i, hi, rfl⟩ := List.mem_iff_getElem.1 hx
  rw [List.getElem_eq_getD (h := hi) star0]
  exact (h.all i (l1 ▸ hi)).ok
structure MadeX where
  lh : Int × Int
  st : List StarV
  s : Int
  c : Int × Int
  im : List (Int × Int)
  sk : List (Int × Int)
  g1 : Own
  g2 : Own
  g3 : Own
  k : Nat
structure MadeOk (x : MadeX) : Prop where
  t : TruthP ⟨x.lh, x.st⟩ x.s x.c x.im x.sk
  b : ∀ i, i < x.st.length → ∀ d, -100000 ≤ pd d (x.sk.getD i (0, 0)) ∧ pd d (x.sk.getD i (0, 0)) ≤ 100000
  o1 : OS 9 x.g1 (x.st.map rowS)
  o2 : OS 2 x.g2 (x.im.map rowE)
  o3 : OS 2 x.g3 (x.sk.map rowE)
theorem rowsE_len (l : List (Int × Int)) : ∀ x ∈ l.map rowE, x.length = 2 := by
  intro x hx; obtain ⟨y, _, rfl⟩ := List.mem_map.1 hx; rfl
theorem rowsE_one (l : List (Int × Int)) : ∀ x ∈ l.map rowE, ∀ u ∈ x, u.oneCell' = true := by
  intro x hx u hu; obtain ⟨y, _, rfl⟩ := List.mem_map.1 hx
  simp only [rowE, List.mem_cons, List.not_mem_nil, or_false] at hu
  rcases hu with rfl | rfl <;> rfl
theorem sky_bd {s m : Int} (hs : 0 ≤ s ∧ s ≤ 1000) (hm : 0 ≤ m ∧ m ≤ 32768) : (0 ≤ s * m ∧ s * m ≤ 32768000) ∧ 0 ≤ s * m / 1000 ∧ s * m / 1000 ≤ 32768 := by
  have := mul_bd hs hm
  omega
/-- A star that is truly made. -/
theorem star_made {s : Int} {c m : Int × Int} {l : List Nat} {k : Nat} (hs : 20 ≤ s ∧ s ≤ 979) (hc : ∀ d, -10000 ≤ pd d c ∧ pd d c ≤ 9999) (hm : ∀ d, 0 ≤ pd d m ∧ pd d m ≤ 29999) (x : StarV) (hx : x.x = aroundV l k m.1) (hy : x.y = aroundV l (k + 1 + 1) m.2)
    (hk : x.k = true → ∃ d1 d2 d3 d4 : Int, (0 ≤ d1 ∧ d1 < 8) ∧ (0 ≤ d2 ∧ d2 < 8) ∧ (0 ≤ d3 ∧ d3 < 8) ∧ (0 ≤ d4 ∧ d4 < 8) ∧ x.e = (c.1 + s * m.1 / 1000 - d1, c.1 + s * m.1 / 1000 + d2) ∧ x.n = (c.2 + s * m.2 / 1000 - d3, c.2 + s * m.2 / 1000 + d4)) :
    StarT s c x m (c.1 + s * m.1 / 1000, c.2 + s * m.2 / 1000) := by
  have hm1 := hm false
  have hm2 := hm true
  have hc1 := hc false
  have hc2 := hc true
  have b1 := draw_bd l (k + 1) (n := 8) (by omega)
  have b2 := draw_bd l (k + 1 + 1) (n := 8) (by omega)
  have b3 := draw_bd l (k + 1 + 1 + 1) (n := 8) (by omega)
  have b4 := draw_bd l (k + 1 + 1 + 1 + 1) (n := 8) (by omega)
  have s1 := sky_bd (s := s) (m := m.1) (by omega) (by simp only [pd] at hm1; simp at hm1; omega)
  have s2 := sky_bd (s := s) (m := m.2) (by omega) (by simp only [pd] at hm2; simp at hm2; omega)
  simp only [pd, Bool.false_eq_true, if_false, if_true] at hm1 hm2 hc1 hc2
  refine ⟨⟨?_, ?_, fun h => ?_⟩, fun d => ?_, fun d => ?_, fun h d => ?_, fun d => ?_⟩
  · rw [hx]; unfold spanOk; dsimp only; omega
  · rw [hy]; unfold spanOk; dsimp only; omega
  · obtain ⟨d1, d2, d3, d4, q1, q2, q3, q4, e1, e2⟩ := hk h
    rw [e1, e2]; unfold spanOk; dsimp only; omega
  · cases d
    · show ((x.x).1 ≤ m.1 ∧ m.1 ≤ (x.x).2) ∧ _
      rw [hx]; dsimp only; simp only [pd, Bool.false_eq_true, if_false]; omega
    · show ((x.y).1 ≤ m.2 ∧ m.2 ≤ (x.y).2) ∧ _
      rw [hy]; dsimp only; simp only [pd, if_true]; omega
  · cases d <;> rfl
  · obtain ⟨d1, d2, d3, d4, q1, q2, q3, q4, e1, e2⟩ := hk h
    cases d
    · show (x.e).1 ≤ _ ∧ _ ≤ (x.e).2
      rw [e1]; simp only [pd, Bool.false_eq_true, if_false]; omega
    · show (x.n).1 ≤ _ ∧ _ ≤ (x.n).2
      rw [e2]; simp only [pd, if_true]; omega
  · cases d
    · simp only [pd, Bool.false_eq_true, if_false]; omega
    · simp only [pd, if_true]; omega
/-- Tails in another order. -/
theorem SubP.rot' (G R T : Heap) : SubP ((R ++ T) ++ G) ((G ++ R) ++ T) := by
  have := SubP.comm G (R ++ T)
  rw [← List.append_assoc G R T] at this
  have h2 := SubP.comm (R ++ T) G
  rw [← List.append_assoc G R T] at h2
  exact h2
theorem bk {N : Nat} {S : Slots} {D : List Deferred} {W : World} {M L : Heap} {b : Nat} {o : Obj} (i : Nat) (h : (M ++ L)[i]? = some (b, o)) : ∀ a w, St N S D W M L a w → w.heap[b]? = some o := fun _ _ hs => hs.ef.blkAt i h
abbrev E3 (g1 g2 g3 : Own) : Heap := (osL 58 g1 ++ osL 45 g2) ++ osL 45 g3
theorem blk_lt {W : World} {n : Nat} {o : Obj} (h : W.heap[n]? = some o) : n < W.heap.size := by rw [Array.getElem?_eq_some_iff] at h; exact h.1
theorem sl_lt {W : World} {a : Option Addr} {l : List Nat} (hs : SlE W a l.length 1 (l16C l)) (h0 : 0 < l.length) : sblk a < W.heap.size := by
  have h3 := hs.cell 0 0 h0 (by decide)
  exact World.block_lt_of_cell? W ⟨sblk a, _, none⟩ (h3.trans rfl)
abbrev sv0 (l : List Nat) (k : Nat) (x1 x2 : Int) : StarV := ⟨aroundV l (k + 1 + 1) x1, aroundV l (k + 1 + 1 + 1 + 1) x2, false, (0, 0), (0, 0)⟩
abbrev sv1 (l : List Nat) (k r : Nat) (x1 x2 y1 y2 : Int) : StarV := ⟨aroundV l (k + 1 + 1) x1, aroundV l (k + 1 + 1 + 1 + 1) x2, true, (y1 - drawI l (r + 1) 8, y1 + drawI l (r + 1 + 1) 8), (y2 - drawI l (r + 1 + 1 + 1) 8, y2 + drawI l (r + 1 + 1 + 1 + 1) 8)⟩
abbrev zv1 (l : List Nat) (k r : Nat) (s c1 c2 x1 x2 : Int) : StarV × Nat := (sv1 l k r x1 x2 (c1 + s * x1 / 1000) (c2 + s * x2 / 1000), r + 1 + 1 + 1 + 1)
end Go.Proofs.Ytlcdohhhhlhpmaa
