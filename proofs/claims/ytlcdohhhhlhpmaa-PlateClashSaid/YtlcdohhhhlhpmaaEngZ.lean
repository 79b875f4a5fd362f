/-
  The engine: a store into an element of an own slice of structs.
-/
import Derived.Test.YtlcdohhhhlhpmaaEngX
namespace ZW
open Go

theorem wr_left : ∀ (A B : List Value) (n : Nat) (vs : List Value), n + vs.length ≤ A.length → wr (A ++ B) n vs = wr A n vs ++ B
  | [], B, n, vs, h => by
    have : vs = [] := List.eq_nil_of_length_eq_zero (by rw [List.length_nil] at h; omega)
    subst this; rw [wr_nil, wr_nil]
  | x :: A, B, 0, [], _ => by rw [wr_nil, wr_nil]
  | x :: A, B, 0, v :: vs, h => by
    simp only [List.cons_append, wr]
    rw [wr_left A B 0 vs (by simp at h ⊢; omega)]
  | x :: A, B, n + 1, vs, h => by
    simp only [List.cons_append, wr]
    rw [wr_left A B n vs (by simp at h ⊢; omega)]
theorem wr_right : ∀ (A B : List Value) (n : Nat) (vs : List Value), wr (A ++ B) (A.length + n) vs = A ++ wr B n vs
  | [], B, n, vs => by simp
  | x :: A, B, n, vs => by
    have : (x :: A).length + n = (A.length + n) + 1 := by simp; omega
    rw [this]
    simp only [List.cons_append, wr]
    rw [wr_right A B n vs]
theorem wr_rows {sz o : Nat} {vs : List Value} (ho : o + vs.length ≤ sz) : ∀ (es : List (List Value)) (k : Nat), (∀ x ∈ es, x.length = sz) → k < es.length → wr es.flatten (k * sz + o) vs = (es.set k (wr (es.getD k []) o vs)).flatten
  | [], k, _, h => by simp at h
  | x :: es, 0, hl, _ => by
    have hx := hl x (by simp)
    rw [List.flatten_cons, Nat.zero_mul, Nat.zero_add, wr_left x es.flatten o vs (by omega)]
    rfl
  | x :: es, k + 1, hl, h => by
    have hx := hl x (by simp)
    rw [List.flatten_cons, show (k + 1) * sz + o = x.length + (k * sz + o) by rw [hx, Nat.add_mul]; omega, wr_right]
    rw [wr_rows ho es k (fun y hy => hl y (by simp [hy])) (by simpa using h)]
    rfl
/-- An own slice of which a part of an element is written. -/
def rowSet (sz : Nat) (g : Own) (k o : Nat) (vs : List Value) : Own := match g with
  | .e a => .e a
  | .b n c l => .b n c (wr l (k * sz + o) vs)
theorem rowSet_A (sz : Nat) (g : Own) (k o : Nat) (vs : List Value) : osA (rowSet sz g k o vs) = osA g := by cases g <;> rfl
theorem rowSet_C (sz : Nat) (g : Own) (k o : Nat) (vs : List Value) : osC (rowSet sz g k o vs) = osC g := by cases g <;> rfl
theorem flatten_len {sz : Nat} : ∀ (es : List (List Value)), (∀ x ∈ es, x.length = sz) → es.flatten.length = es.length * sz
  | [], _ => by simp
  | x :: es, h => by rw [List.flatten_cons, List.length_append, h x (by simp), flatten_len es fun y hy => h y (by simp [hy]), List.length_cons, Nat.add_mul]; omega
theorem OS.rowSet {sz : Nat} {g : Own} {es : List (List Value)} (h : OS sz g es) {k o : Nat} {vs : List Value} (hk : k < es.length) (ho : o + vs.length ≤ sz) : OS sz (rowSet sz g k o vs) (es.set k (wr (es.getD k []) o vs)) := by
  have hl := h.len
  have ha := h.at_
  refine ⟨fun x hx => ?_, ?_⟩
  · rcases List.mem_or_eq_of_mem_set hx with hx | rfl
    · exact hl x hx
    · rw [wr_length]; exact hl _ (by rw [← List.getElem_eq_getD (h := hk)]; exact List.getElem_mem hk)
  · cases g with
    | e a => simp only at ha; subst ha; simp at hk
    | b n c l =>
      simp only at ha
      obtain ⟨h1, h2, h3, h4⟩ := ha
      simp only [ZW.rowSet, List.length_set]
      refine ⟨h1, h2, by rw [wr_length]; exact h3, ?_⟩
      have hf := flatten_len es hl
      have hk1 : k * sz + sz ≤ es.length * sz := by
        have := Nat.mul_le_mul_right sz (show k + 1 ≤ es.length from hk)
        rw [Nat.add_mul, Nat.one_mul] at this; exact this
      have hsplit : l = es.flatten ++ l.drop (es.length * sz) := by rw [← h4, List.take_append_drop]
      rw [hsplit, wr_left es.flatten _ _ _ (by omega), wr_rows ho es k hl hk]
      have hlen : (es.set k (wr (es.getD k []) o vs)).flatten.length = es.length * sz := by
        rw [← wr_rows ho es k hl hk, wr_length, hf]
      rw [← hlen, List.take_left]
section
variable {P : Program} {ro : Option Nat} {Q : Exit → Act → World → Prop} {next : Act → World → Prop} {N : Nat} {S : Slots} {D : List Deferred} {W : World} {M L : Heap}
variable {ty : TypeId} {pos : String} {af : Array Edge} {g : Option (Nat × Bool)}
/-- A store into a part of an element. -/
theorem eStoreRow {T e : TypeId} {sz : Nat} {ad x : Operand} {X : Heap} {gs : Own} {es : List (List Value)} {k o : Nat} {vs : List Value} {v : Value} (ha : opd S ad = some (.pointer (some ⟨sblk (osA gs), soff (osA gs) + k * sz + o, none⟩))) (hx : opd S x = some v) (hL : L = X ++ osL e gs)
    (hv : v.cells = vs.toArray) (hT : sizeT P T = some vs.length) (hp : vs.all plainV = true) (ho : OS sz gs es) (hk : k < es.length) (hs : o + vs.length ≤ sz)
    (K : Tr (St N S D W M (X ++ osL e (rowSet sz gs k o vs))) next) : Tr (St N S D W M L) (opW P ro N ⟨none, .store T ad x, ty, pos, af, g⟩ next Q) := by
  have hat := ho.at_
  cases gs with
  | e a => simp only at hat; subst hat; simp at hk
  | b n c l =>
    simp only at hat
    obtain ⟨h1, h2, h3, h4⟩ := hat
    have hk1 : k * sz + sz ≤ es.length * sz := by
      have := Nat.mul_le_mul_right sz (show k + 1 ≤ es.length from hk)
      rw [Nat.add_mul, Nat.one_mul] at this; exact this
    have hk2 : es.length * sz ≤ c * sz := Nat.mul_le_mul_right sz h1
    have ha' : opd S ad = some (.pointer (some ⟨n, k * sz + o, none⟩)) := by
      rw [ha]
      simp only [sblk, soff, osA, Option.getD_some, Nat.zero_add]
    have hi : L[X.length]? = some (n, blk l e) := by
      subst hL
      rw [List.getElem?_append_right (Nat.le_refl _)]; simp [osL]
    refine eStoreL X.length ha' hx hi hv hT hp (by rw [Nat.ble_eq]; omega) ?_
    have he : upd L X.length (blk (wr l (k * sz + o) vs) e) = X ++ osL e (rowSet sz (.b n c l) k o vs) := by
      subst hL
      have : ∀ (X : Heap) (p : Nat × Obj) (q : Obj), upd (X ++ [p]) X.length q = X ++ [(p.1, q)] := fun X p q => by
        induction X with
        | nil => simp [upd]
        | cons r X ih => simp [upd, ih]
      exact this X (n, blk l e) _
    rw [he]; exact K
end
end ZW
