/-
  The engine: a slice of slices of numbers, each in a block of its own.
-/
import Derived.Test.YtiaaidcdoenloaaEngT
import Derived.Test.YtiaaidcdoenloaaFb
namespace ZW
open Go

/-- The rows of a matrix. -/
structure MRows where
  r : List Own
def rowsH (rows : List Own) : Heap := rows.flatMap (osL 3)
abbrev MRows.H (x : MRows) : Heap := rowsH x.r
abbrev own0 : Own := .e none
abbrev MRows.at (x : MRows) (i : Nat) : Own := x.r.getD i own0
def ownSet (g : Own) (k : Nat) (v : Value) : Own := match g with
  | .e a => .e a
  | .b n c l => .b n c (wr l k [v])
theorem wr1 (l : List Value) (k : Nat) (v : Value) : wr l k [v] = l.set k v := by rw [wr_cons, wr_nil]
theorem flat1 : ∀ (es : List Value), (es.map fun v => [v]).flatten = es
  | [] => rfl
  | v :: es => by rw [List.map_cons, List.flatten_cons, flat1 es]; rfl
/-- An own slice of single cells. -/
abbrev OV (g : Own) (vs : List Value) : Prop := OS 1 g (vs.map fun v => [v])
theorem OV.set {g : Own} {vs : List Value} (h : OV g vs) {k : Nat} (v : Value) : OV (ownSet g k v) (vs.set k v) := by
  refine ⟨fun x hx => by obtain ⟨u, _, rfl⟩ := List.mem_map.1 hx; rfl, ?_⟩
  have ha := h.at_
  cases g with
  | e a =>
    simp only [ownSet] at ha ⊢
    have : vs = [] := by simpa using ha
    subst this; rfl
  | b n c l =>
    simp only [ownSet, List.length_map, Nat.mul_one, flat1, List.length_set] at ha ⊢
    obtain ⟨h1, h2, h3, h4⟩ := ha
    refine ⟨h1, h2, by rw [wr_length]; exact h3, ?_⟩
    rw [wr1, List.take_set, h4]
theorem ownSet_A (g : Own) (k : Nat) (v : Value) : osA (ownSet g k v) = osA g := by cases g <;> rfl
theorem ownSet_C (g : Own) (k : Nat) (v : Value) : osC (ownSet g k v) = osC g := by cases g <;> rfl
theorem OV.blk {g : Own} {vs : List Value} (h : OV g vs) {k : Nat} (hk : k < vs.length) : ∃ n c l, g = .b n c l ∧ k < l.length := by
  have ha := h.at_
  cases g with
  | e a =>
    simp only at ha
    have : vs = [] := by simpa using ha
    subst this; simp at hk
  | b n c l =>
    simp only [List.length_map, Nat.mul_one] at ha
    exact ⟨n, c, l, rfl, by omega⟩
theorem OV.sle {g : Own} {vs : List Value} {e : TypeId} {W w : World} {M L : Heap} (h : OV g vs) (hw : Eff W M L w) (hs : SubP (osL e g) L) : SlE w (osA g) vs.length 1 (fun i => [vs.getD i (.int .i64 0)]) := by
  have := OS.rowsE (f := fun v : Value => [v]) (.int .i64 0) h hw hs
  simpa using this
theorem upd_mid (X Y : Heap) (p : Nat × Obj) (o : Obj) : upd (X ++ p :: Y) X.length o = X ++ (p.1, o) :: Y := by
  induction X with
  | nil => simp [upd]
  | cons q X ih => simp [upd, ih]

section
variable {P : Program} {ro : Option Nat} {Q : Exit → Act → World → Prop} {next : Act → World → Prop} {N : Nat} {S : Slots} {D : List Deferred} {W : World} {M L : Heap}
variable {ty : TypeId} {pos : String} {af : Array Edge} {g : Option (Nat × Bool)}
/-- A store into an own slice of numbers. -/
theorem eStoreOwn {T e : TypeId} {ad x : Operand} {X Y : Heap} {gs : Own} {vs : List Value} {k : Nat} {v : Int} (ha : opd S ad = some (.pointer (some ⟨sblk (osA gs), soff (osA gs) + k * 1, none⟩))) (hx : opd S x = some (.int .i64 v)) (hL : L = X ++ (osL e gs ++ Y)) (hT : sizeT P T = some 1)
    (ho : OV gs vs) (hk : k < vs.length)
    (K : Tr (St N S D W M (X ++ (osL e (ownSet gs k (.int .i64 v)) ++ Y))) next) : Tr (St N S D W M L) (opW P ro N ⟨none, .store T ad x, ty, pos, af, g⟩ next Q) := by
  obtain ⟨n, c, l, rfl, hkl⟩ := ho.blk hk
  have ha' : opd S ad = some (.pointer (some ⟨n, k, none⟩)) := by
    rw [ha]
    simp only [sblk, soff, osA, Option.getD_some, Nat.zero_add, Nat.mul_one]
  have hi : L[X.length]? = some (n, blk l e) := by
    subst hL
    rw [List.getElem?_append_right (Nat.le_refl _)]; simp [osL]
  refine eStoreL X.length ha' hx hi (vs := [.int .i64 v]) rfl (by simpa using hT) rfl (by have := hkl; simp only [List.length_singleton, Nat.ble_eq]; omega) ?_
  have e : upd L X.length (blk (wr l k [.int .i64 v]) e) = X ++ (osL e (ownSet (.b n c l) k (.int .i64 v)) ++ Y) := by
    subst hL
    exact upd_mid X Y (n, blk l e) _
  rw [e]; exact K
end
theorem rowsH_split {rows : List Own} {i : Nat} (hi : i < rows.length) : rowsH rows = rowsH (rows.take i) ++ (osL 3 (rows.getD i own0) ++ rowsH (rows.drop (i + 1))) := by
  have h : rows = rows.take i ++ (rows.getD i own0 :: rows.drop (i + 1)) := by
    rw [← List.getElem_eq_getD (h := hi), List.getElem_cons_drop, List.take_append_drop]
  unfold rowsH
  conv => lhs; rw [h]
  rw [List.flatMap_append, List.flatMap_cons]
theorem rowsH_set {rows : List Own} {i : Nat} (hi : i < rows.length) (g : Own) : rowsH (rows.set i g) = rowsH (rows.take i) ++ (osL 3 g ++ rowsH (rows.drop (i + 1))) := by
  rw [rowsH_split (i := i) (by rw [List.length_set]; exact hi)]
  rw [List.take_set_of_le (Nat.le_refl _), List.drop_set_of_lt (by omega), List.getD_eq_getElem?_getD, List.getElem?_set_self hi]
  rfl

/-! ### A matrix -/
def rowOf (N : Nat) (b : FMat) (j : Nat) : List Value := (List.range N).map fun k => .int .i64 (b j k)
theorem rowOf_length (N : Nat) (b : FMat) (j : Nat) : (rowOf N b j).length = N := by simp [rowOf]
theorem rowOf_get {N : Nat} (b : FMat) (j : Nat) {k : Nat} (hk : k < N) : (rowOf N b j).getD k (.int .i64 0) = .int .i64 (b j k) := by
  rw [List.getD_eq_getElem?_getD, rowOf, List.getElem?_map, List.getElem?_range hk]; rfl
/-- A matrix of N rows and columns, with its slice of rows and its rows. -/
structure MatP (N : Nat) (gb : Own) (rs : MRows) (b : FMat) : Prop where
  len : rs.r.length = N
  os : OV gb (rs.r.map fun g => osV g N)
  row : ∀ j, j < N → OV (rs.at j) (rowOf N b j)
theorem MatP.congr {N : Nat} {gb : Own} {rs : MRows} {b c : FMat} (h : MatP N gb rs b) (hc : ∀ i k, i < N → k < N → c i k = b i k) : MatP N gb rs c := ⟨h.len, h.os, fun j hj => by
  have : rowOf N c j = rowOf N b j := by
    unfold rowOf
    exact List.map_congr_left fun k hk => by rw [hc j k hj (List.mem_range.1 hk)]
  rw [this]; exact h.row j hj⟩
theorem SubP.mid : ∀ (X Z Y : Heap), SubP Z (X ++ (Z ++ Y))
  | X, Z, Y => by
    have h1 : SubP Z (Z ++ Y) := SubP.leftA Z Y
    induction X with
    | nil => exact h1
    | cons p X ih => exact .d 0 ih
theorem matR {N : Nat} {gb : Own} {rs : MRows} {b : FMat} {W w : World} {M L : Heap} (h : MatP N gb rs b) (hw : Eff W M L w) (hs : SubP rs.H L) {j : Nat} (hj : j < N) : SlE w (osA (rs.at j)) N 1 (fun k => [.int .i64 (b j k)]) := by
  have h1 := hw.sub hs
  unfold MRows.H at h1
  rw [rowsH_split (i := j) (by rw [h.len]; exact hj)] at h1
  have h2 := (h.row j hj).sle (e := 3) (h1.sub (SubP.mid _ _ _)) .r
  refine h2.congr (rowOf_length N b j).symm fun i hi => ?_
  rw [rowOf_length] at hi
  rw [rowOf_get b j hi]
theorem MatP.set {N : Nat} {gb : Own} {rs : MRows} {b : FMat} (h : MatP N gb rs b) {i k : Nat} (hi : i < N) (v : Int) : MatP N gb ⟨rs.r.set i (ownSet (rs.at i) k (.int .i64 v))⟩ (fUpd b i k v) := by
  have hil : i < rs.r.length := by rw [h.len]; exact hi
  refine ⟨by simp only [List.length_set]; exact h.len, ?_, fun j hj => ?_⟩
  · have e : (rs.r.set i (ownSet (rs.at i) k (.int .i64 v))).map (fun g => osV g N) = rs.r.map fun g => osV g N := by
      refine List.ext_getElem (by simp) fun n h1 h2 => ?_
      simp only [List.getElem_map, List.getElem_set]
      split
      · rename_i hn
        subst hn
        simp only [osV, ownSet_A, ownSet_C]
        unfold MRows.at
        rw [← List.getElem_eq_getD (h := hil)]
      · rfl
    rw [e]; exact h.os
  · unfold MRows.at
    by_cases hij : j = i
    · subst hij
      have e1 : (rs.r.set j (ownSet (rs.at j) k (.int .i64 v))).getD j own0 = ownSet (rs.at j) k (.int .i64 v) := by
        rw [List.getD_eq_getElem?_getD, List.getElem?_set_self hil]; rfl
      have e2 : rowOf N (fUpd b j k v) j = (rowOf N b j).set k (.int .i64 v) := by
        refine List.ext_getElem (by simp [rowOf]) fun n h1 h2 => ?_
        simp only [rowOf, List.getElem_map, List.getElem_range, List.getElem_set, fUpd]
        by_cases hn : k = n
        · subst hn; simp
        · rw [if_neg hn, if_neg (by omega)]
      show OV ((rs.r.set j (ownSet (rs.at j) k (.int .i64 v))).getD j own0) _
      rw [e1, e2]
      exact (h.row j hj).set _
    · have e1 : (rs.r.set i (ownSet (rs.at i) k (.int .i64 v))).getD j own0 = rs.at j := by
        unfold MRows.at
        rw [List.getD_eq_getElem?_getD, List.getElem?_set_ne (Ne.symm hij), ← List.getD_eq_getElem?_getD]
      have e2 : rowOf N (fUpd b i k v) j = rowOf N b j := by
        unfold rowOf
        exact List.map_congr_left fun n _ => by simp [fUpd, hij]
      show OV ((rs.r.set i (ownSet (rs.at i) k (.int .i64 v))).getD j own0) _
      rw [e1, e2]
      exact h.row j hj
section
variable {P : Program} {ro : Option Nat} {Q : Exit → Act → World → Prop} {next : Act → World → Prop} {N0 : Nat} {S : Slots} {D : List Deferred} {W : World} {M L : Heap}
variable {ty : TypeId} {pos : String} {af : Array Edge} {g : Option (Nat × Bool)}
/-- A store into a matrix. -/
theorem eStoreMat {T : TypeId} {ad x : Operand} {X : Heap} {N : Nat} {gb : Own} {rs : MRows} {b : FMat} {i k : Nat} {v : Int} (h : MatP N gb rs b) (hi : i < N) (hk : k < N) (ha : opd S ad = some (.pointer (some ⟨sblk (osA (rs.at i)), soff (osA (rs.at i)) + k * 1, none⟩))) (hx : opd S x = some (.int .i64 v)) (hL : L = X ++ rs.H) (hT : sizeT P T = some 1)
    (K : ∀ rt : MRows, MatP N gb rt (fUpd b i k v) → Tr (St N0 S D W M (X ++ rt.H)) next) : Tr (St N0 S D W M L) (opW P ro N0 ⟨none, .store T ad x, ty, pos, af, g⟩ next Q) := by
  have hil : i < rs.r.length := by rw [h.len]; exact hi
  refine eStoreOwn (X := X ++ rowsH (rs.r.take i)) (Y := rowsH (rs.r.drop (i + 1))) (e := 3) ha hx ?_ hT (h.row i hi) (by rw [rowOf_length]; exact hk) ?_
  · rw [hL, List.append_assoc]
    congr 1
    exact rowsH_split hil
  · have := K ⟨rs.r.set i (ownSet (rs.at i) k (.int .i64 v))⟩ (h.set hi v)
    unfold MRows.H at this
    rw [rowsH_set hil, ← List.append_assoc] at this
    exact this
end
section
variable {P : Program} {ro : Option Nat} {Q : Exit → Act → World → Prop} {next : Act → World → Prop} {N0 : Nat} {S : Slots} {D : List Deferred} {W : World} {M L : Heap}
variable {ty : TypeId} {pos : String} {af : Array Edge} {g : Option (Nat × Bool)}
theorem fStoreMat {T : TypeId} {ad x : Operand} {X : Heap} {N : Nat} {gb : Own} {rs : MRows} {b : FMat} {i k : Nat} {v : Int} (h : MatP N gb rs b) (hi : i < N) (hk : k < N) (ha : opd S ad = some (.pointer (some ⟨sblk (osA (rs.at i)), soff (osA (rs.at i)) + k * 1, none⟩))) (hx : opd S x = some (.int .i64 v)) (hL : L = X ++ rs.H) (hT : sizeT P T = some 1) :
    Tr (St N0 S D W M L) (opW P ro N0 ⟨none, .store T ad x, ty, pos, af, g⟩ (fun a w => ∃ rt : {rt : MRows // MatP N gb rt (fUpd b i k v)}, St N0 S D W M (X ++ rt.1.H) a w) Q) :=
  eStoreMat h hi hk ha hx hL hT fun rt hrt => trTo (Y := fun rt : {rt : MRows // MatP N gb rt (fUpd b i k v)} => St N0 S D W M (X ++ rt.1.H)) ⟨rt, hrt⟩ trSelf
/-- A store into the own slice that comes last. -/
theorem eStoreEnd {T e : TypeId} {ad x : Operand} {X : Heap} {gs : Own} {vs : List Value} {k : Nat} {v : Int} (ha : opd S ad = some (.pointer (some ⟨sblk (osA gs), soff (osA gs) + k * 1, none⟩))) (hx : opd S x = some (.int .i64 v)) (hL : L = X ++ osL e gs) (hT : sizeT P T = some 1)
    (ho : OV gs vs) (hk : k < vs.length) (K : Tr (St N0 S D W M (X ++ osL e (ownSet gs k (.int .i64 v)))) next) : Tr (St N0 S D W M L) (opW P ro N0 ⟨none, .store T ad x, ty, pos, af, g⟩ next Q) :=
  eStoreOwn (Y := []) ha hx (by rw [hL, List.append_nil]) hT ho hk (by rw [List.append_nil]; exact K)
end
/-- Tails in another order. -/
theorem SubP.app {A B : Heap} (h : SubP A B) : ∀ P : Heap, SubP (P ++ A) (P ++ B)
  | [] => h
  | _ :: P => .c 0 rfl (SubP.app h P)
theorem SubP.rot (G R T : Heap) : SubP ((R ++ T) ++ G) ((G ++ R) ++ T) := by
  have := SubP.comm G (R ++ T)
  rw [← List.append_assoc G R T] at this
  have h2 := SubP.comm (R ++ T) G
  rw [← List.append_assoc G R T] at h2
  exact h2
end ZW
