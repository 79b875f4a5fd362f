/-
  The engine, twelfth part: maps of which the keys are numbers, and out of which nothing is taken.
-/
import Derived.Test.YtlcdohhhhlhpmaaEngK
namespace ZW
open Go

def mkE (k : IntKind) : List (Int × Value) → Nat → List MapEntry
  | [], _ => []
  | (a, v) :: r, i => { key := .int k a, val := v, born := i } :: mkE k r (i + 1)
abbrev mapO (k : IntKind) (es : List (Int × Value)) : Obj := .map (mkE k es 0).toArray es.length
def mFind : List (Int × Value) → Int → Nat → Option (Nat × Value)
  | [], _, _ => none
  | (b, v) :: r, a, i => if a = b then some (i, v) else mFind r a (i + 1)
def mGet (es : List (Int × Value)) (a : Int) (d : Value) : Value := match mFind es a 0 with
  | some (_, v) => v
  | none => d
def mPut (es : List (Int × Value)) (a : Int) (v : Value) : List (Int × Value) := match mFind es a 0 with
  | some (i, _) => es.set i (a, v)
  | none => es ++ [(a, v)]

theorem findNow_mk (k k' : IntKind) (a : Int) : ∀ (es : List (Int × Value)) (b i : Nat), Instr.findNow (.int k') (.int k a) (mkE k es b) i = some (mFind es a i)
  | [], b, i => rfl
  | (c, v) :: r, b, i => by
    have ih := findNow_mk k k' a r (b + 1) (i + 1)
    simp only [mkE, Instr.findNow, Instr.sameNow, mFind, if_true]
    by_cases h : a = c
    · subst h; simp
    · have hb : (a == c) = false := by simpa using h
      rw [if_neg h, hb]; exact ih
theorem mFind_lt : ∀ (es : List (Int × Value)) (a : Int) (i j : Nat) (v : Value), mFind es a i = some (j, v) → i ≤ j ∧ j < i + es.length ∧ ∃ u, es[j - i]? = some (a, u)
  | [], a, i, j, v, h => by simp [mFind] at h
  | (c, u) :: r, a, i, j, v, h => by
    simp only [mFind] at h
    split at h
    · rename_i hc; subst hc; cases h; simp
    · obtain ⟨h1, h2, x, h3⟩ := mFind_lt r a (i + 1) j v h
      refine ⟨by omega, by simp only [List.length_cons]; omega, x, ?_⟩
      rw [show j - i = (j - (i + 1)) + 1 from by omega]
      simpa using h3
theorem mkE_length (k : IntKind) : ∀ (es : List (Int × Value)) (b : Nat), (mkE k es b).length = es.length
  | [], _ => rfl
  | (a, v) :: r, b => by simp [mkE, mkE_length k r (b + 1)]
theorem mkE_get (k : IntKind) : ∀ (es : List (Int × Value)) (b i : Nat), (mkE k es b)[i]? = (es[i]?).map fun p => { key := .int k p.1, val := p.2, born := b + i }
  | [], _, _ => rfl
  | (a, v) :: r, b, 0 => by simp [mkE]
  | (a, v) :: r, b, i + 1 => by
    simp only [mkE, List.getElem?_cons_succ, mkE_get k r (b + 1) i]
    congr 1; funext p; congr 1; omega
theorem mkE_push (k : IntKind) (es : List (Int × Value)) (a : Int) (v : Value) : (mkE k es 0).toArray.push { key := .int k a, val := v, born := es.length } = (mkE k (es ++ [(a, v)]) 0).toArray := by
  refine Array.ext' ?_
  simp only [Array.toList_push]
  refine List.ext_getElem? fun i => ?_
  rw [mkE_get, List.getElem?_append, List.getElem?_append, mkE_length]
  by_cases h : i < es.length
  · simp only [h, if_true, mkE_get]
  · simp only [h, if_false]
    by_cases h2 : i = es.length
    · subst h2; simp
    · rw [List.getElem?_eq_none (by simp; omega), List.getElem?_eq_none (by simp; omega)]; rfl
theorem mkE_set (k : IntKind) (es : List (Int × Value)) (i : Nat) (a : Int) (v : Value) : ((mkE k es 0).toArray.modify i fun e => { e with key := .int k a, val := v }) = (mkE k (es.set i (a, v)) 0).toArray := by
  refine Array.ext_getElem? fun j => ?_
  rw [Array.getElem?_modify]
  simp only [List.getElem?_toArray, mkE_get, List.getElem?_set]
  by_cases h : i = j
  · subst h
    by_cases hi : i < es.length
    · simp [hi]
    · simp [hi]
  · simp [h]

theorem mFind_shift : ∀ (es : List (Int × Value)) (a : Int) (i : Nat), mFind es a (i + 1) = (mFind es a i).map fun p => (p.1 + 1, p.2)
  | [], _, _ => rfl
  | (b, v) :: r, a, i => by
    simp only [mFind]
    split
    · rfl
    · exact mFind_shift r a (i + 1)
theorem mGet_put (es : List (Int × Value)) (a b : Int) (v z : Value) : mGet (mPut es a v) b z = if b = a then v else mGet es b z := by
  induction es with
  | nil =>
    simp only [mPut, mFind, mGet, List.nil_append]
    by_cases h : b = a <;> simp [h]
  | cons p r ih =>
    obtain ⟨c, u⟩ := p
    have hs := mFind_shift
    by_cases hca : a = c
    · subst hca
      simp only [mPut, mFind, if_true, List.set_cons_zero, mGet]
      by_cases h : b = a
      · simp [h]
      · simp [h]
    · have h1 : mPut ((c, u) :: r) a v = (c, u) :: mPut r a v := by
        simp only [mPut, mFind, if_neg hca, hs r a 0]
        cases hf : mFind r a 0 with
        | none => simp
        | some q => simp
      rw [h1]
      by_cases h : b = c
      · subst h
        have : b ≠ a := fun e => hca e.symm
        simp [mGet, mFind, this]
      · have h2 : ∀ (l : List (Int × Value)), mGet ((c, u) :: l) b z = mGet l b z := fun l => by
          simp only [mGet, mFind, if_neg h, hs l b 0]
          cases hf : mFind l b 0 with
          | none => simp
          | some q => simp
        rw [h2, h2, ih]

/-- Cells of a block that was there. -/
theorem cOldB {W : World} {L : Heap} {b o : Nat} {l vs : List Value} {e : TypeId} {z : Nat × Nat} (h : W.heap[b]? = some (.cells l.toArray e z)) (hs : sub l o vs.length = some vs) : Cells (Eff W [] L) b o vs := fun w hw j hj => by
  have hlt : b < W.heap.size := by rw [Array.getElem?_eq_some_iff] at h; exact h.1
  have h' : w.heap[b]? = some (.cells l.toArray e z) := by rw [hw.frame b hlt (by simp)]; exact h
  obtain ⟨_, h2⟩ := sub_spec _ _ _ _ hs
  rw [cell_blk h']; exact h2 j hj
theorem Eff.old' {W w : World} {L : Heap} (h : Eff W [] L w) {n : Nat} {o : Obj} (hn : W.heap[n]? = some o) : w.heap[n]? = some o := by
  have hlt : n < W.heap.size := by rw [Array.getElem?_eq_some_iff] at hn; exact hn.1
  rw [h.frame n hlt (by simp)]; exact hn

section
variable {P : Program} {ro : Option Nat} {Q : Exit → Act → World → Prop} {next : Act → World → Prop} {N : Nat} {S : Slots} {D : List Deferred} {W : World} {M L : Heap}
variable {C : World → Prop} {dst : Option Tmp} {d : Nat} {ty : TypeId} {pos : String} {af : Array Edge} {g : Option (Nat × Bool)}

/-- A map type: keys that are numbers; the element's type. -/
def mapT (P : Program) (T : TypeId) : Option (IntKind × TypeId) := match P.underlying T with
  | some (.map k e) => match P.underlying k with
    | some (.int q) => some (q, e)
    | _ => none
  | _ => none
theorem mapT_spec {T e : TypeId} {q : IntKind} (h : mapT P T = some (q, e)) : ∃ k, P.underlying T = some (.map k e) ∧ P.underlying k = some (.int q) := by
  unfold mapT at h
  split at h
  · rename_i k e' hu
    split at h
    · rename_i q' hk; cases h; exact ⟨_, hu, hk⟩
    · cases h
  · cases h

theorem run_checkKey {k : TypeId} {q : IntKind} (h : P.underlying k = some (.int q)) (b : Bool) (n : Nat) (v : Value) (w : World) : (Instr.checkKey b (n + 1) k v).run P w = .ok () w := by
  simp only [Instr.checkKey, Sem.run_bind, run_underlying_of h, Result.andThen_ok, Sem.run_pure]
theorem run_findKey {k : TypeId} {q : IntKind} (h : P.underlying k = some (.int q)) (a : Int) (es : List (Int × Value)) (w : World) : (Instr.findKey k (.int q a) (mkE q es 0)).run P w = .ok (mFind es a 0) w := by
  simp only [Instr.findKey, Sem.run_bind, run_underlying_of h, Result.andThen_ok, findNow_mk, Sem.run_pure]

theorem eMakeMap {T : TypeId} {k : IntKind} (hk : ∀ n, Tr (St N ((d, .map (some n)) :: S) D W M ((n, mapO k []) :: L)) next) :
    Tr (St N S D W M L) (opW P ro N ⟨some d, .makeMap T none, ty, pos, af, g⟩ next Q) := fun a w hs hN => by
  refine opW_value (w' := { w with heap := w.heap.push (mapO k []) }) (v := .map (some w.heap.size)) rfl ?_ (hk w.heap.size _ _ ((hs.put (hN d rfl) _).eff (hs.ef.alloc _))) hN
  simp only [execOp, Option.map_none, Instr.makeMap, newObj, Sem.run, Sem.run_bind, Sem.run_pure, Result.andThen_ok]
  rfl

theorem run_lookup {T e : TypeId} {q : IntKind} (hT : mapT P T = some (q, e)) {z : Value} (hz : ∀ w, (zeroValue e).run P w = .ok z w) {w : World} {n : Nat} {es : List (Int × Value)} (h : w.heap[n]? = some (mapO q es)) (a : Int) (c : Bool) :
    (Instr.lookup T (.map (some n)) (.int q a) c).run P w = .ok (if c then .tuple #[mGet es a z, .bool (mFind es a 0).isSome] else mGet es a z) w := by
  obtain ⟨k, h1, h2⟩ := mapT_spec hT
  have hg : (getObj n).run P w = .ok (mapO q es) w := by simp [getObj, Sem.run, h]
  simp only [Instr.lookup, Sem.run_bind, run_underlying_of h1, Result.andThen_ok, hg, Sem.run_pure, run_checkKey h2, run_findKey h2]
  unfold mGet
  cases hf : mFind es a 0 with
  | none => cases c <;> simp [hz]
  | some p => obtain ⟨i, v⟩ := p; cases c <;> simp
theorem yLookup {T e : TypeId} {q : IntKind} {x i : Operand} {n : Nat} {es : List (Int × Value)} {a : Int} {z : Value} (hT : mapT P T = some (q, e)) (hz : ∀ w, (zeroValue e).run P w = .ok z w) (hx : opd S x = some (.map (some n))) (hi : opd S i = some (.int q a))
    (hc : ∀ w, C w → w.heap[n]? = some (mapO q es)) : YV P S C ⟨dst, .lookup T x i false, ty, pos, af, g⟩ (mGet es a z) :=
  .pureC fun ρ hk w hC => by
    simp only [execOp, hk x _ hx, hk i _ hi, Sem.run_bind, run_lookup hT hz (hc w hC) a false, Result.andThen_ok, Sem.run_pure, Bool.false_eq_true, if_false]
theorem yLookupOk {T e : TypeId} {q : IntKind} {x i : Operand} {n : Nat} {es : List (Int × Value)} {a : Int} {z : Value} (hT : mapT P T = some (q, e)) (hz : ∀ w, (zeroValue e).run P w = .ok z w) (hx : opd S x = some (.map (some n))) (hi : opd S i = some (.int q a))
    (hc : ∀ w, C w → w.heap[n]? = some (mapO q es)) : YV P S C ⟨dst, .lookup T x i true, ty, pos, af, g⟩ (.tuple [mGet es a z, .bool (mFind es a 0).isSome].toArray) :=
  .pureC fun ρ hk w hC => by
    simp only [execOp, hk x _ hx, hk i _ hi, Sem.run_bind, run_lookup hT hz (hc w hC) a true, Result.andThen_ok, Sem.run_pure, if_true]

theorem run_mapUpdate {T e : TypeId} {q : IntKind} (hT : mapT P T = some (q, e)) {w : World} {n : Nat} {es : List (Int × Value)} (h : w.heap[n]? = some (mapO q es)) (a : Int) (v : Value) :
    (Instr.mapUpdate T (.map (some n)) (.int q a) v).run P w = .ok () { w with heap := w.heap.setIfInBounds n (mapO q (mPut es a v)) } := by
  obtain ⟨k, h1, h2⟩ := mapT_spec hT
  have hg : (getObj n).run P w = .ok (mapO q es) w := by simp [getObj, Sem.run, h]
  have hset : ∀ o, (setObj n o).run P w = .ok () { w with heap := w.heap.setIfInBounds n o } := fun o => by simp [setObj, Sem.run, h]
  simp only [Instr.mapUpdate, Sem.run_bind, run_underlying_of h1, Result.andThen_ok, hg, run_checkKey h2, run_findKey h2]
  unfold mPut
  cases hf : mFind es a 0 with
  | none =>
    simp only [hset, mkE_push, mapO, List.length_append, List.length_singleton]
  | some p =>
    obtain ⟨i, u⟩ := p
    obtain ⟨_, _, x, hx⟩ := mFind_lt es a 0 i u hf
    simp only [Nat.sub_zero] at hx
    have hkey : (((mkE q es 0).toArray[i]?).map (·.key)).getD (.int q a) = .int q a := by simp [mkE_get, hx]
    have hst : (Instr.keyThatStays (.int q a) (.int q a)).run P w = .ok (.int q a) w := by
      simp [Instr.keyThatStays, Instr.sameBits, Sem.run_pure]
    simp only [hkey, Sem.run_bind, hst, Result.andThen_ok, hset, mkE_set, mapO, List.length_set]
/-- A key's value, in the i-th of the new blocks. -/
theorem eMapUpdate {T e : TypeId} {q : IntKind} {m x v : Operand} {n : Nat} {es : List (Int × Value)} {a : Int} {u : Value} (i : Nat) (hT : mapT P T = some (q, e)) (hm : opd S m = some (.map (some n))) (hx : opd S x = some (.int q a)) (hv : opd S v = some u)
    (hi : L[i]? = some (n, mapO q es)) (k : Tr (St N S D W M (upd L i (mapO q (mPut es a u)))) next) : Tr (St N S D W M L) (opW P ro N ⟨none, .mapUpdate T m x v, ty, pos, af, g⟩ next Q) := fun ac w hs hN => by
  have hb := hs.ef.own _ (List.mem_append.2 (.inr (List.mem_of_getElem? hi)))
  have hlt : n < w.heap.size := by rw [Array.getElem?_eq_some_iff] at hb; exact hb.1
  refine opW_skip (w' := { w with heap := w.heap.setIfInBounds n (mapO q (mPut es a u)) }) rfl ?_ (k _ _ (hs.eff (hs.ef.updL hi ?_ ?_ ?_ rfl rfl rfl))) hN
  · simp only [execOp, hs.knows m _ hm, hs.knows x _ hx, hs.knows v _ hv, Sem.run_bind, run_mapUpdate hT hb, Result.andThen_ok, Sem.run_pure]
  · simp [hlt]
  · intro j hj
    simp only [Array.getElem?_setIfInBounds]
    rw [if_neg (Ne.symm hj)]
  · simp
/-- A field of a value. -/
theorem yField {T : TypeId} {x : Operand} {i : Nat} {u v : Value} (hx : opd S x = some u) (h : ∀ w, (Instr.field T u i).run P w = .ok v w) : YV P S C ⟨dst, .field T x i, ty, pos, af, g⟩ v :=
  .pure fun ρ hk w => by simp only [execOp, hk x _ hx, Sem.run_bind, h w, Result.andThen_ok, Sem.run_pure]
/-- Natural numbers, of whatever kind of 64 bits. -/
theorem yAddN {t t' : TypeId} {x y : Operand} {k : IntKind} {a b : Nat} (hx : opd S x = some (.int k (a : Nat))) (hy : opd S y = some (.int k (b : Nat))) (hk : is64 k = true) (h : a + b < 2 ^ 63) :
    YV P S C ⟨dst, .binOp .add t x y t', ty, pos, af, g⟩ (.int k ((a + b : Nat) : Int)) := yArith hx hy (.inl ⟨rfl, by rw [← wrap_nat hk h]; congr 1⟩)
theorem ySubN {t t' : TypeId} {x y : Operand} {k : IntKind} {a b : Nat} (hx : opd S x = some (.int k (a : Nat))) (hy : opd S y = some (.int k (b : Nat))) (hk : is64 k = true) (h : b ≤ a ∧ a < 2 ^ 63) :
    YV P S C ⟨dst, .binOp .sub t x y t', ty, pos, af, g⟩ (.int k ((a - b : Nat) : Int)) := yArith hx hy (.inr (.inl ⟨rfl, by rw [← wrap_nat hk (n := a - b) (by omega)]; congr 1; omega⟩))
end
end ZW
