/-
  Texts EngM, EngR, EngS, EngT, EngV, EngW, EngX, EngY, EngZ in one.
-/
import Derived.Test.YtdpeifbejeflhaaE2
import Derived.RangeFuncIn
import Derived.Laws.MakeOwn
import Derived.RecoverIn
import Derived.Maps.RangeRun
namespace ZW
open Go

def mkE (k : IntKind) : List (Int × Value) → Nat → List MapEntry
  | [], _ => []
  | (a, v) :: r, i => { key := .int k a, val := v, born := i } :: mkE k r (i + 1)
abbrev mapO (k : IntKind) (es : List (Int × Value)) : Obj := .map (mkE k es 0).toArray es.length
def mFind : List (Int × Value) → Int → Nat → Option (Nat × Value)
  | [], _, _ => none
  | (b, v) :: r, a, i => if a = b then some (i, v) else mFind r a (i + 1)
def mGet (es : List (Int × Value)) (a : Int) (d : Value) : Value := match mFind es a 0 with
  | some (_, v) => v
  | none => d
def mPut (es : List (Int × Value)) (a : Int) (v : Value) : List (Int × Value) := match mFind es a 0 with
  | some (i, _) => es.set i (a, v)
  | none => es ++ [(a, v)]

theorem findNow_mk (k k' : IntKind) (a : Int) : ∀ (es : List (Int × Value)) (b i : Nat), Instr.findNow (.int k') (.int k a) (mkE k es b) i = some (mFind es a i)
  | [], b, i => rfl
  | (c, v) :: r, b, i => by
    have ih := findNow_mk k k' a r (b + 1) (i + 1)
    simp only [mkE, Instr.findNow, Instr.sameNow, mFind, if_true]
    by_cases h : a = c
    · subst h; simp
    · have hb : (a == c) = false := by simpa using h
      rw [if_neg h, hb]; exact ih
theorem mFind_lt : ∀ (es : List (Int × Value)) (a : Int) (i j : Nat) (v : Value), mFind es a i = some (j, v) → i ≤ j ∧ j < i + es.length ∧ ∃ u, es[j - i]? = some (a, u)
  | [], a, i, j, v, h => by simp [mFind] at h
  | (c, u) :: r, a, i, j, v, h => by
    simp only [mFind] at h
    split at h
    · rename_i hc; subst hc; cases h; simp
    · obtain ⟨h1, h2, x, h3⟩ := mFind_lt r a (i + 1) j v h
      refine ⟨by omega, by simp only [List.length_cons]; omega, x, ?_⟩
      rw [show j - i = (j - (i + 1)) + 1 from by omega]
      simpa using h3
theorem mkE_length (k : IntKind) : ∀ (es : List (Int × Value)) (b : Nat), (mkE k es b).length = es.length
  | [], _ => rfl
  | (a, v) :: r, b => by simp [mkE, mkE_length k r (b + 1)]
theorem mkE_get (k : IntKind) : ∀ (es : List (Int × Value)) (b i : Nat), (mkE k es b)[i]? = (es[i]?).map fun p => { key := .int k p.1, val := p.2, born := b + i }
  | [], _, _ => rfl
  | (a, v) :: r, b, 0 => by simp [mkE]
  | (a, v) :: r, b, i + 1 => by
    simp only [mkE, List.getElem?_cons_succ, mkE_get k r (b + 1) i]
    congr 1; funext p; congr 1; omega
theorem mkE_push (k : IntKind) (es : List (Int × Value)) (a : Int) (v : Value) : (mkE k es 0).toArray.push { key := .int k a, val := v, born := es.length } = (mkE k (es ++ [(a, v)]) 0).toArray := by
  refine Array.ext' ?_
  simp only [Array.toList_push]
  refine List.ext_getElem? fun i => ?_
  rw [mkE_get, List.getElem?_append, List.getElem?_append, mkE_length]
  by_cases h : i < es.length
  · simp only [h, if_true, mkE_get]
  · simp only [h, if_false]
    by_cases h2 : i = es.length
    · subst h2; simp
    · rw [List.getElem?_eq_none (by simp; omega), List.getElem?_eq_none (by simp; omega)]; rfl
theorem mkE_set (k : IntKind) (es : List (Int × Value)) (i : Nat) (a : Int) (v : Value) : ((mkE k es 0).toArray.modify i fun e => { e with key := .int k a, val := v }) = (mkE k (es.set i (a, v)) 0).toArray := by
  refine Array.ext_getElem? fun j => ?_
  rw [Array.getElem?_modify]
  simp only [List.getElem?_toArray, mkE_get, List.getElem?_set]
  by_cases h : i = j
  · subst h
    by_cases hi : i < es.length
    · simp [hi]
    · simp [hi]
  · simp [h]

theorem mFind_shift : ∀ (es : List (Int × Value)) (a : Int) (i : Nat), mFind es a (i + 1) = (mFind es a i).map fun p => (p.1 + 1, p.2)
  | [], _, _ => rfl
  | (b, v) :: r, a, i => by
    simp only [mFind]
    split
    · rfl
    · exact mFind_shift r a (i + 1)
theorem mGet_put (es : List (Int × Value)) (a b : Int) (v z : Value) : mGet (mPut es a v) b z = if b = a then v else mGet es b z := by
  induction es with
  | nil =>
    simp only [mPut, mFind, mGet, List.nil_append]
    by_cases h : b = a <;> simp [h]
  | cons p r ih =>
    obtain ⟨c, u⟩ := p
    have hs := mFind_shift
    by_cases hca : a = c
    · subst hca
      simp only [mPut, mFind, if_true, List.set_cons_zero, mGet]
      by_cases h : b = a
      · simp [h]
      · simp [h]
    · have h1 : mPut ((c, u) :: r) a v = (c, u) :: mPut r a v := by
        simp only [mPut, mFind, if_neg hca, hs r a 0]
        cases hf : mFind r a 0 with
        | none => simp
        | some q => simp
      rw [h1]
      by_cases h : b = c
      · subst h
        have : b ≠ a := fun e => hca e.symm
        simp [mGet, mFind, this]
      · have h2 : ∀ (l : List (Int × Value)), mGet ((c, u) :: l) b z = mGet l b z := fun l => by
          simp only [mGet, mFind, if_neg h, hs l b 0]
          cases hf : mFind l b 0 with
          | none => simp
          | some q => simp
        rw [h2, h2, ih]

/-- Cells of a block that was there. -/
theorem cOldB {W : World} {L : Heap} {b o : Nat} {l vs : List Value} {e : TypeId} {z : Nat × Nat} (h : W.heap[b]? = some (.cells l.toArray e z)) (hs : sub l o vs.length = some vs) : Cells (Eff W [] L) b o vs := fun w hw j hj => by
  have hlt : b < W.heap.size := by rw [Array.getElem?_eq_some_iff] at h; exact h.1
  have h' : w.heap[b]? = some (.cells l.toArray e z) := by rw [hw.frame b hlt (by simp)]; exact h
  obtain ⟨_, h2⟩ := sub_spec _ _ _ _ hs
  rw [cell_blk h']; exact h2 j hj
theorem Eff.old' {W w : World} {L : Heap} (h : Eff W [] L w) {n : Nat} {o : Obj} (hn : W.heap[n]? = some o) : w.heap[n]? = some o := by
  have hlt : n < W.heap.size := by rw [Array.getElem?_eq_some_iff] at hn; exact hn.1
  rw [h.frame n hlt (by simp)]; exact hn

section
variable {P : Program} {ro : Option Nat} {Q : Exit → Act → World → Prop} {next : Act → World → Prop} {N : Nat} {S : Slots} {D : List Deferred} {W : World} {M L : Heap}
variable {C : World → Prop} {dst : Option Tmp} {d : Nat} {ty : TypeId} {pos : String} {af : Array Edge} {g : Option (Nat × Bool)}

/-- A map type: keys that are numbers; the element's type. -/
def mapT (P : Program) (T : TypeId) : Option (IntKind × TypeId) := match P.underlying T with
  | some (.map k e) => match P.underlying k with
    | some (.int q) => some (q, e)
    | _ => none
  | _ => none
theorem mapT_spec {T e : TypeId} {q : IntKind} (h : mapT P T = some (q, e)) : ∃ k, P.underlying T = some (.map k e) ∧ P.underlying k = some (.int q) := by
  unfold mapT at h
  split at h
  · rename_i k e' hu
    split at h
    · rename_i q' hk; cases h; exact ⟨_, hu, hk⟩
    · cases h
  · cases h

theorem run_checkKey {k : TypeId} {q : IntKind} (h : P.underlying k = some (.int q)) (b : Bool) (n : Nat) (v : Value) (w : World) : (Instr.checkKey b (n + 1) k v).run P w = .ok () w := by
  simp only [Instr.checkKey, Sem.run_bind, run_underlying_of h, Result.andThen_ok, Sem.run_pure]
theorem run_findKey {k : TypeId} {q : IntKind} (h : P.underlying k = some (.int q)) (a : Int) (es : List (Int × Value)) (w : World) : (Instr.findKey k (.int q a) (mkE q es 0)).run P w = .ok (mFind es a 0) w := by
  simp only [Instr.findKey, Sem.run_bind, run_underlying_of h, Result.andThen_ok, findNow_mk, Sem.run_pure]

theorem eMakeMap {T : TypeId} {k : IntKind} (hk : ∀ n, Tr (St N ((d, .map (some n)) :: S) D W M ((n, mapO k []) :: L)) next) :
    Tr (St N S D W M L) (opW P ro N ⟨some d, .makeMap T none, ty, pos, af, g⟩ next Q) := fun a w hs hN => by
  refine opW_value (w' := { w with heap := w.heap.push (mapO k []) }) (v := .map (some w.heap.size)) rfl ?_ (hk w.heap.size _ _ ((hs.put (hN d rfl) _).eff (hs.ef.alloc _))) hN
  simp only [execOp, Option.map_none, Instr.makeMap, newObj, Sem.run, Sem.run_bind, Sem.run_pure, Result.andThen_ok]
  rfl

theorem run_lookup {T e : TypeId} {q : IntKind} (hT : mapT P T = some (q, e)) {z : Value} (hz : ∀ w, (zeroValue e).run P w = .ok z w) {w : World} {n : Nat} {es : List (Int × Value)} (h : w.heap[n]? = some (mapO q es)) (a : Int) (c : Bool) :
    (Instr.lookup T (.map (some n)) (.int q a) c).run P w = .ok (if c then .tuple #[mGet es a z, .bool (mFind es a 0).isSome] else mGet es a z) w := by
  obtain ⟨k, h1, h2⟩ := mapT_spec hT
  have hg : (getObj n).run P w = .ok (mapO q es) w := by simp [getObj, Sem.run, h]
  simp only [Instr.lookup, Sem.run_bind, run_underlying_of h1, Result.andThen_ok, hg, Sem.run_pure, run_checkKey h2, run_findKey h2]
  unfold mGet
  cases hf : mFind es a 0 with
  | none => cases c <;> simp [hz]
  | some p => obtain ⟨i, v⟩ := p; cases c <;> simp
theorem yLookup {T e : TypeId} {q : IntKind} {x i : Operand} {n : Nat} {es : List (Int × Value)} {a : Int} {z : Value} (hT : mapT P T = some (q, e)) (hz : ∀ w, (zeroValue e).run P w = .ok z w) (hx : opd S x = some (.map (some n))) (hi : opd S i = some (.int q a))
    (hc : ∀ w, C w → w.heap[n]? = some (mapO q es)) : YV P S C ⟨dst, .lookup T x i false, ty, pos, af, g⟩ (mGet es a z) :=
  .pureC fun ρ hk w hC => by
    simp only [execOp, hk x _ hx, hk i _ hi, Sem.run_bind, run_lookup hT hz (hc w hC) a false, Result.andThen_ok, Sem.run_pure, Bool.false_eq_true, if_false]
theorem yLookupOk {T e : TypeId} {q : IntKind} {x i : Operand} {n : Nat} {es : List (Int × Value)} {a : Int} {z : Value} (hT : mapT P T = some (q, e)) (hz : ∀ w, (zeroValue e).run P w = .ok z w) (hx : opd S x = some (.map (some n))) (hi : opd S i = some (.int q a))
    (hc : ∀ w, C w → w.heap[n]? = some (mapO q es)) : YV P S C ⟨dst, .lookup T x i true, ty, pos, af, g⟩ (.tuple [mGet es a z, .bool (mFind es a 0).isSome].toArray) :=
  .pureC fun ρ hk w hC => by
    simp only [execOp, hk x _ hx, hk i _ hi, Sem.run_bind, run_lookup hT hz (hc w hC) a true, Result.andThen_ok, Sem.run_pure, if_true]

theorem run_mapUpdate {T e : TypeId} {q : IntKind} (hT : mapT P T = some (q, e)) {w : World} {n : Nat} {es : List (Int × Value)} (h : w.heap[n]? = some (mapO q es)) (a : Int) (v : Value) :
    (Instr.mapUpdate T (.map (some n)) (.int q a) v).run P w = .ok () { w with heap := w.heap.setIfInBounds n (mapO q (mPut es a v)) } := by
  obtain ⟨k, h1, h2⟩ := mapT_spec hT
  have hg : (getObj n).run P w = .ok (mapO q es) w := by simp [getObj, Sem.run, h]
  have hset : ∀ o, (setObj n o).run P w = .ok () { w with heap := w.heap.setIfInBounds n o } := fun o => by simp [setObj, Sem.run, h]
  simp only [Instr.mapUpdate, Sem.run_bind, run_underlying_of h1, Result.andThen_ok, hg, run_checkKey h2, run_findKey h2]
  unfold mPut
  cases hf : mFind es a 0 with
  | none =>
    simp only [hset, mkE_push, mapO, List.length_append, List.length_singleton]
  | some p =>
    obtain ⟨i, u⟩ := p
    obtain ⟨_, _, x, hx⟩ := mFind_lt es a 0 i u hf
    simp only [Nat.sub_zero] at hx
    have hkey : (((mkE q es 0).toArray[i]?).map (·.key)).getD (.int q a) = .int q a := by simp [mkE_get, hx]
    have hst : (Instr.keyThatStays (.int q a) (.int q a)).run P w = .ok (.int q a) w := by
      simp [Instr.keyThatStays, Instr.sameBits, Sem.run_pure]
    simp only [hkey, Sem.run_bind, hst, Result.andThen_ok, hset, mkE_set, mapO, List.length_set]
/-- A key's value, in the i-th of the new blocks. -/
theorem eMapUpdate {T e : TypeId} {q : IntKind} {m x v : Operand} {n : Nat} {es : List (Int × Value)} {a : Int} {u : Value} (i : Nat) (hT : mapT P T = some (q, e)) (hm : opd S m = some (.map (some n))) (hx : opd S x = some (.int q a)) (hv : opd S v = some u)
    (hi : L[i]? = some (n, mapO q es)) (k : Tr (St N S D W M (upd L i (mapO q (mPut es a u)))) next) : Tr (St N S D W M L) (opW P ro N ⟨none, .mapUpdate T m x v, ty, pos, af, g⟩ next Q) := fun ac w hs hN => by
  have hb := hs.ef.own _ (List.mem_append.2 (.inr (List.mem_of_getElem? hi)))
  have hlt : n < w.heap.size := by rw [Array.getElem?_eq_some_iff] at hb; exact hb.1
  refine opW_skip (w' := { w with heap := w.heap.setIfInBounds n (mapO q (mPut es a u)) }) rfl ?_ (k _ _ (hs.eff (hs.ef.updL hi ?_ ?_ ?_ rfl rfl rfl))) hN
  · simp only [execOp, hs.knows m _ hm, hs.knows x _ hx, hs.knows v _ hv, Sem.run_bind, run_mapUpdate hT hb, Result.andThen_ok, Sem.run_pure]
  · simp [hlt]
  · intro j hj
    simp only [Array.getElem?_setIfInBounds]
    rw [if_neg (Ne.symm hj)]
  · simp
/-- A field of a value. -/
theorem yField {T : TypeId} {x : Operand} {i : Nat} {u v : Value} (hx : opd S x = some u) (h : ∀ w, (Instr.field T u i).run P w = .ok v w) : YV P S C ⟨dst, .field T x i, ty, pos, af, g⟩ v :=
  .pure fun ρ hk w => by simp only [execOp, hk x _ hx, Sem.run_bind, h w, Result.andThen_ok, Sem.run_pure]
/-- Natural numbers, of whatever kind of 64 bits. -/
theorem yAddN {t t' : TypeId} {x y : Operand} {k : IntKind} {a b : Nat} (hx : opd S x = some (.int k (a : Nat))) (hy : opd S y = some (.int k (b : Nat))) (hk : is64 k = true) (h : a + b < 2 ^ 63) :
    YV P S C ⟨dst, .binOp .add t x y t', ty, pos, af, g⟩ (.int k ((a + b : Nat) : Int)) := yArith hx hy (.inl ⟨rfl, by rw [← wrap_nat hk h]; congr 1⟩)
theorem ySubN {t t' : TypeId} {x y : Operand} {k : IntKind} {a b : Nat} (hx : opd S x = some (.int k (a : Nat))) (hy : opd S y = some (.int k (b : Nat))) (hk : is64 k = true) (h : b ≤ a ∧ a < 2 ^ 63) :
    YV P S C ⟨dst, .binOp .sub t x y t', ty, pos, af, g⟩ (.int k ((a - b : Nat) : Int)) := yArith hx hy (.inr (.inl ⟨rfl, by rw [← wrap_nat hk (n := a - b) (by omega)]; congr 1; omega⟩))
end
end ZW
namespace ZW
open Go

theorem Eff.thenM {W w w' : World} {L Mf Lf : Heap} (h : Eff W [] L w) (h' : Eff w Mf Lf w') (hM : ∀ p ∈ Mf, p.1 < W.heap.size) : Eff W Mf (Lf ++ L) w' := by
  have hnd := h.nd
  have hnd' := h'.nd
  simp only [List.nil_append, List.map_append, List.nodup_append] at hnd hnd'
  refine ⟨h'.os.trans h.os, h'.tape.trans h.tape, h'.output.trans h.output, Nat.le_trans h.size h'.size, fun k hk hkM => ?_, fun p hp => ?_, fun p hp => ?_, hM, ?_⟩
  · rw [h'.frame k (Nat.lt_of_lt_of_le hk h.size) hkM, h.frame k hk (by simp)]
  · rcases List.mem_append.1 hp with hp | hp
    · exact h'.own p (by simp [hp])
    · rcases List.mem_append.1 hp with hp | hp
      · exact h'.own p (by simp [hp])
      · have h1 := h.new p hp
        rw [h'.frame p.1 (h.lt (by simp [hp])) fun q hq e => by have := hM q hq; omega]
        exact h.own p (by simp [hp])
  · rcases List.mem_append.1 hp with hp | hp
    · exact Nat.le_trans h.size (h'.new p hp)
    · exact h.new p hp
  · simp only [List.map_append, List.nodup_append, List.mem_append]
    refine ⟨hnd'.1, ⟨hnd'.2.1, hnd, fun a ha b hb e => ?_⟩, fun a ha b hb e => ?_⟩
    · obtain ⟨p, hp, rfl⟩ := List.mem_map.1 ha
      obtain ⟨q, hq, rfl⟩ := List.mem_map.1 hb
      have h1 := h'.new p hp
      have h2 := h.lt (p := q) (by simp [hq])
      omega
    · obtain ⟨p, hp, rfl⟩ := List.mem_map.1 ha
      have h1 := hM p hp
      have h0 := h.size
      rcases hb with hb | hb
      · obtain ⟨q, hq, rfl⟩ := List.mem_map.1 hb
        have h2 := h'.new q hq; omega
      · obtain ⟨q, hq, rfl⟩ := List.mem_map.1 hb
        have h2 := h.new q hq; omega

section
variable {P : Program} {Q : Exit → Act → World → Prop} {next : Act → World → Prop} {N : Nat} {S : Slots} {D : List Deferred} {W : World} {M L : Heap}
variable {d : Nat} {ty : TypeId} {pos : String} {af : Array Edge} {g : Option (Nat × Bool)}

/-- What a call of yield comes to. -/
def YC (P : Program) (l : Nat) (v : Value) (w : World) (R : Ending → World → Prop) : Prop :=
  ∃ f tmps assign body, (Instr.yield l #[v]).run P w = .ok (.round l f tmps assign body) w ∧ RoundIn (FW none) 0 P l f tmps assign body w R
/-- A round that goes on changes nothing; one that stops changes what is told. -/
def YR (w : World) (stop : Bool) (Mf : Heap) : Ending → World → Prop := fun e w' =>
  (stop = true ∧ e = .returned (.bool false) ∧ ∃ Lf, Eff w Mf Lf w') ∨ (stop = false ∧ Ret w (.bool true) e w')

theorem eYield {x : Operand} {xs : List Operand} {l : Nat} {v : Value} {tys : Array TypeId} {b : Bool} {Mf : Heap} (hx : opd S x = some (.func (.yield l) #[] #[])) (ha : AllOpd S xs [v])
    (hy : ∀ w, Eff W [] L w → YC P l v w (YR w b Mf)) (hMf : ∀ p ∈ Mf, p.1 < W.heap.size)
    (ht : b = true → ∀ Lf, Tr (St N ((d, .bool false) :: S) D W Mf (Lf ++ L)) next) (hf : b = false → Tr (St N ((d, .bool true) :: S) D W [] L) next) :
    Tr (St N S D W [] L) (opW P none N ⟨some d, .call ⟨.value x, xs.toArray, tys⟩, ty, pos, af, g⟩ next Q) := fun a w hs hN => by
  obtain ⟨f, tmps, assign, body, hr, hround⟩ := hy w hs.ef
  have hm := ha.map hs.knows
  have hex : (execOp a.eval ⟨some d, .call ⟨.value x, xs.toArray, tys⟩, ty, pos, af, g⟩).run P w = .ok (.round l f tmps assign body) w := by
    simp only [execOp, resolve, List.map_toArray, hm, hs.knows x _ hx, Deferred.ofValue, Sem.run_bind, Sem.run_pure, Result.andThen_ok, invoke]
    simpa using hr
  rw [semAt_nd rfl, hex]
  refine ⟨fun hd => by simp at hd, hround.mono ?_⟩
  rintro e w' (⟨hb, rfl, Lf, hE⟩ | ⟨hb, rfl, hE⟩)
  · exact ht hb Lf _ _ ((hs.put (hN d rfl) _).eff (hs.ef.thenM hE hMf))
  · exact hf hb _ _ ((hs.put (hN d rfl) _).eff (by simpa using hs.ef.trans hE))

/-- A function that yields values of a kind, and ends as soon as one of them stops it. -/
def Iter {α : Type} (P : Program) (F : FuncId) (caps : List Value) (W : World) (Dom : α → Prop) (val : α → Value) (stop : α → Bool) (Φ : Option α → Prop) : Prop :=
  ∀ (l : Nat) (Mf : α → Heap), (∀ s, ∀ p ∈ Mf s, p.1 < W.heap.size) → (∀ w L, Eff W [] L w → ∀ s, Dom s → YC P l (val s) w (YR w (stop s) (Mf s))) →
    Calls P F (.func (.yield l) #[] #[] :: caps).toArray W (fun e w' => e = .returned (.tuple #[]) ∧ ((Φ none ∧ Eff W [] [] w') ∨ ∃ s, stop s = true ∧ Φ (some s) ∧ Eff W (Mf s) [] w'))

/-! ### Rounds -/
theorem run_getLoop {l : Nat} {r : Loop} {w : World} (h : w.heap[l]? = some (.loop r)) : (Instr.getLoop l).run P w = .ok r w := by
  simp [Instr.getLoop, getObj, Sem.run, Sem.run_bind, h, Sem.run_pure]
theorem run_setLoop {l : Nat} {r : Loop} {w : World} {o : Obj} (h : w.heap[l]? = some (.loop r)) : (setObj l o).run P w = .ok () { w with heap := w.heap.setIfInBounds l o } := by
  simp [setObj, Sem.run, h]
theorem Eff.set0 {W w : World} {l : Nat} {o o' : Obj} {M L : Heap} (h : Eff W ((l, o) :: M) L w) : Eff W ((l, o') :: M) L { w with heap := w.heap.setIfInBounds l o' } := by
  have hb := h.own (l, o) (by simp)
  have hlt : l < w.heap.size := by rw [Array.getElem?_eq_some_iff] at hb; exact hb.1
  exact h.updM (w' := { w with heap := w.heap.setIfInBounds l o' }) (i := 0) (b := l) (x := o) rfl (by simp [hlt]) (fun k hk => by simp only [Array.getElem?_setIfInBounds]; rw [if_neg (Ne.symm hk)]) (by simp) rfl rfl rfl

abbrev busyL (r : Loop) : Obj := .loop { r with state := .busy }
abbrev retL (r : Loop) : Obj := .loop { r with state := .done, pending := some .ret }

/-- A round begins. -/
theorem rBegin {l : Nat} {r : Loop} {body : Code} (hr : r.state = .ready) (h : Tr (St N S D W ((l, busyL r) :: M) L) (WP P (some l) body Q)) :
    Tr (St N S D W ((l, .loop r) :: M) L) (fun a w => ∃ w₂, (Instr.beginRound l).run P w = .ok () w₂ ∧ WP P (some l) body Q a w₂) := fun a w hs => by
  have hb := hs.ef.own (l, .loop r) (by simp)
  refine ⟨{ w with heap := w.heap.setIfInBounds l (busyL r) }, ?_, h _ _ (hs.eff hs.ef.set0)⟩
  simp only [Instr.beginRound, Sem.run_bind, run_getLoop hb, Result.andThen_ok, run_setLoop hb, hr, Sem.run_pure]
/-- A round ends, and the next one may come. -/
theorem rNormal {l : Nat} {r : Loop} {Mf : Heap} (hr : r.state = .ready ∧ r.pending = none) (hE : Eff W ((l, .loop r) :: M) [] W) : Tr (St N S D W ((l, busyL r) :: M) L) (roundPost P l (YR W false Mf) .normal) := fun a w hs => by
  have hb := hs.ef.own (l, busyL r) (by simp)
  refine ⟨.bool true, { w with heap := w.heap.setIfInBounds l (.loop r) }, ?_, .inr ⟨rfl, rfl, ?_⟩⟩
  · have : ({ ({ r with state := .busy } : Loop) with state := .ready, pending := none } : Loop) = r := by
      obtain ⟨h1, h2⟩ := hr
      cases r; simp only at h1 h2; subst h1 h2; rfl
    simp only [Instr.endRound, Sem.run_bind, run_getLoop hb, Result.andThen_ok, Option.isNone_none, if_true, run_setLoop hb, this, Sem.run_pure]
  · exact (hE.unM hs.ef.set0).sub .n
/-- A round returns. -/
theorem rRet {l : Nat} {r : Loop} : Tr (St N S D W ((l, busyL r) :: M) L) (roundPost P l (YR W true ((l, retL r) :: M)) .ret) := fun a w hs => by
  have hb := hs.ef.own (l, busyL r) (by simp)
  refine ⟨.bool false, { w with heap := w.heap.setIfInBounds l (retL r) }, ?_, .inl ⟨rfl, rfl, L, hs.ef.set0⟩⟩
  simp [Instr.endRound, Sem.run_bind, run_getLoop hb, run_setLoop hb, retL]

/-- What a round does to blocks that stay as they are does not matter. -/
theorem Eff.within {W w w' : World} {M L L0 L2 Mk : Heap} {l r : Nat} {o o1 o2 : Obj} (h : Eff W M L0 w) (h2 : Eff w ((l, o) :: Mk) L2 w') (hk : SubP Mk L) (hs : SubP ((l, o1) :: (r, o2) :: L) L0) : Eff W M L w' := by
  have h1 : Eff W M ((l, o1) :: (r, o2) :: L) w := h.sub hs
  have hL : Eff W M L w := h1.sub (.d 0 (.d 0 .r))
  have hnd := h1.nd
  simp only [List.map_append, List.map_cons, List.nodup_append, List.nodup_cons, List.mem_cons] at hnd
  have hl : W.heap.size ≤ l := h1.new (l, o1) (by simp)
  have hMk : ∀ q ∈ Mk, q ∈ L := hk.mem
  have keep : ∀ p ∈ M ++ L, w'.heap[p.1]? = some p.2 := fun p hp => by
    by_cases hq : ∃ q ∈ Mk, q.1 = p.1
    · obtain ⟨q, hq, hqe⟩ := hq
      have e1 := h2.own q (by simp [hq])
      have e2 := hL.own q (by simp [hMk q hq])
      have e3 := hL.own p hp
      rw [hqe] at e1 e2
      rw [e1]; rw [e2] at e3; exact e3
    · rw [h2.frame p.1 (hL.lt hp) fun q hq' e => ?_]
      · exact hL.own p hp
      · rcases List.mem_cons.1 hq' with rfl | hq'
        · rcases List.mem_append.1 hp with hp | hp
          · have := h1.old p hp; simp only at e; omega
          · exact hnd.2.1.1 (.inr (by simp only at e; rw [e]; exact List.mem_map.2 ⟨p, hp, rfl⟩))
        · exact hq ⟨q, hq', e⟩
  refine ⟨h2.os.trans hL.os, h2.tape.trans hL.tape, h2.output.trans hL.output, Nat.le_trans hL.size h2.size, fun k hk' hkM => ?_, keep, hL.new, hL.old, hL.nd⟩
  rw [h2.frame k (Nat.lt_of_lt_of_le hk' hL.size) fun q hq e => ?_]
  · exact hL.frame k hk' hkM
  · rcases List.mem_cons.1 hq with rfl | hq
    · simp only at e; omega
    · have := hL.new q (hMk q hq); omega

/-! ### The statement -/
abbrev markD (r : Nat) : Deferred := { target := .collected r, args := #[] }

theorem kRange {α : Type} {t : Tmp} {x : Operand} {assign body : Code} {F : FuncId} {caps : List Value} (Dom : α → Prop) (val : α → Value) (stop : α → Bool) (Φ : Option α → Prop) (Mk : Heap) (Mf : α → Heap)
    (hx : opd S x = some (.func (.func F) #[] caps.toArray)) (hF : callT P F = true) (hN : Nat.blt t N = true) (hk : SubP Mk L) (hkeys : ∀ s, (Mf s).map (·.1) = Mk.map (·.1))
    (hI : ∀ w, Eff W M L w → Iter P F caps w Dom val stop Φ)
    (hbody : ∀ l (r : Loop) w s, Dom s → (r.state = .ready ∧ r.pending = none) → (∀ o w' L', Eff w ((l, o) :: Mk) L' w' → Eff W M L w') → Eff w ((l, .loop r) :: Mk) [] w → Tr (St N ((t, val s) :: S) [] w ((l, .loop r) :: Mk) []) (WP P (some l) assign
      (Exit.then (fun a₁ w₁ => ∃ w₂, (Instr.beginRound l).run P w₁ = .ok () w₂ ∧ WP P (some l) body (roundPost P l (YR w (stop s) ((l, retL r) :: Mf s))) a₁ w₂) (fun _ _ _ => False))))
    (hnone : Φ none → ∀ r l o, Tr (St N S (markD r :: D) W M ((l, o) :: (r, .deferred (some [])) :: L)) (Q .normal))
    (hsome : ∀ s, stop s = true → Φ (some s) → ∀ r l o, Tr (St N S (markD r :: D) W M ((l, o) :: (r, .deferred (some [])) :: Mf s)) (Q .ret)) :
    Tr (St N S D W M L) (WP P none (.rangeFunc x #[t] assign body) Q) := fun a w hs => by
  refine wpIn_rangeFunc fun fn _ => ?_
  have hlt : t < N := Nat.le_of_ble_eq_true hN
  let r : Nat := w.heap.size
  let l : Nat := w.heap.size + 1
  let rec_ : Loop := { state := .ready, pending := none, fn, tmps := a.tmps, params := #[t], assign, body, defers := r }
  have he0 : Eff W M ((l, .loop rec_) :: (r, .deferred (some [])) :: L) { w with heap := (w.heap.push (.deferred (some []))).push (.loop rec_) } := by
    have h1 := hs.ef.alloc (.deferred (some []))
    have h2 := h1.alloc (.loop rec_)
    simpa [l, r] using h2
  generalize hw1 : ({ w with heap := (w.heap.push (.deferred (some []))).push (.loop rec_) } : World) = w1 at he0
  have hL0 : Eff W M L w1 := he0.sub (.d 0 (.d 0 .r))
  have hkE : Eff W M ((l, .loop rec_) :: (r, .deferred (some [])) :: Mk) w1 := he0.sub (.c 0 rfl (.c 0 rfl hk))
  have hloop : w1.heap[l]? = some (.loop rec_) := he0.own (l, .loop rec_) (by simp)
  have hold : ∀ s, ∀ p ∈ (l, retL rec_) :: Mf s, p.1 < w1.heap.size := fun s p hp => by
    have h1 : p.1 ∈ ((l, .loop rec_) :: Mk).map (·.1) := by
      rcases List.mem_cons.1 hp with rfl | hp
      · simp
      · simp only [List.map_cons, List.mem_cons]; rw [← hkeys s]; exact .inr (List.mem_map.2 ⟨p, hp, rfl⟩)
    obtain ⟨q, hq, hqe⟩ := List.mem_map.1 h1
    rw [← hqe]
    exact hkE.lt (by rcases List.mem_cons.1 hq with rfl | hq <;> simp [*])
  have hyield : ∀ w' L', Eff w1 [] L' w' → ∀ s, Dom s → YC P l (val s) w' (YR w' (stop s) ((l, retL rec_) :: Mf s)) := fun w' L' hw' s hd => by
    have hl' : w'.heap[l]? = some (.loop rec_) := hw'.old' hloop
    refine ⟨fn, a.tmps.setIfInBounds t (val s), assign, body, ?_, ?_⟩
    · simp [Instr.yield, run_getLoop hl', Sem.run_bind, Sem.run_pure, rec_]
    · refine roundIn_of_wpIn trivial ?_
      have hE' : Eff w' ((l, .loop rec_) :: Mk) [] w' := by
        have h3 : ∀ p ∈ (l, Obj.loop rec_) :: Mk, w'.heap[p.1]? = some p.2 := fun p hp => hw'.old' (hkE.own p (by rcases List.mem_cons.1 hp with rfl | hp <;> simp [*]))
        refine ⟨rfl, rfl, rfl, Nat.le_refl _, fun _ _ _ => rfl, fun p hp => h3 p (by simpa using hp), fun p hp => by simp at hp, fun p hp => ?_, ?_⟩
        · have := h3 p hp; rw [Array.getElem?_eq_some_iff] at this; exact this.1
        · have h4 := hkE.nd
          simp only [List.map_append, List.map_cons, List.nodup_append, List.nodup_cons] at h4
          simp only [List.append_nil, List.map_cons, List.nodup_cons]
          exact ⟨fun h => h4.2.1.1 (by simp [h]), h4.2.1.2.2⟩
      refine hbody l rec_ w' s hd ⟨rfl, rfl⟩ (fun o w'' L2 h2 => ?_) hE' _ _ ⟨by simp [hs.sz], fun u v hu => ?_, rfl, hE'⟩
      · exact Eff.within (he0.trans hw') h2 hk (by simpa using SubP.tail (A := L') (B := (l, Obj.loop rec_) :: (r, Obj.deferred (some [])) :: L)) 
      rw [look_cons] at hu
      show (a.tmps.setIfInBounds t (val s))[u]? = some v
      rw [Array.getElem?_setIfInBounds]
      split at hu
      · rename_i h; subst h; rw [if_pos rfl, hs.sz, if_pos hlt]; exact hu
      · rename_i h; rw [if_neg h]; exact hs.sl u v hu
  refine ⟨l, [markD r], w1, { target := .fn (.func F) caps.toArray, args := #[.func (.yield l) #[] #[]] }, w1, F, (.func (.yield l) #[] #[] :: caps).toArray, w1, ?_, ?_, fun _ _ => trivial, ?_, fun h => by simp at h, ?_⟩
  · subst hw1
    simp [Instr.enterLoop, newObj, Sem.run, Sem.run_bind, l, r, rec_, markD]
    rfl
  · have h0 : a.eval x = .func (.func F) #[] caps.toArray := hs.knows x _ hx
    have h1 : (#[Operand.const (.func (.yield l) #[] #[])].map a.eval) = #[.func (.yield l) #[] #[]] := by simp [Act.eval]
    simp only [resolve, h0, h1, Deferred.ofValue, Sem.run_pure]
    simp
  · have := run_callFunc hF (.func (.yield l) #[] #[] :: caps).toArray w1
    simpa [invoke] using this
  · have hc := hI w1 hL0 l (fun s => (l, retL rec_) :: Mf s) hold hyield
    refine (callsIn_wide (n := 0)).2 (hc.mono ?_)
    rintro e w3 ⟨rfl, ⟨hΦ, hE⟩ | ⟨s, hst, hΦ, hE⟩⟩
    · have hl3 : w3.heap[l]? = some (.loop rec_) := hE.old' hloop
      refine ⟨none, { w3 with heap := w3.heap.setIfInBounds l (.loop { rec_ with state := .exhausted }) }, ?_, ?_⟩
      · simp [Instr.endLoop, run_getLoop hl3, run_setLoop hl3, Sem.run_bind, rec_]
      · have hE3 : Eff W M ((l, .loop rec_) :: (r, .deferred (some [])) :: L) w3 := by simpa using he0.trans hE
        have hl3' : l < w3.heap.size := by rw [Array.getElem?_eq_some_iff] at hl3; exact hl3.1
        refine hnone hΦ r l (.loop { rec_ with state := .exhausted }) _ _ ⟨hs.sz, hs.sl, by simp [hs.df], ?_⟩
        exact hE3.updL (w' := { w3 with heap := w3.heap.setIfInBounds l (.loop { rec_ with state := .exhausted }) }) (i := 0) (b := l) rfl (by simp [hl3']) (fun k hk => by simp only [Array.getElem?_setIfInBounds]; rw [if_neg (Ne.symm hk)]) (by simp) rfl rfl rfl
    · have hl3 : w3.heap[l]? = some (retL rec_) := hE.own (l, retL rec_) (by simp)
      have hl3' : l < w3.heap.size := by rw [Array.getElem?_eq_some_iff] at hl3; exact hl3.1
      refine ⟨some .ret, { w3 with heap := w3.heap.setIfInBounds l (.loop { rec_ with state := .exhausted, pending := some .ret }) }, ?_, ?_⟩
      · simp [Instr.endLoop, run_getLoop hl3, run_setLoop hl3, Sem.run_bind, rec_]
      · have hE3 : Eff W M ([] ++ ((l, retL rec_) :: (r, .deferred (some [])) :: Mf s)) w3 := by
          refine hkE.merge M ((l, retL rec_) :: (r, .deferred (some [])) :: Mf s) hE rfl (by simp [hkeys s]) (fun p hp => ?_) (fun q hq => ?_)
          · have hnd := hkE.nd
            simp only [List.map_append, List.map_cons, List.nodup_append, List.nodup_cons, List.mem_cons] at hnd
            have hkm : ∀ q ∈ Mf s, q.1 ∈ Mk.map (·.1) := fun q hq => by rw [← hkeys s]; exact List.mem_map.2 ⟨q, hq, rfl⟩
            rcases List.mem_append.1 hp with hp | hp
            · refine .inr ⟨by simp [hp], fun q hq e => ?_⟩
              have hpm : p.1 ∈ M.map (·.1) := List.mem_map.2 ⟨p, hp, rfl⟩
              rcases List.mem_cons.1 hq with rfl | hq
              · exact hnd.2.2 _ hpm _ (.inl rfl) e.symm
              · exact hnd.2.2 _ hpm _ (.inr (.inr (hkm q hq))) e.symm
            · rcases List.mem_cons.1 hp with rfl | hp
              · exact .inl (by simp)
              · rcases List.mem_cons.1 hp with rfl | hp
                · refine .inr ⟨by simp, fun q hq e => ?_⟩
                  rcases List.mem_cons.1 hq with rfl | hq
                  · simp only at e; exact hnd.2.1.1 (.inl e)
                  · simp only at e; exact hnd.2.1.2.1 (e ▸ hkm q hq)
                · exact .inl (by simp [hp])
          · rcases List.mem_cons.1 hq with rfl | hq
            · simp
            · have : q.1 ∈ Mk.map (·.1) := by rw [← hkeys s]; exact List.mem_map.2 ⟨q, hq, rfl⟩
              simp only [List.map_append, List.map_cons, List.mem_append, List.mem_cons]
              exact .inr (.inr (.inr this))
        refine wpIn_ret (hsome s hst hΦ r l (.loop { rec_ with state := .exhausted, pending := some .ret }) _ _ ⟨hs.sz, hs.sl, by simp [hs.df], ?_⟩)
        exact hE3.updL (w' := { w3 with heap := w3.heap.setIfInBounds l (.loop { rec_ with state := .exhausted, pending := some .ret }) }) (i := 0) (b := l) rfl (by simp [hl3']) (fun k hk => by simp only [Array.getElem?_setIfInBounds]; rw [if_neg (Ne.symm hk)]) (by simp) rfl rfl rfl

/-! ### The end of a function that has ranged over a function -/
theorem fMark {fn : Func} {R : Ending → World → Prop} {r : Nat} {e : Exit} (i : Nat) (hi : L[i]? = some (r, .deferred (some []))) (he : e = .ret ∨ e = .normal)
    (h : Tr (St N S D W M (upd L i (.deferred none))) (bodyPostM (FW none) 0 P fn R e)) : Tr (St N S (markD r :: D) W M L) (bodyPostM (FW none) 0 P fn R e) := fun a w hs => by
  have hb := hs.ef.own _ (List.mem_append.2 (.inr (List.mem_of_getElem? hi)))
  have hlt : r < w.heap.size := by rw [Array.getElem?_eq_some_iff] at hb; exact hb.1
  have htake : (Instr.takeDeferred r).run P w = .ok [] { w with heap := w.heap.setIfInBounds r (.deferred none) } := by
    simp [Instr.takeDeferred, getObj, setObj, Sem.run, Sem.run_bind, hb]
  have hE : Eff W M (upd L i (.deferred none)) { w with heap := w.heap.setIfInBounds r (.deferred none) } :=
    hs.ef.updL hi (by simp [hlt]) (fun k hk => by simp only [Array.getElem?_setIfInBounds]; rw [if_neg (Ne.symm hk)]) (by simp) rfl rfl rfl
  have hst : St N S D W M (upd L i (.deferred none)) { a with defers := D } { w with heap := w.heap.setIfInBounds r (.deferred none) } := ⟨hs.sz, hs.sl, rfl, hE⟩
  have h2 := h _ _ hst
  have key : LeavesInM (FW none) 0 P fn a.tmps R D .returning { w with heap := w.heap.setIfInBounds r (.deferred none) } → LeavesInM (FW none) 0 P fn a.tmps R a.defers .returning w := fun h3 => by
    rw [hs.df]
    exact ⟨by simp, .inl ⟨r, _, rfl, htake, h3⟩⟩
  rcases he with rfl | rfl
  · exact key h2
  · exact key h2
end
end ZW
namespace ZW
open Go

/-- Numbers of 64 bits are one cell, and nought at first. -/
def mkI (P : Program) (e : TypeId) : Bool := match P.info? e with
  | some i => i.size == 1 && decide (i.bytes ≤ 8) && (match i.zero with
    | some (.int .i64 0) => true
    | _ => false)
  | none => false
theorem mkI_spec {P : Program} {e : TypeId} (h : mkI P e = true) : ∃ i, P.info? e = some i ∧ i.size = 1 ∧ i.bytes ≤ 8 ∧ i.zero = some (.int .i64 0) := by
  unfold mkI at h
  split at h
  · rename_i i hi
    simp only [Bool.and_eq_true, beq_iff_eq, decide_eq_true_eq] at h
    refine ⟨i, hi, h.1.1, h.1.2, ?_⟩
    have h2 := h.2
    split at h2
    · assumption
    · cases h2
  · cases h
theorem madeI (n : Nat) : madeCells #[.int .i64 0] n = (List.replicate n (Value.int .i64 0)).toArray := by
  unfold madeCells
  refine Array.ext (by simp) fun i h1 h2 => ?_
  simp [Nat.mod_one]
section
variable {P : Program} {ro : Option Nat} {Q : Exit → Act → World → Prop} {next : Act → World → Prop} {N : Nat} {S : Slots} {D : List Deferred} {W : World} {M L : Heap}
variable {d : Nat} {ty : TypeId} {pos : String} {af : Array Edge} {g : Option (Nat × Bool)}
theorem eMakeSlice {T e : TypeId} {x y : Operand} {kl kc : IntKind} {n : Nat} (hT : P.underlying T = some (.slice e)) (he : mkI P e = true) (hx : opd S x = some (.int kl (n : Nat))) (hy : opd S y = some (.int kc (n : Nat))) (hn : n ≤ 1000000)
    (k : ∀ b, Tr (St N ((d, .slice (some ⟨b, 0, none⟩) n n) :: S) D W M ((b, blk (List.replicate n (.int .i64 0)) e) :: L)) next) :
    Tr (St N S D W M L) (opW P ro N ⟨some d, .makeSlice T x y, ty, pos, af, g⟩ next Q) := fun a w hs hN => by
  obtain ⟨i, hi, hs1, hb, hz⟩ := mkI_spec he
  have hr := run_make w T e i (.int .i64 0) hT hi hz kl kc n n (by omega) (Int.le_refl _) (by
    have : (i.bytes : Int) * (n : Int) ≤ 8 * (n : Int) := Int.mul_le_mul_of_nonneg_right (by omega) (by omega)
    omega) (by omega)
  simp only [Int.toNat_natCast, hs1, Nat.mul_one] at hr
  have hc : (Value.int .i64 0).cells = #[.int .i64 0] := rfl
  rw [hc, madeI] at hr
  refine opW_value (w' := { w with heap := w.heap.push (blk (List.replicate n (.int .i64 0)) e) }) (v := .slice (some ⟨w.heap.size, 0, none⟩) n n) rfl ?_ (k w.heap.size _ _ ((hs.put (hN d rfl) _).eff (hs.ef.alloc _))) hN
  simp only [execOp, hs.knows x _ hx, hs.knows y _ hy, Sem.run_bind, hr, Result.andThen_ok, Sem.run_pure]
  rfl
end
/-! ### Several tails -/
theorem SubP.leftA : ∀ (A B : Heap), SubP A (A ++ B)
  | [], _ => .n
  | p :: A, B => .c 0 rfl (SubP.leftA A B)
theorem SubP.leftOf {X A B : Heap} (h : SubP X A) : SubP X (A ++ B) := by
  induction h with
  | n => exact .n
  | r => exact SubP.leftA _ _
  | @c p r L i hi _ ih =>
    have hl : i < L.length := (List.getElem?_eq_some_iff.1 hi).1
    refine .c i ?_ ?_
    · rw [List.getElem?_append_left hl]; exact hi
    · rw [List.eraseIdx_append_of_lt_length hl]; exact ih
  | @d r L i _ ih =>
    by_cases hl : i < L.length
    · refine .d i ?_
      rw [List.eraseIdx_append_of_lt_length hl]; exact ih
    · rw [List.eraseIdx_of_length_le (by omega)] at ih
      exact ih
/-- A cut behind code that nothing follows in its block. -/
theorem kCutQ {P : Program} {ro : Option Nat} {N : Nat} {S : Slots} {D : List Deferred} {W : World} {M L : Heap} {Q : Exit → Act → World → Prop} {ι : Type} {c : Code} (φ : ι → Prop) (Sc : ι → Slots) (Sf : Slots) (Mc Lc : ι → Heap) (Lf : Heap) (_ : AllLook S Sf) (_ : SubP Lf L)
    (hc : Tr (St N S D W M L) (WP P ro c (Exit.then (fun a w => ∃ y, φ y ∧ St N (Sc y ++ Sf) D W (Mc y) (Lf ++ Lc y) a w) Q)))
    (hn : ∀ x, φ x → Tr (St N (Sc x ++ Sf) D W (Mc x) (Lf ++ Lc x)) (Q .normal)) : Tr (St N S D W M L) (WP P ro c Q) := fun _ _ hs =>
  wpIn_mono (hc _ _ hs) fun e _ _ hq => by
    cases e with
    | normal => obtain ⟨y, hy, hst⟩ := hq; exact hn y hy _ _ hst
    | _ => exact hq
theorem SubP.trans' {X A L : Heap} (h : SubP X A) (k : SubP A L) : ∀ {W w : World} {M : Heap}, Eff W M L w → Eff W M X w := fun hw => (hw.sub k).sub h
end ZW
namespace ZW
open Go
section
variable {P : Program}

/-- Where such a function ends. -/
abbrev postT (P : Program) (fn : Func) (c₀ : Frame) (cs : List Frame) (R : Ending → FrameMode → World → Prop) (u' : FrameMode) : Exit → Act → World → Prop := fun e a w => bodyPostS P fn c₀ cs R e a ({ c₀ with mode := u' } :: cs) w
/-- A function that asks recover at first, and is entered as a deferred call. -/
theorem fEnterT {N : Nat} {f : FuncId} {fn : Func} {id d : Nat} {T : TypeId} {p : String} {af : Array Edge} {rest : Code} {vs : List Value} {u u' : FrameMode} {x : Value} {W : World} {M : Heap} {R : Ending → FrameMode → World → Prop}
    (hE : Eff W M [] W) (hf : P.funcs[f]? = some fn) (hb : fn.body = some (.seq (.region id #[⟨some d, .call ⟨.builtin .recover, #[], #[]⟩, T, p, af, none⟩] false) rest)) (hn : fn.ntmps = N) (hN : Nat.ble vs.length N = true) (hd : Nat.blt d N = true)
    (hrec : ∀ (c₀ : Frame) (cs : List Frame), c₀.mode = u → (match recoverD (c₀ :: cs) with | some (v, cs') => v = x ∧ cs' = { c₀ with mode := u' } :: cs | none => x = .nilIface ∧ u' = u))
    (h : ∀ (c₀ : Frame) (cs : List Frame), Tr (St N ((d, x) :: slotsFrom 0 vs) [] W M []) (WP P none rest (postT P fn c₀ cs R u'))) :
    CallsDIn (FW none) 0 P f vs.toArray u W R := by
  refine callsDIn_of_wpSIn hf hb trivial fun c₀ cs hu => wpSIn_seq (wpSIn_region ?_)
  have h1 : ∀ ρ : Operand → Value, (execOp ρ ⟨some d, .call ⟨.builtin .recover, #[], #[]⟩, T, p, af, none⟩).run P W = .ok .recover W := fun ρ => by
    simp [execOp, resolve, invoke, builtin, Sem.run_pure]
  have hz : (List.range 1) = [0] := rfl
  have hrc := hrec c₀ cs hu
  have hst : St N (slotsFrom 0 vs) [] W M [] { tmps := vs.toArray ++ Array.replicate (fn.ntmps - vs.toArray.size) undef, defers := [] } W := by
    refine ⟨?_, ?_, rfl, hE⟩
    · have := Nat.le_of_ble_eq_true hN
      simp [hn]; omega
    · intro t v hv
      obtain ⟨h1, h2⟩ := look_slotsFrom vs 0 t v hv
      simp only [Nat.sub_zero] at h2
      have hlt : t < vs.length := by
        rcases Nat.lt_or_ge t vs.length with h | h
        · exact h
        · rw [List.getElem?_eq_none h] at h2; cases h2
      show (vs.toArray ++ Array.replicate (fn.ntmps - vs.toArray.size) undef)[t]? = some v
      rw [Array.getElem?_append_left (by simpa using hlt)]
      simpa using h2
  have hlt : d < N := by simpa using hd
  have key : ∀ cs', cs' = { c₀ with mode := u' } :: cs → wpOpsSIn (FW none) 0 P #[⟨some d, .call ⟨.builtin .recover, #[], #[]⟩, T, p, af, none⟩]
      (Exit.thenS (rest.wpSIn (FW none) 0 P (bodyPostS P fn c₀ cs R)) (bodyPostS P fn c₀ cs R)) [] (({ tmps := vs.toArray ++ Array.replicate (fn.ntmps - vs.toArray.size) undef, defers := [] } : Act).put (some d) x) cs' W := by
    rintro cs' rfl
    simp only [wpOpsSIn, Exit.thenS]
    exact wpSIn_of_wpIn rfl (h c₀ cs _ _ (hst.put hlt _))
  rw [show (#[(⟨some d, .call ⟨.builtin .recover, #[], #[]⟩, T, p, af, none⟩ : Oper)] : Array Oper).size = 1 from rfl, hz, wpOpsSIn]
  simp only [List.getElem?_toArray, List.getElem?_cons_zero, Region.wanted, if_true, h1]
  refine ⟨fun _ _ => trivial, ?_⟩
  cases hd : recoverD (c₀ :: cs) with
  | none =>
    simp only [hd] at hrc
    obtain ⟨rfl, rfl⟩ := hrc
    refine key _ ?_
    cases c₀; subst hu; rfl
  | some r =>
    obtain ⟨v, cs'⟩ := r
    simp only [hd] at hrc
    obtain ⟨rfl, rfl⟩ := hrc
    exact key _ rfl

section
variable {N : Nat} {S : Slots} {W : World} {M L : Heap}
theorem tEnd {fn : Func} {c₀ : Frame} {cs : List Frame} {R : Ending → FrameMode → World → Prop} {u' : FrameMode} (hr : fn.results = #[]) (k : ∀ w, Eff W M L w → R (.returned (.tuple #[])) u' w) :
    Tr (St N S [] W M L) (postT P fn c₀ cs R u' .normal) := fun a w hs =>
  ⟨hs.df, u', rfl, .tuple #[], by simp [results, hr, Sem.run_pure], k w hs.ef⟩

/-- Such a deferred call, with an argument. -/
abbrev dfa (f : FuncId) (p : Value) : Deferred := { target := .fn (.func f) [].toArray, args := ([] ++ [p]).toArray }
theorem leavesIn_dfa {fn : Func} {tmps : Array Value} {R : Ending → World → Prop} {f : FuncId} {p : Value} {ds : List Deferred} {u : FrameMode} {w : World} (hu : u ≠ .run) (hg : callT P f = true)
    (h : CallsDIn (FW none) 0 P f #[p] u w fun
          | .returned _, u', w' => LeavesInM (FW none) 0 P fn tmps R ds (settle u') w'
          | .panicked chain, u', w' => LeavesInM (FW none) 0 P fn tmps R ds (raised u' chain) w'
          | .outgrown, _, w' => R .outgrown w') : LeavesInM (FW none) 0 P fn tmps R (dfa f p :: ds) u w :=
  ⟨hu, .inr ⟨fun h => by simp at h, .func f, #[], f, #[p], rfl, by simpa [invoke] using run_callFunc hg #[p] w, fun _ _ => trivial, h⟩⟩
theorem fRetT {fn : Func} {rs : List ResultVar} {vs : List Value} {R : Ending → World → Prop} {f : FuncId} {p : Value} (hg : callT P f = true) (hr : fn.results = rs.toArray) (h : ResV P S (Eff W M L) rs vs)
    (hd : ∀ w, Eff W M L w → CallsDIn (FW none) 0 P f #[p] .returning w (fun e u' w' => (∃ v, e = .returned v) ∧ u' = .returning ∧ Eff w [] [] w'))
    (k : ∀ w, Eff W M L w → R (.returned (packV vs)) w) : Tr (St N S [dfa f p] W M L) (bodyPostM (FW none) 0 P fn R .ret) := fun a w hs => by
  show LeavesInM (FW none) 0 P fn a.tmps R a.defers .returning w
  rw [hs.df]
  refine leavesIn_dfa (by simp) hg ((hd w hs.ef).mono ?_)
  rintro e u' w' ⟨⟨v, rfl⟩, rfl, hE⟩
  have hE' : Eff W M L w' := by simpa using hs.ef.trans hE
  exact ⟨_, run_results hr h hE' hs.sl, k w' hE'⟩
theorem fPanT {fn : Func} {rs : List ResultVar} {vs : List Value} {R : Ending → World → Prop} {f : FuncId} {p pv : Value} {L' : Heap} (hg : callT P f = true) (hr : fn.results = rs.toArray) (h : ResV P S (Eff W M L') rs vs)
    (hd : ∀ w, Eff W M L w → CallsDIn (FW none) 0 P f #[p] (.panicking [{ v := pv, recovered := false }]) w (fun e u' w' => (∃ v, e = .returned v) ∧ u' = .panicking [{ v := pv, recovered := true }] ∧ Eff W M L' w'))
    (k : ∀ w, Eff W M L' w → R (.returned (packV vs)) w) : Tr (St N S [dfa f p] W M L) (bodyPostM (FW none) 0 P fn R (.panic [{ v := pv, recovered := false }])) := fun a w hs => by
  show LeavesInM (FW none) 0 P fn a.tmps R a.defers (.panicking _) w
  rw [hs.df]
  refine leavesIn_dfa (by simp) hg ((hd w hs.ef).mono ?_)
  rintro e u' w' ⟨⟨v, rfl⟩, rfl, hE⟩
  exact ⟨_, run_results hr h hE hs.sl, k w' hE⟩
end

section
variable {ro : Option Nat} {Q : Exit → Act → World → Prop} {next : Act → World → Prop} {N : Nat} {S : Slots} {D : List Deferred} {W : World} {M L : Heap}
variable {C : World → Prop} {dst : Option Tmp} {d : Nat} {ty : TypeId} {pos : String} {af : Array Edge} {g : Option (Nat × Bool)}
/-- A pair of a map's first ones. -/
theorem eInsert {T e : TypeId} {q : IntKind} {m x v : Operand} {n : Nat} {es : List (Int × Value)} {a : Int} {u : Value} (i : Nat) (hT : mapT P T = some (q, e)) (hm : opd S m = some (.map (some n))) (hx : opd S x = some (.int q a)) (hv : opd S v = some u)
    (hi : L[i]? = some (n, mapO q es)) (k : Tr (St N S D W M (upd L i (mapO q (mPut es a u)))) next) : Tr (St N S D W M L) (opW P ro N ⟨none, .insert T m x v, ty, pos, af, g⟩ next Q) := fun ac w hs hN => by
  have hb := hs.ef.own _ (List.mem_append.2 (.inr (List.mem_of_getElem? hi)))
  have hlt : n < w.heap.size := by rw [Array.getElem?_eq_some_iff] at hb; exact hb.1
  refine opW_skip (w' := { w with heap := w.heap.setIfInBounds n (mapO q (mPut es a u)) }) rfl ?_ (k _ _ (hs.eff (hs.ef.updL hi ?_ ?_ ?_ rfl rfl rfl))) hN
  · simp only [execOp, hs.knows m _ hm, hs.knows x _ hx, hs.knows v _ hv, Sem.run_bind, run_mapUpdate hT hb, Result.andThen_ok, Sem.run_pure]
  · simp [hlt]
  · intro j hj
    simp only [Array.getElem?_setIfInBounds]
    rw [if_neg (Ne.symm hj)]
  · simp
/-- The same, and mapUpdate, of the blocks that were there. -/
theorem eMapUpdateM {T e : TypeId} {q : IntKind} {m x v : Operand} {n : Nat} {es : List (Int × Value)} {a : Int} {u : Value} (i : Nat) (hT : mapT P T = some (q, e)) (hm : opd S m = some (.map (some n))) (hx : opd S x = some (.int q a)) (hv : opd S v = some u)
    (hi : M[i]? = some (n, mapO q es)) (k : Tr (St N S D W (upd M i (mapO q (mPut es a u))) L) next) : Tr (St N S D W M L) (opW P ro N ⟨none, .mapUpdate T m x v, ty, pos, af, g⟩ next Q) := fun ac w hs hN => by
  have hb := hs.ef.own _ (List.mem_append.2 (.inl (List.mem_of_getElem? hi)))
  have hlt : n < w.heap.size := by rw [Array.getElem?_eq_some_iff] at hb; exact hb.1
  refine opW_skip (w' := { w with heap := w.heap.setIfInBounds n (mapO q (mPut es a u)) }) rfl ?_ (k _ _ (hs.eff (hs.ef.updM hi ?_ ?_ ?_ rfl rfl rfl))) hN
  · simp only [execOp, hs.knows m _ hm, hs.knows x _ hx, hs.knows v _ hv, Sem.run_bind, run_mapUpdate hT hb, Result.andThen_ok, Sem.run_pure]
  · simp [hlt]
  · intro j hj
    simp only [Array.getElem?_setIfInBounds]
    rw [if_neg (Ne.symm hj)]
  · simp
theorem methT_ahead {t : TypeId} {name : String} {f : FuncId} (h : methT P t name = some f) (v : Value) (n : Nat) (w : World) : (nilAhead (n + 1) t v name).run P w = .ok (some false) w := by
  unfold methT at h
  split at h
  · rename_i inf hi
    split at h
    · rename_i m hm
      split at h
      · rename_i hp
        split at h
        · rename_i f' hf
          have hp' : m.path.toList = [] := by simpa using hp
          have ht : (typeInfo t).run P w = .ok inf w := by simp [typeInfo, program, Sem.run, hi]
          split at h
          · cases h
          · rename_i d hne hd
            cases h
            simp only [nilAhead, Sem.run_bind, ht, Result.andThen_ok, hm, hp', followBlind, Sem.run_pure, hf, run_underlying_of hd]
            cases d <;> first | (exact absurd rfl (hne _)) | rfl
          · cases h
        · cases h
      · cases h
    · cases h
  · cases h
/-- A method of what stands behind an interface, as a function: it is not nil. -/
theorem yNilCheckF {x : Operand} {t : TypeId} {name : String} {f : FuncId} {v : Value} {cs : List Value} (hm : methT P t name = some f) (hx : opd S x = some (.func (.method name) [Value.iface t v].toArray cs.toArray)) :
    YV P S C ⟨dst, .nilCheck x, ty, pos, af, g⟩ (.func (.method name) [Value.iface t v].toArray cs.toArray) :=
  .pure fun ρ hk w => by
    have h1 := methT_ahead hm v (P.types.size + 99) w
    have h8 : P.types.size + Made.depth = P.types.size + 99 + 1 := rfl
    have h2 : ([Value.iface t v].toArray[0]? : Option Value) = some (.iface t v) := rfl
    simp only [execOp, hk x _ hx, h2, Sem.run_bind, run_program, Result.andThen_ok, h8, h1]
    rfl
/-- A method that leaves no trace. -/
theorem yInvoke {x : Operand} {xs : List Operand} {t : TypeId} {name : String} {f : FuncId} {u v : Value} {vs : List Value} {tys : Array TypeId} (hx : opd S x = some (.iface t u)) (ha : AllOpd S xs vs) (hm : methT P t name = some f) (hf : callT P f = true)
    (hc : ∀ w, C w → Calls P f (u :: vs).toArray w (Ret w v)) : YV P S C ⟨dst, .call ⟨.invoke x name, xs.toArray, tys⟩, ty, pos, af, g⟩ v := ⟨rfl, fun ρ hk w hC => by
  rw [exec_invoke hx ha hm hf hk w]
  exact ⟨rfl, hc w hC⟩⟩
/-- A call that writes into the i-th of the new blocks something of which this is so, and makes none. -/
theorem eCallWX {ι : Type} {x : Operand} {xs : List Operand} {f : FuncId} {us cs vs : List Value} {tys : Array TypeId} {b : Nat} {o : Obj} {φ : ι → Prop} {o' : ι → Obj} {v : ι → Value} (i : Nat) (hi : L[i]? = some (b, o)) (hx : opd S x = some (.func (.func f) us.toArray cs.toArray)) (ha : AllOpd S xs vs)
    (hf : callT P f = true) (hc : ∀ w, Eff W M L w → w.heap[b]? = some o → Calls P f (us ++ vs ++ cs).toArray w (RetX w φ v (fun y => [(b, o' y)]) (fun _ => [])))
    (k : ∀ y, φ y → Tr (St N ((d, v y) :: S) D W M (upd L i (o' y))) next) : Tr (St N S D W M L) (opW P ro N ⟨some d, .call ⟨.value x, xs.toArray, tys⟩, ty, pos, af, g⟩ next Q) := fun a w hs hN => by
  have hb := hs.ef.own _ (List.mem_append.2 (.inr (List.mem_of_getElem? hi)))
  refine opW_enter rfl (exec_call hx ha hf hs.knows w) ((hc w hs.ef hb).mono ?_) hN
  rintro e w' ⟨y, hy, rfl, hE⟩
  exact k y hy _ _ ((hs.put (hN d rfl) _).eff (by simpa using hs.ef.wroteL hi hE))
end
/-- Blocks that hold what they held are as if they were not known. -/
theorem Eff.keepM {W w : World} {M1 M2 L : Heap} (h : Eff W (M1 ++ M2) L w) (hr : ∀ p ∈ M2, W.heap[p.1]? = some p.2) : Eff W M1 L w := by
  refine ⟨h.os, h.tape, h.output, h.size, fun k hk hM => ?_, fun p hp => h.own p ?_, h.new, fun p hp => h.old p (List.mem_append_left _ hp), ?_⟩
  · by_cases hk2 : ∃ p ∈ M2, p.1 = k
    · obtain ⟨p, hp, rfl⟩ := hk2
      rw [hr p hp]; exact h.own p (by simp [hp])
    · exact h.frame k hk fun p hp e => (List.mem_append.1 hp).elim (fun h1 => hM p h1 e) (fun h1 => hk2 ⟨p, h1, e⟩)
  · rcases List.mem_append.1 hp with hp | hp <;> simp [hp]
  · have := h.nd
    simp only [List.map_append, List.append_assoc] at this ⊢
    rw [List.nodup_append] at this ⊢
    refine ⟨this.1, (List.nodup_append.1 this.2.1).2.1, fun a ha b hb => this.2.2 a ha b (by simp only [List.mem_append]; exact .inr hb)⟩
theorem Eff.many {W : World} {M : Heap} (h : ∀ p ∈ M, W.heap[p.1]? = some p.2) (hn : (M.map (·.1)).Nodup) : Eff W M [] W := by
  refine ⟨rfl, rfl, rfl, Nat.le_refl _, fun _ _ _ => rfl, fun p hp => h p (by simpa using hp), fun p hp => by simp at hp, fun p hp => ?_, by simpa using hn⟩
  have := h p hp
  rw [Array.getElem?_eq_some_iff] at this; exact this.1

/-! ### Maps of numbers -/
/-- A map holds these numbers. -/
def Rep (es : List (Int × Value)) (m : Nat → Option Int) : Prop := ∀ (v : Nat) (z : Value), mGet es (v : Int) z = (match m v with | some d => .int .i64 d | none => z)
theorem Rep.nil : Rep [] fun _ => none := fun _ _ => rfl
theorem Rep.put {es : List (Int × Value)} {m : Nat → Option Int} (h : Rep es m) (v : Nat) (d : Int) : Rep (mPut es v (.int .i64 d)) (fun u => if u = v then some d else m u) := fun u z => by
  rw [mGet_put]
  dsimp only
  by_cases hu : u = v
  · subst hu; rw [if_pos rfl, if_pos rfl]
  · rw [if_neg (by omega), if_neg hu]; exact h u z
theorem Rep.some {es : List (Int × Value)} {m : Nat → Option Int} (h : Rep es m) {v : Nat} (hf : (mFind es (v : Int) 0).isSome = true) : ∃ d, m v = some d ∧ ∀ z, mGet es (v : Int) z = .int .i64 d := by
  cases hm : m v with
  | some d => exact ⟨d, rfl, fun z => by rw [h v z, hm]⟩
  | none =>
    have h1 := h v (.bool true)
    have h2 := h v (.bool false)
    rw [hm] at h1 h2
    obtain ⟨⟨i, u⟩, he⟩ := Option.isSome_iff_exists.1 hf
    simp only [mGet, he] at h1 h2
    rw [h1] at h2; cases h2
theorem Rep.none {es : List (Int × Value)} {m : Nat → Option Int} (h : Rep es m) {v : Nat} (hf : (mFind es (v : Int) 0).isSome = false) : m v = Option.none := by
  have he : mFind es (v : Int) 0 = Option.none := by simpa using hf
  have h1 := h v (.bool true)
  simp only [mGet, he] at h1
  cases hm : m v with
  | none => rfl
  | some d => rw [hm] at h1; cases h1
theorem Rep.isSome {es : List (Int × Value)} {m : Nat → Option Int} (h : Rep es m) (v : Nat) : (mFind es (v : Int) 0).isSome = (m v).isSome := by
  cases hf : (mFind es (v : Int) 0).isSome with
  | true => obtain ⟨d, hd, _⟩ := h.some hf; rw [hd]; rfl
  | false => rw [h.none hf]; rfl
/-! ### Calls of closures that append to what they share -/
/-- The call returns; what is known is as told. -/
def RetE {ι : Type} (W : World) (M : Heap) (φ : ι → Prop) (v : ι → Value) (L' : ι → Heap) : Ending → World → Prop := fun e w' => ∃ y, φ y ∧ e = .returned (v y) ∧ Eff W M (L' y) w'
theorem fEnterE {N : Nat} {W w : World} {M L : Heap} {f : FuncId} {fn : Func} {c : Code} {vs : List Value} {R : Ending → World → Prop} (hE : Eff W M L w) (hf : P.funcs[f]? = some fn) (hb : fn.body = some c) (hn : fn.ntmps = N) (hN : Nat.ble vs.length N = true)
    (h : Tr (St N (slotsFrom 0 vs) [] W M L) (WP P none c (bodyPostM (FW none) 0 P fn R))) : Calls P f vs.toArray w R := by
  refine (callsIn_wide (n := 0)).1 (callsIn_of_wp_marks hf hb trivial ?_)
  refine h _ w ⟨?_, ?_, rfl, hE⟩
  · have := Nat.le_of_ble_eq_true hN
    simp [hn]; omega
  · intro t v hv
    obtain ⟨h1, h2⟩ := look_slotsFrom vs 0 t v hv
    simp only [Nat.sub_zero] at h2
    have hlt : t < vs.length := by
      rcases Nat.lt_or_ge t vs.length with h | h
      · exact h
      · rw [List.getElem?_eq_none h] at h2; cases h2
    show (vs.toArray ++ Array.replicate (fn.ntmps - vs.toArray.size) undef)[t]? = some v
    rw [Array.getElem?_append_left (by simpa using hlt)]
    simpa using h2
section
variable {ro : Option Nat} {Q : Exit → Act → World → Prop} {next : Act → World → Prop} {N : Nat} {S : Slots} {D : List Deferred} {W : World} {M L : Heap}
variable {d : Nat} {ty : TypeId} {pos : String} {af : Array Edge} {g : Option (Nat × Bool)}
theorem eCallE {ι : Type} {x : Operand} {xs : List Operand} {f : FuncId} {us cs vs : List Value} {tys : Array TypeId} {φ : ι → Prop} {v : ι → Value} {L' : ι → Heap} (hx : opd S x = some (.func (.func f) us.toArray cs.toArray)) (ha : AllOpd S xs vs)
    (hf : callT P f = true) (hc : ∀ w, Eff W M L w → Calls P f (us ++ vs ++ cs).toArray w (RetE W M φ v L'))
    (k : ∀ y, φ y → Tr (St N ((d, v y) :: S) D W M (L' y)) next) : Tr (St N S D W M L) (opW P ro N ⟨some d, .call ⟨.value x, xs.toArray, tys⟩, ty, pos, af, g⟩ next Q) := fun a w hs hN => by
  refine opW_enter rfl (exec_call hx ha hf hs.knows w) ((hc w hs.ef).mono ?_) hN
  rintro e w' ⟨y, hy, rfl, hE⟩
  exact k y hy _ _ ((hs.put (hN d rfl) _).eff hE)
theorem fCallE {ι : Type} {x : Operand} {xs : List Operand} {f : FuncId} {us cs vs : List Value} {tys : Array TypeId} {φ : ι → Prop} {v : ι → Value} {L' : ι → Heap} (hx : opd S x = some (.func (.func f) us.toArray cs.toArray)) (ha : AllOpd S xs vs)
    (hf : callT P f = true) (hc : ∀ w, Eff W M L w → Calls P f (us ++ vs ++ cs).toArray w (RetE W M φ v L')) :
    Tr (St N S D W M L) (opW P ro N ⟨some d, .call ⟨.value x, xs.toArray, tys⟩, ty, pos, af, g⟩ (fun a w => ∃ y : {y // φ y}, St N ((d, v y.1) :: S) D W M (L' y.1) a w) Q) :=
  eCallE hx ha hf hc fun y h => trTo (Y := fun y : {y // φ y} => St N ((d, v y.1) :: S) D W M (L' y.1)) ⟨y, h⟩ trSelf
end
end
end ZW
namespace ZW
open Go

/-- An iterator over a map that is not written. -/
abbrev itO (n : Nat) (es : List (Int × Value)) (seen : Array Nat) : Obj := .mapIter (some n) es.length seen es.length
theorem mkE_born (k : IntKind) (es : List (Int × Value)) : ∀ x ∈ (mkE k es 0).toArray.toList, x.born < es.length := by
  intro x hx
  obtain ⟨i, hi, rfl⟩ := List.mem_iff_getElem.1 hx
  have h1 := mkE_get k es 0 i
  have h2 : i < es.length := by rwa [mkE_length] at hi
  rw [List.getElem?_eq_getElem hi, List.getElem?_eq_getElem h2] at h1
  simp only [Option.map_some, Option.some.injEq, Nat.zero_add] at h1
  rw [h1]; exact h2
theorem mkE_mem {k : IntKind} {es : List (Int × Value)} {x : MapEntry} (hx : x ∈ (mkE k es 0).toArray.toList) : ∃ j p, es[j]? = some p ∧ x = { key := .int k p.1, val := p.2, born := j } := by
  obtain ⟨i, hi, rfl⟩ := List.mem_iff_getElem.1 hx
  have h1 := mkE_get k es 0 i
  have h2 : i < es.length := by rwa [mkE_length] at hi
  rw [List.getElem?_eq_getElem hi, List.getElem?_eq_getElem h2] at h1
  simp only [Option.map_some, Option.some.injEq, Nat.zero_add] at h1
  exact ⟨i, es[i], List.getElem?_eq_getElem h2, h1⟩
theorem mkE_has {k : IntKind} {es : List (Int × Value)} {j : Nat} {p : Int × Value} (h : es[j]? = some p) : ({ key := .int k p.1, val := p.2, born := j } : MapEntry) ∈ (mkE k es 0).toArray.toList := by
  have h1 := mkE_get k es 0 j
  rw [h] at h1
  simp only [Option.map_some, Nat.zero_add] at h1
  exact List.mem_of_getElem? h1
theorem mkE_nodup (k : IntKind) (es : List (Int × Value)) : ((mkE k es 0).toArray.toList.map (·.born)).Nodup := by
  have h : (mkE k es 0).toArray.toList.map (·.born) = List.range es.length := by
    refine List.ext_getElem? fun i => ?_
    rw [List.getElem?_map, mkE_get]
    by_cases hi : i < es.length
    · rw [List.getElem?_eq_getElem hi, List.getElem?_range hi]; simp
    · rw [List.getElem?_eq_none (by omega), List.getElem?_eq_none (by simp; omega)]; rfl
  rw [h]; exact List.nodup_range
/-- What the iterator has not handed out. -/
def leftN (n : Nat) (seen : Array Nat) : Nat := ((List.range n).filter fun j => !seen.contains j).length
theorem leftN_push {n : Nat} {seen : Array Nat} {j : Nat} (hj : j < n) (hs : seen.contains j = false) : leftN n (seen.push j) < leftN n seen := by
  unfold leftN
  refine filter_lt (fun i => !seen.contains i) (fun i => !(seen.push j).contains i) (fun x hx => ?_) j (by rw [hs]; rfl) (by rw [contains_push, beq_self_eq_true, Bool.or_true]; rfl) (List.range n) (List.mem_range.2 hj)
  rw [contains_push] at hx
  cases hc : seen.contains x with
  | false => rfl
  | true => rw [hc, Bool.true_or] at hx; exact absurd hx (by decide)
section
variable {P : Program} {ro : Option Nat} {Q : Exit → Act → World → Prop} {next : Act → World → Prop} {N : Nat} {S : Slots} {D : List Deferred} {W : World} {M L : Heap}
variable {C : World → Prop} {dst : Option Tmp} {d : Nat} {ty : TypeId} {pos : String} {af : Array Edge} {g : Option (Nat × Bool)}
theorem eRange {T e : TypeId} {q : IntKind} {x : Operand} {n : Nat} {es : List (Int × Value)} (hT : mapT P T = some (q, e)) (hx : opd S x = some (.map (some n))) (hc : ∀ w, Eff W M L w → w.heap[n]? = some (mapO q es))
    (k : ∀ it, Tr (St N ((d, .pointer (some ⟨it, 0, none⟩)) :: S) D W M ((it, itO n es #[]) :: L)) next) : Tr (St N S D W M L) (opW P ro N ⟨some d, .range T x, ty, pos, af, g⟩ next Q) := fun a w hs hN => by
  obtain ⟨kk, h1, h2⟩ := mapT_spec hT
  refine opW_value (w' := { w with heap := w.heap.push (itO n es #[]) }) (v := .pointer (some ⟨w.heap.size, 0, none⟩)) rfl ?_ (k w.heap.size _ _ ((hs.put (hN d rfl) _).eff (hs.ef.alloc _))) hN
  simp only [execOp, hs.knows x _ hx, Sem.run_bind, run_range_map w T kk e n _ _ h1 (hc w hs.ef), Result.andThen_ok, Sem.run_pure]
  rfl
theorem eNext {q : IntKind} {x : Operand} {n it : Nat} {es : List (Int × Value)} {seen : Array Nat} (i : Nat) (hx : opd S x = some (.pointer (some ⟨it, 0, none⟩))) (hi : L[i]? = some (it, itO n es seen)) (hne : ∀ w, Eff W M L w → w.heap[n]? = some (mapO q es))
    (k0 : (∀ j, j < es.length → seen.contains j = true) → Tr (St N ((d, .tuple [.bool false].toArray) :: S) D W M L) next)
    (k1 : ∀ j p, es[j]? = some p → seen.contains j = false → Tr (St N ((d, .tuple [.bool true, .int q p.1, p.2].toArray) :: S) D W M (upd L i (itO n es (seen.push j)))) next) :
    Tr (St N S D W M L) (opW P ro N ⟨some d, .next x false, ty, pos, af, g⟩ next Q) := fun a w hs hN => by
  have hb := hs.ef.own _ (List.mem_append.2 (.inr (List.mem_of_getElem? hi)))
  have hlt : it < w.heap.size := by rw [Array.getElem?_eq_some_iff] at hb; exact hb.1
  rcases run_next_at (P := P) w ty it n es.length es.length seen _ es.length hb (hne w hs.ef) (mkE_born q es) (Nat.le_refl _) with ⟨h0, hr⟩ | ⟨e, he, w1, hw1, hr⟩
  · refine opW_value (w' := w) (v := .tuple [.bool false].toArray) rfl ?_ (k0 (fun j hj => ?_) _ _ (hs.put (hN d rfl) _)) hN
    · simp only [execOp, hs.knows x _ hx, Sem.run_bind, hr, Result.andThen_ok, Sem.run_pure]
    · cases hc : seen.contains j with
      | true => rfl
      | false =>
        have h1 := mkE_has (k := q) (List.getElem?_eq_getElem hj)
        have h2 : ({ key := .int q es[j].1, val := es[j].2, born := j } : MapEntry) ∈ leftOf (mkE q es 0).toArray seen := by
          unfold leftOf
          exact Array.mem_filter.2 ⟨Array.mem_toList_iff.1 h1, by rw [hc]; rfl⟩
        rw [Array.eq_empty_of_size_eq_zero h0] at h2
        simp at h2
  · obtain ⟨h1, h2⟩ := mem_left he
    obtain ⟨j, p, hp, rfl⟩ := mkE_mem h1
    have hh : w1.heap = w.heap := by rcases hw1 with rfl | rfl <;> rfl
    refine opW_value (w' := ChangeMaps.setBlock w1 it (itO n es (seen.push j))) (v := .tuple [.bool true, .int q p.1, p.2].toArray) rfl ?_ (k1 j p hp h2 _ _ ((hs.put (hN d rfl) _).eff (hs.ef.updL hi ?_ ?_ ?_ ?_ ?_ ?_))) hN
    · simp only [execOp, hs.knows x _ hx, Sem.run_bind, hr, Result.andThen_ok, Sem.run_pure]
    · simp [ChangeMaps.setBlock, hh, hlt]
    · intro k hk
      simp only [ChangeMaps.setBlock, hh, Array.getElem?_setIfInBounds]; rw [if_neg (Ne.symm hk)]
    · simp [ChangeMaps.setBlock, hh]
    · rcases hw1 with rfl | rfl <;> rfl
    · rcases hw1 with rfl | rfl <;> rfl
    · rcases hw1 with rfl | rfl <;> rfl
theorem yEntry {q : IntKind} {x : Operand} {n it j : Nat} {es : List (Int × Value)} {seen : Array Nat} {p : Int × Value} (hx : opd S x = some (.pointer (some ⟨it, 0, none⟩))) (hj : es[j]? = some p)
    (hc : ∀ w, C w → w.heap[it]? = some (itO n es (seen.push j)) ∧ w.heap[n]? = some (mapO q es)) : YV P S C ⟨dst, .entry x, ty, pos, af, g⟩ (.tuple [.int q p.1, p.2].toArray) :=
  .pureC fun ρ hk w hC => by
    obtain ⟨h1, h2⟩ := hc w hC
    simp only [execOp, hk x _ hx, Sem.run_bind, run_entry_at w it n es.length seen _ es.length _ h1 h2 (mkE_has hj) (mkE_nodup q es), Result.andThen_ok, Sem.run_pure]
end
end ZW
namespace ZW
open Go

theorem Eff.tail {W w w' : World} {L A A' : Heap} (h : Eff W [] (L ++ A) w) (h' : Eff w A' [] w') (hk : A'.map (·.1) = A.map (·.1)) : Eff W [] (L ++ A') w' := by
  have hnd := h.nd
  simp only [List.nil_append, List.map_append, List.nodup_append] at hnd
  have := h.merge [] (L ++ A') h' rfl (by simp [hk]) (fun p hp => ?_) (fun q hq => ?_)
  · simpa using this
  · rcases List.mem_append.1 (by simpa using hp) with hp | hp
    · refine .inr ⟨by simp [hp], fun q hq e => ?_⟩
      have h1 : q.1 ∈ A.map (·.1) := by rw [← hk]; exact List.mem_map.2 ⟨q, hq, rfl⟩
      exact hnd.2.2 p.1 (List.mem_map.2 ⟨p, hp, rfl⟩) q.1 h1 e.symm
    · exact .inl hp
  · have h1 : q.1 ∈ A.map (·.1) := by rw [← hk]; exact List.mem_map.2 ⟨q, hq, rfl⟩
    simp only [List.nil_append, List.map_append, List.mem_append]
    exact .inr h1
/-- What is not changed needs not be told. -/
theorem Eff.lessM {w w' : World} {A B : Heap} (h : Eff w (A ++ B) [] w') (hb : ∀ p ∈ B, w.heap[p.1]? = some p.2) : Eff w A [] w' := by
  have hnd := h.nd
  simp only [List.append_nil, List.map_append, List.nodup_append] at hnd
  refine ⟨h.os, h.tape, h.output, h.size, fun k hk hA => ?_, fun p hp => h.own p (by simp at hp; simp [hp]), fun p hp => by simp at hp, fun p hp => h.old p (by simp [hp]), by simpa using hnd.1⟩
  by_cases hm : ∃ p ∈ B, p.1 = k
  · obtain ⟨p, hp, rfl⟩ := hm
    rw [h.own p (by simp [hp]), hb p hp]
  · refine h.frame k hk fun p hp e => ?_
    rcases List.mem_append.1 hp with hp | hp
    · exact hA p hp e
    · exact hm ⟨p, hp, e⟩
theorem Eff.perm {W w : World} {M L L' : Heap} (h : Eff W M L w) (hp : L.Perm L') : Eff W M L' w :=
  ⟨h.os, h.tape, h.output, h.size, h.frame, fun p hq => h.own p (by rcases List.mem_append.1 hq with hq | hq; (· exact List.mem_append.2 (.inl hq)); exact List.mem_append.2 (.inr (hp.mem_iff.2 hq))), fun p hq => h.new p (hp.mem_iff.2 hq), h.old,
    (((List.Perm.append_left M hp).map (·.1)).nodup_iff).1 h.nd⟩
/-- What stays as it is may be told, too. -/
theorem Eff.addM {w w' : World} {A : Heap} {p : Nat × Obj} (h : Eff w A [] w') (hp : w.heap[p.1]? = some p.2) (hn : ∀ q ∈ A, q.1 ≠ p.1) : Eff w (p :: A) [] w' := by
  have hlt : p.1 < w.heap.size := by rw [Array.getElem?_eq_some_iff] at hp; exact hp.1
  refine ⟨h.os, h.tape, h.output, h.size, fun k hk hA => h.frame k hk fun q hq => hA q (by simp [hq]), fun q hq => ?_, fun q hq => by simp at hq, fun q hq => ?_, ?_⟩
  · rcases List.mem_cons.1 (by simpa using hq) with rfl | hq
    · rw [h.frame _ hlt hn]; exact hp
    · exact h.own q (by simp [hq])
  · rcases List.mem_cons.1 hq with rfl | hq
    · exact hlt
    · exact h.old q hq
  · have := h.nd
    simp only [List.append_nil] at this
    simp only [List.append_nil, List.map_cons, List.nodup_cons]
    refine ⟨fun hm => ?_, this⟩
    obtain ⟨q, hq, e⟩ := List.mem_map.1 hm
    exact hn q hq e
theorem Eff.permM {W w : World} {M M' : Heap} (h : Eff W M [] w) (hp : M.Perm M') : Eff W M' [] w :=
  ⟨h.os, h.tape, h.output, h.size, fun k hk hA => h.frame k hk fun q hq => hA q (hp.mem_iff.1 hq), fun p hq => h.own p (by simp at hq; simp [hp.mem_iff.2 hq]), fun p hq => by simp at hq, fun p hq => h.old p (hp.mem_iff.2 hq),
    by have := h.nd; simp only [List.append_nil] at this ⊢; exact ((hp.map (·.1)).nodup_iff).1 this⟩
theorem Eff.self {W w : World} {L A : Heap} (h : Eff W [] L w) (hs : SubP A L) : Eff w A [] w := by
  have h1 := h.sub hs
  have h2 := h1.nd
  refine ⟨rfl, rfl, rfl, Nat.le_refl _, fun _ _ _ => rfl, fun p hp => h1.own p (by simpa using hp), fun p hp => by simp at hp, fun p hp => h1.lt (by simp [hp]), by simpa using h2⟩

/-- Cells of a block that is known by whatever tells it. -/
theorem cFact {C : World → Prop} {b o : Nat} {l vs : List Value} {e : TypeId} {z : Nat × Nat} (h : ∀ w, C w → w.heap[b]? = some (.cells l.toArray e z)) (hs : sub l o vs.length = some vs) : Cells C b o vs := fun w hw j hj => by
  obtain ⟨_, h2⟩ := sub_spec _ _ _ _ hs
  rw [cell_blk (h w hw)]; exact h2 j hj
section
variable {P : Program} {Q : Exit → Act → World → Prop} {next : Act → World → Prop} {N : Nat} {S : Slots} {D : List Deferred} {W : World} {M L : Heap}
variable {d : Nat} {ty : TypeId} {pos : String} {af : Array Edge} {g : Option (Nat × Bool)}

/-- What a call of yield with some values comes to. -/
def YCs (P : Program) (l : Nat) (vs : List Value) (w : World) (R : Ending → World → Prop) : Prop :=
  ∃ f tmps assign body, (Instr.yield l vs.toArray).run P w = .ok (.round l f tmps assign body) w ∧ RoundIn (FW none) 0 P l f tmps assign body w R

theorem eYieldS {x : Operand} {xs : List Operand} {l : Nat} {vs : List Value} {tys : Array TypeId} {b : Bool} {L0 A A' : Heap} (hL : L0 = L ++ A) (hx : opd S x = some (.func (.yield l) #[] #[])) (ha : AllOpd S xs vs)
    (hy : ∀ w, Eff W [] (L ++ A) w → YCs P l vs w (fun e w' => e = .returned (.bool b) ∧ Eff w A' [] w')) (hk : A'.map (·.1) = A.map (·.1))
    (h : Tr (St N ((d, .bool b) :: S) D W [] (L ++ A')) next) :
    Tr (St N S D W [] L0) (opW P none N ⟨some d, .call ⟨.value x, xs.toArray, tys⟩, ty, pos, af, g⟩ next Q) := fun a w hs hN => by
  subst hL
  obtain ⟨f, tmps, assign, body, hr, hround⟩ := hy w hs.ef
  have hm := ha.map hs.knows
  have hex : (execOp a.eval ⟨some d, .call ⟨.value x, xs.toArray, tys⟩, ty, pos, af, g⟩).run P w = .ok (.round l f tmps assign body) w := by
    simp only [execOp, resolve, List.map_toArray, hm, hs.knows x _ hx, Deferred.ofValue, Sem.run_bind, Sem.run_pure, Result.andThen_ok, invoke]
    simpa using hr
  rw [semAt_nd rfl, hex]
  refine ⟨fun hd => by simp at hd, hround.mono ?_⟩
  rintro e w' ⟨rfl, hE⟩
  exact h _ _ ((hs.put (hN d rfl) _).eff (hs.ef.tail hE hk))

/-- A function that yields so many pairs of values, one after the other; all rounds go on, or the first one stops. R: the blocks that it knows; Ch: the others, by how many rounds there were. -/
def IterS (P : Program) (F : FuncId) (caps : List Value) (W : World) (R : Heap) (Inv : World → Prop) (vs : Nat → Value × Value) (n : Nat) (b : Bool) : Prop :=
  ∀ (l : Nat) (Ch : Nat → Heap) (w : World), (∀ i, (Ch i).map (·.1) = (Ch 0).map (·.1)) → (∀ i w L, Eff W [] (L ++ (R ++ Ch i)) w → Inv w) → Eff W [] (R ++ Ch 0) w →
    (∀ i, i < (if b then n else min 1 n) → ∀ w L, Eff W [] (L ++ (R ++ Ch i)) w → YCs P l [(vs i).1, (vs i).2] w (fun e w' => e = .returned (.bool b) ∧ Eff w (Ch (i + 1)) [] w')) →
    Calls P F (.func (.yield l) #[] #[] :: caps).toArray w (fun e w' => e = .returned (.tuple #[]) ∧ Eff W [] (R ++ Ch (if b then n else min 1 n)) w')

/-- A round ends, and the next one may come. -/
theorem rNormalS {l : Nat} {r : Loop} (hr : r.state = .ready ∧ r.pending = none) : Tr (St N S D W ((l, busyL r) :: M) L) (roundPost P l (fun e w' => e = .returned (.bool true) ∧ Eff W ((l, .loop r) :: M) [] w') .normal) := fun a w hs => by
  have hb := hs.ef.own (l, busyL r) (by simp)
  refine ⟨.bool true, { w with heap := w.heap.setIfInBounds l (.loop r) }, ?_, rfl, ?_⟩
  · have : ({ ({ r with state := .busy } : Loop) with state := .ready, pending := none } : Loop) = r := by
      obtain ⟨h1, h2⟩ := hr
      cases r; simp only at h1 h2; subst h1 h2; rfl
    simp only [Instr.endRound, Sem.run_bind, run_getLoop hb, Result.andThen_ok, Option.isNone_none, if_true, run_setLoop hb, this, Sem.run_pure]
  · exact hs.ef.set0.sub .n
/-- A round returns. -/
theorem rRetS {l : Nat} {r : Loop} : Tr (St N S D W ((l, busyL r) :: M) L) (roundPost P l (fun e w' => e = .returned (.bool false) ∧ Eff W ((l, retL r) :: M) [] w') .ret) := fun a w hs => by
  have hb := hs.ef.own (l, busyL r) (by simp)
  refine ⟨.bool false, { w with heap := w.heap.setIfInBounds l (retL r) }, ?_, rfl, hs.ef.set0.sub .n⟩
  simp [Instr.endRound, Sem.run_bind, run_getLoop hb, run_setLoop hb, retL]

theorem kRangeS {t1 t2 : Tmp} {x : Operand} {assign body : Code} {F : FuncId} {caps : List Value} (R : Heap) (Inv : World → Prop) (vs : Nat → Value × Value) (n : Nat) (b : Bool) (Kc : Nat → Heap)
    (hx : opd S x = some (.func (.func F) #[] caps.toArray)) (hF : callT P F = true) (hN1 : Nat.blt t1 N = true) (hN2 : Nat.blt t2 N = true) (hsub : SubP (R ++ Kc 0) L) (hkeys : ∀ i, (Kc i).map (·.1) = (Kc 0).map (·.1))
    (hI : IterS P F caps W R Inv vs n b) (hInv : ∀ i w L, Eff W [] (L ++ (R ++ Kc i)) w → Inv w)
    (hbody : ∀ l (r : Loop) i w, i < n → (r.state = .ready ∧ r.pending = none) → Tr (St N ((t2, (vs i).2) :: (t1, (vs i).1) :: S) [] w ((l, .loop r) :: (R ++ Kc i)) []) (WP P (some l) assign
      (Exit.then (fun a₁ w₁ => ∃ w₂, (Instr.beginRound l).run P w₁ = .ok () w₂ ∧ WP P (some l) body (roundPost P l (fun e w' => e = .returned (.bool b) ∧ Eff w ((l, if b then .loop r else retL r) :: (R ++ Kc (i + 1))) [] w')) a₁ w₂) (fun _ _ _ => False))))
    (hnone : (b = true ∨ n = 0) → ∀ r l o, Tr (St N S (markD r :: D) W [] ((l, o) :: (r, .deferred (some [])) :: (R ++ Kc n))) (Q .normal))
    (hsome : b = false → 0 < n → ∀ r l o, Tr (St N S (markD r :: D) W [] ((l, o) :: (r, .deferred (some [])) :: (R ++ Kc 1))) (Q .ret)) :
    Tr (St N S D W [] L) (WP P none (.rangeFunc x #[t1, t2] assign body) Q) := fun a w hs => by
  refine wpIn_rangeFunc fun fn _ => ?_
  have hlt1 : t1 < N := Nat.le_of_ble_eq_true hN1
  have hlt2 : t2 < N := Nat.le_of_ble_eq_true hN2
  let r : Nat := w.heap.size
  let l : Nat := w.heap.size + 1
  let rec_ : Loop := { state := .ready, pending := none, fn, tmps := a.tmps, params := #[t1, t2], assign, body, defers := r }
  have he0 : Eff W [] ((l, .loop rec_) :: (r, .deferred (some [])) :: L) { w with heap := (w.heap.push (.deferred (some []))).push (.loop rec_) } := by
    have h1 := hs.ef.alloc (.deferred (some []))
    have h2 := h1.alloc (.loop rec_)
    simpa [l, r] using h2
  generalize hw1 : ({ w with heap := (w.heap.push (.deferred (some []))).push (.loop rec_) } : World) = w1 at he0
  -- what changes: the record, and the blocks of the one who ranges
  let Ch : Nat → Heap := fun i => (l, if b = true ∨ i = 0 then .loop rec_ else retL rec_) :: (Kc i ++ [(r, .deferred (some []))])
  have hCk : ∀ i, (Ch i).map (·.1) = (Ch 0).map (·.1) := fun i => by simp [Ch, hkeys i]
  have hC0 : ∀ i, (b = true ∨ i = 0) → Ch i = (l, .loop rec_) :: (Kc i ++ [(r, .deferred (some []))]) := fun i hi => by simp only [Ch, if_pos hi]
  have pm : ∀ (p q : Nat × Obj) (A B : Heap), (p :: q :: (A ++ B)).Perm (A ++ (p :: (B ++ [q]))) := fun p q A B => by
    refine (List.Perm.cons _ ?_).trans (List.perm_middle (l₁ := A)).symm
    rw [← List.append_assoc]
    exact (List.perm_append_singleton _ _).symm
  have hE0 : Eff W [] (R ++ Ch 0) w1 := by
    rw [hC0 0 (.inr rfl)]
    exact (he0.sub (.c 0 rfl (.c 0 rfl hsub))).perm (pm _ _ _ _)
  have hCI : ∀ i w L, Eff W [] (L ++ (R ++ Ch i)) w → Inv w := fun i w L h => by
    have h2 : Eff W [] ((L ++ [(l, if b = true ∨ i = 0 then .loop rec_ else retL rec_), (r, .deferred (some []))]) ++ (R ++ Kc i)) w := by
      rw [List.append_assoc]
      exact h.perm (List.Perm.append_left _ (pm _ _ _ _).symm)
    exact hInv i w _ h2
  have hc := hI l Ch w1 hCk hCI hE0 (fun i hi w' L' hw' => by
    have hin : i < n := by cases b <;> simp at hi <;> omega
    have hb0 : b = true ∨ i = 0 := by cases b with
      | true => exact .inl rfl
      | false => simp at hi; exact .inr (by omega)
    rw [hC0 i hb0] at hw'
    have hw2 : Eff W [] (L' ++ ((l, .loop rec_) :: (r, .deferred (some [])) :: (R ++ Kc i))) w' := hw'.perm (List.Perm.append_left _ (pm _ _ _ _).symm)
    have hE' : Eff w' ((l, .loop rec_) :: (R ++ Kc i)) [] w' := (hw2.sub SubP.tail).self (.c 0 rfl (.d 0 .r))
    have hl' : w'.heap[l]? = some (.loop rec_) := hE'.own (l, .loop rec_) (by simp)
    refine ⟨fn, (a.tmps.setIfInBounds t1 (vs i).1).setIfInBounds t2 (vs i).2, assign, body, ?_, ?_⟩
    · simp [Instr.yield, run_getLoop hl', Sem.run_bind, Sem.run_pure, rec_]
    · have h3 := hbody l rec_ i w' hin ⟨rfl, rfl⟩ { tmps := (a.tmps.setIfInBounds t1 (vs i).1).setIfInBounds t2 (vs i).2, defers := [] } w' ⟨by simp [hs.sz], fun u v hu => ?_, rfl, hE'⟩
      · have h3' : RoundIn (FW none) 0 P l fn ((a.tmps.setIfInBounds t1 (vs i).1).setIfInBounds t2 (vs i).2) assign body w' (fun e w'' => e = .returned (.bool b) ∧ Eff w' ((l, if b then .loop rec_ else retL rec_) :: (R ++ Kc (i + 1))) [] w'') := by
          refine roundIn_of_wpIn trivial ?_
          exact h3
        refine h3'.mono ?_
        rintro e w'' ⟨rfl, hE''⟩
        refine ⟨rfl, ?_⟩
        have h0 := hw2.sub SubP.tail
        have hnd := h0.nd
        have hr' : w'.heap[r]? = some (.deferred (some [])) := h0.own (r, .deferred (some [])) (by simp)
        have h4 := hE''.addM (p := (r, .deferred (some []))) hr' (fun q hq e => by
          simp only [List.nil_append, List.map_cons, List.nodup_cons] at hnd
          have h5 : q.1 ∈ (l :: (R ++ Kc i).map (·.1)) := by
            have : q.1 ∈ ((l, if b then Obj.loop rec_ else retL rec_) :: (R ++ Kc (i + 1))).map (·.1) := List.mem_map.2 ⟨q, hq, rfl⟩
            simpa [hkeys (i + 1), hkeys i] using this
          rcases List.mem_cons.1 h5 with h6 | h6
          · exact hnd.1 (by rw [List.mem_cons]; exact .inl (h6.symm.trans e))
          · exact hnd.2.1 ((show q.1 = r from e) ▸ h6))
        have hl2 : (if b = true then Obj.loop rec_ else retL rec_) = (if b = true ∨ i + 1 = 0 then Obj.loop rec_ else retL rec_) := by
          cases b <;> simp
        have h7 : Eff w' (Ch (i + 1) ++ R) [] w'' := by
          refine h4.permM ?_
          simp only [Ch, hl2]
          refine (List.Perm.swap _ _ _).trans ?_
          refine List.Perm.cons _ ?_
          refine ((List.perm_append_comm (l₁ := R) (l₂ := Kc (i + 1))).cons _).trans ?_
          show List.Perm _ ((Kc (i + 1) ++ [(r, Obj.deferred (some []))]) ++ R)
          rw [List.append_assoc]
          exact (List.perm_middle (l₁ := Kc (i + 1)) (l₂ := R)).symm
        exact h7.lessM fun p hp => h0.own p (by simp [hp])
      · rw [look_cons] at hu
        show ((a.tmps.setIfInBounds t1 (vs i).1).setIfInBounds t2 (vs i).2)[u]? = some v
        rw [Array.getElem?_setIfInBounds]
        split at hu
        · rename_i h; subst h; rw [if_pos rfl, Array.size_setIfInBounds, hs.sz, if_pos hlt2]; exact hu
        · rename_i h; rw [if_neg h]
          rw [look_cons] at hu
          rw [Array.getElem?_setIfInBounds]
          split at hu
          · rename_i h; subst h; rw [if_pos rfl, hs.sz, if_pos hlt1]; exact hu
          · rename_i h; rw [if_neg h]; exact hs.sl u v hu)
  refine ⟨l, [markD r], w1, { target := .fn (.func F) caps.toArray, args := #[.func (.yield l) #[] #[]] }, w1, F, (.func (.yield l) #[] #[] :: caps).toArray, w1, ?_, ?_, fun _ _ => trivial, ?_, fun h => by simp at h, ?_⟩
  · subst hw1
    simp [Instr.enterLoop, newObj, Sem.run, Sem.run_bind, l, r, rec_, markD]
    rfl
  · have h0 : a.eval x = .func (.func F) #[] caps.toArray := hs.knows x _ hx
    have h1 : (#[Operand.const (.func (.yield l) #[] #[])].map a.eval) = #[.func (.yield l) #[] #[]] := by simp [Act.eval]
    simp only [resolve, h0, h1, Deferred.ofValue, Sem.run_pure]
    simp
  · have := run_callFunc hF (.func (.yield l) #[] #[] :: caps).toArray w1
    simpa [invoke] using this
  · refine (callsIn_wide (n := 0)).2 (hc.mono ?_)
    rintro e w3 ⟨rfl, hE⟩
    by_cases hk : b = true ∨ n = 0
    · have hk' : (if b = true then n else min 1 n) = n := by rcases hk with rfl | rfl <;> simp
      rw [hk', hC0 n hk] at hE
      have hE1 : Eff W [] ((l, .loop rec_) :: (r, .deferred (some [])) :: (R ++ Kc n)) w3 := hE.perm (pm _ _ _ _).symm
      have hl3 : w3.heap[l]? = some (.loop rec_) := hE1.own (l, .loop rec_) (by simp)
      have hl3' : l < w3.heap.size := by rw [Array.getElem?_eq_some_iff] at hl3; exact hl3.1
      refine ⟨none, { w3 with heap := w3.heap.setIfInBounds l (.loop { rec_ with state := .exhausted }) }, ?_, ?_⟩
      · simp [Instr.endLoop, run_getLoop hl3, run_setLoop hl3, Sem.run_bind, rec_]
      · refine hnone hk r l (.loop { rec_ with state := .exhausted }) _ _ ⟨hs.sz, hs.sl, by simp [hs.df], ?_⟩
        exact hE1.updL (w' := { w3 with heap := w3.heap.setIfInBounds l (.loop { rec_ with state := .exhausted }) }) (i := 0) (b := l) rfl (by simp [hl3']) (fun k hk => by simp only [Array.getElem?_setIfInBounds]; rw [if_neg (Ne.symm hk)]) (by simp) rfl rfl rfl
    · have hb : b = false := by cases b <;> simp at hk ⊢
      have hn : 0 < n := by omega
      subst hb
      have hk' : (if false = true then n else min 1 n) = 1 := by simp; omega
      have hC1 : Ch 1 = (l, retL rec_) :: (Kc 1 ++ [(r, .deferred (some []))]) := by simp [Ch]
      rw [hk', hC1] at hE
      have hE1 : Eff W [] ((l, retL rec_) :: (r, .deferred (some [])) :: (R ++ Kc 1)) w3 := hE.perm (pm _ _ _ _).symm
      have hl3 : w3.heap[l]? = some (retL rec_) := hE1.own (l, retL rec_) (by simp)
      have hl3' : l < w3.heap.size := by rw [Array.getElem?_eq_some_iff] at hl3; exact hl3.1
      refine ⟨some .ret, { w3 with heap := w3.heap.setIfInBounds l (.loop { rec_ with state := .exhausted, pending := some .ret }) }, ?_, ?_⟩
      · simp [Instr.endLoop, run_getLoop hl3, run_setLoop hl3, Sem.run_bind, rec_]
      · refine wpIn_ret (hsome rfl hn r l (.loop { rec_ with state := .exhausted, pending := some .ret }) _ _ ⟨hs.sz, hs.sl, by simp [hs.df], ?_⟩)
        exact hE1.updL (w' := { w3 with heap := w3.heap.setIfInBounds l (.loop { rec_ with state := .exhausted, pending := some .ret }) }) (i := 0) (b := l) rfl (by simp [hl3']) (fun k hk => by simp only [Array.getElem?_setIfInBounds]; rw [if_neg (Ne.symm hk)]) (by simp) rfl rfl rfl
end
end ZW
namespace ZW
open Go
section
variable {P : Program} {S : Slots} {C : World → Prop} {dst : Option Tmp} {ty : TypeId} {pos : String} {af : Array Edge} {g : Option (Nat × Bool)}
theorem yLenM {T e : TypeId} {q : IntKind} {x : Operand} {n : Nat} {es : List (Int × Value)} (hx : opd S x = some (.map (some n))) (hT : mapT P T = some (q, e))
    (hc : ∀ w, C w → w.heap[n]? = some (mapO q es)) : YV P S C ⟨dst, .call ⟨.builtin .len, #[x], #[T]⟩, ty, pos, af, g⟩ (.int .i64 es.length) :=
  .pureC fun ρ hk w hC => by
    obtain ⟨kk, h1, h2⟩ := mapT_spec hT
    have hb := hc w hC
    simp only [execOp, resolve, List.map_toArray, List.map_cons, List.map_nil, hk x _ hx, Sem.run_bind, Sem.run_pure, Result.andThen_ok, invoke, builtin, Builtin.len_]
    simp [run_underlying_of h1, goInt, Sem.run_bind, Sem.run_pure, getObj, Sem.run, hb, mkE_length]
/-- An element of a value. -/
theorem yIndexV {T : TypeId} {x i : Operand} {u k v : Value} (hx : opd S x = some u) (hi : opd S i = some k) (h : ∀ w, (Instr.index T u k).run P w = .ok v w) : YV P S C ⟨dst, .index T x i, ty, pos, af, g⟩ v :=
  .pure fun ρ hk w => by simp only [execOp, hk x _ hx, hk i _ hi, Sem.run_bind, h w, Result.andThen_ok, Sem.run_pure]
end
section
variable {P : Program} {N : Nat} {S : Slots} {D : List Deferred} {W : World} {M L : Heap}
/-- A panic of a function that has ranged over a function. -/
theorem fMarkP {fn : Func} {R : Ending → World → Prop} {r : Nat} {ps : List PanicEntry} (i : Nat) (hi : L[i]? = some (r, .deferred (some [])))
    (h : Tr (St N S D W M (upd L i (.deferred none))) (bodyPostM (FW none) 0 P fn R (.panic ps))) : Tr (St N S (markD r :: D) W M L) (bodyPostM (FW none) 0 P fn R (.panic ps)) := fun a w hs => by
  have hb := hs.ef.own _ (List.mem_append.2 (.inr (List.mem_of_getElem? hi)))
  have hlt : r < w.heap.size := by rw [Array.getElem?_eq_some_iff] at hb; exact hb.1
  have htake : (Instr.takeDeferred r).run P w = .ok [] { w with heap := w.heap.setIfInBounds r (.deferred none) } := by
    simp [Instr.takeDeferred, getObj, setObj, Sem.run, Sem.run_bind, hb]
  have hE : Eff W M (upd L i (.deferred none)) { w with heap := w.heap.setIfInBounds r (.deferred none) } :=
    hs.ef.updL hi (by simp [hlt]) (fun k hk => by simp only [Array.getElem?_setIfInBounds]; rw [if_neg (Ne.symm hk)]) (by simp) rfl rfl rfl
  have hst : St N S D W M (upd L i (.deferred none)) { a with defers := D } { w with heap := w.heap.setIfInBounds r (.deferred none) } := ⟨hs.sz, hs.sl, rfl, hE⟩
  have h2 : LeavesInM (FW none) 0 P fn a.tmps R D (.panicking ps) { w with heap := w.heap.setIfInBounds r (.deferred none) } := h _ _ hst
  show LeavesInM (FW none) 0 P fn a.tmps R a.defers (.panicking ps) w
  rw [hs.df]
  exact ⟨by simp, .inl ⟨r, _, rfl, htake, h2⟩⟩
end
end ZW
namespace ZW
open Go
section
variable {P : Program} {S : Slots} {C : World → Prop} {dst : Option Tmp} {ty : TypeId} {pos : String} {af : Array Edge} {g : Option (Nat × Bool)}
theorem yIndexStr {T : TypeId} {x i : Operand} {s : ByteArray} {q : IntKind} {k : Nat} (hx : opd S x = some (.string s)) (hi : opd S i = some (.int q (k : Nat))) (hT : P.underlying T = some .string) (hn : s.size = 256) (hk : k < 256) :
    YV P S C ⟨dst, .index T x i, ty, pos, af, g⟩ (.int .u8 (((s[k]?).getD 0).toNat : Nat)) :=
  .pure fun ρ hρ w => by
    have hb : s[k]? = some (s[k]'(by omega)) := by simp [hn, hk]
    simp only [execOp, hρ x _ hx, hρ i _ hi, Sem.run_bind, Sem.run_pure]
    simp [Instr.index, asIntOf, Sem.run_bind, run_underlying_of hT, hb, Sem.run_pure]
end
end ZW
namespace ZW
open Go

theorem wr_left : ∀ (A B : List Value) (n : Nat) (vs : List Value), n + vs.length ≤ A.length → wr (A ++ B) n vs = wr A n vs ++ B
  | [], B, n, vs, h => by
    have : vs = [] := List.eq_nil_of_length_eq_zero (by rw [List.length_nil] at h; omega)
    subst this; rw [wr_nil, wr_nil]
  | x :: A, B, 0, [], _ => by rw [wr_nil, wr_nil]
  | x :: A, B, 0, v :: vs, h => by
    simp only [List.cons_append, wr]
    rw [wr_left A B 0 vs (by simp at h ⊢; omega)]
  | x :: A, B, n + 1, vs, h => by
    simp only [List.cons_append, wr]
    rw [wr_left A B n vs (by simp at h ⊢; omega)]
theorem wr_right : ∀ (A B : List Value) (n : Nat) (vs : List Value), wr (A ++ B) (A.length + n) vs = A ++ wr B n vs
  | [], B, n, vs => by simp
  | x :: A, B, n, vs => by
    have : (x :: A).length + n = (A.length + n) + 1 := by simp; omega
    rw [this]
    simp only [List.cons_append, wr]
    rw [wr_right A B n vs]
theorem wr_rows {sz o : Nat} {vs : List Value} (ho : o + vs.length ≤ sz) : ∀ (es : List (List Value)) (k : Nat), (∀ x ∈ es, x.length = sz) → k < es.length → wr es.flatten (k * sz + o) vs = (es.set k (wr (es.getD k []) o vs)).flatten
  | [], k, _, h => by simp at h
  | x :: es, 0, hl, _ => by
    have hx := hl x (by simp)
    rw [List.flatten_cons, Nat.zero_mul, Nat.zero_add, wr_left x es.flatten o vs (by omega)]
    rfl
  | x :: es, k + 1, hl, h => by
    have hx := hl x (by simp)
    rw [List.flatten_cons, show (k + 1) * sz + o = x.length + (k * sz + o) by rw [hx, Nat.add_mul]; omega, wr_right]
    rw [wr_rows ho es k (fun y hy => hl y (by simp [hy])) (by simpa using h)]
    rfl
/-- An own slice of which a part of an element is written. -/
def rowSet (sz : Nat) (g : Own) (k o : Nat) (vs : List Value) : Own := match g with
  | .e a => .e a
  | .b n c l => .b n c (wr l (k * sz + o) vs)
theorem rowSet_A (sz : Nat) (g : Own) (k o : Nat) (vs : List Value) : osA (rowSet sz g k o vs) = osA g := by cases g <;> rfl
theorem rowSet_C (sz : Nat) (g : Own) (k o : Nat) (vs : List Value) : osC (rowSet sz g k o vs) = osC g := by cases g <;> rfl
theorem flatten_len {sz : Nat} : ∀ (es : List (List Value)), (∀ x ∈ es, x.length = sz) → es.flatten.length = es.length * sz
  | [], _ => by simp
  | x :: es, h => by rw [List.flatten_cons, List.length_append, h x (by simp), flatten_len es fun y hy => h y (by simp [hy]), List.length_cons, Nat.add_mul]; omega
theorem OS.rowSet {sz : Nat} {g : Own} {es : List (List Value)} (h : OS sz g es) {k o : Nat} {vs : List Value} (hk : k < es.length) (ho : o + vs.length ≤ sz) : OS sz (rowSet sz g k o vs) (es.set k (wr (es.getD k []) o vs)) := by
  have hl := h.len
  have ha := h.at_
  refine ⟨fun x hx => ?_, ?_⟩
  · rcases List.mem_or_eq_of_mem_set hx with hx | rfl
    · exact hl x hx
    · rw [wr_length]; exact hl _ (by rw [← List.getElem_eq_getD (h := hk)]; exact List.getElem_mem hk)
  · cases g with
    | e a => simp only at ha; subst ha; simp at hk
    | b n c l =>
      simp only at ha
      obtain ⟨h1, h2, h3, h4⟩ := ha
      simp only [ZW.rowSet, List.length_set]
      refine ⟨h1, h2, by rw [wr_length]; exact h3, ?_⟩
      have hf := flatten_len es hl
      have hk1 : k * sz + sz ≤ es.length * sz := by
        have := Nat.mul_le_mul_right sz (show k + 1 ≤ es.length from hk)
        rw [Nat.add_mul, Nat.one_mul] at this; exact this
      have hsplit : l = es.flatten ++ l.drop (es.length * sz) := by rw [← h4, List.take_append_drop]
      rw [hsplit, wr_left es.flatten _ _ _ (by omega), wr_rows ho es k hl hk]
      have hlen : (es.set k (wr (es.getD k []) o vs)).flatten.length = es.length * sz := by
        rw [← wr_rows ho es k hl hk, wr_length, hf]
      rw [← hlen, List.take_left]
section
variable {P : Program} {ro : Option Nat} {Q : Exit → Act → World → Prop} {next : Act → World → Prop} {N : Nat} {S : Slots} {D : List Deferred} {W : World} {M L : Heap}
variable {ty : TypeId} {pos : String} {af : Array Edge} {g : Option (Nat × Bool)}
/-- A store into a part of an element. -/
theorem eStoreRow {T e : TypeId} {sz : Nat} {ad x : Operand} {X : Heap} {gs : Own} {es : List (List Value)} {k o : Nat} {vs : List Value} {v : Value} (ha : opd S ad = some (.pointer (some ⟨sblk (osA gs), soff (osA gs) + k * sz + o, none⟩))) (hx : opd S x = some v) (hL : L = X ++ osL e gs)
    (hv : v.cells = vs.toArray) (hT : sizeT P T = some vs.length) (hp : vs.all plainV = true) (ho : OS sz gs es) (hk : k < es.length) (hs : o + vs.length ≤ sz)
    (K : Tr (St N S D W M (X ++ osL e (rowSet sz gs k o vs))) next) : Tr (St N S D W M L) (opW P ro N ⟨none, .store T ad x, ty, pos, af, g⟩ next Q) := by
  have hat := ho.at_
  cases gs with
  | e a => simp only at hat; subst hat; simp at hk
  | b n c l =>
    simp only at hat
    obtain ⟨h1, h2, h3, h4⟩ := hat
    have hk1 : k * sz + sz ≤ es.length * sz := by
      have := Nat.mul_le_mul_right sz (show k + 1 ≤ es.length from hk)
      rw [Nat.add_mul, Nat.one_mul] at this; exact this
    have hk2 : es.length * sz ≤ c * sz := Nat.mul_le_mul_right sz h1
    have ha' : opd S ad = some (.pointer (some ⟨n, k * sz + o, none⟩)) := by
      rw [ha]
      simp only [sblk, soff, osA, Option.getD_some, Nat.zero_add]
    have hi : L[X.length]? = some (n, blk l e) := by
      subst hL
      rw [List.getElem?_append_right (Nat.le_refl _)]; simp [osL]
    refine eStoreL X.length ha' hx hi hv hT hp (by rw [Nat.ble_eq]; omega) ?_
    have he : upd L X.length (blk (wr l (k * sz + o) vs) e) = X ++ osL e (rowSet sz (.b n c l) k o vs) := by
      subst hL
      have : ∀ (X : Heap) (p : Nat × Obj) (q : Obj), upd (X ++ [p]) X.length q = X ++ [(p.1, q)] := fun X p q => by
        induction X with
        | nil => simp [upd]
        | cons r X ih => simp [upd, ih]
      exact this X (n, blk l e) _
    rw [he]; exact K
end
end ZW
