/-
  The engine: maps whose keys are structs of two numbers.
-/
import Derived.Test.YtdpeifbejeflhaaEngL
namespace ZW
open Go

abbrev plV (p : Int × Int) : Value := .agg [.int .i64 p.1, .int .i64 p.2].toArray
def mkP : List ((Int × Int) × Value) → Nat → List MapEntry
  | [], _ => []
  | (p, v) :: r, b => { key := plV p, val := v, born := b } :: mkP r (b + 1)
abbrev mapP (es : List ((Int × Int) × Value)) : Obj := .map (mkP es 0).toArray es.length
def pFind : List ((Int × Int) × Value) → Int × Int → Nat → Option (Nat × Value)
  | [], _, _ => none
  | (q, v) :: r, p, i => if p = q then some (i, v) else pFind r p (i + 1)
def pGet (es : List ((Int × Int) × Value)) (p : Int × Int) (z : Value) : Value := match pFind es p 0 with
  | some (_, v) => v
  | none => z
/-- The entry is there. -/
def pTouch (es : List ((Int × Int) × Value)) (p : Int × Int) (z : Value) : List ((Int × Int) × Value) := match pFind es p 0 with
  | some _ => es
  | none => es ++ [(p, z)]
def pIdx (es : List ((Int × Int) × Value)) (p : Int × Int) : Nat := match pFind es p 0 with
  | some (i, _) => i
  | none => es.length
def pPut (es : List ((Int × Int) × Value)) (p : Int × Int) (v : Value) : List ((Int × Int) × Value) := match pFind es p 0 with
  | some (i, _) => es.set i (p, v)
  | none => es ++ [(p, v)]

theorem mkP_length : ∀ (es : List ((Int × Int) × Value)) (b : Nat), (mkP es b).length = es.length
  | [], _ => rfl
  | (p, v) :: r, b => by simp [mkP, mkP_length r]
theorem mkP_get : ∀ (es : List ((Int × Int) × Value)) (b i : Nat), (mkP es b)[i]? = (es[i]?).map fun p => { key := plV p.1, val := p.2, born := b + i }
  | [], b, i => by simp [mkP]
  | (p, v) :: r, b, 0 => by simp [mkP]
  | (p, v) :: r, b, i + 1 => by
    simp only [mkP, List.getElem?_cons_succ, mkP_get r]
    congr 1
    funext q
    rw [show b + 1 + i = b + (i + 1) from by omega]
theorem mkP_push (es : List ((Int × Int) × Value)) (p : Int × Int) (v : Value) : (mkP es 0).toArray.push { key := plV p, val := v, born := es.length } = (mkP (es ++ [(p, v)]) 0).toArray := by
  have : ∀ (es : List ((Int × Int) × Value)) (b : Nat), mkP es b ++ [{ key := plV p, val := v, born := b + es.length }] = mkP (es ++ [(p, v)]) b := by
    intro es
    induction es with
    | nil => intro b; simp [mkP]
    | cons q r ih =>
      obtain ⟨q, u⟩ := q
      intro b
      simp only [mkP, List.cons_append, List.length_cons, ← ih (b + 1)]
      rw [show b + 1 + r.length = b + (r.length + 1) from by omega]
  simpa using this es 0
theorem mkP_set (es : List ((Int × Int) × Value)) (i : Nat) (p : Int × Int) (u v : Value) (h : es[i]? = some (p, u)) : ((mkP es 0).toArray.modify i fun e => { e with val := v }) = (mkP (es.set i (p, v)) 0).toArray := by
  apply Array.ext_getElem?
  intro j
  rw [Array.getElem?_modify]
  simp only [List.getElem?_toArray, mkP_get, List.getElem?_set]
  have hlt : i < es.length := by rw [List.getElem?_eq_some_iff] at h; exact h.1
  by_cases hj : i = j
  · subst hj
    rw [if_pos rfl, if_pos rfl, if_pos hlt, h]
    rfl
  · rw [if_neg hj, if_neg hj]
theorem pFind_lt : ∀ (es : List ((Int × Int) × Value)) (p : Int × Int) (i j : Nat) (v : Value), pFind es p i = some (j, v) → i ≤ j ∧ j < i + es.length ∧ es[j - i]? = some (p, v)
  | [], p, i, j, v, h => by simp [pFind] at h
  | (q, u) :: r, p, i, j, v, h => by
    simp only [pFind] at h
    split at h
    · rename_i hc; subst hc; cases h; simp
    · obtain ⟨h1, h2, h3⟩ := pFind_lt r p (i + 1) j v h
      refine ⟨by omega, by simp; omega, ?_⟩
      rw [show j - i = (j - (i + 1)) + 1 from by omega]
      simpa using h3
theorem pFind_shift : ∀ (es : List ((Int × Int) × Value)) (p : Int × Int) (i : Nat), pFind es p (i + 1) = (pFind es p i).map fun q => (q.1 + 1, q.2)
  | [], _, _ => rfl
  | (q, v) :: r, p, i => by
    simp only [pFind]
    split
    · rfl
    · exact pFind_shift r p (i + 1)
theorem pGet_cons (q : Int × Int) (u : Value) (r : List ((Int × Int) × Value)) (p : Int × Int) (z : Value) : pGet ((q, u) :: r) p z = if p = q then u else pGet r p z := by
  by_cases h : p = q
  · subst h; simp [pGet, pFind]
  · rw [if_neg h]
    unfold pGet
    simp only [pFind, if_neg h]
    rw [pFind_shift]
    cases pFind r p 0 <;> rfl
theorem pGet_put (es : List ((Int × Int) × Value)) (p q : Int × Int) (v z : Value) : pGet (pPut es p v) q z = if q = p then v else pGet es q z := by
  induction es with
  | nil =>
    show pGet [(p, v)] q z = _
    rw [pGet_cons]
  | cons x r ih =>
    obtain ⟨c, u⟩ := x
    by_cases hc : p = c
    · subst hc
      have : pPut ((p, u) :: r) p v = (p, v) :: r := by simp [pPut, pFind]
      rw [this, pGet_cons, pGet_cons]
      split <;> rfl
    · have : pPut ((c, u) :: r) p v = (c, u) :: pPut r p v := by
        unfold pPut
        simp only [pFind, if_neg hc]
        rw [pFind_shift]
        cases pFind r p 0 with
        | none => rfl
        | some q => rfl
      rw [this, pGet_cons, pGet_cons, ih]
      by_cases h : q = c
      · subst h; rw [if_pos rfl, if_neg (fun e => hc e.symm), if_pos rfl]
      · rw [if_neg h, if_neg h]
theorem pGet_touch (es : List ((Int × Int) × Value)) (p : Int × Int) (z : Value) : pGet (pTouch es p z) p z = pGet es p z := by
  unfold pTouch
  cases h : pFind es p 0 with
  | some q => rfl
  | none =>
    have e : pPut es p z = es ++ [(p, z)] := by unfold pPut; rw [h]
    show pGet (es ++ [(p, z)]) p z = _
    rw [← e, pGet_put, if_pos rfl]
    unfold pGet; rw [h]
theorem pPut_touch (es : List ((Int × Int) × Value)) (p : Int × Int) (v z : Value) : ∃ u, (pTouch es p z)[pIdx es p]? = some (p, u) ∧ (pTouch es p z).set (pIdx es p) (p, v) = pPut es p v := by
  unfold pTouch pIdx pPut
  cases h : pFind es p 0 with
  | some q =>
    obtain ⟨i, u⟩ := q
    obtain ⟨_, _, h3⟩ := pFind_lt es p 0 i u h
    exact ⟨u, by simpa using h3, rfl⟩
  | none => exact ⟨z, by simp, by simp⟩

section
variable {P : Program} {ro : Option Nat} {Q : Exit → Act → World → Prop} {next : Act → World → Prop} {N : Nat} {S : Slots} {D : List Deferred} {W : World} {M L : Heap}
variable {C : World → Prop} {dst : Option Tmp} {d : Nat} {ty : TypeId} {pos : String} {af : Array Edge} {g : Option (Nat × Bool)}

/-- A map type whose keys are structs of two numbers; the keys' equality and their being keys. -/
structure MapP (P : Program) (T e : TypeId) (z : Value) : Prop where
  ex : ∃ k, P.underlying T = some (.map k e) ∧ (∃ fs, P.underlying k = some (.struct fs)) ∧ (∀ (p q : Int × Int) w, (Op.equal k (plV p) (plV q)).run P w = .ok (decide (p = q)) w) ∧ ∀ (b : Bool) (p : Int × Int) w, (Instr.checkKey b 10000 k (plV p)).run P w = .ok () w
  zero : ∀ w, (zeroValue e).run P w = .ok z w

theorem run_findP {k : TypeId} {fs : Array Field} (h : P.underlying k = some (.struct fs)) (he : ∀ (p q : Int × Int) w, (Op.equal k (plV p) (plV q)).run P w = .ok (decide (p = q)) w) (p : Int × Int) (es : List ((Int × Int) × Value)) (w : World) :
    (Instr.findKey k (plV p) (mkP es 0)).run P w = .ok (pFind es p 0) w := by
  have ask : ∀ (es : List ((Int × Int) × Value)) (b i : Nat), (Instr.findAsking k (plV p) (mkP es b) i).run P w = .ok (pFind es p i) w := by
    intro es
    induction es with
    | nil => intro b i; simp [mkP, Instr.findAsking, pFind, Sem.run_pure]
    | cons x r ih =>
      obtain ⟨q, v⟩ := x
      intro b i
      simp only [mkP, Instr.findAsking, Sem.run_bind, he p q w, Result.andThen_ok, pFind]
      by_cases hpq : p = q
      · simp [hpq, Sem.run_pure]
      · simp [hpq, ih]
  simp only [Instr.findKey, Sem.run_bind, run_underlying_of h, Result.andThen_ok]
  cases es with
  | nil => simp [mkP, Instr.findNow, pFind, Sem.run_pure]
  | cons x r =>
    obtain ⟨q, v⟩ := x
    have : Instr.findNow (.struct fs) (plV p) (mkP ((q, v) :: r) 0) 0 = none := by simp [mkP, Instr.findNow, Instr.sameNow]
    rw [this]
    exact ask _ 0 0
theorem eMakeMapP {T : TypeId} (hk : ∀ n, Tr (St N ((d, .map (some n)) :: S) D W M ((n, mapP []) :: L)) next) :
    Tr (St N S D W M L) (opW P ro N ⟨some d, .makeMap T none, ty, pos, af, g⟩ next Q) := fun a w hs hN => by
  refine opW_value (w' := { w with heap := w.heap.push (mapP []) }) (v := .map (some w.heap.size)) rfl ?_ (hk w.heap.size _ _ ((hs.put (hN d rfl) _).eff (hs.ef.alloc _))) hN
  simp only [execOp, Option.map_none, Instr.makeMap, newObj, Sem.run, Sem.run_bind, Sem.run_pure, Result.andThen_ok]
  rfl
theorem yLookupP {T e : TypeId} {x i : Operand} {n : Nat} {p : Int × Int} {z v : Value} (hT : MapP P T e z) (hx : opd S x = some (.map (some n))) (hi : opd S i = some (plV p))
    (hc : ∀ w, C w → ∃ es, w.heap[n]? = some (mapP es) ∧ pGet es p z = v) : YV P S C ⟨dst, .lookup T x i false, ty, pos, af, g⟩ v :=
  .pureC fun ρ hk w hC => by
    obtain ⟨k, h1, ⟨fs, h2⟩, h3, h4⟩ := hT.ex
    obtain ⟨es, hb, hv⟩ := hc w hC
    have hg : (getObj n).run P w = .ok (mapP es) w := by simp [getObj, Sem.run, hb]
    have hf : (Instr.lookup T (.map (some n)) (plV p) false).run P w = .ok v w := by
      simp only [Instr.lookup, Sem.run_bind, run_underlying_of h1, Result.andThen_ok, hg, Sem.run_pure, h4, run_findP h2 h3]
      subst hv
      unfold pGet
      cases pFind es p 0 with
      | none => simp [hT.zero]
      | some q => simp
    simp only [execOp, hk x _ hx, hk i _ hi, Sem.run_bind, hf, Result.andThen_ok, Sem.run_pure]
/-- An entry is found, or made. -/
theorem eMapEntryP {T e : TypeId} {m x : Operand} {n : Nat} {es : List ((Int × Int) × Value)} {p : Int × Int} {z : Value} (i : Nat) (hT : MapP P T e z) (hm : opd S m = some (.map (some n))) (hx : opd S x = some (plV p)) (hi : L[i]? = some (n, mapP es))
    (k : Tr (St N ((d, .tuple [pGet es p z, .int .i64 (pIdx es p : Nat)].toArray) :: S) D W M (upd L i (mapP (pTouch es p z)))) next) :
    Tr (St N S D W M L) (opW P ro N ⟨some d, .mapEntry T m x, ty, pos, af, g⟩ next Q) := fun ac w hs hN => by
  have hb := hs.ef.own _ (List.mem_append.2 (.inr (List.mem_of_getElem? hi)))
  have hlt : n < w.heap.size := by rw [Array.getElem?_eq_some_iff] at hb; exact hb.1
  obtain ⟨kk, h1, ⟨fs, h2⟩, h3, h4⟩ := hT.ex
  have hg : (getObj n).run P w = .ok (mapP es) w := by simp [getObj, Sem.run, hb]
  have hset : ∀ o, (setObj n o).run P w = .ok () { w with heap := w.heap.setIfInBounds n o } := fun o => by simp [setObj, Sem.run, hb]
  have key : (Instr.mapEntry T (.map (some n)) (plV p)).run P w = .ok (.tuple [pGet es p z, .int .i64 (pIdx es p : Nat)].toArray) { w with heap := w.heap.setIfInBounds n (mapP (pTouch es p z)) } := by
    simp only [Instr.mapEntry, Sem.run_bind, run_underlying_of h1, Result.andThen_ok, hg, h4, run_findP h2 h3]
    unfold pTouch pGet pIdx
    cases hf : pFind es p 0 with
    | none => simp only [hT.zero, hset, Result.andThen_ok, mkP_push, mapP, List.length_append, List.length_singleton, Sem.run_pure, goInt, Sem.run_bind]
    | some q =>
      obtain ⟨j, u⟩ := q
      obtain ⟨_, _, h5⟩ := pFind_lt es p 0 j u hf
      simp only [Nat.sub_zero] at h5
      have hkey : (((mkP es 0).toArray[j]?).map (·.key)).getD (plV p) = plV p := by simp [mkP_get, h5]
      have hborn : (Option.map (fun x => (x.born : Int)) (mkP es 0).toArray[j]?).getD 0 = ((j : Nat) : Int) := by simp [mkP_get, h5]
      have hst : (Instr.keyThatStays (plV p) (plV p)).run P w = .ok (plV p) w := by
        simp [Instr.keyThatStays, Instr.sameBits, Sem.run_pure]
      have hmod : ((mkP es 0).toArray.modify j fun e => { e with key := plV p }) = (mkP es 0).toArray := by
        apply Array.ext_getElem?
        intro t
        rw [Array.getElem?_modify]
        split
        · rename_i ht; subst ht
          simp [mkP_get, h5]
        · rfl
      simp only [hkey, hborn, Sem.run_bind, hst, Result.andThen_ok, hset, hmod, Sem.run_pure, goInt]
  refine opW_value (w' := { w with heap := w.heap.setIfInBounds n (mapP (pTouch es p z)) }) (v := .tuple [pGet es p z, .int .i64 (pIdx es p : Nat)].toArray) rfl ?_ (k _ _ ((hs.put (hN d rfl) _).eff (hs.ef.setL hi))) hN
  simp only [execOp, hs.knows m _ hm, hs.knows x _ hx, Sem.run_bind, key, Result.andThen_ok, Sem.run_pure]
/-- An entry's value. -/
theorem eEntryStoreP {T : TypeId} {m x y : Operand} {n j : Nat} {es : List ((Int × Int) × Value)} {p : Int × Int} {u v : Value} (i : Nat) (hm : opd S m = some (.map (some n))) (hx : opd S x = some (.int .i64 (j : Nat))) (hy : opd S y = some v)
    (hi : L[i]? = some (n, mapP es)) (hj : es[j]? = some (p, u)) (k : Tr (St N S D W M (upd L i (mapP (es.set j (p, v))))) next) :
    Tr (St N S D W M L) (opW P ro N ⟨none, .entryStore T m x y, ty, pos, af, g⟩ next Q) := fun ac w hs hN => by
  have hb := hs.ef.own _ (List.mem_append.2 (.inr (List.mem_of_getElem? hi)))
  have hlt : n < w.heap.size := by rw [Array.getElem?_eq_some_iff] at hb; exact hb.1
  have hg : (getObj n).run P w = .ok (mapP es) w := by simp [getObj, Sem.run, hb]
  have hset : ∀ o, (setObj n o).run P w = .ok () { w with heap := w.heap.setIfInBounds n o } := fun o => by simp [setObj, Sem.run, hb]
  have hjl : j < es.length := by rw [List.getElem?_eq_some_iff] at hj; exact hj.1
  have hfind : (mkP es 0).toArray.findIdx? (fun e => (e.born : Int) == ((j : Nat) : Int)) = some j := by
    rw [Array.findIdx?_eq_some_iff_getElem]
    have hsz : (mkP es 0).toArray.size = es.length := by simp [mkP_length]
    have hget : ∀ t (h : t < (mkP es 0).toArray.size), ((mkP es 0).toArray[t]).born = t := fun t h => by
      have h1 : (mkP es 0).toArray[t]? = some ((mkP es 0).toArray[t]) := Array.getElem?_eq_getElem h
      have h2 : (mkP es 0)[t]? = _ := mkP_get es 0 t
      rw [List.getElem?_toArray, h2] at h1
      have h3 : t < es.length := by omega
      rw [List.getElem?_eq_getElem h3] at h1
      simp only [Option.map_some, Option.some.injEq, Nat.zero_add] at h1
      rw [← h1]
    refine ⟨by omega, ?_, fun t ht => ?_⟩
    · rw [hget]; simp
    · rw [hget]; simp; omega
  have key : (Instr.entryStore T (.map (some n)) (.int .i64 (j : Nat)) v).run P w = .ok () { w with heap := w.heap.setIfInBounds n (mapP (es.set j (p, v))) } := by
    have hai : (asInt (.int .i64 ((j : Nat) : Int))).run P w = .ok ((j : Nat) : Int) w := by simp [asInt, asIntOf, Sem.run_pure]
    simp only [Instr.entryStore, Sem.run_bind, hg, Result.andThen_ok, hai, hfind, hset, mkP_set es j p u v hj, mapP, List.length_set]
  refine opW_skip (w' := { w with heap := w.heap.setIfInBounds n (mapP (es.set j (p, v))) }) rfl ?_ (k _ _ (hs.eff (hs.ef.setL hi))) hN
  simp only [execOp, hs.knows m _ hm, hs.knows x _ hx, hs.knows y _ hy, Sem.run_bind, key, Result.andThen_ok, Sem.run_pure]
end
end ZW
