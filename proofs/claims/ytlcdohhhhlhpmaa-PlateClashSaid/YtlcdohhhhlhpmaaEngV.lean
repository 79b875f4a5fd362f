/-
  The engine: ranging over a map in whatever order.
-/
import Derived.Test.YtlcdohhhhlhpmaaEngT
import Derived.Maps.RangeRun
namespace ZW
open Go

/-- An iterator over a map that is not written. -/
abbrev itO (n : Nat) (es : List (Int × Value)) (seen : Array Nat) : Obj := .mapIter (some n) es.length seen es.length
theorem mkE_born (k : IntKind) (es : List (Int × Value)) : ∀ x ∈ (mkE k es 0).toArray.toList, x.born < es.length := by
  intro x hx
  obtain ⟨i, hi, rfl⟩ := List.mem_iff_getElem.1 hx
  have h1 := mkE_get k es 0 i
  have h2 : i < es.length := by rwa [mkE_length] at hi
  rw [List.getElem?_eq_getElem hi, List.getElem?_eq_getElem h2] at h1
  simp only [Option.map_some, Option.some.injEq, Nat.zero_add] at h1
  rw [h1]; exact h2
theorem mkE_mem {k : IntKind} {es : List (Int × Value)} {x : MapEntry} (hx : x ∈ (mkE k es 0).toArray.toList) : ∃ j p, es[j]? = some p ∧ x = { key := .int k p.1, val := p.2, born := j } := by
  obtain ⟨i, hi, rfl⟩ := List.mem_iff_getElem.1 hx
  have h1 := mkE_get k es 0 i
  have h2 : i < es.length := by rwa [mkE_length] at hi
  rw [List.getElem?_eq_getElem hi, List.getElem?_eq_getElem h2] at h1
  simp only [Option.map_some, Option.some.injEq, Nat.zero_add] at h1
  exact ⟨i, es[i], List.getElem?_eq_getElem h2, h1⟩
theorem mkE_has {k : IntKind} {es : List (Int × Value)} {j : Nat} {p : Int × Value} (h : es[j]? = some p) : ({ key := .int k p.1, val := p.2, born := j } : MapEntry) ∈ (mkE k es 0).toArray.toList := by
  have h1 := mkE_get k es 0 j
  rw [h] at h1
  simp only [Option.map_some, Nat.zero_add] at h1
  exact List.mem_of_getElem? h1
theorem mkE_nodup (k : IntKind) (es : List (Int × Value)) : ((mkE k es 0).toArray.toList.map (·.born)).Nodup := by
  have h : (mkE k es 0).toArray.toList.map (·.born) = List.range es.length := by
    refine List.ext_getElem? fun i => ?_
    rw [List.getElem?_map, mkE_get]
    by_cases hi : i < es.length
    · rw [List.getElem?_eq_getElem hi, List.getElem?_range hi]; simp
    · rw [List.getElem?_eq_none (by omega), List.getElem?_eq_none (by simp; omega)]; rfl
  rw [h]; exact List.nodup_range
/-- What the iterator has not handed out. -/
def leftN (n : Nat) (seen : Array Nat) : Nat := ((List.range n).filter fun j => !seen.contains j).length
theorem leftN_push {n : Nat} {seen : Array Nat} {j : Nat} (hj : j < n) (hs : seen.contains j = false) : leftN n (seen.push j) < leftN n seen := by
  unfold leftN
  refine filter_lt (fun i => !seen.contains i) (fun i => !(seen.push j).contains i) (fun x hx => ?_) j (by rw [hs]; rfl) (by rw [contains_push, beq_self_eq_true, Bool.or_true]; rfl) (List.range n) (List.mem_range.2 hj)
  rw [contains_push] at hx
  cases hc : seen.contains x with
  | false => rfl
  | true => rw [hc, Bool.true_or] at hx; exact absurd hx (by decide)
section
variable {P : Program} {ro : Option Nat} {Q : Exit → Act → World → Prop} {next : Act → World → Prop} {N : Nat} {S : Slots} {D : List Deferred} {W : World} {M L : Heap}
variable {C : World → Prop} {dst : Option Tmp} {d : Nat} {ty : TypeId} {pos : String} {af : Array Edge} {g : Option (Nat × Bool)}
theorem eRange {T e : TypeId} {q : IntKind} {x : Operand} {n : Nat} {es : List (Int × Value)} (hT : mapT P T = some (q, e)) (hx : opd S x = some (.map (some n))) (hc : ∀ w, Eff W M L w → w.heap[n]? = some (mapO q es))
    (k : ∀ it, Tr (St N ((d, .pointer (some ⟨it, 0, none⟩)) :: S) D W M ((it, itO n es #[]) :: L)) next) : Tr (St N S D W M L) (opW P ro N ⟨some d, .range T x, ty, pos, af, g⟩ next Q) := fun a w hs hN => by
  obtain ⟨kk, h1, h2⟩ := mapT_spec hT
  refine opW_value (w' := { w with heap := w.heap.push (itO n es #[]) }) (v := .pointer (some ⟨w.heap.size, 0, none⟩)) rfl ?_ (k w.heap.size _ _ ((hs.put (hN d rfl) _).eff (hs.ef.alloc _))) hN
  simp only [execOp, hs.knows x _ hx, Sem.run_bind, run_range_map w T kk e n _ _ h1 (hc w hs.ef), Result.andThen_ok, Sem.run_pure]
  rfl
theorem eNext {q : IntKind} {x : Operand} {n it : Nat} {es : List (Int × Value)} {seen : Array Nat} (i : Nat) (hx : opd S x = some (.pointer (some ⟨it, 0, none⟩))) (hi : L[i]? = some (it, itO n es seen)) (hne : ∀ w, Eff W M L w → w.heap[n]? = some (mapO q es))
    (k0 : (∀ j, j < es.length → seen.contains j = true) → Tr (St N ((d, .tuple [.bool false].toArray) :: S) D W M L) next)
    (k1 : ∀ j p, es[j]? = some p → seen.contains j = false → Tr (St N ((d, .tuple [.bool true, .int q p.1, p.2].toArray) :: S) D W M (upd L i (itO n es (seen.push j)))) next) :
    Tr (St N S D W M L) (opW P ro N ⟨some d, .next x false, ty, pos, af, g⟩ next Q) := fun a w hs hN => by
  have hb := hs.ef.own _ (List.mem_append.2 (.inr (List.mem_of_getElem? hi)))
  have hlt : it < w.heap.size := by rw [Array.getElem?_eq_some_iff] at hb; exact hb.1
  rcases run_next_at (P := P) w ty it n es.length es.length seen _ es.length hb (hne w hs.ef) (mkE_born q es) (Nat.le_refl _) with ⟨h0, hr⟩ | ⟨e, he, w1, hw1, hr⟩
  · refine opW_value (w' := w) (v := .tuple [.bool false].toArray) rfl ?_ (k0 (fun j hj => ?_) _ _ (hs.put (hN d rfl) _)) hN
    · simp only [execOp, hs.knows x _ hx, Sem.run_bind, hr, Result.andThen_ok, Sem.run_pure]
    · cases hc : seen.contains j with
      | true => rfl
      | false =>
        have h1 := mkE_has (k := q) (List.getElem?_eq_getElem hj)
        have h2 : ({ key := .int q es[j].1, val := es[j].2, born := j } : MapEntry) ∈ leftOf (mkE q es 0).toArray seen := by
          unfold leftOf
          exact Array.mem_filter.2 ⟨Array.mem_toList_iff.1 h1, by rw [hc]; rfl⟩
        rw [Array.eq_empty_of_size_eq_zero h0] at h2
        simp at h2
  · obtain ⟨h1, h2⟩ := mem_left he
    obtain ⟨j, p, hp, rfl⟩ := mkE_mem h1
    have hh : w1.heap = w.heap := by rcases hw1 with rfl | rfl <;> rfl
    refine opW_value (w' := ChangeMaps.setBlock w1 it (itO n es (seen.push j))) (v := .tuple [.bool true, .int q p.1, p.2].toArray) rfl ?_ (k1 j p hp h2 _ _ ((hs.put (hN d rfl) _).eff (hs.ef.updL hi ?_ ?_ ?_ ?_ ?_ ?_))) hN
    · simp only [execOp, hs.knows x _ hx, Sem.run_bind, hr, Result.andThen_ok, Sem.run_pure]
    · simp [ChangeMaps.setBlock, hh, hlt]
    · intro k hk
      simp only [ChangeMaps.setBlock, hh, Array.getElem?_setIfInBounds]; rw [if_neg (Ne.symm hk)]
    · simp [ChangeMaps.setBlock, hh]
    · rcases hw1 with rfl | rfl <;> rfl
    · rcases hw1 with rfl | rfl <;> rfl
    · rcases hw1 with rfl | rfl <;> rfl
theorem yEntry {q : IntKind} {x : Operand} {n it j : Nat} {es : List (Int × Value)} {seen : Array Nat} {p : Int × Value} (hx : opd S x = some (.pointer (some ⟨it, 0, none⟩))) (hj : es[j]? = some p)
    (hc : ∀ w, C w → w.heap[it]? = some (itO n es (seen.push j)) ∧ w.heap[n]? = some (mapO q es)) : YV P S C ⟨dst, .entry x, ty, pos, af, g⟩ (.tuple [.int q p.1, p.2].toArray) :=
  .pureC fun ρ hk w hC => by
    obtain ⟨h1, h2⟩ := hc w hC
    simp only [execOp, hk x _ hx, Sem.run_bind, run_entry_at w it n es.length seen _ es.length _ h1 h2 (mkE_has hj) (mkE_nodup q es), Result.andThen_ok, Sem.run_pure]
end
end ZW
