/-
  The engine: how many entries a map has.
-/
import Derived.Test.YtlcdohhhhlhpmaaEngW
namespace ZW
open Go
section
variable {P : Program} {S : Slots} {C : World → Prop} {dst : Option Tmp} {ty : TypeId} {pos : String} {af : Array Edge} {g : Option (Nat × Bool)}
theorem yLenM {T e : TypeId} {q : IntKind} {x : Operand} {n : Nat} {es : List (Int × Value)} (hx : opd S x = some (.map (some n))) (hT : mapT P T = some (q, e))
    (hc : ∀ w, C w → w.heap[n]? = some (mapO q es)) : YV P S C ⟨dst, .call ⟨.builtin .len, #[x], #[T]⟩, ty, pos, af, g⟩ (.int .i64 es.length) :=
  .pureC fun ρ hk w hC => by
    obtain ⟨kk, h1, h2⟩ := mapT_spec hT
    have hb := hc w hC
    simp only [execOp, resolve, List.map_toArray, List.map_cons, List.map_nil, hk x _ hx, Sem.run_bind, Sem.run_pure, Result.andThen_ok, invoke, builtin, Builtin.len_]
    simp [run_underlying_of h1, goInt, Sem.run_bind, Sem.run_pure, getObj, Sem.run, hb, mkE_length]
/-- An element of a value. -/
theorem yIndexV {T : TypeId} {x i : Operand} {u k v : Value} (hx : opd S x = some u) (hi : opd S i = some k) (h : ∀ w, (Instr.index T u k).run P w = .ok v w) : YV P S C ⟨dst, .index T x i, ty, pos, af, g⟩ v :=
  .pure fun ρ hk w => by simp only [execOp, hk x _ hx, hk i _ hi, Sem.run_bind, h w, Result.andThen_ok, Sem.run_pure]
end
section
variable {P : Program} {N : Nat} {S : Slots} {D : List Deferred} {W : World} {M L : Heap}
/-- A panic of a function that has ranged over a function. -/
theorem fMarkP {fn : Func} {R : Ending → World → Prop} {r : Nat} {ps : List PanicEntry} (i : Nat) (hi : L[i]? = some (r, .deferred (some [])))
    (h : Tr (St N S D W M (upd L i (.deferred none))) (bodyPostM (FW none) 0 P fn R (.panic ps))) : Tr (St N S (markD r :: D) W M L) (bodyPostM (FW none) 0 P fn R (.panic ps)) := fun a w hs => by
  have hb := hs.ef.own _ (List.mem_append.2 (.inr (List.mem_of_getElem? hi)))
  have hlt : r < w.heap.size := by rw [Array.getElem?_eq_some_iff] at hb; exact hb.1
  have htake : (Instr.takeDeferred r).run P w = .ok [] { w with heap := w.heap.setIfInBounds r (.deferred none) } := by
    simp [Instr.takeDeferred, getObj, setObj, Sem.run, Sem.run_bind, hb]
  have hE : Eff W M (upd L i (.deferred none)) { w with heap := w.heap.setIfInBounds r (.deferred none) } :=
    hs.ef.updL hi (by simp [hlt]) (fun k hk => by simp only [Array.getElem?_setIfInBounds]; rw [if_neg (Ne.symm hk)]) (by simp) rfl rfl rfl
  have hst : St N S D W M (upd L i (.deferred none)) { a with defers := D } { w with heap := w.heap.setIfInBounds r (.deferred none) } := ⟨hs.sz, hs.sl, rfl, hE⟩
  have h2 : LeavesInM (FW none) 0 P fn a.tmps R D (.panicking ps) { w with heap := w.heap.setIfInBounds r (.deferred none) } := h _ _ hst
  show LeavesInM (FW none) 0 P fn a.tmps R a.defers (.panicking ps) w
  rw [hs.df]
  exact ⟨by simp, .inl ⟨r, _, rfl, htake, h2⟩⟩
end
end ZW
