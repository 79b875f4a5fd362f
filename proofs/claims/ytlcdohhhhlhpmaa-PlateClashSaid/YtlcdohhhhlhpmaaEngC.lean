/-
  The engine, third part: operations that make or write memory; calls that do, or panic; the ends of functions.
-/
import Derived.Test.YtlcdohhhhlhpmaaEngB
namespace ZW
open Go

section effects
variable {P : Program} {ro : Option Nat} {X : Act → World → Prop} {Q : Exit → Act → World → Prop} {next : Act → World → Prop}
variable {N : Nat} {S : Slots} {D : List Deferred} {W : World} {M L : Heap}
variable {dst : Option Tmp} {d : Nat} {ty : TypeId} {pos : String} {af : Array Edge} {g : Option (Nat × Bool)}

/-- An operation that is run to its end: its value, and a world of which Eff is known. -/
theorem opW_value {o : Oper} {a : Act} {w w' : World} {v : Value} (hnd : nd o.op = true) (h : (execOp a.eval o).run P w = .ok (.value v) w') (hn : next (a.put o.dst v) w') : opW P ro N o next Q a w := fun _ => by
  rw [semAt_nd hnd, h]; exact hn
theorem opW_skip {o : Oper} {a : Act} {w w' : World} (hnd : nd o.op = true) (h : (execOp a.eval o).run P w = .ok .skip w') (hn : next (a.put o.dst undef) w') : opW P ro N o next Q a w := fun _ => by
  rw [semAt_nd hnd, h]; exact hn
theorem opW_enter {o : Oper} {a : Act} {w w' : World} {f : FuncId} {args : Array Value} (hnd : nd o.op = true) (h : (execOp a.eval o).run P w = .ok (.enter f args) w')
    (hc : Calls P f args w' fun
      | .returned v, w'' => next (a.put o.dst v) w''
      | .panicked chain, w'' => Q (.panic chain) a w''
      | .outgrown, _ => LetsOut Q) : opW P ro N o next Q a w := fun _ => by
  rw [semAt_nd hnd, h]
  exact ⟨fun hd => by simp at hd, ⟨trivial, ((callsIn_wide (n := 0)).2 hc).2⟩⟩

theorem run_newRow {T : TypeId} (cs : Array Value) (w : World) : (newRow T cs).run P w = .ok ⟨w.heap.size, 0, none⟩ { w with heap := w.heap.push (.cells cs T) } := by
  simp [newRow, newObj, Sem.run, go_sem]
theorem run_zeroValue {T : TypeId} {l : List Value} (h : zeroT P T = some l) (w : World) : ∃ z, (zeroValue T).run P w = .ok z w ∧ z.cells = l.toArray := by
  unfold zeroT at h
  split at h
  · rename_i inf hi
    rw [Option.map_eq_some_iff] at h
    obtain ⟨z, hz, rfl⟩ := h
    exact ⟨z, by simp [zeroValue, typeInfo, program, Sem.run, hi, hz, Sem.run_bind, Sem.run_pure], by simp⟩
  · cases h

theorem eAlloc {T : TypeId} {l : List Value} (hz : zeroT P T = some l) 
    (k : ∀ n, Tr (St N ((d, .pointer (some ⟨n, 0, none⟩)) :: S) D W M ((n, blk l T) :: L)) next) :
    Tr (St N S D W M L) (opW P ro N ⟨some d, .alloc T, ty, pos, af, g⟩ next Q) := fun a w hs hN => by
  obtain ⟨z, hz1, hz2⟩ := run_zeroValue hz w
  refine opW_value (w' := { w with heap := w.heap.push (blk l T) }) (v := .pointer (some ⟨w.heap.size, 0, none⟩)) rfl ?_ (k w.heap.size _ _ ((hs.put (hN d rfl) _).eff (hs.ef.alloc _))) hN
  simp only [execOp, Instr.alloc, Sem.run_bind, hz1, Result.andThen_ok, newVar, run_newRow, Sem.run_pure, hz2]
theorem eBox1 {T : TypeId} {x : Operand} {v : Value} (hx : opd S x = some v) (hv : v.cells = #[v]) 
    (k : ∀ n, Tr (St N ((d, .pointer (some ⟨n, 0, none⟩)) :: S) D W M ((n, blk [v] T) :: L)) next) :
    Tr (St N S D W M L) (opW P ro N ⟨some d, .box T x, ty, pos, af, g⟩ next Q) := fun a w hs hN => by
  refine opW_value (w' := { w with heap := w.heap.push (blk [v] T) }) (v := .pointer (some ⟨w.heap.size, 0, none⟩)) rfl ?_ (k w.heap.size _ _ ((hs.put (hN d rfl) _).eff (hs.ef.alloc _))) hN
  simp only [execOp, Instr.box, hs.knows x _ hx, hv, Sem.run_bind, Result.andThen_ok, newVar, run_newRow, Sem.run_pure]
theorem eBoxA {T : TypeId} {x : Operand} {l : List Value} (hx : opd S x = some (.agg l.toArray)) 
    (k : ∀ n, Tr (St N ((d, .pointer (some ⟨n, 0, none⟩)) :: S) D W M ((n, blk l T) :: L)) next) :
    Tr (St N S D W M L) (opW P ro N ⟨some d, .box T x, ty, pos, af, g⟩ next Q) := fun a w hs hN => by
  refine opW_value (w' := { w with heap := w.heap.push (blk l T) }) (v := .pointer (some ⟨w.heap.size, 0, none⟩)) rfl ?_ (k w.heap.size _ _ ((hs.put (hN d rfl) _).eff (hs.ef.alloc _))) hN
  simp only [execOp, Instr.box, hs.knows x _ hx, Value.cells, Sem.run_bind, Result.andThen_ok, newVar, run_newRow, Sem.run_pure]

/-! #### Stores -/
theorem heap_modify_self {h : Array Obj} {b : Nat} {o : Obj} {f : Obj → Obj} (hb : h[b]? = some o) : (h.modify b f)[b]? = some (f o) := by
  rw [Array.getElem?_modify, if_pos rfl, hb]; rfl
theorem setCell_blk {w : World} {b o : Nat} {l : List Value} {e : TypeId} {z : Nat × Nat} (h : w.heap[b]? = some (.cells l.toArray e z)) (v : Value) :
    (w.setCell ⟨b, o, none⟩ v).heap[b]? = some (.cells (l.set o v).toArray e z) := by
  show (w.heap.modify b _)[b]? = _
  rw [heap_modify_self h]
  simp
theorem setCell_other {w : World} {a : Addr} {v : Value} {k : Nat} (h : k ≠ a.block) : (w.setCell a v).heap[k]? = w.heap[k]? := by
  simp only [World.setCell, Array.getElem?_modify]
  rw [if_neg (by omega)]
theorem frozen_blk {w : World} {b o : Nat} {l : List Value} {e : TypeId} (h : w.heap[b]? = some (blk l e)) : w.frozen? ⟨b, o, none⟩ = false := by
  simp [World.frozen?, h]

/-- In the i-th block of the list this is held now. -/
def upd (H : Heap) (i : Nat) (o : Obj) : Heap := match H, i with
  | [], _ => []
  | (k, _) :: r, 0 => (k, o) :: r
  | p :: r, i + 1 => p :: upd r i o

theorem upd_keys : ∀ (H : Heap) (i : Nat) (o : Obj), (upd H i o).map (·.1) = H.map (·.1)
  | [], i, o => by simp [upd]
  | (k, x) :: r, 0, o => by simp [upd]
  | (k, x) :: r, i + 1, o => by simp [upd, upd_keys r i o]
theorem upd_mem : ∀ (H : Heap) (i : Nat) (o : Obj) (b : Nat) (x : Obj), H[i]? = some (b, x) → (H.map (·.1)).Nodup → ∀ p ∈ upd H i o, (p.1 = b ∧ p.2 = o) ∨ (p ∈ H ∧ p.1 ≠ b)
  | [], i, o, b, x, h, _, p, hp => by simp [upd] at hp
  | (k, y) :: r, 0, o, b, x, h, hn, p, hp => by
    simp only [List.getElem?_cons_zero, Option.some.injEq, Prod.mk.injEq] at h
    obtain ⟨rfl, rfl⟩ := h
    simp only [upd, List.mem_cons] at hp
    rcases hp with rfl | hp
    · exact .inl ⟨rfl, rfl⟩
    · simp only [List.map_cons, List.nodup_cons] at hn
      exact .inr ⟨by simp [hp], fun e => hn.1 (by rw [← e]; exact List.mem_map.2 ⟨p, hp, rfl⟩)⟩
  | (k, y) :: r, i + 1, o, b, x, h, hn, p, hp => by
    simp only [List.getElem?_cons_succ] at h
    simp only [List.map_cons, List.nodup_cons] at hn
    simp only [upd, List.mem_cons] at hp
    rcases hp with rfl | hp
    · refine .inr ⟨by simp, fun e => ?_⟩
      simp only at e
      exact hn.1 (by rw [e]; exact List.mem_map.2 ⟨(b, x), List.mem_of_getElem? h, rfl⟩)
    · rcases upd_mem r i o b x h hn.2 p hp with h1 | h1
      · exact .inl h1
      · exact .inr ⟨by simp [h1.1], h1.2⟩

theorem Eff.updL {w w' : World} (h : Eff W M L w) {i b : Nat} {x o : Obj} (hi : L[i]? = some (b, x)) (h1 : w'.heap[b]? = some o) (h2 : ∀ k, k ≠ b → w'.heap[k]? = w.heap[k]?) (hs : w.heap.size ≤ w'.heap.size)
    (hos : w'.os = w.os) (ht : w'.tape = w.tape) (ho : w'.output = w.output) : Eff W M (upd L i o) w' := by
  have hnL : (L.map (·.1)).Nodup := by have := h.nd; rw [List.map_append, List.nodup_append] at this; exact this.2.1
  have hmem := List.mem_of_getElem? hi
  have hb : W.heap.size ≤ b := h.new _ hmem
  refine ⟨hos.trans h.os, ht.trans h.tape, ho.trans h.output, Nat.le_trans h.size hs, ?_, ?_, ?_, h.old, ?_⟩
  · intro k hk hM; rw [h2 k (by omega)]; exact h.frame k hk hM
  · intro p hp
    rcases List.mem_append.1 hp with hp | hp
    · have hlt := h.old p hp
      rw [h2 _ (by omega)]; exact h.own p (by simp [hp])
    · rcases upd_mem L i o b x hi hnL p hp with ⟨e1, e2⟩ | ⟨e1, e2⟩
      · rw [e1, e2]; exact h1
      · rw [h2 _ e2]; exact h.own p (by simp [e1])
  · intro p hp
    rcases upd_mem L i o b x hi hnL p hp with ⟨e1, e2⟩ | ⟨e1, e2⟩
    · rw [e1]; exact hb
    · exact h.new p e1
  · rw [List.map_append, upd_keys, ← List.map_append]; exact h.nd
theorem Eff.updM {w w' : World} (h : Eff W M L w) {i b : Nat} {x o : Obj} (hi : M[i]? = some (b, x)) (h1 : w'.heap[b]? = some o) (h2 : ∀ k, k ≠ b → w'.heap[k]? = w.heap[k]?) (hs : w.heap.size ≤ w'.heap.size)
    (hos : w'.os = w.os) (ht : w'.tape = w.tape) (ho : w'.output = w.output) : Eff W (upd M i o) L w' := by
  have hnM : (M.map (·.1)).Nodup := by have := h.nd; rw [List.map_append, List.nodup_append] at this; exact this.1
  have hmem := List.mem_of_getElem? hi
  have hb : b < W.heap.size := h.old _ hmem
  have hkeys : ∀ k, (∀ p ∈ upd M i o, p.1 ≠ k) → ∀ p ∈ M, p.1 ≠ k := by
    intro k hk p hp e
    have : p.1 ∈ (upd M i o).map (·.1) := by rw [upd_keys]; exact List.mem_map.2 ⟨p, hp, rfl⟩
    obtain ⟨q, hq, hqe⟩ := List.mem_map.1 this
    exact hk q hq (by rw [hqe]; exact e)
  refine ⟨hos.trans h.os, ht.trans h.tape, ho.trans h.output, Nat.le_trans h.size hs, ?_, ?_, h.new, ?_, ?_⟩
  · intro k hk hM
    have hM' := hkeys k hM
    rw [h2 k (fun e => hM' _ hmem e.symm)]; exact h.frame k hk hM'
  · intro p hp
    rcases List.mem_append.1 hp with hp | hp
    · rcases upd_mem M i o b x hi hnM p hp with ⟨e1, e2⟩ | ⟨e1, e2⟩
      · rw [e1, e2]; exact h1
      · rw [h2 _ e2]; exact h.own p (by simp [e1])
    · have := h.new p hp
      rw [h2 _ (by omega)]; exact h.own p (by simp [hp])
  · intro p hp
    rcases upd_mem M i o b x hi hnM p hp with ⟨e1, e2⟩ | ⟨e1, e2⟩
    · rw [e1]; exact hb
    · exact h.old p e1
  · rw [List.map_append, upd_keys, ← List.map_append]; exact h.nd

def plainV : Value → Bool
  | .agg _ => false
  | .tuple _ => false
  | _ => true
theorem run_store_plain {w : World} {a : Addr} {v u : Value} (hv : plainV v = true) (hc : w.cell? a = some u) (hf : w.frozen? a = false) : (store a v).run P w = .ok () (w.setCell a v) := by
  cases v <;> simp only [plainV, Bool.false_eq_true] at hv <;> simp [store, Sem.run, hc, hf]

/-- What storing cells comes to. -/
theorem run_storeCells (vs : List Value) : ∀ (w : World) (b o i : Nat) (l : List Value) (e : TypeId), w.heap[b]? = some (blk l e) → (∀ v ∈ vs, plainV v = true) → o + i + vs.length ≤ l.length →
    ∃ w', (storeCells ⟨b, o, none⟩ vs i).run P w = .ok () w' ∧ w'.heap[b]? = some (blk (wr l (o + i) vs) e) ∧ (∀ k, k ≠ b → w'.heap[k]? = w.heap[k]?) ∧ w'.heap.size = w.heap.size ∧ w'.os = w.os ∧ w'.tape = w.tape ∧ w'.output = w.output := by
  induction vs with
  | nil => intro w b o i l e h _ _; exact ⟨w, by simp [storeCells, Sem.run_pure], by rw [wr_nil]; exact h, fun _ _ => rfl, rfl, rfl, rfl, rfl⟩
  | cons v vs ih =>
    intro w b o i l e h hv hlen
    have hcell : w.cell? ⟨b, o + i, none⟩ = some (l[o + i]'(by simp at hlen; omega)) := by
      rw [cell_blk h]; exact List.getElem?_eq_getElem _
    have hst := run_store_plain (P := P) (hv v (by simp)) hcell (frozen_blk (o := o + i) h)
    obtain ⟨w', h1, h2, h3, h4, h5, h6, h7⟩ := ih (w.setCell ⟨b, o + i, none⟩ v) b o (i + 1) (l.set (o + i) v) e (setCell_blk h v) (fun u hu => hv u (by simp [hu])) (by simp at hlen ⊢; omega)
    refine ⟨w', ?_, ?_, fun k hk => (h3 k hk).trans (setCell_other hk), by rw [h4]; simp [World.setCell], h5, h6, h7⟩
    · simp only [storeCells, addr_add, Sem.run_bind, hst, Result.andThen_ok, h1]
    · rw [h2, wr_cons]; rfl

def sizeT (P : Program) (T : TypeId) : Option Nat := (P.info? T).map (·.size)

theorem run_storeVar {T : TypeId} {w : World} {b o : Nat} {l vs : List Value} {e : TypeId} {x : Value} (h : w.heap[b]? = some (blk l e)) (hx : x.cells = vs.toArray) (hT : sizeT P T = some vs.length) (hv : vs.all plainV = true)
    (hlen : o + vs.length ≤ l.length) :
    ∃ w', (storeVar T ⟨b, o, none⟩ x).run P w = .ok () w' ∧ w'.heap[b]? = some (blk (wr l o vs) e) ∧ (∀ k, k ≠ b → w'.heap[k]? = w.heap[k]?) ∧ w'.heap.size = w.heap.size ∧ w'.os = w.os ∧ w'.tape = w.tape ∧ w'.output = w.output := by
  obtain ⟨w', h1, h2⟩ := run_storeCells (P := P) vs w b o 0 l e h (fun v hm => List.all_eq_true.1 hv v hm) (by omega)
  refine ⟨w', ?_, by simpa using h2⟩
  unfold sizeT at hT
  rw [Option.map_eq_some_iff] at hT
  obtain ⟨inf, hi, hs⟩ := hT
  simp only [storeVar, hx, Sem.run_bind, run_sizeOf_of hi, Result.andThen_ok, hs]
  simp only [List.size_toArray, ne_eq, not_true_eq_false, if_false]
  exact h1

theorem exec_store {T : TypeId} {ad x : Operand} {b o : Nat} {l vs : List Value} {e : TypeId} {v : Value} {w : World} {ρ : Operand → Value} (hk : Knows S ρ) (ha : opd S ad = some (.pointer (some ⟨b, o, none⟩))) (hx : opd S x = some v)
    (h : w.heap[b]? = some (blk l e)) (hv : v.cells = vs.toArray) (hT : sizeT P T = some vs.length) (hp : vs.all plainV = true) (hlen : Nat.ble (o + vs.length) l.length = true) :
    ∃ w', (execOp ρ ⟨dst, .store T ad x, ty, pos, af, g⟩).run P w = .ok .skip w' ∧ w'.heap[b]? = some (blk (wr l o vs) e) ∧ (∀ k, k ≠ b → w'.heap[k]? = w.heap[k]?) ∧ w'.heap.size = w.heap.size ∧ w'.os = w.os ∧ w'.tape = w.tape ∧ w'.output = w.output := by
  obtain ⟨w', h1, h2⟩ := run_storeVar (P := P) h hv hT hp (Nat.le_of_ble_eq_true hlen)
  exact ⟨w', by simp only [execOp, Instr.storeAt, hk ad _ ha, hk x _ hx, Instr.sureAddr, Sem.run_bind, Sem.run_pure, Result.andThen_ok, h1], h2⟩

/-- A store into the i-th new block. -/
theorem eStoreL {T : TypeId} {ad x : Operand} {b o : Nat} {l vs : List Value} {e : TypeId} {v : Value} (i : Nat) (ha : opd S ad = some (.pointer (some ⟨b, o, none⟩))) (hx : opd S x = some v) (hi : L[i]? = some (b, blk l e))
    (hv : v.cells = vs.toArray) (hT : sizeT P T = some vs.length) (hp : vs.all plainV = true) (hlen : Nat.ble (o + vs.length) l.length = true)
    (k : Tr (St N S D W M (upd L i (blk (wr l o vs) e))) next) : Tr (St N S D W M L) (opW P ro N ⟨none, .store T ad x, ty, pos, af, g⟩ next Q) := fun a w hs hN => by
  have hb := hs.ef.own _ (List.mem_append.2 (.inr (List.mem_of_getElem? hi)))
  obtain ⟨w', h1, h2, h3, h4, h5, h6, h7⟩ := exec_store (P := P) (dst := none) (ty := ty) (pos := pos) (af := af) (g := g) hs.knows ha hx hb hv hT hp hlen
  exact opW_skip rfl h1 (k _ _ (hs.eff (hs.ef.updL hi h2 h3 (by omega) h5 h6 h7))) hN
/-- A store into the i-th block of those that were there. -/
theorem eStoreM {T : TypeId} {ad x : Operand} {b o : Nat} {l vs : List Value} {e : TypeId} {v : Value} (i : Nat) (ha : opd S ad = some (.pointer (some ⟨b, o, none⟩))) (hx : opd S x = some v) (hi : M[i]? = some (b, blk l e))
    (hv : v.cells = vs.toArray) (hT : sizeT P T = some vs.length) (hp : vs.all plainV = true) (hlen : Nat.ble (o + vs.length) l.length = true)
    (k : Tr (St N S D W (upd M i (blk (wr l o vs) e)) L) next) : Tr (St N S D W M L) (opW P ro N ⟨none, .store T ad x, ty, pos, af, g⟩ next Q) := fun a w hs hN => by
  have hb := hs.ef.own _ (List.mem_append.2 (.inl (List.mem_of_getElem? hi)))
  obtain ⟨w', h1, h2, h3, h4, h5, h6, h7⟩ := exec_store (P := P) (dst := none) (ty := ty) (pos := pos) (af := af) (g := g) hs.knows ha hx hb hv hT hp hlen
  exact opW_skip rfl h1 (k _ _ (hs.eff (hs.ef.updM hi h2 h3 (by omega) h5 h6 h7))) hN

/-- A literal slice: a new block; what it holds is a fact on the type. -/
theorem eBuildSlice {T e : TypeId} {len : Nat} {ps : List (Nat × Operand)} {vs : List (Nat × Value)} {l : List Value} (h1 : AllPart S ps vs) 
    (h2 : ∀ w, (Instr.buildSlice T len vs.toArray).run P w = .ok (.slice (some ⟨w.heap.size, 0, none⟩) len len) { w with heap := w.heap.push (blk l e) })
    (k : ∀ n, Tr (St N ((d, .slice (some ⟨n, 0, none⟩) len len) :: S) D W M ((n, blk l e) :: L)) next) :
    Tr (St N S D W M L) (opW P ro N ⟨some d, .buildSlice T len ps.toArray, ty, pos, af, g⟩ next Q) := fun a w hs hN => by
  have hm := h1.map hs.knows
  refine opW_value (w' := { w with heap := w.heap.push (blk l e) }) (v := .slice (some ⟨w.heap.size, 0, none⟩) len len) rfl ?_ (k w.heap.size _ _ ((hs.put (hN d rfl) _).eff (hs.ef.alloc _))) hN
  simp only [execOp, List.map_toArray, hm, Sem.run_bind, h2 w, Result.andThen_ok, Sem.run_pure]

/-! #### Contracts -/
/-- The call returns a value of those that are told; new blocks are as told. -/
def RetX {ι : Type} (w : World) (φ : ι → Prop) (v : ι → Value) (Mx : ι → Heap) (Lx : ι → Heap) : Ending → World → Prop := fun e w' => ∃ x, φ x ∧ e = .returned (v x) ∧ Eff w (Mx x) (Lx x) w'
/-- The call panics with this. -/
def Pan (w : World) (v : Value) : Ending → World → Prop := fun e w' => e = .panicked [{ v, recovered := false }] ∧ Eff w [] [] w'

/-- A call that makes blocks. -/
theorem eCallX {ι : Type} {x : Operand} {xs : List Operand} {f : FuncId} {us cs vs : List Value} {tys : Array TypeId} {φ : ι → Prop} {v : ι → Value} {Lx : ι → Heap} (hx : opd S x = some (.func (.func f) us.toArray cs.toArray)) (ha : AllOpd S xs vs)
    (hf : callT P f = true) (hc : ∀ w, Eff W M L w → Calls P f (us ++ vs ++ cs).toArray w (RetX w φ v (fun _ => []) Lx))
    (k : ∀ y, φ y → Tr (St N ((d, v y) :: S) D W M (Lx y ++ L)) next) : Tr (St N S D W M L) (opW P ro N ⟨some d, .call ⟨.value x, xs.toArray, tys⟩, ty, pos, af, g⟩ next Q) := fun a w hs hN => by
  refine opW_enter rfl (exec_call hx ha hf hs.knows w) ((hc w hs.ef).mono ?_) hN
  rintro e w' ⟨y, hy, rfl, hE⟩
  exact k y hy _ _ ((hs.put (hN d rfl) _).eff (hs.ef.trans hE))
/-- A call that writes into blocks that were there, and makes some: what is then known of the memory is shown world by world. -/
theorem eCallM {ι : Type} {x : Operand} {xs : List Operand} {f : FuncId} {us cs vs : List Value} {tys : Array TypeId} {φ : ι → Prop} {v : ι → Value} {Mx Lx : ι → Heap} (M' L' : ι → Heap) (hx : opd S x = some (.func (.func f) us.toArray cs.toArray)) (ha : AllOpd S xs vs)
    (hf : callT P f = true) (hc : ∀ w, Eff W M L w → Calls P f (us ++ vs ++ cs).toArray w (RetX w φ v Mx Lx))
    (hm : ∀ y w w', φ y → Eff W M L w → Eff w (Mx y) (Lx y) w' → Eff W (M' y) (L' y) w')
    (k : ∀ y, φ y → Tr (St N ((d, v y) :: S) D W (M' y) (L' y)) next) : Tr (St N S D W M L) (opW P ro N ⟨some d, .call ⟨.value x, xs.toArray, tys⟩, ty, pos, af, g⟩ next Q) := fun a w hs hN => by
  refine opW_enter rfl (exec_call hx ha hf hs.knows w) ((hc w hs.ef).mono ?_) hN
  rintro e w' ⟨y, hy, rfl, hE⟩
  exact k y hy _ _ ((hs.put (hN d rfl) _).eff (hm y w w' hy hs.ef hE))
/-- A call that panics. -/
theorem eCallP {x : Operand} {xs : List Operand} {f : FuncId} {us cs vs : List Value} {tys : Array TypeId} {v : Value} (hx : opd S x = some (.func (.func f) us.toArray cs.toArray)) (ha : AllOpd S xs vs)
    (hf : callT P f = true) (hc : ∀ w, Eff W M L w → Calls P f (us ++ vs ++ cs).toArray w (Pan w v))
    (k : Tr (St N S D W M L) (Q (.panic [{ v, recovered := false }]))) : Tr (St N S D W M L) (opW P ro N ⟨dst, .call ⟨.value x, xs.toArray, tys⟩, ty, pos, af, g⟩ next Q) := fun a w hs hN => by
  refine opW_enter rfl (exec_call hx ha hf hs.knows w) ((hc w hs.ef).mono ?_) hN
  rintro e w' ⟨rfl, hE⟩
  exact k _ _ (hs.eff (by simpa using hs.ef.trans hE))

/-- panic(x). -/
theorem ePanic {x : Operand} {t : TypeId} {v : Value} (hx : opd S x = some (.iface t v)) (k : Tr (St N S D W M L) (Q (.panic [{ v := .iface t v, recovered := false }]))) :
    Tr (St N S D W M L) (opW P ro N ⟨dst, .panic x, ty, pos, af, g⟩ next Q) := fun a w hs hN => by
  have h : (execOp a.eval ⟨dst, .panic x, ty, pos, af, g⟩).run P w = .halt (.panic (.iface t v)) w := by
    simp only [execOp, hs.knows x _ hx, Instr.panic, goPanic, Sem.run_bind, Sem.run]; rfl
  rw [semAt_nd rfl, h]
  exact k a w hs
/-- defer f(..), in no round. -/
theorem eDefer {x : Operand} {xs : List Operand} {fn : Fn} {us cs vs : List Value} {tys : Array TypeId} (hx : opd S x = some (.func fn us.toArray cs.toArray)) (ha : AllOpd S xs vs)
    (k : Tr (St N S ({ target := .fn fn cs.toArray, args := (us ++ vs).toArray } :: D) W M L) next) :
    Tr (St N S D W M L) (opW P none N ⟨none, .defer ⟨.value x, xs.toArray, tys⟩, ty, pos, af, g⟩ next Q) := fun a w hs hN => by
  have hm := ha.map hs.knows
  have h : (execOp a.eval ⟨none, .defer ⟨.value x, xs.toArray, tys⟩, ty, pos, af, g⟩).run P w = .ok (.defer { target := .fn fn cs.toArray, args := (us ++ vs).toArray }) w := by
    simp [execOp, resolve, List.map_toArray, hm, hs.knows x _ hx, Deferred.ofValue, Sem.run_pure]
  rw [Oper.semAt_none, h]
  exact k _ _ ⟨hs.sz, hs.sl, by simp [Act.put, hs.df], hs.ef⟩
end effects

/-! ### Functions -/
section funcs
variable {P : Program} {N : Nat} {S : Slots} {D : List Deferred} {W : World} {M L : Heap}

/-- Slots from one on. -/
def slotsFrom : Nat → List Value → Slots
  | _, [] => []
  | k, v :: vs => (k, v) :: slotsFrom (k + 1) vs

theorem look_slotsFrom (vs : List Value) : ∀ (k t : Nat) (v : Value), look (slotsFrom k vs) t = some v → k ≤ t ∧ vs[t - k]? = some v := by
  induction vs with
  | nil => intro k t v h; simp [slotsFrom, look] at h
  | cons u vs ih =>
    intro k t v h
    rw [slotsFrom, look_cons] at h
    split at h
    · rename_i e; subst e; simpa using h
    · rename_i e
      obtain ⟨h1, h2⟩ := ih (k + 1) t v h
      refine ⟨by omega, ?_⟩
      rw [show t - k = (t - (k + 1)) + 1 from by omega]
      simpa using h2

/-- A function is entered. -/
theorem fEnter {f : FuncId} {fn : Func} {c : Code} {vs : List Value} {R : Ending → World → Prop} (hf : P.funcs[f]? = some fn) (hb : fn.body = some c) (hn : fn.ntmps = N) (hN : Nat.ble vs.length N = true)
    (h : Tr (St N (slotsFrom 0 vs) [] W [] []) (WP P none c (bodyPostM (FW none) 0 P fn R))) : Calls P f vs.toArray W R := by
  refine (callsIn_wide (n := 0)).1 (callsIn_of_wp_marks hf hb trivial ?_)
  refine h _ W ⟨?_, ?_, rfl, Eff.refl W⟩
  · have := Nat.le_of_ble_eq_true hN
    simp [hn]; omega
  · intro t v hv
    obtain ⟨h1, h2⟩ := look_slotsFrom vs 0 t v hv
    simp only [Nat.sub_zero] at h2
    have hlt : t < vs.length := by
      rcases Nat.lt_or_ge t vs.length with h | h
      · exact h
      · rw [List.getElem?_eq_none h] at h2; cases h2
    show (vs.toArray ++ Array.replicate (fn.ntmps - vs.toArray.size) undef)[t]? = some v
    rw [Array.getElem?_append_left (by simpa using hlt)]
    simpa using h2

/-- What a function's results are. -/
inductive ResV (P : Program) (S : Slots) (C : World → Prop) : List ResultVar → List Value → Prop
  | n : ResV P S C [] []
  | t {t : Nat} {v : Value} {rs : List ResultVar} {vs : List Value} : look S t = some v → ResV P S C rs vs → ResV P S C (.tmp t :: rs) (v :: vs)
  | c1 {t b o : Nat} {T : TypeId} {v : Value} {rs : List ResultVar} {vs : List Value} : look S t = some (.pointer (some ⟨b, o, none⟩)) → oneT P T = true → Cells C b o [v] → ResV P S C rs vs → ResV P S C (.cell t T :: rs) (v :: vs)
  | cA {t b o : Nat} {T : TypeId} {us : List Value} {rs : List ResultVar} {vs : List Value} : look S t = some (.pointer (some ⟨b, o, none⟩)) → aggT P T = some us.length → Cells C b o us → ResV P S C rs vs →
      ResV P S C (.cell t T :: rs) (.agg us.toArray :: vs)

def packV : List Value → Value
  | [v] => v
  | vs => .tuple vs.toArray

def rdRes (tmps : Array Value) : ResultVar → Sem Value
  | .tmp t => pure (tmps.getD t undef)
  | .cell a t => do loadVar t (← asAddr (tmps.getD a undef))
theorem results_eq (fn : Func) (tmps : Array Value) : results fn tmps = (do let vs ← fn.results.mapM (rdRes tmps); pure (if h : vs.size = 1 then vs[0] else .tuple vs)) := by
  unfold results
  congr 1

theorem rdRes_tmp {tmps : Array Value} {t : Nat} {v : Value} {w : World} (h : tmps[t]? = some v) : (rdRes tmps (.tmp t)).run P w = .ok v w := by
  simp [rdRes, h, Sem.run_pure]
theorem rdRes_cell {tmps : Array Value} {t : Nat} {T : TypeId} {a : Addr} {v : Value} {w : World} (h : tmps[t]? = some (.pointer (some a))) (hv : (loadVar T a).run P w = .ok v w) : (rdRes tmps (.cell t T)).run P w = .ok v w := by
  have : tmps.getD t undef = .pointer (some a) := by simp [h]
  simp only [rdRes, this, asAddr, Sem.run_bind, Sem.run_pure, Result.andThen_ok, hv]

theorem run_results {fn : Func} {tmps : Array Value} {rs : List ResultVar} {vs : List Value} {C : World → Prop} {w : World} (hr : fn.results = rs.toArray) (h : ResV P S C rs vs) (hC : C w) (hs : ∀ t v, look S t = some v → tmps[t]? = some v) :
    (results fn tmps).run P w = .ok (packV vs) w := by
  have key : (rs.mapM (rdRes tmps)).run P w = .ok vs w := by
    clear hr
    induction h with
    | n => simp [Sem.run_pure]
    | t h1 _ ih => simp only [List.mapM_cons, Sem.run_bind, rdRes_tmp (P := P) (w := w) (hs _ _ h1), Result.andThen_ok, ih, Sem.run_pure]
    | c1 h1 hT hc _ ih =>
      have h0 := hc w hC 0 (by simp)
      simp only [List.getElem?_cons_zero, Nat.add_zero] at h0
      simp only [List.mapM_cons, Sem.run_bind, rdRes_cell (hs _ _ h1) (run_loadVar_one hT h0), Result.andThen_ok, ih, Sem.run_pure]
    | cA h1 hT hc _ ih =>
      simp only [List.mapM_cons, Sem.run_bind, rdRes_cell (hs _ _ h1) (run_loadVar_agg hT (hc w hC)), Result.andThen_ok, ih, Sem.run_pure]
  have key' : (rs.toArray.mapM (rdRes tmps)).run P w = .ok vs.toArray w := by
    rw [List.mapM_toArray, map_eq_pure_bind, Sem.run_bind, key]; rfl
  rw [results_eq, hr]
  simp only [Sem.run_bind, key', Result.andThen_ok, Sem.run_pure]
  match vs with
  | [] => rfl
  | [v] => rfl
  | u :: v :: r => simp [packV]

/-- The end of a function that defers nothing. -/
theorem fRet {fn : Func} {rs : List ResultVar} {vs : List Value} {R : Ending → World → Prop} (hr : fn.results = rs.toArray) (h : ResV P S (Eff W M L) rs vs) (k : ∀ w, Eff W M L w → R (.returned (packV vs)) w) :
    Tr (St N S [] W M L) (bodyPostM (FW none) 0 P fn R .ret) := fun a w hs => by
  show LeavesInM (FW none) 0 P fn a.tmps R a.defers .returning w
  rw [hs.df]
  exact ⟨_, run_results hr h hs.ef hs.sl, k w hs.ef⟩
theorem fEnd {fn : Func} {rs : List ResultVar} {vs : List Value} {R : Ending → World → Prop} (hr : fn.results = rs.toArray) (h : ResV P S (Eff W M L) rs vs) (k : ∀ w, Eff W M L w → R (.returned (packV vs)) w) :
    Tr (St N S [] W M L) (bodyPostM (FW none) 0 P fn R .normal) := fRet hr h k
theorem fPan {fn : Func} {c : List PanicEntry} {R : Ending → World → Prop} (k : ∀ w, Eff W M L w → R (.panicked c) w) : Tr (St N S [] W M L) (bodyPostM (FW none) 0 P fn R (.panic c)) := fun a w hs => by
  show LeavesInM (FW none) 0 P fn a.tmps R a.defers (.panicking c) w
  rw [hs.df]
  exact k w hs.ef
end funcs
end ZW
