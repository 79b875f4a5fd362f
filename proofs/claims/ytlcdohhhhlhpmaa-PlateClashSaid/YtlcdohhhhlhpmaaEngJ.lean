/-
  The engine, tenth part: blocks in another order; calls that hand back an own slice; places of an array by natural numbers; methods of what stands behind an interface.
-/
import Derived.Test.YtlcdohhhhlhpmaaEngI
namespace ZW
open Go

theorem SubP.comm : ∀ (A B : Heap), SubP (A ++ B) (B ++ A)
  | [], B => by simpa using SubP.r
  | p :: A, B => by
    refine .c B.length ?_ ?_
    · rw [List.getElem?_append_right (Nat.le_refl _)]; simp
    · rw [List.eraseIdx_append_of_length_le (Nat.le_refl _)]
      simpa using SubP.comm A B

section
variable {P : Program} {ro : Option Nat} {Q : Exit → Act → World → Prop} {next : Act → World → Prop} {N : Nat} {S : Slots} {D : List Deferred} {W : World} {M L : Heap}
variable {C : World → Prop} {dst : Option Tmp} {d : Nat} {ty : TypeId} {pos : String} {af : Array Edge} {g : Option (Nat × Bool)}

/-- A call whose new blocks stand behind those that were there. -/
theorem eCallO {ι : Type} {x : Operand} {xs : List Operand} {f : FuncId} {us cs vs : List Value} {tys : Array TypeId} {φ : ι → Prop} {v : ι → Value} {Lx : ι → Heap} (hx : opd S x = some (.func (.func f) us.toArray cs.toArray)) (ha : AllOpd S xs vs)
    (hf : callT P f = true) (hc : ∀ w, Eff W M L w → Calls P f (us ++ vs ++ cs).toArray w (RetX w φ v (fun _ => []) Lx))
    (k : ∀ y, φ y → Tr (St N ((d, v y) :: S) D W M (L ++ Lx y)) next) : Tr (St N S D W M L) (opW P ro N ⟨some d, .call ⟨.value x, xs.toArray, tys⟩, ty, pos, af, g⟩ next Q) :=
  eCallX hx ha hf hc fun y hy => forgetP _ (SubP.comm _ _) (k y hy)
theorem fCallO {ι : Type} {x : Operand} {xs : List Operand} {f : FuncId} {us cs vs : List Value} {tys : Array TypeId} {φ : ι → Prop} {v : ι → Value} {Lx : ι → Heap} (hx : opd S x = some (.func (.func f) us.toArray cs.toArray)) (ha : AllOpd S xs vs)
    (hf : callT P f = true) (hc : ∀ w, Eff W M L w → Calls P f (us ++ vs ++ cs).toArray w (RetX w φ v (fun _ => []) Lx)) :
    Tr (St N S D W M L) (opW P ro N ⟨some d, .call ⟨.value x, xs.toArray, tys⟩, ty, pos, af, g⟩ (fun a w => ∃ y : {y // φ y}, St N ((d, v y.1) :: S) D W M (L ++ Lx y.1) a w) Q) :=
  eCallO hx ha hf hc fun y h => trTo (Y := fun y : {y // φ y} => St N ((d, v y.1) :: S) D W M (L ++ Lx y.1)) ⟨y, h⟩ trSelf

/-- A place of an array. -/
theorem yIndexN {T : TypeId} {x i : Operand} {b o len sz n : Nat} {k : IntKind} (hx : opd S x = some (.pointer (some ⟨b, o, none⟩))) (hi : opd S i = some (.int k (n : Nat)))
    (h : arEl P T = some (len, sz)) (h1 : n < len) : YV P S C ⟨dst, .indexAddr T x i, ty, pos, af, g⟩ (.pointer (some ⟨b, o + n * sz, none⟩)) := by
  have := yIndexAr (C := C) (P := P) (dst := dst) (ty := ty) (pos := pos) (af := af) (g := g) hx hi h (by omega) (by omega)
  simpa using this

/-- The method of a type that takes a value. -/
def methT (P : Program) (t : TypeId) (name : String) : Option FuncId :=
  match P.info? t with
  | some inf => match inf.methods.find? (fun m => m.name == name) with
    | some m => if m.path.toList.isEmpty = true then match m.func with
        | some (f, false) => match P.underlying t with
          | some (.pointer _) => none
          | some _ => some f
          | none => none
        | _ => none
      else none
    | none => none
  | none => none
theorem run_method {t : TypeId} {name : String} {f : FuncId} (h : methT P t name = some f) (v : Value) (n : Nat) (w : World) : (method (n + 1) t v name).run P w = .ok (f, v) w := by
  unfold methT at h
  split at h
  · rename_i inf hi
    split at h
    · rename_i m hm
      split at h
      · rename_i hp
        split at h
        · rename_i f' hf
          have hp' : m.path.toList = [] := by simpa using hp
          have ht : (typeInfo t).run P w = .ok inf w := by simp [typeInfo, program, Sem.run, hi]
          split at h
          · cases h
          · rename_i d hne hd
            cases h
            simp only [method, Sem.run_bind, ht, Result.andThen_ok, hm, hp', follow, Sem.run_pure, hf, receiverAt, run_underlying_of hd]
            cases d <;> first | (exact absurd rfl (hne _)) | rfl
          · cases h
        · cases h
      · cases h
    · cases h
  · cases h

theorem exec_invoke {x : Operand} {xs : List Operand} {t : TypeId} {name : String} {f : FuncId} {v : Value} {vs : List Value} {tys : Array TypeId} (hx : opd S x = some (.iface t v)) (ha : AllOpd S xs vs) (hm : methT P t name = some f) (hf : callT P f = true)
    {ρ : Operand → Value} (hk : Knows S ρ) (w : World) :
    (execOp ρ ⟨dst, .call ⟨.invoke x name, xs.toArray, tys⟩, ty, pos, af, g⟩).run P w = .ok (.enter f (v :: vs).toArray) w := by
  have h1 := ha.map hk
  have h2 := run_callFunc hf (v :: vs).toArray w
  have h3 := run_method hm v (P.types.size + 99) w
  have h4 : (#[v] ++ vs.toArray : Array Value) = (v :: vs).toArray := by simp
  have h5 : ((#[Value.iface t v] ++ vs.toArray).extract 1 (#[Value.iface t v] ++ vs.toArray).size : Array Value) = vs.toArray := by simp
  have h6 : ((#[Value.iface t v] ++ vs.toArray)[0]? : Option Value) = some (Value.iface t v) := by simp
  have h7 : (#[] : Array Value).size = 0 := rfl
  simp only [execOp, resolve, List.map_toArray, h1, hk x _ hx, Sem.run_bind, Sem.run_pure, Result.andThen_ok, invoke]
  rw [h6, h5]
  simp only [callMethod, Sem.run_bind, run_program, Result.andThen_ok]
  have h8 : P.types.size + Made.depth = P.types.size + 99 + 1 := rfl
  rw [h8, h3]
  simp only [Result.andThen_ok, h4, h2]

/-- A method that writes into blocks that were there. -/
theorem eInvokeM {ι : Type} {x : Operand} {xs : List Operand} {t : TypeId} {name : String} {f : FuncId} {u : Value} {vs : List Value} {tys : Array TypeId} {φ : ι → Prop} {v : ι → Value} {Mx Lx : ι → Heap} (M' L' : ι → Heap)
    (hx : opd S x = some (.iface t u)) (ha : AllOpd S xs vs) (hm : methT P t name = some f) (hf : callT P f = true) (hc : ∀ w, Eff W M L w → Calls P f (u :: vs).toArray w (RetX w φ v Mx Lx))
    (he : ∀ y w w', φ y → Eff W M L w → Eff w (Mx y) (Lx y) w' → Eff W (M' y) (L' y) w')
    (k : ∀ y, φ y → Tr (St N ((d, v y) :: S) D W (M' y) (L' y)) next) : Tr (St N S D W M L) (opW P ro N ⟨some d, .call ⟨.invoke x name, xs.toArray, tys⟩, ty, pos, af, g⟩ next Q) := fun a w hs hN => by
  refine opW_enter rfl (exec_invoke hx ha hm hf hs.knows w) ((hc w hs.ef).mono ?_) hN
  rintro e w' ⟨y, hy, rfl, hE⟩
  exact k y hy _ _ ((hs.put (hN d rfl) _).eff (he y w w' hy hs.ef hE))

/-- A call that writes into the i-th of the new blocks, and makes none. -/
theorem eCallW {x : Operand} {xs : List Operand} {f : FuncId} {us cs vs : List Value} {tys : Array TypeId} {b : Nat} {o o' : Obj} {v : Value} (i : Nat) (hi : L[i]? = some (b, o)) (hx : opd S x = some (.func (.func f) us.toArray cs.toArray)) (ha : AllOpd S xs vs)
    (hf : callT P f = true) (hc : ∀ w, Eff W M L w → w.heap[b]? = some o → Calls P f (us ++ vs ++ cs).toArray w (fun e w' => e = .returned v ∧ Eff w [(b, o')] [] w'))
    (k : Tr (St N ((d, v) :: S) D W M (upd L i o')) next) : Tr (St N S D W M L) (opW P ro N ⟨some d, .call ⟨.value x, xs.toArray, tys⟩, ty, pos, af, g⟩ next Q) := fun a w hs hN => by
  have hb := hs.ef.own _ (List.mem_append.2 (.inr (List.mem_of_getElem? hi)))
  refine opW_enter rfl (exec_call hx ha hf hs.knows w) ((hc w hs.ef hb).mono ?_) hN
  rintro e w' ⟨rfl, hE⟩
  exact k _ _ ((hs.put (hN d rfl) _).eff (by simpa using hs.ef.wroteL hi hE))
/-- The same, of the blocks that were there. -/
theorem eCallWM {x : Operand} {xs : List Operand} {f : FuncId} {us cs vs : List Value} {tys : Array TypeId} {b : Nat} {o o' : Obj} {v : Value} (i : Nat) (hi : M[i]? = some (b, o)) (hx : opd S x = some (.func (.func f) us.toArray cs.toArray)) (ha : AllOpd S xs vs)
    (hf : callT P f = true) (hc : ∀ w, Eff W M L w → w.heap[b]? = some o → Calls P f (us ++ vs ++ cs).toArray w (fun e w' => e = .returned v ∧ Eff w [(b, o')] [] w'))
    (k : Tr (St N ((d, v) :: S) D W (upd M i o') L) next) : Tr (St N S D W M L) (opW P ro N ⟨some d, .call ⟨.value x, xs.toArray, tys⟩, ty, pos, af, g⟩ next Q) := fun a w hs hN => by
  have hb := hs.ef.own _ (List.mem_append.2 (.inl (List.mem_of_getElem? hi)))
  refine opW_enter rfl (exec_call hx ha hf hs.knows w) ((hc w hs.ef hb).mono ?_) hN
  rintro e w' ⟨rfl, hE⟩
  exact k _ _ ((hs.put (hN d rfl) _).eff (by simpa using hs.ef.wroteM hi hE))
/-- A method that writes into the i-th of the new blocks. -/
theorem eInvokeW {x : Operand} {xs : List Operand} {t : TypeId} {name : String} {f : FuncId} {u : Value} {vs : List Value} {tys : Array TypeId} {b : Nat} {o o' : Obj} {v : Value} (i : Nat) (hi : L[i]? = some (b, o))
    (hx : opd S x = some (.iface t u)) (ha : AllOpd S xs vs) (hm : methT P t name = some f) (hf : callT P f = true) (hc : ∀ w, Eff W M L w → w.heap[b]? = some o → Calls P f (u :: vs).toArray w (fun e w' => e = .returned v ∧ Eff w [(b, o')] [] w'))
    (k : Tr (St N ((d, v) :: S) D W M (upd L i o')) next) : Tr (St N S D W M L) (opW P ro N ⟨some d, .call ⟨.invoke x name, xs.toArray, tys⟩, ty, pos, af, g⟩ next Q) := fun a w hs hN => by
  have hb := hs.ef.own _ (List.mem_append.2 (.inr (List.mem_of_getElem? hi)))
  refine opW_enter rfl (exec_invoke hx ha hm hf hs.knows w) ((hc w hs.ef hb).mono ?_) hN
  rintro e w' ⟨rfl, hE⟩
  exact k _ _ ((hs.put (hN d rfl) _).eff (by simpa using hs.ef.wroteL hi hE))
/-- What such a function promises. -/
abbrev Wr (w : World) (b : Nat) (o' : Obj) (v : Value) : Ending → World → Prop := fun e w' => e = .returned v ∧ Eff w [(b, o')] [] w'
theorem endW {b : Nat} {o o' : Obj} {v u : Value} (hv : u = v) (ho : o = o') : ∀ w, Eff W [(b, o)] L w → Wr W b o' v (.returned u) w := fun _ hw => ⟨by rw [hv], ho ▸ hw.sub .n⟩
theorem endW2 {b c : Nat} {o o' p : Obj} {v u : Value} (hv : u = v) (ho : o = o') (hc : W.heap[c]? = some p) : ∀ w, Eff W [(b, o), (c, p)] L w → Wr W b o' v (.returned u) w := fun w hw => by
  refine ⟨by rw [hv], hw.os, hw.tape, hw.output, hw.size, fun k hk hM => ?_, fun q hq => ?_, fun q hq => by simp at hq, fun q hq => ?_, by simp⟩
  · by_cases hkc : k = c
    · subst hkc; rw [hc]; exact hw.own (k, p) (by simp)
    · exact hw.frame k hk fun q hq => by
        simp only [List.mem_cons, List.not_mem_nil, or_false] at hq
        rcases hq with rfl | rfl
        · exact hM (b, o') (by simp)
        · exact fun e => hkc e.symm
  · simp only [List.append_nil, List.mem_singleton] at hq
    subst hq; subst ho; exact hw.own (b, o) (by simp)
  · simp only [List.mem_singleton] at hq
    subst hq; exact hw.old (b, o) (by simp)
end
end ZW
