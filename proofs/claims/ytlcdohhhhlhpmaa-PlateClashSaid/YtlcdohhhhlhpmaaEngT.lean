/-
  The engine, after the last part: a deferred function that asks recover itself; a map that is made of pairs; methods that are asked of what stands behind an interface, without a trace; functions that are not nil.
-/
import Derived.Test.YtlcdohhhhlhpmaaEngS
import Derived.RecoverIn
namespace ZW
open Go
section
variable {P : Program}

/-- Where such a function ends. -/
abbrev postT (P : Program) (fn : Func) (c₀ : Frame) (cs : List Frame) (R : Ending → FrameMode → World → Prop) (u' : FrameMode) : Exit → Act → World → Prop := fun e a w => bodyPostS P fn c₀ cs R e a ({ c₀ with mode := u' } :: cs) w
/-- A function that asks recover at first, and is entered as a deferred call. -/
theorem fEnterT {N : Nat} {f : FuncId} {fn : Func} {id d : Nat} {T : TypeId} {p : String} {af : Array Edge} {rest : Code} {vs : List Value} {u u' : FrameMode} {x : Value} {W : World} {M : Heap} {R : Ending → FrameMode → World → Prop}
    (hE : Eff W M [] W) (hf : P.funcs[f]? = some fn) (hb : fn.body = some (.seq (.region id #[⟨some d, .call ⟨.builtin .recover, #[], #[]⟩, T, p, af, none⟩] false) rest)) (hn : fn.ntmps = N) (hN : Nat.ble vs.length N = true) (hd : Nat.blt d N = true)
    (hrec : ∀ (c₀ : Frame) (cs : List Frame), c₀.mode = u → (match recoverD (c₀ :: cs) with | some (v, cs') => v = x ∧ cs' = { c₀ with mode := u' } :: cs | none => x = .nilIface ∧ u' = u))
    (h : ∀ (c₀ : Frame) (cs : List Frame), Tr (St N ((d, x) :: slotsFrom 0 vs) [] W M []) (WP P none rest (postT P fn c₀ cs R u'))) :
    CallsDIn (FW none) 0 P f vs.toArray u W R := by
  refine callsDIn_of_wpSIn hf hb trivial fun c₀ cs hu => wpSIn_seq (wpSIn_region ?_)
  have h1 : ∀ ρ : Operand → Value, (execOp ρ ⟨some d, .call ⟨.builtin .recover, #[], #[]⟩, T, p, af, none⟩).run P W = .ok .recover W := fun ρ => by
    simp [execOp, resolve, invoke, builtin, Sem.run_pure]
  have hz : (List.range 1) = [0] := rfl
  have hrc := hrec c₀ cs hu
  have hst : St N (slotsFrom 0 vs) [] W M [] { tmps := vs.toArray ++ Array.replicate (fn.ntmps - vs.toArray.size) undef, defers := [] } W := by
    refine ⟨?_, ?_, rfl, hE⟩
    · have := Nat.le_of_ble_eq_true hN
      simp [hn]; omega
    · intro t v hv
      obtain ⟨h1, h2⟩ := look_slotsFrom vs 0 t v hv
      simp only [Nat.sub_zero] at h2
      have hlt : t < vs.length := by
        rcases Nat.lt_or_ge t vs.length with h | h
        · exact h
        · rw [List.getElem?_eq_none h] at h2; cases h2
      show (vs.toArray ++ Array.replicate (fn.ntmps - vs.toArray.size) undef)[t]? = some v
      rw [Array.getElem?_append_left (by simpa using hlt)]
      simpa using h2
  have hlt : d < N := by simpa using hd
  have key : ∀ cs', cs' = { c₀ with mode := u' } :: cs → wpOpsSIn (FW none) 0 P #[⟨some d, .call ⟨.builtin .recover, #[], #[]⟩, T, p, af, none⟩]
      (Exit.thenS (rest.wpSIn (FW none) 0 P (bodyPostS P fn c₀ cs R)) (bodyPostS P fn c₀ cs R)) [] (({ tmps := vs.toArray ++ Array.replicate (fn.ntmps - vs.toArray.size) undef, defers := [] } : Act).put (some d) x) cs' W := by
    rintro cs' rfl
    simp only [wpOpsSIn, Exit.thenS]
    exact wpSIn_of_wpIn rfl (h c₀ cs _ _ (hst.put hlt _))
  rw [show (#[(⟨some d, .call ⟨.builtin .recover, #[], #[]⟩, T, p, af, none⟩ : Oper)] : Array Oper).size = 1 from rfl, hz, wpOpsSIn]
  simp only [List.getElem?_toArray, List.getElem?_cons_zero, Region.wanted, if_true, h1]
  refine ⟨fun _ _ => trivial, ?_⟩
  cases hd : recoverD (c₀ :: cs) with
  | none =>
    simp only [hd] at hrc
    obtain ⟨rfl, rfl⟩ := hrc
    refine key _ ?_
    cases c₀; subst hu; rfl
  | some r =>
    obtain ⟨v, cs'⟩ := r
    simp only [hd] at hrc
    obtain ⟨rfl, rfl⟩ := hrc
    exact key _ rfl

section
variable {N : Nat} {S : Slots} {W : World} {M L : Heap}
theorem tEnd {fn : Func} {c₀ : Frame} {cs : List Frame} {R : Ending → FrameMode → World → Prop} {u' : FrameMode} (hr : fn.results = #[]) (k : ∀ w, Eff W M L w → R (.returned (.tuple #[])) u' w) :
    Tr (St N S [] W M L) (postT P fn c₀ cs R u' .normal) := fun a w hs =>
  ⟨hs.df, u', rfl, .tuple #[], by simp [results, hr, Sem.run_pure], k w hs.ef⟩

/-- Such a deferred call, with an argument. -/
abbrev dfa (f : FuncId) (p : Value) : Deferred := { target := .fn (.func f) [].toArray, args := ([] ++ [p]).toArray }
theorem leavesIn_dfa {fn : Func} {tmps : Array Value} {R : Ending → World → Prop} {f : FuncId} {p : Value} {ds : List Deferred} {u : FrameMode} {w : World} (hu : u ≠ .run) (hg : callT P f = true)
    (h : CallsDIn (FW none) 0 P f #[p] u w fun
          | .returned _, u', w' => LeavesInM (FW none) 0 P fn tmps R ds (settle u') w'
          | .panicked chain, u', w' => LeavesInM (FW none) 0 P fn tmps R ds (raised u' chain) w'
          | .outgrown, _, w' => R .outgrown w') : LeavesInM (FW none) 0 P fn tmps R (dfa f p :: ds) u w :=
  ⟨hu, .inr ⟨fun h => by simp at h, .func f, #[], f, #[p], rfl, by simpa [invoke] using run_callFunc hg #[p] w, fun _ _ => trivial, h⟩⟩
theorem fRetT {fn : Func} {rs : List ResultVar} {vs : List Value} {R : Ending → World → Prop} {f : FuncId} {p : Value} (hg : callT P f = true) (hr : fn.results = rs.toArray) (h : ResV P S (Eff W M L) rs vs)
    (hd : ∀ w, Eff W M L w → CallsDIn (FW none) 0 P f #[p] .returning w (fun e u' w' => (∃ v, e = .returned v) ∧ u' = .returning ∧ Eff w [] [] w'))
    (k : ∀ w, Eff W M L w → R (.returned (packV vs)) w) : Tr (St N S [dfa f p] W M L) (bodyPostM (FW none) 0 P fn R .ret) := fun a w hs => by
  show LeavesInM (FW none) 0 P fn a.tmps R a.defers .returning w
  rw [hs.df]
  refine leavesIn_dfa (by simp) hg ((hd w hs.ef).mono ?_)
  rintro e u' w' ⟨⟨v, rfl⟩, rfl, hE⟩
  have hE' : Eff W M L w' := by simpa using hs.ef.trans hE
  exact ⟨_, run_results hr h hE' hs.sl, k w' hE'⟩
theorem fPanT {fn : Func} {rs : List ResultVar} {vs : List Value} {R : Ending → World → Prop} {f : FuncId} {p pv : Value} {L' : Heap} (hg : callT P f = true) (hr : fn.results = rs.toArray) (h : ResV P S (Eff W M L') rs vs)
    (hd : ∀ w, Eff W M L w → CallsDIn (FW none) 0 P f #[p] (.panicking [{ v := pv, recovered := false }]) w (fun e u' w' => (∃ v, e = .returned v) ∧ u' = .panicking [{ v := pv, recovered := true }] ∧ Eff W M L' w'))
    (k : ∀ w, Eff W M L' w → R (.returned (packV vs)) w) : Tr (St N S [dfa f p] W M L) (bodyPostM (FW none) 0 P fn R (.panic [{ v := pv, recovered := false }])) := fun a w hs => by
  show LeavesInM (FW none) 0 P fn a.tmps R a.defers (.panicking _) w
  rw [hs.df]
  refine leavesIn_dfa (by simp) hg ((hd w hs.ef).mono ?_)
  rintro e u' w' ⟨⟨v, rfl⟩, rfl, hE⟩
  exact ⟨_, run_results hr h hE hs.sl, k w' hE⟩
end

section
variable {ro : Option Nat} {Q : Exit → Act → World → Prop} {next : Act → World → Prop} {N : Nat} {S : Slots} {D : List Deferred} {W : World} {M L : Heap}
variable {C : World → Prop} {dst : Option Tmp} {d : Nat} {ty : TypeId} {pos : String} {af : Array Edge} {g : Option (Nat × Bool)}
/-- A pair of a map's first ones. -/
theorem eInsert {T e : TypeId} {q : IntKind} {m x v : Operand} {n : Nat} {es : List (Int × Value)} {a : Int} {u : Value} (i : Nat) (hT : mapT P T = some (q, e)) (hm : opd S m = some (.map (some n))) (hx : opd S x = some (.int q a)) (hv : opd S v = some u)
    (hi : L[i]? = some (n, mapO q es)) (k : Tr (St N S D W M (upd L i (mapO q (mPut es a u)))) next) : Tr (St N S D W M L) (opW P ro N ⟨none, .insert T m x v, ty, pos, af, g⟩ next Q) := fun ac w hs hN => by
  have hb := hs.ef.own _ (List.mem_append.2 (.inr (List.mem_of_getElem? hi)))
  have hlt : n < w.heap.size := by rw [Array.getElem?_eq_some_iff] at hb; exact hb.1
  refine opW_skip (w' := { w with heap := w.heap.setIfInBounds n (mapO q (mPut es a u)) }) rfl ?_ (k _ _ (hs.eff (hs.ef.updL hi ?_ ?_ ?_ rfl rfl rfl))) hN
  · simp only [execOp, hs.knows m _ hm, hs.knows x _ hx, hs.knows v _ hv, Sem.run_bind, run_mapUpdate hT hb, Result.andThen_ok, Sem.run_pure]
  · simp [hlt]
  · intro j hj
    simp only [Array.getElem?_setIfInBounds]
    rw [if_neg (Ne.symm hj)]
  · simp
/-- The same, and mapUpdate, of the blocks that were there. -/
theorem eMapUpdateM {T e : TypeId} {q : IntKind} {m x v : Operand} {n : Nat} {es : List (Int × Value)} {a : Int} {u : Value} (i : Nat) (hT : mapT P T = some (q, e)) (hm : opd S m = some (.map (some n))) (hx : opd S x = some (.int q a)) (hv : opd S v = some u)
    (hi : M[i]? = some (n, mapO q es)) (k : Tr (St N S D W (upd M i (mapO q (mPut es a u))) L) next) : Tr (St N S D W M L) (opW P ro N ⟨none, .mapUpdate T m x v, ty, pos, af, g⟩ next Q) := fun ac w hs hN => by
  have hb := hs.ef.own _ (List.mem_append.2 (.inl (List.mem_of_getElem? hi)))
  have hlt : n < w.heap.size := by rw [Array.getElem?_eq_some_iff] at hb; exact hb.1
  refine opW_skip (w' := { w with heap := w.heap.setIfInBounds n (mapO q (mPut es a u)) }) rfl ?_ (k _ _ (hs.eff (hs.ef.updM hi ?_ ?_ ?_ rfl rfl rfl))) hN
  · simp only [execOp, hs.knows m _ hm, hs.knows x _ hx, hs.knows v _ hv, Sem.run_bind, run_mapUpdate hT hb, Result.andThen_ok, Sem.run_pure]
  · simp [hlt]
  · intro j hj
    simp only [Array.getElem?_setIfInBounds]
    rw [if_neg (Ne.symm hj)]
  · simp
theorem methT_ahead {t : TypeId} {name : String} {f : FuncId} (h : methT P t name = some f) (v : Value) (n : Nat) (w : World) : (nilAhead (n + 1) t v name).run P w = .ok (some false) w := by
  unfold methT at h
  split at h
  · rename_i inf hi
    split at h
    · rename_i m hm
      split at h
      · rename_i hp
        split at h
        · rename_i f' hf
          have hp' : m.path.toList = [] := by simpa using hp
          have ht : (typeInfo t).run P w = .ok inf w := by simp [typeInfo, program, Sem.run, hi]
          split at h
          · cases h
          · rename_i d hne hd
            cases h
            simp only [nilAhead, Sem.run_bind, ht, Result.andThen_ok, hm, hp', followBlind, Sem.run_pure, hf, run_underlying_of hd]
            cases d <;> first | (exact absurd rfl (hne _)) | rfl
          · cases h
        · cases h
      · cases h
    · cases h
  · cases h
/-- A method of what stands behind an interface, as a function: it is not nil. -/
theorem yNilCheckF {x : Operand} {t : TypeId} {name : String} {f : FuncId} {v : Value} {cs : List Value} (hm : methT P t name = some f) (hx : opd S x = some (.func (.method name) [Value.iface t v].toArray cs.toArray)) :
    YV P S C ⟨dst, .nilCheck x, ty, pos, af, g⟩ (.func (.method name) [Value.iface t v].toArray cs.toArray) :=
  .pure fun ρ hk w => by
    have h1 := methT_ahead hm v (P.types.size + 99) w
    have h8 : P.types.size + Made.depth = P.types.size + 99 + 1 := rfl
    have h2 : ([Value.iface t v].toArray[0]? : Option Value) = some (.iface t v) := rfl
    simp only [execOp, hk x _ hx, h2, Sem.run_bind, run_program, Result.andThen_ok, h8, h1]
    rfl
/-- A method that leaves no trace. -/
theorem yInvoke {x : Operand} {xs : List Operand} {t : TypeId} {name : String} {f : FuncId} {u v : Value} {vs : List Value} {tys : Array TypeId} (hx : opd S x = some (.iface t u)) (ha : AllOpd S xs vs) (hm : methT P t name = some f) (hf : callT P f = true)
    (hc : ∀ w, C w → Calls P f (u :: vs).toArray w (Ret w v)) : YV P S C ⟨dst, .call ⟨.invoke x name, xs.toArray, tys⟩, ty, pos, af, g⟩ v := ⟨rfl, fun ρ hk w hC => by
  rw [exec_invoke hx ha hm hf hk w]
  exact ⟨rfl, hc w hC⟩⟩
/-- A call that writes into the i-th of the new blocks something of which this is so, and makes none. -/
theorem eCallWX {ι : Type} {x : Operand} {xs : List Operand} {f : FuncId} {us cs vs : List Value} {tys : Array TypeId} {b : Nat} {o : Obj} {φ : ι → Prop} {o' : ι → Obj} {v : ι → Value} (i : Nat) (hi : L[i]? = some (b, o)) (hx : opd S x = some (.func (.func f) us.toArray cs.toArray)) (ha : AllOpd S xs vs)
    (hf : callT P f = true) (hc : ∀ w, Eff W M L w → w.heap[b]? = some o → Calls P f (us ++ vs ++ cs).toArray w (RetX w φ v (fun y => [(b, o' y)]) (fun _ => [])))
    (k : ∀ y, φ y → Tr (St N ((d, v y) :: S) D W M (upd L i (o' y))) next) : Tr (St N S D W M L) (opW P ro N ⟨some d, .call ⟨.value x, xs.toArray, tys⟩, ty, pos, af, g⟩ next Q) := fun a w hs hN => by
  have hb := hs.ef.own _ (List.mem_append.2 (.inr (List.mem_of_getElem? hi)))
  refine opW_enter rfl (exec_call hx ha hf hs.knows w) ((hc w hs.ef hb).mono ?_) hN
  rintro e w' ⟨y, hy, rfl, hE⟩
  exact k y hy _ _ ((hs.put (hN d rfl) _).eff (by simpa using hs.ef.wroteL hi hE))
end
/-- Blocks that hold what they held are as if they were not known. -/
theorem Eff.keepM {W w : World} {M1 M2 L : Heap} (h : Eff W (M1 ++ M2) L w) (hr : ∀ p ∈ M2, W.heap[p.1]? = some p.2) : Eff W M1 L w := by
  refine ⟨h.os, h.tape, h.output, h.size, fun k hk hM => ?_, fun p hp => h.own p ?_, h.new, fun p hp => h.old p (List.mem_append_left _ hp), ?_⟩
  · by_cases hk2 : ∃ p ∈ M2, p.1 = k
    · obtain ⟨p, hp, rfl⟩ := hk2
      rw [hr p hp]; exact h.own p (by simp [hp])
    · exact h.frame k hk fun p hp e => (List.mem_append.1 hp).elim (fun h1 => hM p h1 e) (fun h1 => hk2 ⟨p, h1, e⟩)
  · rcases List.mem_append.1 hp with hp | hp <;> simp [hp]
  · have := h.nd
    simp only [List.map_append, List.append_assoc] at this ⊢
    rw [List.nodup_append] at this ⊢
    refine ⟨this.1, (List.nodup_append.1 this.2.1).2.1, fun a ha b hb => this.2.2 a ha b (by simp only [List.mem_append]; exact .inr hb)⟩
theorem Eff.many {W : World} {M : Heap} (h : ∀ p ∈ M, W.heap[p.1]? = some p.2) (hn : (M.map (·.1)).Nodup) : Eff W M [] W := by
  refine ⟨rfl, rfl, rfl, Nat.le_refl _, fun _ _ _ => rfl, fun p hp => h p (by simpa using hp), fun p hp => by simp at hp, fun p hp => ?_, by simpa using hn⟩
  have := h p hp
  rw [Array.getElem?_eq_some_iff] at this; exact this.1

/-! ### Maps of numbers -/
/-- A map holds these numbers. -/
def Rep (es : List (Int × Value)) (m : Nat → Option Int) : Prop := ∀ (v : Nat) (z : Value), mGet es (v : Int) z = (match m v with | some d => .int .i64 d | none => z)
theorem Rep.nil : Rep [] fun _ => none := fun _ _ => rfl
theorem Rep.put {es : List (Int × Value)} {m : Nat → Option Int} (h : Rep es m) (v : Nat) (d : Int) : Rep (mPut es v (.int .i64 d)) (fun u => if u = v then some d else m u) := fun u z => by
  rw [mGet_put]
  dsimp only
  by_cases hu : u = v
  · subst hu; rw [if_pos rfl, if_pos rfl]
  · rw [if_neg (by omega), if_neg hu]; exact h u z
theorem Rep.some {es : List (Int × Value)} {m : Nat → Option Int} (h : Rep es m) {v : Nat} (hf : (mFind es (v : Int) 0).isSome = true) : ∃ d, m v = some d ∧ ∀ z, mGet es (v : Int) z = .int .i64 d := by
  cases hm : m v with
  | some d => exact ⟨d, rfl, fun z => by rw [h v z, hm]⟩
  | none =>
    have h1 := h v (.bool true)
    have h2 := h v (.bool false)
    rw [hm] at h1 h2
    obtain ⟨⟨i, u⟩, he⟩ := Option.isSome_iff_exists.1 hf
    simp only [mGet, he] at h1 h2
    rw [h1] at h2; cases h2
theorem Rep.none {es : List (Int × Value)} {m : Nat → Option Int} (h : Rep es m) {v : Nat} (hf : (mFind es (v : Int) 0).isSome = false) : m v = Option.none := by
  have he : mFind es (v : Int) 0 = Option.none := by simpa using hf
  have h1 := h v (.bool true)
  simp only [mGet, he] at h1
  cases hm : m v with
  | none => rfl
  | some d => rw [hm] at h1; cases h1
theorem Rep.isSome {es : List (Int × Value)} {m : Nat → Option Int} (h : Rep es m) (v : Nat) : (mFind es (v : Int) 0).isSome = (m v).isSome := by
  cases hf : (mFind es (v : Int) 0).isSome with
  | true => obtain ⟨d, hd, _⟩ := h.some hf; rw [hd]; rfl
  | false => rw [h.none hf]; rfl
/-! ### Calls of closures that append to what they share -/
/-- The call returns; what is known is as told. -/
def RetE {ι : Type} (W : World) (M : Heap) (φ : ι → Prop) (v : ι → Value) (L' : ι → Heap) : Ending → World → Prop := fun e w' => ∃ y, φ y ∧ e = .returned (v y) ∧ Eff W M (L' y) w'
theorem fEnterE {N : Nat} {W w : World} {M L : Heap} {f : FuncId} {fn : Func} {c : Code} {vs : List Value} {R : Ending → World → Prop} (hE : Eff W M L w) (hf : P.funcs[f]? = some fn) (hb : fn.body = some c) (hn : fn.ntmps = N) (hN : Nat.ble vs.length N = true)
    (h : Tr (St N (slotsFrom 0 vs) [] W M L) (WP P none c (bodyPostM (FW none) 0 P fn R))) : Calls P f vs.toArray w R := by
  refine (callsIn_wide (n := 0)).1 (callsIn_of_wp_marks hf hb trivial ?_)
  refine h _ w ⟨?_, ?_, rfl, hE⟩
  · have := Nat.le_of_ble_eq_true hN
    simp [hn]; omega
  · intro t v hv
    obtain ⟨h1, h2⟩ := look_slotsFrom vs 0 t v hv
    simp only [Nat.sub_zero] at h2
    have hlt : t < vs.length := by
      rcases Nat.lt_or_ge t vs.length with h | h
      · exact h
      · rw [List.getElem?_eq_none h] at h2; cases h2
    show (vs.toArray ++ Array.replicate (fn.ntmps - vs.toArray.size) undef)[t]? = some v
    rw [Array.getElem?_append_left (by simpa using hlt)]
    simpa using h2
section
variable {ro : Option Nat} {Q : Exit → Act → World → Prop} {next : Act → World → Prop} {N : Nat} {S : Slots} {D : List Deferred} {W : World} {M L : Heap}
variable {d : Nat} {ty : TypeId} {pos : String} {af : Array Edge} {g : Option (Nat × Bool)}
theorem eCallE {ι : Type} {x : Operand} {xs : List Operand} {f : FuncId} {us cs vs : List Value} {tys : Array TypeId} {φ : ι → Prop} {v : ι → Value} {L' : ι → Heap} (hx : opd S x = some (.func (.func f) us.toArray cs.toArray)) (ha : AllOpd S xs vs)
    (hf : callT P f = true) (hc : ∀ w, Eff W M L w → Calls P f (us ++ vs ++ cs).toArray w (RetE W M φ v L'))
    (k : ∀ y, φ y → Tr (St N ((d, v y) :: S) D W M (L' y)) next) : Tr (St N S D W M L) (opW P ro N ⟨some d, .call ⟨.value x, xs.toArray, tys⟩, ty, pos, af, g⟩ next Q) := fun a w hs hN => by
  refine opW_enter rfl (exec_call hx ha hf hs.knows w) ((hc w hs.ef).mono ?_) hN
  rintro e w' ⟨y, hy, rfl, hE⟩
  exact k y hy _ _ ((hs.put (hN d rfl) _).eff hE)
theorem fCallE {ι : Type} {x : Operand} {xs : List Operand} {f : FuncId} {us cs vs : List Value} {tys : Array TypeId} {φ : ι → Prop} {v : ι → Value} {L' : ι → Heap} (hx : opd S x = some (.func (.func f) us.toArray cs.toArray)) (ha : AllOpd S xs vs)
    (hf : callT P f = true) (hc : ∀ w, Eff W M L w → Calls P f (us ++ vs ++ cs).toArray w (RetE W M φ v L')) :
    Tr (St N S D W M L) (opW P ro N ⟨some d, .call ⟨.value x, xs.toArray, tys⟩, ty, pos, af, g⟩ (fun a w => ∃ y : {y // φ y}, St N ((d, v y.1) :: S) D W M (L' y.1) a w) Q) :=
  eCallE hx ha hf hc fun y h => trTo (Y := fun y : {y // φ y} => St N ((d, v y.1) :: S) D W M (L' y.1)) ⟨y, h⟩ trSelf
end
end
end ZW
