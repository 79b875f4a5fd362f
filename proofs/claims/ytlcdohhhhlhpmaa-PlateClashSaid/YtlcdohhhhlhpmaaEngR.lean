/-
  The engine, thirteenth part: a range over a function: the function that is ranged over, its calls of yield, the rounds, the statement.
-/
import Derived.Test.YtlcdohhhhlhpmaaEngM
import Derived.RangeFuncIn
namespace ZW
open Go

theorem Eff.thenM {W w w' : World} {L Mf Lf : Heap} (h : Eff W [] L w) (h' : Eff w Mf Lf w') (hM : ∀ p ∈ Mf, p.1 < W.heap.size) : Eff W Mf (Lf ++ L) w' := by
  have hnd := h.nd
  have hnd' := h'.nd
  simp only [List.nil_append, List.map_append, List.nodup_append] at hnd hnd'
  refine ⟨h'.os.trans h.os, h'.tape.trans h.tape, h'.output.trans h.output, Nat.le_trans h.size h'.size, fun k hk hkM => ?_, fun p hp => ?_, fun p hp => ?_, hM, ?_⟩
  · rw [h'.frame k (Nat.lt_of_lt_of_le hk h.size) hkM, h.frame k hk (by simp)]
  · rcases List.mem_append.1 hp with hp | hp
    · exact h'.own p (by simp [hp])
    · rcases List.mem_append.1 hp with hp | hp
      · exact h'.own p (by simp [hp])
      · have h1 := h.new p hp
        rw [h'.frame p.1 (h.lt (by simp [hp])) fun q hq e => by have := hM q hq; omega]
        exact h.own p (by simp [hp])
  · rcases List.mem_append.1 hp with hp | hp
    · exact Nat.le_trans h.size (h'.new p hp)
    · exact h.new p hp
  · simp only [List.map_append, List.nodup_append, List.mem_append]
    refine ⟨hnd'.1, ⟨hnd'.2.1, hnd, fun a ha b hb e => ?_⟩, fun a ha b hb e => ?_⟩
    · obtain ⟨p, hp, rfl⟩ := List.mem_map.1 ha
      obtain ⟨q, hq, rfl⟩ := List.mem_map.1 hb
      have h1 := h'.new p hp
      have h2 := h.lt (p := q) (by simp [hq])
      omega
    · obtain ⟨p, hp, rfl⟩ := List.mem_map.1 ha
      have h1 := hM p hp
      have h0 := h.size
      rcases hb with hb | hb
      · obtain ⟨q, hq, rfl⟩ := List.mem_map.1 hb
        have h2 := h'.new q hq; omega
      · obtain ⟨q, hq, rfl⟩ := List.mem_map.1 hb
        have h2 := h.new q hq; omega

section
variable {P : Program} {Q : Exit → Act → World → Prop} {next : Act → World → Prop} {N : Nat} {S : Slots} {D : List Deferred} {W : World} {M L : Heap}
variable {d : Nat} {ty : TypeId} {pos : String} {af : Array Edge} {g : Option (Nat × Bool)}

/-- What a call of yield comes to. -/
def YC (P : Program) (l : Nat) (v : Value) (w : World) (R : Ending → World → Prop) : Prop :=
  ∃ f tmps assign body, (Instr.yield l #[v]).run P w = .ok (.round l f tmps assign body) w ∧ RoundIn (FW none) 0 P l f tmps assign body w R
/-- A round that goes on changes nothing; one that stops changes what is told. -/
def YR (w : World) (stop : Bool) (Mf : Heap) : Ending → World → Prop := fun e w' =>
  (stop = true ∧ e = .returned (.bool false) ∧ ∃ Lf, Eff w Mf Lf w') ∨ (stop = false ∧ Ret w (.bool true) e w')

theorem eYield {x : Operand} {xs : List Operand} {l : Nat} {v : Value} {tys : Array TypeId} {b : Bool} {Mf : Heap} (hx : opd S x = some (.func (.yield l) #[] #[])) (ha : AllOpd S xs [v])
    (hy : ∀ w, Eff W [] L w → YC P l v w (YR w b Mf)) (hMf : ∀ p ∈ Mf, p.1 < W.heap.size)
    (ht : b = true → ∀ Lf, Tr (St N ((d, .bool false) :: S) D W Mf (Lf ++ L)) next) (hf : b = false → Tr (St N ((d, .bool true) :: S) D W [] L) next) :
    Tr (St N S D W [] L) (opW P none N ⟨some d, .call ⟨.value x, xs.toArray, tys⟩, ty, pos, af, g⟩ next Q) := fun a w hs hN => by
  obtain ⟨f, tmps, assign, body, hr, hround⟩ := hy w hs.ef
  have hm := ha.map hs.knows
  have hex : (execOp a.eval ⟨some d, .call ⟨.value x, xs.toArray, tys⟩, ty, pos, af, g⟩).run P w = .ok (.round l f tmps assign body) w := by
    simp only [execOp, resolve, List.map_toArray, hm, hs.knows x _ hx, Deferred.ofValue, Sem.run_bind, Sem.run_pure, Result.andThen_ok, invoke]
    simpa using hr
  rw [semAt_nd rfl, hex]
  refine ⟨fun hd => by simp at hd, hround.mono ?_⟩
  rintro e w' (⟨hb, rfl, Lf, hE⟩ | ⟨hb, rfl, hE⟩)
  · exact ht hb Lf _ _ ((hs.put (hN d rfl) _).eff (hs.ef.thenM hE hMf))
  · exact hf hb _ _ ((hs.put (hN d rfl) _).eff (by simpa using hs.ef.trans hE))

/-- A function that yields values of a kind, and ends as soon as one of them stops it. -/
def Iter {α : Type} (P : Program) (F : FuncId) (caps : List Value) (W : World) (Dom : α → Prop) (val : α → Value) (stop : α → Bool) (Φ : Option α → Prop) : Prop :=
  ∀ (l : Nat) (Mf : α → Heap), (∀ s, ∀ p ∈ Mf s, p.1 < W.heap.size) → (∀ w L, Eff W [] L w → ∀ s, Dom s → YC P l (val s) w (YR w (stop s) (Mf s))) →
    Calls P F (.func (.yield l) #[] #[] :: caps).toArray W (fun e w' => e = .returned (.tuple #[]) ∧ ((Φ none ∧ Eff W [] [] w') ∨ ∃ s, stop s = true ∧ Φ (some s) ∧ Eff W (Mf s) [] w'))

/-! ### Rounds -/
theorem run_getLoop {l : Nat} {r : Loop} {w : World} (h : w.heap[l]? = some (.loop r)) : (Instr.getLoop l).run P w = .ok r w := by
  simp [Instr.getLoop, getObj, Sem.run, Sem.run_bind, h, Sem.run_pure]
theorem run_setLoop {l : Nat} {r : Loop} {w : World} {o : Obj} (h : w.heap[l]? = some (.loop r)) : (setObj l o).run P w = .ok () { w with heap := w.heap.setIfInBounds l o } := by
  simp [setObj, Sem.run, h]
theorem Eff.set0 {W w : World} {l : Nat} {o o' : Obj} {M L : Heap} (h : Eff W ((l, o) :: M) L w) : Eff W ((l, o') :: M) L { w with heap := w.heap.setIfInBounds l o' } := by
  have hb := h.own (l, o) (by simp)
  have hlt : l < w.heap.size := by rw [Array.getElem?_eq_some_iff] at hb; exact hb.1
  exact h.updM (w' := { w with heap := w.heap.setIfInBounds l o' }) (i := 0) (b := l) (x := o) rfl (by simp [hlt]) (fun k hk => by simp only [Array.getElem?_setIfInBounds]; rw [if_neg (Ne.symm hk)]) (by simp) rfl rfl rfl

abbrev busyL (r : Loop) : Obj := .loop { r with state := .busy }
abbrev retL (r : Loop) : Obj := .loop { r with state := .done, pending := some .ret }

/-- A round begins. -/
theorem rBegin {l : Nat} {r : Loop} {body : Code} (hr : r.state = .ready) (h : Tr (St N S D W ((l, busyL r) :: M) L) (WP P (some l) body Q)) :
    Tr (St N S D W ((l, .loop r) :: M) L) (fun a w => ∃ w₂, (Instr.beginRound l).run P w = .ok () w₂ ∧ WP P (some l) body Q a w₂) := fun a w hs => by
  have hb := hs.ef.own (l, .loop r) (by simp)
  refine ⟨{ w with heap := w.heap.setIfInBounds l (busyL r) }, ?_, h _ _ (hs.eff hs.ef.set0)⟩
  simp only [Instr.beginRound, Sem.run_bind, run_getLoop hb, Result.andThen_ok, run_setLoop hb, hr, Sem.run_pure]
/-- A round ends, and the next one may come. -/
theorem rNormal {l : Nat} {r : Loop} {Mf : Heap} (hr : r.state = .ready ∧ r.pending = none) (hE : Eff W ((l, .loop r) :: M) [] W) : Tr (St N S D W ((l, busyL r) :: M) L) (roundPost P l (YR W false Mf) .normal) := fun a w hs => by
  have hb := hs.ef.own (l, busyL r) (by simp)
  refine ⟨.bool true, { w with heap := w.heap.setIfInBounds l (.loop r) }, ?_, .inr ⟨rfl, rfl, ?_⟩⟩
  · have : ({ ({ r with state := .busy } : Loop) with state := .ready, pending := none } : Loop) = r := by
      obtain ⟨h1, h2⟩ := hr
      cases r; simp only at h1 h2; subst h1 h2; rfl
    simp only [Instr.endRound, Sem.run_bind, run_getLoop hb, Result.andThen_ok, Option.isNone_none, if_true, run_setLoop hb, this, Sem.run_pure]
  · exact (hE.unM hs.ef.set0).sub .n
/-- A round returns. -/
theorem rRet {l : Nat} {r : Loop} : Tr (St N S D W ((l, busyL r) :: M) L) (roundPost P l (YR W true ((l, retL r) :: M)) .ret) := fun a w hs => by
  have hb := hs.ef.own (l, busyL r) (by simp)
  refine ⟨.bool false, { w with heap := w.heap.setIfInBounds l (retL r) }, ?_, .inl ⟨rfl, rfl, L, hs.ef.set0⟩⟩
  simp [Instr.endRound, Sem.run_bind, run_getLoop hb, run_setLoop hb, retL]

/-- What a round does to blocks that stay as they are does not matter. -/
theorem Eff.within {W w w' : World} {M L L0 L2 Mk : Heap} {l r : Nat} {o o1 o2 : Obj} (h : Eff W M L0 w) (h2 : Eff w ((l, o) :: Mk) L2 w') (hk : SubP Mk L) (hs : SubP ((l, o1) :: (r, o2) :: L) L0) : Eff W M L w' := by
  have h1 : Eff W M ((l, o1) :: (r, o2) :: L) w := h.sub hs
  have hL : Eff W M L w := h1.sub (.d 0 (.d 0 .r))
  have hnd := h1.nd
  simp only [List.map_append, List.map_cons, List.nodup_append, List.nodup_cons, List.mem_cons] at hnd
  have hl : W.heap.size ≤ l := h1.new (l, o1) (by simp)
  have hMk : ∀ q ∈ Mk, q ∈ L := hk.mem
  have keep : ∀ p ∈ M ++ L, w'.heap[p.1]? = some p.2 := fun p hp => by
    by_cases hq : ∃ q ∈ Mk, q.1 = p.1
    · obtain ⟨q, hq, hqe⟩ := hq
      have e1 := h2.own q (by simp [hq])
      have e2 := hL.own q (by simp [hMk q hq])
      have e3 := hL.own p hp
      rw [hqe] at e1 e2
      rw [e1]; rw [e2] at e3; exact e3
    · rw [h2.frame p.1 (hL.lt hp) fun q hq' e => ?_]
      · exact hL.own p hp
      · rcases List.mem_cons.1 hq' with rfl | hq'
        · rcases List.mem_append.1 hp with hp | hp
          · have := h1.old p hp; simp only at e; omega
          · exact hnd.2.1.1 (.inr (by simp only at e; rw [e]; exact List.mem_map.2 ⟨p, hp, rfl⟩))
        · exact hq ⟨q, hq', e⟩
  refine ⟨h2.os.trans hL.os, h2.tape.trans hL.tape, h2.output.trans hL.output, Nat.le_trans hL.size h2.size, fun k hk' hkM => ?_, keep, hL.new, hL.old, hL.nd⟩
  rw [h2.frame k (Nat.lt_of_lt_of_le hk' hL.size) fun q hq e => ?_]
  · exact hL.frame k hk' hkM
  · rcases List.mem_cons.1 hq with rfl | hq
    · simp only at e; omega
    · have := hL.new q (hMk q hq); omega

/-! ### The statement -/
abbrev markD (r : Nat) : Deferred := { target := .collected r, args := #[] }

theorem kRange {α : Type} {t : Tmp} {x : Operand} {assign body : Code} {F : FuncId} {caps : List Value} (Dom : α → Prop) (val : α → Value) (stop : α → Bool) (Φ : Option α → Prop) (Mk : Heap) (Mf : α → Heap)
    (hx : opd S x = some (.func (.func F) #[] caps.toArray)) (hF : callT P F = true) (hN : Nat.blt t N = true) (hk : SubP Mk L) (hkeys : ∀ s, (Mf s).map (·.1) = Mk.map (·.1))
    (hI : ∀ w, Eff W M L w → Iter P F caps w Dom val stop Φ)
    (hbody : ∀ l (r : Loop) w s, Dom s → (r.state = .ready ∧ r.pending = none) → (∀ o w' L', Eff w ((l, o) :: Mk) L' w' → Eff W M L w') → Eff w ((l, .loop r) :: Mk) [] w → Tr (St N ((t, val s) :: S) [] w ((l, .loop r) :: Mk) []) (WP P (some l) assign
      (Exit.then (fun a₁ w₁ => ∃ w₂, (Instr.beginRound l).run P w₁ = .ok () w₂ ∧ WP P (some l) body (roundPost P l (YR w (stop s) ((l, retL r) :: Mf s))) a₁ w₂) (fun _ _ _ => False))))
    (hnone : Φ none → ∀ r l o, Tr (St N S (markD r :: D) W M ((l, o) :: (r, .deferred (some [])) :: L)) (Q .normal))
    (hsome : ∀ s, stop s = true → Φ (some s) → ∀ r l o, Tr (St N S (markD r :: D) W M ((l, o) :: (r, .deferred (some [])) :: Mf s)) (Q .ret)) :
    Tr (St N S D W M L) (WP P none (.rangeFunc x #[t] assign body) Q) := fun a w hs => by
  refine wpIn_rangeFunc fun fn _ => ?_
  have hlt : t < N := Nat.le_of_ble_eq_true hN
  let r : Nat := w.heap.size
  let l : Nat := w.heap.size + 1
  let rec_ : Loop := { state := .ready, pending := none, fn, tmps := a.tmps, params := #[t], assign, body, defers := r }
  have he0 : Eff W M ((l, .loop rec_) :: (r, .deferred (some [])) :: L) { w with heap := (w.heap.push (.deferred (some []))).push (.loop rec_) } := by
    have h1 := hs.ef.alloc (.deferred (some []))
    have h2 := h1.alloc (.loop rec_)
    simpa [l, r] using h2
  generalize hw1 : ({ w with heap := (w.heap.push (.deferred (some []))).push (.loop rec_) } : World) = w1 at he0
  have hL0 : Eff W M L w1 := he0.sub (.d 0 (.d 0 .r))
  have hkE : Eff W M ((l, .loop rec_) :: (r, .deferred (some [])) :: Mk) w1 := he0.sub (.c 0 rfl (.c 0 rfl hk))
  have hloop : w1.heap[l]? = some (.loop rec_) := he0.own (l, .loop rec_) (by simp)
  have hold : ∀ s, ∀ p ∈ (l, retL rec_) :: Mf s, p.1 < w1.heap.size := fun s p hp => by
    have h1 : p.1 ∈ ((l, .loop rec_) :: Mk).map (·.1) := by
      rcases List.mem_cons.1 hp with rfl | hp
      · simp
      · simp only [List.map_cons, List.mem_cons]; rw [← hkeys s]; exact .inr (List.mem_map.2 ⟨p, hp, rfl⟩)
    obtain ⟨q, hq, hqe⟩ := List.mem_map.1 h1
    rw [← hqe]
    exact hkE.lt (by rcases List.mem_cons.1 hq with rfl | hq <;> simp [*])
  have hyield : ∀ w' L', Eff w1 [] L' w' → ∀ s, Dom s → YC P l (val s) w' (YR w' (stop s) ((l, retL rec_) :: Mf s)) := fun w' L' hw' s hd => by
    have hl' : w'.heap[l]? = some (.loop rec_) := hw'.old' hloop
    refine ⟨fn, a.tmps.setIfInBounds t (val s), assign, body, ?_, ?_⟩
    · simp [Instr.yield, run_getLoop hl', Sem.run_bind, Sem.run_pure, rec_]
    · refine roundIn_of_wpIn trivial ?_
      have hE' : Eff w' ((l, .loop rec_) :: Mk) [] w' := by
        have h3 : ∀ p ∈ (l, Obj.loop rec_) :: Mk, w'.heap[p.1]? = some p.2 := fun p hp => hw'.old' (hkE.own p (by rcases List.mem_cons.1 hp with rfl | hp <;> simp [*]))
        refine ⟨rfl, rfl, rfl, Nat.le_refl _, fun _ _ _ => rfl, fun p hp => h3 p (by simpa using hp), fun p hp => by simp at hp, fun p hp => ?_, ?_⟩
        · have := h3 p hp; rw [Array.getElem?_eq_some_iff] at this; exact this.1
        · have h4 := hkE.nd
          simp only [List.map_append, List.map_cons, List.nodup_append, List.nodup_cons] at h4
          simp only [List.append_nil, List.map_cons, List.nodup_cons]
          exact ⟨fun h => h4.2.1.1 (by simp [h]), h4.2.1.2.2⟩
      refine hbody l rec_ w' s hd ⟨rfl, rfl⟩ (fun o w'' L2 h2 => ?_) hE' _ _ ⟨by simp [hs.sz], fun u v hu => ?_, rfl, hE'⟩
      · exact Eff.within (he0.trans hw') h2 hk (by simpa using SubP.tail (A := L') (B := (l, Obj.loop rec_) :: (r, Obj.deferred (some [])) :: L)) 
      rw [look_cons] at hu
      show (a.tmps.setIfInBounds t (val s))[u]? = some v
      rw [Array.getElem?_setIfInBounds]
      split at hu
      · rename_i h; subst h; rw [if_pos rfl, hs.sz, if_pos hlt]; exact hu
      · rename_i h; rw [if_neg h]; exact hs.sl u v hu
  refine ⟨l, [markD r], w1, { target := .fn (.func F) caps.toArray, args := #[.func (.yield l) #[] #[]] }, w1, F, (.func (.yield l) #[] #[] :: caps).toArray, w1, ?_, ?_, fun _ _ => trivial, ?_, fun h => by simp at h, ?_⟩
  · subst hw1
    simp [Instr.enterLoop, newObj, Sem.run, Sem.run_bind, l, r, rec_, markD]
    rfl
  · have h0 : a.eval x = .func (.func F) #[] caps.toArray := hs.knows x _ hx
    have h1 : (#[Operand.const (.func (.yield l) #[] #[])].map a.eval) = #[.func (.yield l) #[] #[]] := by simp [Act.eval]
    simp only [resolve, h0, h1, Deferred.ofValue, Sem.run_pure]
    simp
  · have := run_callFunc hF (.func (.yield l) #[] #[] :: caps).toArray w1
    simpa [invoke] using this
  · have hc := hI w1 hL0 l (fun s => (l, retL rec_) :: Mf s) hold hyield
    refine (callsIn_wide (n := 0)).2 (hc.mono ?_)
    rintro e w3 ⟨rfl, ⟨hΦ, hE⟩ | ⟨s, hst, hΦ, hE⟩⟩
    · have hl3 : w3.heap[l]? = some (.loop rec_) := hE.old' hloop
      refine ⟨none, { w3 with heap := w3.heap.setIfInBounds l (.loop { rec_ with state := .exhausted }) }, ?_, ?_⟩
      · simp [Instr.endLoop, run_getLoop hl3, run_setLoop hl3, Sem.run_bind, rec_]
      · have hE3 : Eff W M ((l, .loop rec_) :: (r, .deferred (some [])) :: L) w3 := by simpa using he0.trans hE
        have hl3' : l < w3.heap.size := by rw [Array.getElem?_eq_some_iff] at hl3; exact hl3.1
        refine hnone hΦ r l (.loop { rec_ with state := .exhausted }) _ _ ⟨hs.sz, hs.sl, by simp [hs.df], ?_⟩
        exact hE3.updL (w' := { w3 with heap := w3.heap.setIfInBounds l (.loop { rec_ with state := .exhausted }) }) (i := 0) (b := l) rfl (by simp [hl3']) (fun k hk => by simp only [Array.getElem?_setIfInBounds]; rw [if_neg (Ne.symm hk)]) (by simp) rfl rfl rfl
    · have hl3 : w3.heap[l]? = some (retL rec_) := hE.own (l, retL rec_) (by simp)
      have hl3' : l < w3.heap.size := by rw [Array.getElem?_eq_some_iff] at hl3; exact hl3.1
      refine ⟨some .ret, { w3 with heap := w3.heap.setIfInBounds l (.loop { rec_ with state := .exhausted, pending := some .ret }) }, ?_, ?_⟩
      · simp [Instr.endLoop, run_getLoop hl3, run_setLoop hl3, Sem.run_bind, rec_]
      · have hE3 : Eff W M ([] ++ ((l, retL rec_) :: (r, .deferred (some [])) :: Mf s)) w3 := by
          refine hkE.merge M ((l, retL rec_) :: (r, .deferred (some [])) :: Mf s) hE rfl (by simp [hkeys s]) (fun p hp => ?_) (fun q hq => ?_)
          · have hnd := hkE.nd
            simp only [List.map_append, List.map_cons, List.nodup_append, List.nodup_cons, List.mem_cons] at hnd
            have hkm : ∀ q ∈ Mf s, q.1 ∈ Mk.map (·.1) := fun q hq => by rw [← hkeys s]; exact List.mem_map.2 ⟨q, hq, rfl⟩
            rcases List.mem_append.1 hp with hp | hp
            · refine .inr ⟨by simp [hp], fun q hq e => ?_⟩
              have hpm : p.1 ∈ M.map (·.1) := List.mem_map.2 ⟨p, hp, rfl⟩
              rcases List.mem_cons.1 hq with rfl | hq
              · exact hnd.2.2 _ hpm _ (.inl rfl) e.symm
              · exact hnd.2.2 _ hpm _ (.inr (.inr (hkm q hq))) e.symm
            · rcases List.mem_cons.1 hp with rfl | hp
              · exact .inl (by simp)
              · rcases List.mem_cons.1 hp with rfl | hp
                · refine .inr ⟨by simp, fun q hq e => ?_⟩
                  rcases List.mem_cons.1 hq with rfl | hq
                  · simp only at e; exact hnd.2.1.1 (.inl e)
                  · simp only at e; exact hnd.2.1.2.1 (e ▸ hkm q hq)
                · exact .inl (by simp [hp])
          · rcases List.mem_cons.1 hq with rfl | hq
            · simp
            · have : q.1 ∈ Mk.map (·.1) := by rw [← hkeys s]; exact List.mem_map.2 ⟨q, hq, rfl⟩
              simp only [List.map_append, List.map_cons, List.mem_append, List.mem_cons]
              exact .inr (.inr (.inr this))
        refine wpIn_ret (hsome s hst hΦ r l (.loop { rec_ with state := .exhausted, pending := some .ret }) _ _ ⟨hs.sz, hs.sl, by simp [hs.df], ?_⟩)
        exact hE3.updL (w' := { w3 with heap := w3.heap.setIfInBounds l (.loop { rec_ with state := .exhausted, pending := some .ret }) }) (i := 0) (b := l) rfl (by simp [hl3']) (fun k hk => by simp only [Array.getElem?_setIfInBounds]; rw [if_neg (Ne.symm hk)]) (by simp) rfl rfl rfl

/-! ### The end of a function that has ranged over a function -/
theorem fMark {fn : Func} {R : Ending → World → Prop} {r : Nat} {e : Exit} (i : Nat) (hi : L[i]? = some (r, .deferred (some []))) (he : e = .ret ∨ e = .normal)
    (h : Tr (St N S D W M (upd L i (.deferred none))) (bodyPostM (FW none) 0 P fn R e)) : Tr (St N S (markD r :: D) W M L) (bodyPostM (FW none) 0 P fn R e) := fun a w hs => by
  have hb := hs.ef.own _ (List.mem_append.2 (.inr (List.mem_of_getElem? hi)))
  have hlt : r < w.heap.size := by rw [Array.getElem?_eq_some_iff] at hb; exact hb.1
  have htake : (Instr.takeDeferred r).run P w = .ok [] { w with heap := w.heap.setIfInBounds r (.deferred none) } := by
    simp [Instr.takeDeferred, getObj, setObj, Sem.run, Sem.run_bind, hb]
  have hE : Eff W M (upd L i (.deferred none)) { w with heap := w.heap.setIfInBounds r (.deferred none) } :=
    hs.ef.updL hi (by simp [hlt]) (fun k hk => by simp only [Array.getElem?_setIfInBounds]; rw [if_neg (Ne.symm hk)]) (by simp) rfl rfl rfl
  have hst : St N S D W M (upd L i (.deferred none)) { a with defers := D } { w with heap := w.heap.setIfInBounds r (.deferred none) } := ⟨hs.sz, hs.sl, rfl, hE⟩
  have h2 := h _ _ hst
  have key : LeavesInM (FW none) 0 P fn a.tmps R D .returning { w with heap := w.heap.setIfInBounds r (.deferred none) } → LeavesInM (FW none) 0 P fn a.tmps R a.defers .returning w := fun h3 => by
    rw [hs.df]
    exact ⟨by simp, .inl ⟨r, _, rfl, htake, h3⟩⟩
  rcases he with rfl | rfl
  · exact key h2
  · exact key h2
end
end ZW
