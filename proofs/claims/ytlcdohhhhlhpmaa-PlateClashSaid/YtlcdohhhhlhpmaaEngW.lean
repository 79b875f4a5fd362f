/-
  The engine: ranging over a function whose rounds change blocks of the one who ranges.
-/
import Derived.Test.YtlcdohhhhlhpmaaEngV
namespace ZW
open Go

theorem Eff.tail {W w w' : World} {L A A' : Heap} (h : Eff W [] (L ++ A) w) (h' : Eff w A' [] w') (hk : A'.map (·.1) = A.map (·.1)) : Eff W [] (L ++ A') w' := by
  have hnd := h.nd
  simp only [List.nil_append, List.map_append, List.nodup_append] at hnd
  have := h.merge [] (L ++ A') h' rfl (by simp [hk]) (fun p hp => ?_) (fun q hq => ?_)
  · simpa using this
  · rcases List.mem_append.1 (by simpa using hp) with hp | hp
    · refine .inr ⟨by simp [hp], fun q hq e => ?_⟩
      have h1 : q.1 ∈ A.map (·.1) := by rw [← hk]; exact List.mem_map.2 ⟨q, hq, rfl⟩
      exact hnd.2.2 p.1 (List.mem_map.2 ⟨p, hp, rfl⟩) q.1 h1 e.symm
    · exact .inl hp
  · have h1 : q.1 ∈ A.map (·.1) := by rw [← hk]; exact List.mem_map.2 ⟨q, hq, rfl⟩
    simp only [List.nil_append, List.map_append, List.mem_append]
    exact .inr h1
/-- What is not changed needs not be told. -/
theorem Eff.lessM {w w' : World} {A B : Heap} (h : Eff w (A ++ B) [] w') (hb : ∀ p ∈ B, w.heap[p.1]? = some p.2) : Eff w A [] w' := by
  have hnd := h.nd
  simp only [List.append_nil, List.map_append, List.nodup_append] at hnd
  refine ⟨h.os, h.tape, h.output, h.size, fun k hk hA => ?_, fun p hp => h.own p (by simp at hp; simp [hp]), fun p hp => by simp at hp, fun p hp => h.old p (by simp [hp]), by simpa using hnd.1⟩
  by_cases hm : ∃ p ∈ B, p.1 = k
  · obtain ⟨p, hp, rfl⟩ := hm
    rw [h.own p (by simp [hp]), hb p hp]
  · refine h.frame k hk fun p hp e => ?_
    rcases List.mem_append.1 hp with hp | hp
    · exact hA p hp e
    · exact hm ⟨p, hp, e⟩
theorem Eff.perm {W w : World} {M L L' : Heap} (h : Eff W M L w) (hp : L.Perm L') : Eff W M L' w :=
  ⟨h.os, h.tape, h.output, h.size, h.frame, fun p hq => h.own p (by rcases List.mem_append.1 hq with hq | hq; (· exact List.mem_append.2 (.inl hq)); exact List.mem_append.2 (.inr (hp.mem_iff.2 hq))), fun p hq => h.new p (hp.mem_iff.2 hq), h.old,
    (((List.Perm.append_left M hp).map (·.1)).nodup_iff).1 h.nd⟩
/-- What stays as it is may be told, too. -/
theorem Eff.addM {w w' : World} {A : Heap} {p : Nat × Obj} (h : Eff w A [] w') (hp : w.heap[p.1]? = some p.2) (hn : ∀ q ∈ A, q.1 ≠ p.1) : Eff w (p :: A) [] w' := by
  have hlt : p.1 < w.heap.size := by rw [Array.getElem?_eq_some_iff] at hp; exact hp.1
  refine ⟨h.os, h.tape, h.output, h.size, fun k hk hA => h.frame k hk fun q hq => hA q (by simp [hq]), fun q hq => ?_, fun q hq => by simp at hq, fun q hq => ?_, ?_⟩
  · rcases List.mem_cons.1 (by simpa using hq) with rfl | hq
    · rw [h.frame _ hlt hn]; exact hp
    · exact h.own q (by simp [hq])
  · rcases List.mem_cons.1 hq with rfl | hq
    · exact hlt
    · exact h.old q hq
  · have := h.nd
    simp only [List.append_nil] at this
    simp only [List.append_nil, List.map_cons, List.nodup_cons]
    refine ⟨fun hm => ?_, this⟩
    obtain ⟨q, hq, e⟩ := List.mem_map.1 hm
    exact hn q hq e
theorem Eff.permM {W w : World} {M M' : Heap} (h : Eff W M [] w) (hp : M.Perm M') : Eff W M' [] w :=
  ⟨h.os, h.tape, h.output, h.size, fun k hk hA => h.frame k hk fun q hq => hA q (hp.mem_iff.1 hq), fun p hq => h.own p (by simp at hq; simp [hp.mem_iff.2 hq]), fun p hq => by simp at hq, fun p hq => h.old p (hp.mem_iff.2 hq),
    by have := h.nd; simp only [List.append_nil] at this ⊢; exact ((hp.map (·.1)).nodup_iff).1 this⟩
theorem Eff.self {W w : World} {L A : Heap} (h : Eff W [] L w) (hs : SubP A L) : Eff w A [] w := by
  have h1 := h.sub hs
  have h2 := h1.nd
  refine ⟨rfl, rfl, rfl, Nat.le_refl _, fun _ _ _ => rfl, fun p hp => h1.own p (by simpa using hp), fun p hp => by simp at hp, fun p hp => h1.lt (by simp [hp]), by simpa using h2⟩

/-- Cells of a block that is known by whatever tells it. -/
theorem cFact {C : World → Prop} {b o : Nat} {l vs : List Value} {e : TypeId} {z : Nat × Nat} (h : ∀ w, C w → w.heap[b]? = some (.cells l.toArray e z)) (hs : sub l o vs.length = some vs) : Cells C b o vs := fun w hw j hj => by
  obtain ⟨_, h2⟩ := sub_spec _ _ _ _ hs
  rw [cell_blk (h w hw)]; exact h2 j hj
section
variable {P : Program} {Q : Exit → Act → World → Prop} {next : Act → World → Prop} {N : Nat} {S : Slots} {D : List Deferred} {W : World} {M L : Heap}
variable {d : Nat} {ty : TypeId} {pos : String} {af : Array Edge} {g : Option (Nat × Bool)}

/-- What a call of yield with some values comes to. -/
def YCs (P : Program) (l : Nat) (vs : List Value) (w : World) (R : Ending → World → Prop) : Prop :=
  ∃ f tmps assign body, (Instr.yield l vs.toArray).run P w = .ok (.round l f tmps assign body) w ∧ RoundIn (FW none) 0 P l f tmps assign body w R

theorem eYieldS {x : Operand} {xs : List Operand} {l : Nat} {vs : List Value} {tys : Array TypeId} {b : Bool} {L0 A A' : Heap} (hL : L0 = L ++ A) (hx : opd S x = some (.func (.yield l) #[] #[])) (ha : AllOpd S xs vs)
    (hy : ∀ w, Eff W [] (L ++ A) w → YCs P l vs w (fun e w' => e = .returned (.bool b) ∧ Eff w A' [] w')) (hk : A'.map (·.1) = A.map (·.1))
    (h : Tr (St N ((d, .bool b) :: S) D W [] (L ++ A')) next) :
    Tr (St N S D W [] L0) (opW P none N ⟨some d, .call ⟨.value x, xs.toArray, tys⟩, ty, pos, af, g⟩ next Q) := fun a w hs hN => by
  subst hL
  obtain ⟨f, tmps, assign, body, hr, hround⟩ := hy w hs.ef
  have hm := ha.map hs.knows
  have hex : (execOp a.eval ⟨some d, .call ⟨.value x, xs.toArray, tys⟩, ty, pos, af, g⟩).run P w = .ok (.round l f tmps assign body) w := by
    simp only [execOp, resolve, List.map_toArray, hm, hs.knows x _ hx, Deferred.ofValue, Sem.run_bind, Sem.run_pure, Result.andThen_ok, invoke]
    simpa using hr
  rw [semAt_nd rfl, hex]
  refine ⟨fun hd => by simp at hd, hround.mono ?_⟩
  rintro e w' ⟨rfl, hE⟩
  exact h _ _ ((hs.put (hN d rfl) _).eff (hs.ef.tail hE hk))

/-- A function that yields so many pairs of values, one after the other; all rounds go on, or the first one stops. R: the blocks that it knows; Ch: the others, by how many rounds there were. -/
def IterS (P : Program) (F : FuncId) (caps : List Value) (W : World) (R : Heap) (Inv : World → Prop) (vs : Nat → Value × Value) (n : Nat) (b : Bool) : Prop :=
  ∀ (l : Nat) (Ch : Nat → Heap) (w : World), (∀ i, (Ch i).map (·.1) = (Ch 0).map (·.1)) → (∀ i w L, Eff W [] (L ++ (R ++ Ch i)) w → Inv w) → Eff W [] (R ++ Ch 0) w →
    (∀ i, i < (if b then n else min 1 n) → ∀ w L, Eff W [] (L ++ (R ++ Ch i)) w → YCs P l [(vs i).1, (vs i).2] w (fun e w' => e = .returned (.bool b) ∧ Eff w (Ch (i + 1)) [] w')) →
    Calls P F (.func (.yield l) #[] #[] :: caps).toArray w (fun e w' => e = .returned (.tuple #[]) ∧ Eff W [] (R ++ Ch (if b then n else min 1 n)) w')

/-- A round ends, and the next one may come. -/
theorem rNormalS {l : Nat} {r : Loop} (hr : r.state = .ready ∧ r.pending = none) : Tr (St N S D W ((l, busyL r) :: M) L) (roundPost P l (fun e w' => e = .returned (.bool true) ∧ Eff W ((l, .loop r) :: M) [] w') .normal) := fun a w hs => by
  have hb := hs.ef.own (l, busyL r) (by simp)
  refine ⟨.bool true, { w with heap := w.heap.setIfInBounds l (.loop r) }, ?_, rfl, ?_⟩
  · have : ({ ({ r with state := .busy } : Loop) with state := .ready, pending := none } : Loop) = r := by
      obtain ⟨h1, h2⟩ := hr
      cases r; simp only at h1 h2; subst h1 h2; rfl
    simp only [Instr.endRound, Sem.run_bind, run_getLoop hb, Result.andThen_ok, Option.isNone_none, if_true, run_setLoop hb, this, Sem.run_pure]
  · exact hs.ef.set0.sub .n
/-- A round returns. -/
theorem rRetS {l : Nat} {r : Loop} : Tr (St N S D W ((l, busyL r) :: M) L) (roundPost P l (fun e w' => e = .returned (.bool false) ∧ Eff W ((l, retL r) :: M) [] w') .ret) := fun a w hs => by
  have hb := hs.ef.own (l, busyL r) (by simp)
  refine ⟨.bool false, { w with heap := w.heap.setIfInBounds l (retL r) }, ?_, rfl, hs.ef.set0.sub .n⟩
  simp [Instr.endRound, Sem.run_bind, run_getLoop hb, run_setLoop hb, retL]

theorem kRangeS {t1 t2 : Tmp} {x : Operand} {assign body : Code} {F : FuncId} {caps : List Value} (R : Heap) (Inv : World → Prop) (vs : Nat → Value × Value) (n : Nat) (b : Bool) (Kc : Nat → Heap)
    (hx : opd S x = some (.func (.func F) #[] caps.toArray)) (hF : callT P F = true) (hN1 : Nat.blt t1 N = true) (hN2 : Nat.blt t2 N = true) (hsub : SubP (R ++ Kc 0) L) (hkeys : ∀ i, (Kc i).map (·.1) = (Kc 0).map (·.1))
    (hI : IterS P F caps W R Inv vs n b) (hInv : ∀ i w L, Eff W [] (L ++ (R ++ Kc i)) w → Inv w)
    (hbody : ∀ l (r : Loop) i w, i < n → (r.state = .ready ∧ r.pending = none) → Tr (St N ((t2, (vs i).2) :: (t1, (vs i).1) :: S) [] w ((l, .loop r) :: (R ++ Kc i)) []) (WP P (some l) assign
      (Exit.then (fun a₁ w₁ => ∃ w₂, (Instr.beginRound l).run P w₁ = .ok () w₂ ∧ WP P (some l) body (roundPost P l (fun e w' => e = .returned (.bool b) ∧ Eff w ((l, if b then .loop r else retL r) :: (R ++ Kc (i + 1))) [] w')) a₁ w₂) (fun _ _ _ => False))))
    (hnone : (b = true ∨ n = 0) → ∀ r l o, Tr (St N S (markD r :: D) W [] ((l, o) :: (r, .deferred (some [])) :: (R ++ Kc n))) (Q .normal))
    (hsome : b = false → 0 < n → ∀ r l o, Tr (St N S (markD r :: D) W [] ((l, o) :: (r, .deferred (some [])) :: (R ++ Kc 1))) (Q .ret)) :
    Tr (St N S D W [] L) (WP P none (.rangeFunc x #[t1, t2] assign body) Q) := fun a w hs => by
  refine wpIn_rangeFunc fun fn _ => ?_
  have hlt1 : t1 < N := Nat.le_of_ble_eq_true hN1
  have hlt2 : t2 < N := Nat.le_of_ble_eq_true hN2
  let r : Nat := w.heap.size
  let l : Nat := w.heap.size + 1
  let rec_ : Loop := { state := .ready, pending := none, fn, tmps := a.tmps, params := #[t1, t2], assign, body, defers := r }
  have he0 : Eff W [] ((l, .loop rec_) :: (r, .deferred (some [])) :: L) { w with heap := (w.heap.push (.deferred (some []))).push (.loop rec_) } := by
    have h1 := hs.ef.alloc (.deferred (some []))
    have h2 := h1.alloc (.loop rec_)
    simpa [l, r] using h2
  generalize hw1 : ({ w with heap := (w.heap.push (.deferred (some []))).push (.loop rec_) } : World) = w1 at he0
  -- what changes: the record, and the blocks of the one who ranges
  let Ch : Nat → Heap := fun i => (l, if b = true ∨ i = 0 then .loop rec_ else retL rec_) :: (Kc i ++ [(r, .deferred (some []))])
  have hCk : ∀ i, (Ch i).map (·.1) = (Ch 0).map (·.1) := fun i => by simp [Ch, hkeys i]
  have hC0 : ∀ i, (b = true ∨ i = 0) → Ch i = (l, .loop rec_) :: (Kc i ++ [(r, .deferred (some []))]) := fun i hi => by simp only [Ch, if_pos hi]
  have pm : ∀ (p q : Nat × Obj) (A B : Heap), (p :: q :: (A ++ B)).Perm (A ++ (p :: (B ++ [q]))) := fun p q A B => by
    refine (List.Perm.cons _ ?_).trans (List.perm_middle (l₁ := A)).symm
    rw [← List.append_assoc]
    exact (List.perm_append_singleton _ _).symm
  have hE0 : Eff W [] (R ++ Ch 0) w1 := by
    rw [hC0 0 (.inr rfl)]
    exact (he0.sub (.c 0 rfl (.c 0 rfl hsub))).perm (pm _ _ _ _)
  have hCI : ∀ i w L, Eff W [] (L ++ (R ++ Ch i)) w → Inv w := fun i w L h => by
    have h2 : Eff W [] ((L ++ [(l, if b = true ∨ i = 0 then .loop rec_ else retL rec_), (r, .deferred (some []))]) ++ (R ++ Kc i)) w := by
      rw [List.append_assoc]
      exact h.perm (List.Perm.append_left _ (pm _ _ _ _).symm)
    exact hInv i w _ h2
  have hc := hI l Ch w1 hCk hCI hE0 (fun i hi w' L' hw' => by
    have hin : i < n := by cases b <;> simp at hi <;> omega
    have hb0 : b = true ∨ i = 0 := by cases b with
      | true => exact .inl rfl
      | false => simp at hi; exact .inr (by omega)
    rw [hC0 i hb0] at hw'
    have hw2 : Eff W [] (L' ++ ((l, .loop rec_) :: (r, .deferred (some [])) :: (R ++ Kc i))) w' := hw'.perm (List.Perm.append_left _ (pm _ _ _ _).symm)
    have hE' : Eff w' ((l, .loop rec_) :: (R ++ Kc i)) [] w' := (hw2.sub SubP.tail).self (.c 0 rfl (.d 0 .r))
    have hl' : w'.heap[l]? = some (.loop rec_) := hE'.own (l, .loop rec_) (by simp)
    refine ⟨fn, (a.tmps.setIfInBounds t1 (vs i).1).setIfInBounds t2 (vs i).2, assign, body, ?_, ?_⟩
    · simp [Instr.yield, run_getLoop hl', Sem.run_bind, Sem.run_pure, rec_]
    · have h3 := hbody l rec_ i w' hin ⟨rfl, rfl⟩ { tmps := (a.tmps.setIfInBounds t1 (vs i).1).setIfInBounds t2 (vs i).2, defers := [] } w' ⟨by simp [hs.sz], fun u v hu => ?_, rfl, hE'⟩
      · have h3' : RoundIn (FW none) 0 P l fn ((a.tmps.setIfInBounds t1 (vs i).1).setIfInBounds t2 (vs i).2) assign body w' (fun e w'' => e = .returned (.bool b) ∧ Eff w' ((l, if b then .loop rec_ else retL rec_) :: (R ++ Kc (i + 1))) [] w'') := by
          refine roundIn_of_wpIn trivial ?_
          exact h3
        refine h3'.mono ?_
        rintro e w'' ⟨rfl, hE''⟩
        refine ⟨rfl, ?_⟩
        have h0 := hw2.sub SubP.tail
        have hnd := h0.nd
        have hr' : w'.heap[r]? = some (.deferred (some [])) := h0.own (r, .deferred (some [])) (by simp)
        have h4 := hE''.addM (p := (r, .deferred (some []))) hr' (fun q hq e => by
          simp only [List.nil_append, List.map_cons, List.nodup_cons] at hnd
          have h5 : q.1 ∈ (l :: (R ++ Kc i).map (·.1)) := by
            have : q.1 ∈ ((l, if b then Obj.loop rec_ else retL rec_) :: (R ++ Kc (i + 1))).map (·.1) := List.mem_map.2 ⟨q, hq, rfl⟩
            simpa [hkeys (i + 1), hkeys i] using this
          rcases List.mem_cons.1 h5 with h6 | h6
          · exact hnd.1 (by rw [List.mem_cons]; exact .inl (h6.symm.trans e))
          · exact hnd.2.1 ((show q.1 = r from e) ▸ h6))
        have hl2 : (if b = true then Obj.loop rec_ else retL rec_) = (if b = true ∨ i + 1 = 0 then Obj.loop rec_ else retL rec_) := by
          cases b <;> simp
        have h7 : Eff w' (Ch (i + 1) ++ R) [] w'' := by
          refine h4.permM ?_
          simp only [Ch, hl2]
          refine (List.Perm.swap _ _ _).trans ?_
          refine List.Perm.cons _ ?_
          refine ((List.perm_append_comm (l₁ := R) (l₂ := Kc (i + 1))).cons _).trans ?_
          show List.Perm _ ((Kc (i + 1) ++ [(r, Obj.deferred (some []))]) ++ R)
          rw [List.append_assoc]
          exact (List.perm_middle (l₁ := Kc (i + 1)) (l₂ := R)).symm
        exact h7.lessM fun p hp => h0.own p (by simp [hp])
      · rw [look_cons] at hu
        show ((a.tmps.setIfInBounds t1 (vs i).1).setIfInBounds t2 (vs i).2)[u]? = some v
        rw [Array.getElem?_setIfInBounds]
        split at hu
        · rename_i h; subst h; rw [if_pos rfl, Array.size_setIfInBounds, hs.sz, if_pos hlt2]; exact hu
        · rename_i h; rw [if_neg h]
          rw [look_cons] at hu
          rw [Array.getElem?_setIfInBounds]
          split at hu
          · rename_i h; subst h; rw [if_pos rfl, hs.sz, if_pos hlt1]; exact hu
          · rename_i h; rw [if_neg h]; exact hs.sl u v hu)
  refine ⟨l, [markD r], w1, { target := .fn (.func F) caps.toArray, args := #[.func (.yield l) #[] #[]] }, w1, F, (.func (.yield l) #[] #[] :: caps).toArray, w1, ?_, ?_, fun _ _ => trivial, ?_, fun h => by simp at h, ?_⟩
  · subst hw1
    simp [Instr.enterLoop, newObj, Sem.run, Sem.run_bind, l, r, rec_, markD]
    rfl
  · have h0 : a.eval x = .func (.func F) #[] caps.toArray := hs.knows x _ hx
    have h1 : (#[Operand.const (.func (.yield l) #[] #[])].map a.eval) = #[.func (.yield l) #[] #[]] := by simp [Act.eval]
    simp only [resolve, h0, h1, Deferred.ofValue, Sem.run_pure]
    simp
  · have := run_callFunc hF (.func (.yield l) #[] #[] :: caps).toArray w1
    simpa [invoke] using this
  · refine (callsIn_wide (n := 0)).2 (hc.mono ?_)
    rintro e w3 ⟨rfl, hE⟩
    by_cases hk : b = true ∨ n = 0
    · have hk' : (if b = true then n else min 1 n) = n := by rcases hk with rfl | rfl <;> simp
      rw [hk', hC0 n hk] at hE
      have hE1 : Eff W [] ((l, .loop rec_) :: (r, .deferred (some [])) :: (R ++ Kc n)) w3 := hE.perm (pm _ _ _ _).symm
      have hl3 : w3.heap[l]? = some (.loop rec_) := hE1.own (l, .loop rec_) (by simp)
      have hl3' : l < w3.heap.size := by rw [Array.getElem?_eq_some_iff] at hl3; exact hl3.1
      refine ⟨none, { w3 with heap := w3.heap.setIfInBounds l (.loop { rec_ with state := .exhausted }) }, ?_, ?_⟩
      · simp [Instr.endLoop, run_getLoop hl3, run_setLoop hl3, Sem.run_bind, rec_]
      · refine hnone hk r l (.loop { rec_ with state := .exhausted }) _ _ ⟨hs.sz, hs.sl, by simp [hs.df], ?_⟩
        exact hE1.updL (w' := { w3 with heap := w3.heap.setIfInBounds l (.loop { rec_ with state := .exhausted }) }) (i := 0) (b := l) rfl (by simp [hl3']) (fun k hk => by simp only [Array.getElem?_setIfInBounds]; rw [if_neg (Ne.symm hk)]) (by simp) rfl rfl rfl
    · have hb : b = false := by cases b <;> simp at hk ⊢
      have hn : 0 < n := by omega
      subst hb
      have hk' : (if false = true then n else min 1 n) = 1 := by simp; omega
      have hC1 : Ch 1 = (l, retL rec_) :: (Kc 1 ++ [(r, .deferred (some []))]) := by simp [Ch]
      rw [hk', hC1] at hE
      have hE1 : Eff W [] ((l, retL rec_) :: (r, .deferred (some [])) :: (R ++ Kc 1)) w3 := hE.perm (pm _ _ _ _).symm
      have hl3 : w3.heap[l]? = some (retL rec_) := hE1.own (l, retL rec_) (by simp)
      have hl3' : l < w3.heap.size := by rw [Array.getElem?_eq_some_iff] at hl3; exact hl3.1
      refine ⟨some .ret, { w3 with heap := w3.heap.setIfInBounds l (.loop { rec_ with state := .exhausted, pending := some .ret }) }, ?_, ?_⟩
      · simp [Instr.endLoop, run_getLoop hl3, run_setLoop hl3, Sem.run_bind, rec_]
      · refine wpIn_ret (hsome rfl hn r l (.loop { rec_ with state := .exhausted, pending := some .ret }) _ _ ⟨hs.sz, hs.sl, by simp [hs.df], ?_⟩)
        exact hE1.updL (w' := { w3 with heap := w3.heap.setIfInBounds l (.loop { rec_ with state := .exhausted, pending := some .ret }) }) (i := 0) (b := l) rfl (by simp [hl3']) (fun k hk => by simp only [Array.getElem?_setIfInBounds]; rw [if_neg (Ne.symm hk)]) (by simp) rfl rfl rfl
end
end ZW
