/-
  The engine, eighth part: a deferred closure that asks recover and hands what comes to a function; the ends of functions that defer one.
-/
import Derived.Test.YtlcdohhhhlhpmaaEngG
import Derived.RecoverIn
namespace ZW
open Go

theorem callsDIn_wide_of_wpS {P : Program} {f : FuncId} {fn : Func} {c : Code} {args : Array Value} {u : FrameMode} {w : World} {R : Ending → FrameMode → World → Prop}
    (hf : P.funcs[f]? = some fn) (hb : fn.body = some c)
    (h : ∀ (c₀ : Frame) (cs : List Frame), c₀.mode = u →
      c.wpS P (bodyPostS P fn c₀ cs R) { tmps := args ++ Array.replicate (fn.ntmps - args.size) undef, defers := [] } (c₀ :: cs) w) :
    CallsDIn (FW none) 0 P f args u w R := by
  refine ⟨trivial, fun c₀ cs hu _ => ?_⟩
  let b : Frame := { (default : Frame) with fn := f, kind := .deferred }
  have henter : Frame.enter P f args .deferred =
      b.at { tmps := args ++ Array.replicate (fn.ntmps - args.size) undef, defers := [] } [.code c] := by
    simp [Frame.enter, Frame.at, hf, hb, b]
  obtain ⟨e, a', cs', w', hq, harr⟩ := h c₀ cs hu b [] rfl rfl
  rw [← henter] at harr
  cases e with
  | normal =>
    obtain ⟨hd, u', rfl, v, hr, hR⟩ := hq
    exact ⟨.returned v, u', w', _, hR, comesIn_wide.2 (Steps.trans harr (.one step_end)), rfl, rfl, rfl, hd, fn, hf, hr⟩
  | ret =>
    obtain ⟨hd, u', rfl, v, hr, hR⟩ := hq
    obtain ⟨todo, hs⟩ := harr
    exact ⟨.returned v, u', w', _, hR, comesIn_wide.2 hs, rfl, rfl, rfl, hd, fn, hf, hr⟩
  | panic chain =>
    obtain ⟨hd, u', rfl, hR⟩ := hq
    obtain ⟨todo, hs⟩ := harr
    exact ⟨.panicked chain, u', w', _, hR, comesIn_wide.2 hs, rfl, rfl, rfl, hd, fn, hf⟩
  | exit id => exact hq.elim
  | goto l => exact hq.elim
  | outgrown =>
    obtain ⟨u', hR⟩ := hq
    exact ⟨.outgrown, u', w', b, hR, comesIn_wide.2 (harr.resolve_left (by simp [b])), rfl, rfl, trivial⟩

section
variable {P : Program}

/-- The closure 'func() { g(recover(), p) }', entered as a deferred call. -/
theorem catchD {f g : FuncId} {fn : Func} {id : Nat} {T1 T2 : TypeId} {p1 p2 : String} {af1 af2 : Array Edge} {tys : Array TypeId} {v0 : Value} {w : World} {u u' : FrameMode} {x : Value} {X : World → Prop}
    (hf : P.funcs[f]? = some fn)
    (hb : fn.body = some (.region id #[⟨some 1, .call ⟨.builtin .recover, #[], #[]⟩, T1, p1, af1, none⟩, ⟨some 2, .call ⟨.value (.func g), #[.tmp 1, .tmp 0], tys⟩, T2, p2, af2, none⟩] false))
    (hn : fn.ntmps = 3) (hr : fn.results = #[]) (hg : callT P g = true)
    (hrec : ∀ (c₀ : Frame) (cs : List Frame), c₀.mode = u → (match recoverD (c₀ :: cs) with | some (v, cs') => v = x ∧ cs' = { c₀ with mode := u' } :: cs | none => x = .nilIface ∧ u' = u))
    (hc : Calls P g #[x, v0] w (fun e w' => (∃ v, e = .returned v) ∧ X w')) :
    CallsDIn (FW none) 0 P f #[v0] u w (fun e m w' => (∃ v, e = .returned v) ∧ m = u' ∧ X w') := by
  refine callsDIn_wide_of_wpS hf hb fun c₀ cs hu => wpS_region ?_
  have h1 : ∀ ρ : Operand → Value, (execOp ρ ⟨some 1, .call ⟨.builtin .recover, #[], #[]⟩, T1, p1, af1, none⟩).run P w = .ok .recover w := fun ρ => by
    simp [execOp, resolve, invoke, builtin, Sem.run_pure]
  have hz : (List.range 2) = [0, 1] := rfl
  have hrc := hrec c₀ cs hu
  have key : ∀ cs', cs' = { c₀ with mode := u' } :: cs → wpOpsS P #[⟨some 1, .call ⟨.builtin .recover, #[], #[]⟩, T1, p1, af1, none⟩, ⟨some 2, .call ⟨.value (.func g), #[.tmp 1, .tmp 0], tys⟩, T2, p2, af2, none⟩]
      (bodyPostS P fn c₀ cs (fun e m w' => (∃ v, e = .returned v) ∧ m = u' ∧ X w')) [1] (({ tmps := #[v0, undef, undef], defers := [] } : Act).put (some 1) x) cs' w := by
    intro cs' hcs
    have hev : ((({ tmps := #[v0, undef, undef], defers := [] } : Act).put (some 1) x).eval) (.tmp 1) = x ∧ ((({ tmps := #[v0, undef, undef], defers := [] } : Act).put (some 1) x).eval) (.tmp 0) = v0 := by
      simp [Act.eval, Act.put]
    have h2 : (execOp (({ tmps := #[v0, undef, undef], defers := [] } : Act).put (some 1) x).eval ⟨some 2, .call ⟨.value (.func g), #[.tmp 1, .tmp 0], tys⟩, T2, p2, af2, none⟩).run P w = .ok (.enter g #[x, v0]) w := by
      have := run_callFunc hg #[x, v0] w
      have h3 : ((({ tmps := #[v0, undef, undef], defers := [] } : Act).put (some 1) x).eval) (.func g) = .func (.func g) #[] #[] := rfl
      simp only [execOp, resolve, List.map_toArray, List.map_cons, List.map_nil, hev.1, hev.2, h3, Deferred.ofValue, Sem.run_bind, Sem.run_pure, Result.andThen_ok, invoke]
      simpa using this
    simp only [wpOpsS, List.getElem?_toArray, List.getElem?_cons_succ, List.getElem?_cons_zero, Region.wanted, if_true, h2, Oper.upon]
    refine hc.mono ?_
    rintro e w' ⟨⟨v, rfl⟩, hX⟩
    subst hcs
    refine ⟨by simp [Act.put], u', rfl, .tuple #[], ?_, ⟨_, rfl⟩, rfl, hX⟩
    simp [results, hr, Sem.run_pure]
  rw [show (#[(⟨some 1, .call ⟨.builtin .recover, #[], #[]⟩, T1, p1, af1, none⟩ : Oper), ⟨some 2, .call ⟨.value (.func g), #[.tmp 1, .tmp 0], tys⟩, T2, p2, af2, none⟩] : Array Oper).size = 2 from rfl, hz]
  have ht : (#[v0] ++ Array.replicate (fn.ntmps - #[v0].size) undef : Array Value) = #[v0, undef, undef] := by rw [hn]; rfl
  rw [ht, wpOpsS]
  simp only [List.getElem?_toArray, List.getElem?_cons_zero, Region.wanted, if_true, h1]
  cases hd : recoverD (c₀ :: cs) with
  | none =>
    simp only [hd] at hrc
    obtain ⟨rfl, rfl⟩ := hrc
    refine key _ ?_
    cases c₀; subst hu; rfl
  | some r =>
    obtain ⟨v, cs'⟩ := r
    simp only [hd] at hrc
    obtain ⟨rfl, rfl⟩ := hrc
    exact key _ rfl

variable {N : Nat} {S : Slots} {W : World} {M L : Heap}

/-- Blocks that were known are written by a call. -/
theorem Eff.merge {w w' : World} {M1 L1 : Heap} (M' L' : Heap) (h : Eff W M L w) (h' : Eff w M1 L1 w') (hM : M'.map (·.1) = M.map (·.1)) (hL : L'.map (·.1) = L.map (·.1))
    (hs : ∀ p ∈ M' ++ L', p ∈ M1 ∨ (p ∈ M ++ L ∧ ∀ q ∈ M1, q.1 ≠ p.1)) (h1 : ∀ q ∈ M1, q.1 ∈ (M ++ L).map (·.1)) : Eff W M' (L1 ++ L') w' := by
  have hkM : ∀ p ∈ M', p.1 ∈ M.map (·.1) := fun p hp => by rw [← hM]; exact List.mem_map.2 ⟨p, hp, rfl⟩
  have hkL : ∀ p ∈ L', p.1 ∈ L.map (·.1) := fun p hp => by rw [← hL]; exact List.mem_map.2 ⟨p, hp, rfl⟩
  have hown : ∀ p ∈ M' ++ L', w'.heap[p.1]? = some p.2 := fun p hp => by
    rcases hs p hp with h2 | ⟨h2, h3⟩
    · exact h'.own p (by simp [h2])
    · rw [h'.frame _ (h.lt h2) h3]; exact h.own p h2
  refine ⟨h'.os.trans h.os, h'.tape.trans h.tape, h'.output.trans h.output, Nat.le_trans h.size h'.size, fun k hk hkM' => ?_, fun p hp => ?_, fun p hp => ?_, fun p hp => ?_, ?_⟩
  · have hnM : ∀ p ∈ M, p.1 ≠ k := fun p hp e => by
      have : p.1 ∈ M'.map (·.1) := by rw [hM]; exact List.mem_map.2 ⟨p, hp, rfl⟩
      obtain ⟨q, hq, hqe⟩ := List.mem_map.1 this
      exact hkM' q hq (hqe.trans e)
    have hn1 : ∀ q ∈ M1, q.1 ≠ k := fun q hq e => by
      obtain ⟨p, hp, hpe⟩ := List.mem_map.1 (h1 q hq)
      rcases List.mem_append.1 hp with hp | hp
      · exact hnM p hp (hpe.trans e)
      · have := h.new p hp; omega
    rw [h'.frame k (Nat.lt_of_lt_of_le hk h.size) hn1]
    exact h.frame k hk hnM
  · rcases List.mem_append.1 hp with hp | hp
    · exact hown p (by simp [hp])
    · rcases List.mem_append.1 hp with hp | hp
      · exact h'.own p (by simp [hp])
      · exact hown p (by simp [hp])
  · rcases List.mem_append.1 hp with hp | hp
    · exact Nat.le_trans h.size (h'.new p hp)
    · obtain ⟨q, hq, hqe⟩ := List.mem_map.1 (hkL p hp)
      rw [← hqe]; exact h.new q hq
  · obtain ⟨q, hq, hqe⟩ := List.mem_map.1 (hkM p hp)
    rw [← hqe]; exact h.old q hq
  · have hnd := h.nd
    have hnd' := h'.nd
    simp only [List.map_append, List.nodup_append, List.mem_append, hM, hL] at hnd hnd' ⊢
    have hd : ∀ a ∈ L1.map (·.1), ∀ b ∈ (M ++ L).map (·.1), a ≠ b := by
      intro a ha b hb e
      obtain ⟨p, hp, rfl⟩ := List.mem_map.1 ha
      obtain ⟨q, hq, rfl⟩ := List.mem_map.1 hb
      have hx := h'.new p hp
      have hy := h.lt hq
      omega
    refine ⟨hnd.1, ⟨hnd'.2.1, hnd.2.1, fun a ha b hb => hd a ha b (by simp only [List.map_append, List.mem_append]; exact .inr hb)⟩, ?_⟩
    intro a ha b hb
    rcases hb with hb | hb
    · exact fun e => hd b hb a (by simp only [List.map_append, List.mem_append]; exact .inl ha) e.symm
    · exact hnd.2.2 a ha b hb

theorem upd_mem' {H : Heap} {i b : Nat} {x o : Obj} (hi : H[i]? = some (b, x)) (hn : (H.map (·.1)).Nodup) : ∀ p ∈ upd H i o, p = (b, o) ∨ (p ∈ H ∧ p.1 ≠ b) := fun p hp => by
  rcases upd_mem H i o b x hi hn p hp with ⟨h1, h2⟩ | h
  · exact .inl (Prod.ext h1 h2)
  · exact .inr h

/-- One of the new blocks. -/
theorem Eff.wroteL {w w' : World} {i b : Nat} {x o : Obj} {L1 : Heap} (h : Eff W M L w) (hi : L[i]? = some (b, x)) (h' : Eff w [(b, o)] L1 w') : Eff W M (L1 ++ upd L i o) w' := by
  have hnd := h.nd
  rw [List.map_append, List.nodup_append] at hnd
  have hb := List.mem_of_getElem? hi
  refine h.merge M (upd L i o) h' rfl (upd_keys _ _ _) (fun p hp => ?_) (fun q hq => ?_)
  · rcases List.mem_append.1 hp with hp | hp
    · refine .inr ⟨by simp [hp], fun q hq => ?_⟩
      simp only [List.mem_singleton] at hq
      subst hq
      exact fun e => hnd.2.2 p.1 (List.mem_map.2 ⟨p, hp, rfl⟩) b (List.mem_map.2 ⟨_, hb, rfl⟩) e.symm
    · rcases upd_mem' hi hnd.2.1 p hp with rfl | ⟨h2, h3⟩
      · exact .inl (by simp)
      · refine .inr ⟨by simp [h2], fun q hq => ?_⟩
        simp only [List.mem_singleton] at hq
        subst hq
        exact Ne.symm h3
  · simp only [List.mem_singleton] at hq
    subst hq
    exact List.mem_map.2 ⟨_, List.mem_append.2 (.inr hb), rfl⟩
/-- One of the blocks that were there. -/
theorem Eff.wroteM {w w' : World} {i b : Nat} {x o : Obj} {L1 : Heap} (h : Eff W M L w) (hi : M[i]? = some (b, x)) (h' : Eff w [(b, o)] L1 w') : Eff W (upd M i o) (L1 ++ L) w' := by
  have hnd := h.nd
  rw [List.map_append, List.nodup_append] at hnd
  have hb := List.mem_of_getElem? hi
  refine h.merge (upd M i o) L h' (upd_keys _ _ _) rfl (fun p hp => ?_) (fun q hq => ?_)
  · rcases List.mem_append.1 hp with hp | hp
    · rcases upd_mem' hi hnd.1 p hp with rfl | ⟨h2, h3⟩
      · exact .inl (by simp)
      · refine .inr ⟨by simp [h2], fun q hq => ?_⟩
        simp only [List.mem_singleton] at hq
        subst hq
        exact Ne.symm h3
    · refine .inr ⟨by simp [hp], fun q hq => ?_⟩
      simp only [List.mem_singleton] at hq
      subst hq
      exact fun e => hnd.2.2 b (List.mem_map.2 ⟨_, hb, rfl⟩) p.1 (List.mem_map.2 ⟨p, hp, rfl⟩) e
  · simp only [List.mem_singleton] at hq
    subst hq
    exact List.mem_map.2 ⟨_, List.mem_append.2 (.inl hb), rfl⟩

abbrev dfr (f : FuncId) (p : Value) : Deferred := { target := .fn (.func f) [p].toArray, args := [].toArray }

theorem leavesIn_dfr {fn : Func} {tmps : Array Value} {R : Ending → World → Prop} {f : FuncId} {p : Value} {ds : List Deferred} {u : FrameMode} {w : World} (hu : u ≠ .run) (hg : callT P f = true)
    (h : CallsDIn (FW none) 0 P f #[p] u w fun
          | .returned _, u', w' => LeavesInM (FW none) 0 P fn tmps R ds (settle u') w'
          | .panicked chain, u', w' => LeavesInM (FW none) 0 P fn tmps R ds (raised u' chain) w'
          | .outgrown, _, w' => R .outgrown w') : LeavesInM (FW none) 0 P fn tmps R (dfr f p :: ds) u w :=
  ⟨hu, .inr ⟨fun h => by simp at h, .func f, #[p], f, #[p], rfl, by simpa [invoke] using run_callFunc hg #[p] w, fun _ _ => trivial, h⟩⟩

/-- The end of a function that has deferred such a closure, by return. -/
theorem fRetD {fn : Func} {rs : List ResultVar} {vs : List Value} {R : Ending → World → Prop} {f : FuncId} {p : Value} (hg : callT P f = true) (hr : fn.results = rs.toArray) (h : ResV P S (Eff W M L) rs vs)
    (hd : ∀ w, Eff W M L w → CallsDIn (FW none) 0 P f #[p] .returning w (fun e u' w' => (∃ v, e = .returned v) ∧ u' = .returning ∧ Eff w [] [] w'))
    (k : ∀ w, Eff W M L w → R (.returned (packV vs)) w) : Tr (St N S [dfr f p] W M L) (bodyPostM (FW none) 0 P fn R .ret) := fun a w hs => by
  show LeavesInM (FW none) 0 P fn a.tmps R a.defers .returning w
  rw [hs.df]
  refine leavesIn_dfr (by simp) hg ((hd w hs.ef).mono ?_)
  rintro e u' w' ⟨⟨v, rfl⟩, rfl, hE⟩
  have hE' : Eff W M L w' := by simpa using hs.ef.trans hE
  exact ⟨_, run_results hr h hE' hs.sl, k w' hE'⟩
theorem fEndD {fn : Func} {rs : List ResultVar} {vs : List Value} {R : Ending → World → Prop} {f : FuncId} {p : Value} (hg : callT P f = true) (hr : fn.results = rs.toArray) (h : ResV P S (Eff W M L) rs vs)
    (hd : ∀ w, Eff W M L w → CallsDIn (FW none) 0 P f #[p] .returning w (fun e u' w' => (∃ v, e = .returned v) ∧ u' = .returning ∧ Eff w [] [] w'))
    (k : ∀ w, Eff W M L w → R (.returned (packV vs)) w) : Tr (St N S [dfr f p] W M L) (bodyPostM (FW none) 0 P fn R .normal) := fRetD hg hr h hd k
/-- By a panic that the closure recovers. -/
theorem fPanD {fn : Func} {rs : List ResultVar} {vs : List Value} {R : Ending → World → Prop} {f : FuncId} {p pv : Value} {L' : Heap} (hg : callT P f = true) (hr : fn.results = rs.toArray) (h : ResV P S (Eff W M L') rs vs)
    (hd : ∀ w, Eff W M L w → CallsDIn (FW none) 0 P f #[p] (.panicking [{ v := pv, recovered := false }]) w (fun e u' w' => (∃ v, e = .returned v) ∧ u' = .panicking [{ v := pv, recovered := true }] ∧ Eff W M L' w'))
    (k : ∀ w, Eff W M L' w → R (.returned (packV vs)) w) : Tr (St N S [dfr f p] W M L) (bodyPostM (FW none) 0 P fn R (.panic [{ v := pv, recovered := false }])) := fun a w hs => by
  show LeavesInM (FW none) 0 P fn a.tmps R a.defers (.panicking _) w
  rw [hs.df]
  refine leavesIn_dfr (by simp) hg ((hd w hs.ef).mono ?_)
  rintro e u' w' ⟨⟨v, rfl⟩, rfl, hE⟩
  exact ⟨_, run_results hr h hE hs.sl, k w' hE⟩

theorem recover_idle (c₀ : Frame) (cs : List Frame) (h : c₀.mode = .returning) : match recoverD (c₀ :: cs) with | some (v, cs') => v = Value.nilIface ∧ cs' = { c₀ with mode := .returning } :: cs | none => Value.nilIface = .nilIface ∧ FrameMode.returning = .returning := by
  simp [recoverD, h]
theorem recover_some (pv : Value) (c₀ : Frame) (cs : List Frame) (h : c₀.mode = .panicking [{ v := pv, recovered := false }]) :
    match recoverD (c₀ :: cs) with | some (v, cs') => v = pv ∧ cs' = { c₀ with mode := .panicking [{ v := pv, recovered := true }] } :: cs | none => pv = .nilIface ∧ FrameMode.panicking [{ v := pv, recovered := true }] = .panicking [{ v := pv, recovered := false }] := by
  simp [recoverD, h]
end
end ZW
