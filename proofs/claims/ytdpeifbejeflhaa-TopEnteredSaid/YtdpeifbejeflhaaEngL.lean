/-
  The engine: ranging over a function whose rounds make blocks, too; all rounds go on, or one of them stops, by a return or by a break.
-/
import Derived.Test.YtdpeifbejeflhaaE3
namespace ZW
open Go

theorem SubP.h {p : Nat × Obj} {r L L' : Heap} (h : L = p :: L') (k : SubP r L') : SubP (p :: r) L := by subst h; exact .c 0 rfl k
theorem SubP.k {p : Nat × Obj} {r L L' : Heap} (h : L = p :: L') (k : SubP r L') : SubP r L := by subst h; exact .d 0 k
abbrev stopL (jump : Code) (r : Loop) : Obj := .loop { r with state := .done, pending := some jump }
section
variable {P : Program} {ro : Option Nat} {Q : Exit → Act → World → Prop} {next : Act → World → Prop} {N : Nat} {S : Slots} {D : List Deferred} {W : World} {M L : Heap}
variable {d : Nat} {ty : TypeId} {pos : String} {af : Array Edge} {g : Option (Nat × Bool)}

/-- What was there, and is as it was, may be told, too. -/
theorem tellM {F : Act → World → Prop} {b : Nat} {o : Obj} (h : W.heap[b]? = some o) (k : Tr (St N S D W [(b, o)] L) F) : Tr (St N S D W [] L) F := fun a w hs => by
  refine k a w (hs.eff ?_)
  have hE := hs.ef
  have hlt : b < W.heap.size := by rw [Array.getElem?_eq_some_iff] at h; exact h.1
  refine ⟨hE.os, hE.tape, hE.output, hE.size, fun k hk hA => hE.frame k hk (by simp), fun p hp => ?_, hE.new, fun p hp => ?_, ?_⟩
  · rcases List.mem_cons.1 (by simpa using hp) with rfl | hp
    · rw [hE.frame _ hlt (by simp)]; exact h
    · exact hE.own p (by simpa using hp)
  · simp only [List.mem_singleton] at hp; subst hp; exact hlt
  · have hnd := hE.nd
    simp only [List.nil_append] at hnd
    simp only [List.cons_append, List.nil_append, List.map_cons, List.nodup_cons]
    refine ⟨fun hm => ?_, hnd⟩
    obtain ⟨q, hq, e⟩ := List.mem_map.1 hm
    have := hE.new q hq
    omega
theorem Eff.setL {w : World} {i l : Nat} {o o' : Obj} (h : Eff W M L w) (hi : L[i]? = some (l, o)) : Eff W M (upd L i o') { w with heap := w.heap.setIfInBounds l o' } := by
  have hb := h.own _ (List.mem_append.2 (.inr (List.mem_of_getElem? hi)))
  have hlt : l < w.heap.size := by rw [Array.getElem?_eq_some_iff] at hb; exact hb.1
  exact h.updL hi (by simp [hlt]) (fun k hk => by simp only [Array.getElem?_setIfInBounds]; rw [if_neg (Ne.symm hk)]) (by simp) rfl rfl rfl

/-- A call of yield: what is known behind it is as told. -/
theorem eYieldE {ι : Type} {x : Operand} {xs : List Operand} {l : Nat} {u : Value} {tys : Array TypeId} {φ : ι → Prop} {v : ι → Value} {L' : ι → Heap} (hx : opd S x = some (.func (.yield l) #[] #[])) (ha : AllOpd S xs [u])
    (hy : ∀ w, Eff W M L w → YC P l u w (RetE W M φ v L')) (k : ∀ y, φ y → Tr (St N ((d, v y) :: S) D W M (L' y)) next) :
    Tr (St N S D W M L) (opW P none N ⟨some d, .call ⟨.value x, xs.toArray, tys⟩, ty, pos, af, g⟩ next Q) := fun a w hs hN => by
  obtain ⟨f, tmps, assign, body, hr, hround⟩ := hy w hs.ef
  have hm := ha.map hs.knows
  have hex : (execOp a.eval ⟨some d, .call ⟨.value x, xs.toArray, tys⟩, ty, pos, af, g⟩).run P w = .ok (.round l f tmps assign body) w := by
    simp only [execOp, resolve, List.map_toArray, hm, hs.knows x _ hx, Deferred.ofValue, Sem.run_bind, Sem.run_pure, Result.andThen_ok, invoke]
    simpa using hr
  rw [semAt_nd rfl, hex]
  refine ⟨fun hd => by simp at hd, hround.mono ?_⟩
  rintro e w' ⟨y, hy, rfl, hE⟩
  exact k y hy _ _ ((hs.put (hN d rfl) _).eff hE)

/-- What yield comes to, of one who ranges: its blocks C, held beside what the function holds. -/
def YT (P : Program) (l : Nat) (v : Value) (W : World) (R C : Heap) (go : Bool) (χ : Heap → Prop) : Prop :=
  ∀ w L, Eff W [] (L ++ (R ++ C)) w → YC P l v w (RetE W [] χ (fun _ => .bool go) (fun C' => L ++ (R ++ C')))
/-- A function that yields n values; the rounds ahead of k go on, k (if there is one) stops. R: the own blocks of the one who ranges that it reads. -/
def IterC (P : Program) (F : FuncId) (caps : List Value) (W : World) (R : Heap) (vs : Nat → Value) (n k : Nat) : Prop :=
  ∀ (l : Nat) (φ : Nat → Heap → Prop) (ψ : Heap → Prop) (w : World) (C0 : Heap), φ 0 C0 → Eff W [] (R ++ C0) w →
    (∀ i C, i < k → φ i C → YT P l (vs i) W R C true (φ (i + 1))) → (k < n → ∀ C, φ k C → YT P l (vs k) W R C false ψ) →
    Calls P F (.func (.yield l) #[] #[] :: caps).toArray w (RetE W [] (fun C' => (n ≤ k ∧ φ n C') ∨ (k < n ∧ ψ C')) (fun _ => .tuple #[]) (fun C' => R ++ C'))

theorem permA (a b : Nat × Obj) (L R C : Heap) : (L ++ (R ++ (a :: b :: C))).Perm (a :: (R ++ (C ++ (b :: L)))) := by
  refine List.perm_append_comm.trans ?_
  rw [List.append_assoc]
  show List.Perm (R ++ (a :: ((b :: C) ++ L))) _
  refine List.perm_middle.trans (List.Perm.cons a (List.Perm.append_left R ?_))
  show List.Perm (b :: (C ++ L)) _
  exact List.perm_middle.symm
theorem permB (a b : Nat × Obj) (R C : Heap) : (R ++ (a :: b :: C)).Perm (a :: b :: (R ++ C)) := List.perm_middle.trans (List.Perm.cons a List.perm_middle)

/-! ### Rounds -/
theorem rBeginI {l i : Nat} {r : Loop} {body : Code} (hi : L[i]? = some (l, .loop r)) (hr : r.state = .ready) (h : Tr (St N S D W M (upd L i (busyL r))) (WP P (some l) body Q)) :
    Tr (St N S D W M L) (fun a w => ∃ w₂, (Instr.beginRound l).run P w = .ok () w₂ ∧ WP P (some l) body Q a w₂) := fun a w hs => by
  have hb := hs.ef.own _ (List.mem_append.2 (.inr (List.mem_of_getElem? hi)))
  refine ⟨{ w with heap := w.heap.setIfInBounds l (busyL r) }, ?_, h _ _ (hs.eff (hs.ef.setL hi))⟩
  simp only [Instr.beginRound, Sem.run_bind, run_getLoop hb, Result.andThen_ok, run_setLoop hb, hr, Sem.run_pure]
/-- A round ends, and the next one may come. -/
theorem rNormalI {l : Nat} {r : Loop} {χ : Heap → Prop} {R Z : Heap} (i : Nat) (hi : L[i]? = some (l, busyL r)) (hr : r.state = .ready ∧ r.pending = none) (C' : Heap) (hC : χ C') (hs : SubP ((l, .loop r) :: (R ++ (C' ++ Z))) (upd L i (.loop r))) :
    Tr (St N S D W [] L) (roundPost P l (RetE W [] χ (fun _ => .bool true) (fun C' => (l, .loop r) :: (R ++ (C' ++ Z)))) .normal) := fun a w hst => by
  have hb := hst.ef.own _ (List.mem_append.2 (.inr (List.mem_of_getElem? hi)))
  refine ⟨.bool true, { w with heap := w.heap.setIfInBounds l (.loop r) }, ?_, C', hC, rfl, ?_⟩
  · have : ({ ({ r with state := .busy } : Loop) with state := .ready, pending := none } : Loop) = r := by
      obtain ⟨h1, h2⟩ := hr
      cases r; simp only at h1 h2; subst h1 h2; rfl
    simp only [Instr.endRound, Sem.run_bind, run_getLoop hb, Result.andThen_ok, Option.isNone_none, if_true, run_setLoop hb, this, Sem.run_pure]
  · exact (hst.ef.setL (o' := .loop r) hi).sub hs
/-- A round returns, or breaks off. -/
theorem rRetI {l : Nat} {r : Loop} {χ : Heap → Prop} {R Z : Heap} (i : Nat) (hi : L[i]? = some (l, busyL r)) (C' : Heap) (hC : χ C') (hs : SubP ((l, stopL .ret r) :: (R ++ (C' ++ Z))) (upd L i (stopL .ret r))) :
    Tr (St N S D W [] L) (roundPost P l (RetE W [] χ (fun _ => .bool false) (fun C' => (l, stopL .ret r) :: (R ++ (C' ++ Z)))) .ret) := fun a w hst => by
  have hb := hst.ef.own _ (List.mem_append.2 (.inr (List.mem_of_getElem? hi)))
  refine ⟨.bool false, { w with heap := w.heap.setIfInBounds l (stopL .ret r) }, ?_, C', hC, rfl, (hst.ef.setL (o' := stopL .ret r) hi).sub hs⟩
  simp [Instr.endRound, Sem.run_bind, run_getLoop hb, run_setLoop hb, stopL]
theorem rExitI {l id : Nat} {r : Loop} {χ : Heap → Prop} {R Z : Heap} (i : Nat) (hi : L[i]? = some (l, busyL r)) (C' : Heap) (hC : χ C') (hs : SubP ((l, stopL (.exit id) r) :: (R ++ (C' ++ Z))) (upd L i (stopL (.exit id) r))) :
    Tr (St N S D W [] L) (roundPost P l (RetE W [] χ (fun _ => .bool false) (fun C' => (l, stopL (.exit id) r) :: (R ++ (C' ++ Z)))) (.exit id)) := fun a w hst => by
  have hb := hst.ef.own _ (List.mem_append.2 (.inr (List.mem_of_getElem? hi)))
  refine ⟨.bool false, { w with heap := w.heap.setIfInBounds l (stopL (.exit id) r) }, ?_, C', hC, rfl, (hst.ef.setL (o' := stopL (.exit id) r) hi).sub hs⟩
  simp [Instr.endRound, Sem.run_bind, run_getLoop hb, run_setLoop hb, stopL]

/-! ### The statement -/
theorem kRangeC {t : Tmp} {x : Operand} {assign body : Code} {F : FuncId} {caps : List Value} (jump : Code) (R : Heap) (vs : Nat → Value) (n k : Nat) (φ : Nat → Heap → Prop) (ψ : Heap → Prop) (C0 : Heap)
    (hx : opd S x = some (.func (.func F) #[] caps.toArray)) (hF : callT P F = true) (hN : Nat.blt t N = true) (hsub : SubP (R ++ C0) L) (h0 : φ 0 C0) (hI : IterC P F caps W R vs n k)
    (hgo : ∀ l (r : Loop) i C Z, i < k → φ i C → (r.state = .ready ∧ r.pending = none) → Tr (St N ((t, vs i) :: S) [] W [] ((l, .loop r) :: (R ++ (C ++ Z)))) (WP P (some l) assign
      (Exit.then (fun a₁ w₁ => ∃ w₂, (Instr.beginRound l).run P w₁ = .ok () w₂ ∧ WP P (some l) body (roundPost P l (RetE W [] (φ (i + 1)) (fun _ => .bool true) (fun C' => (l, .loop r) :: (R ++ (C' ++ Z))))) a₁ w₂) (fun _ _ _ => False))))
    (hstop : k < n → ∀ l (r : Loop) C Z, φ k C → (r.state = .ready ∧ r.pending = none) → Tr (St N ((t, vs k) :: S) [] W [] ((l, .loop r) :: (R ++ (C ++ Z)))) (WP P (some l) assign
      (Exit.then (fun a₁ w₁ => ∃ w₂, (Instr.beginRound l).run P w₁ = .ok () w₂ ∧ WP P (some l) body (roundPost P l (RetE W [] ψ (fun _ => .bool false) (fun C' => (l, stopL jump r) :: (R ++ (C' ++ Z))))) a₁ w₂) (fun _ _ _ => False))))
    (hnone : n ≤ k → ∀ C, φ n C → ∀ r l o, Tr (St N S (markD r :: D) W [] ((l, o) :: (r, .deferred (some [])) :: (R ++ C))) (Q .normal))
    (hsome : k < n → ∀ C, ψ C → ∀ r l o, Tr (St N S (markD r :: D) W [] ((l, o) :: (r, .deferred (some [])) :: (R ++ C))) (WP P none jump Q)) :
    Tr (St N S D W [] L) (WP P none (.rangeFunc x #[t] assign body) Q) := fun a w hs => by
  refine wpIn_rangeFunc fun fn _ => ?_
  have hlt : t < N := Nat.le_of_ble_eq_true hN
  let r : Nat := w.heap.size
  let l : Nat := w.heap.size + 1
  let rec_ : Loop := { state := .ready, pending := none, fn, tmps := a.tmps, params := #[t], assign, body, defers := r }
  have he0 : Eff W [] ((l, .loop rec_) :: (r, .deferred (some [])) :: L) { w with heap := (w.heap.push (.deferred (some []))).push (.loop rec_) } := by
    have h1 := hs.ef.alloc (.deferred (some []))
    have h2 := h1.alloc (.loop rec_)
    simpa [l, r] using h2
  generalize hw1 : ({ w with heap := (w.heap.push (.deferred (some []))).push (.loop rec_) } : World) = w1 at he0
  let φ' : Nat → Heap → Prop := fun i C => ∃ C1, φ i C1 ∧ C = (l, .loop rec_) :: (r, .deferred (some [])) :: C1
  let ψ' : Heap → Prop := fun C => ∃ C1, ψ C1 ∧ C = (l, stopL jump rec_) :: (r, .deferred (some [])) :: C1
  have hE0 : Eff W [] (R ++ ((l, .loop rec_) :: (r, .deferred (some [])) :: C0)) w1 := (he0.sub (.h rfl (.h rfl hsub))).perm (permB _ _ _ _).symm
  have round : ∀ (i : Nat) (C1 : Heap) (go : Bool) (o' : Obj) (χ : Heap → Prop),
      (∀ Z, Tr (St N ((t, vs i) :: S) [] W [] ((l, .loop rec_) :: (R ++ (C1 ++ Z)))) (WP P (some l) assign (Exit.then (fun a₁ w₁ => ∃ w₂, (Instr.beginRound l).run P w₁ = .ok () w₂ ∧ WP P (some l) body (roundPost P l (RetE W [] χ (fun _ => .bool go) (fun C' => (l, o') :: (R ++ (C' ++ Z))))) a₁ w₂) (fun _ _ _ => False)))) →
      YT P l (vs i) W R ((l, .loop rec_) :: (r, .deferred (some [])) :: C1) go (fun C => ∃ C2, χ C2 ∧ C = (l, o') :: (r, .deferred (some [])) :: C2) := fun i C1 go o' χ hb w' L' hw' => by
    have hw2 : Eff W [] ((l, .loop rec_) :: (R ++ (C1 ++ ((r, .deferred (some [])) :: L')))) w' := hw'.perm (permA _ _ _ _ _)
    have hl' : w'.heap[l]? = some (.loop rec_) := hw2.own (l, .loop rec_) (by simp)
    refine ⟨fn, a.tmps.setIfInBounds t (vs i), assign, body, ?_, ?_⟩
    · simp [Instr.yield, run_getLoop hl', Sem.run_bind, Sem.run_pure, rec_]
    · have h3 := hb ((r, .deferred (some [])) :: L') { tmps := a.tmps.setIfInBounds t (vs i), defers := [] } w' ⟨by simp [hs.sz], fun u v hu => ?_, rfl, hw2⟩
      · have h4 := roundIn_of_wpIn (f := fn) (F := FW none) (n := 0) trivial h3
        refine h4.mono ?_
        rintro e w'' ⟨C', hC, rfl, hE⟩
        exact ⟨_, ⟨C', hC, rfl⟩, rfl, hE.perm (permA _ _ _ _ _).symm⟩
      · rw [look_cons] at hu
        show (a.tmps.setIfInBounds t (vs i))[u]? = some v
        rw [Array.getElem?_setIfInBounds]
        split at hu
        · rename_i h; subst h; rw [if_pos rfl, hs.sz, if_pos hlt]; exact hu
        · rename_i h; rw [if_neg h]; exact hs.sl u v hu
  have hc := hI l φ' ψ' w1 _ ⟨C0, h0, rfl⟩ hE0 (fun i C hi ⟨C1, hC, e⟩ => by subst e; exact round i C1 true (.loop rec_) (φ (i + 1)) fun Z => hgo l rec_ i C1 Z hi hC ⟨rfl, rfl⟩)
    (fun hk C ⟨C1, hC, e⟩ => by subst e; exact round k C1 false (stopL jump rec_) ψ fun Z => hstop hk l rec_ C1 Z hC ⟨rfl, rfl⟩)
  refine ⟨l, [markD r], w1, { target := .fn (.func F) caps.toArray, args := #[.func (.yield l) #[] #[]] }, w1, F, (.func (.yield l) #[] #[] :: caps).toArray, w1, ?_, ?_, fun _ _ => trivial, ?_, fun h => by simp at h, ?_⟩
  · subst hw1
    simp [Instr.enterLoop, newObj, Sem.run, Sem.run_bind, l, r, rec_, markD]
    rfl
  · have h0 : a.eval x = .func (.func F) #[] caps.toArray := hs.knows x _ hx
    have h1 : (#[Operand.const (.func (.yield l) #[] #[])].map a.eval) = #[.func (.yield l) #[] #[]] := by simp [Act.eval]
    simp only [resolve, h0, h1, Deferred.ofValue, Sem.run_pure]
    simp
  · have := run_callFunc hF (.func (.yield l) #[] #[] :: caps).toArray w1
    simpa [invoke] using this
  · refine (callsIn_wide (n := 0)).2 (hc.mono ?_)
    rintro e w3 ⟨C, hC, rfl, hE⟩
    rcases hC with ⟨hnk, C1, hC1, rfl⟩ | ⟨hkn, C1, hC1, rfl⟩
    · have hE1 : Eff W [] ((l, .loop rec_) :: (r, .deferred (some [])) :: (R ++ C1)) w3 := hE.perm (permB _ _ _ _)
      have hl3 : w3.heap[l]? = some (.loop rec_) := hE1.own (l, .loop rec_) (by simp)
      refine ⟨none, { w3 with heap := w3.heap.setIfInBounds l (.loop { rec_ with state := .exhausted }) }, ?_, ?_⟩
      · simp [Instr.endLoop, run_getLoop hl3, run_setLoop hl3, Sem.run_bind, rec_]
      · exact hnone hnk C1 hC1 r l (.loop { rec_ with state := .exhausted }) _ _ ⟨hs.sz, hs.sl, by simp [hs.df], hE1.setL (i := 0) rfl⟩
    · have hE1 : Eff W [] ((l, stopL jump rec_) :: (r, .deferred (some [])) :: (R ++ C1)) w3 := hE.perm (permB _ _ _ _)
      have hl3 : w3.heap[l]? = some (stopL jump rec_) := hE1.own (l, stopL jump rec_) (by simp)
      refine ⟨some jump, { w3 with heap := w3.heap.setIfInBounds l (.loop { rec_ with state := .exhausted, pending := some jump }) }, ?_, ?_⟩
      · simp [Instr.endLoop, run_getLoop hl3, run_setLoop hl3, Sem.run_bind, rec_]
      · exact hsome hkn C1 hC1 r l (.loop { rec_ with state := .exhausted, pending := some jump }) _ _ ⟨hs.sz, hs.sl, by simp [hs.df], hE1.setL (i := 0) rfl⟩
end
end ZW
