/-
  The engine: ranging over a function that reads what the rounds write.
-/
import Derived.Test.YtdpeifbejeflhaaEngO
namespace ZW
open Go

section
variable {P : Program} {ro : Option Nat} {Q : Exit → Act → World → Prop} {next : Act → World → Prop} {N : Nat} {S : Slots} {D : List Deferred} {W : World} {M L : Heap}
variable {d : Nat} {ty : TypeId} {pos : String} {af : Array Edge} {g : Option (Nat × Bool)}
/-- As IterC; the function reads what Rd tells of the world, and rounds keep that. -/
def IterD (P : Program) (F : FuncId) (caps : List Value) (W : World) (Rd : World → Prop) (R : Heap) (vs : Nat → Value) (n k : Nat) : Prop :=
  ∀ (l : Nat) (φ : Nat → Heap → Prop) (ψ : Heap → Prop) (w : World) (C0 : Heap), φ 0 C0 → Eff W [] (R ++ C0) w → (∀ i C, φ i C → ∀ w L, Eff W [] (L ++ (R ++ C)) w → Rd w) →
    (∀ i C, i < k → φ i C → YT P l (vs i) W R C true (φ (i + 1))) → (k < n → ∀ C, φ k C → YT P l (vs k) W R C false ψ) →
    Calls P F (.func (.yield l) #[] #[] :: caps).toArray w (RetE W [] (fun C' => (n ≤ k ∧ φ n C') ∨ (k < n ∧ ψ C')) (fun _ => .tuple #[]) (fun C' => R ++ C'))
theorem permD (a b : Nat × Obj) (L R C : Heap) : (L ++ (R ++ (a :: b :: C))).Perm ((a :: b :: L) ++ (R ++ C)) :=
  (permA a b L R C).trans (List.Perm.cons a (((List.append_assoc R C (b :: L)) ▸ List.perm_append_comm (l₁ := R ++ C) (l₂ := b :: L))))
/-! ### The statement -/
theorem kRangeD {t : Tmp} {x : Operand} {assign body : Code} {F : FuncId} {caps : List Value} (Rd : World → Prop) (jump : Code) (R : Heap) (vs : Nat → Value) (n k : Nat) (φ : Nat → Heap → Prop) (ψ : Heap → Prop) (C0 : Heap)
    (hx : opd S x = some (.func (.func F) #[] caps.toArray)) (hF : callT P F = true) (hN : Nat.blt t N = true) (hsub : SubP (R ++ C0) L) (h0 : φ 0 C0) (hR : ∀ i C, φ i C → ∀ w L, Eff W [] (L ++ (R ++ C)) w → Rd w) (hI : IterD P F caps W Rd R vs n k)
    (hgo : ∀ l (r : Loop) i C Z, i < k → φ i C → (r.state = .ready ∧ r.pending = none) → Tr (St N ((t, vs i) :: S) [] W [] ((l, .loop r) :: (R ++ (C ++ Z)))) (WP P (some l) assign
      (Exit.then (fun a₁ w₁ => ∃ w₂, (Instr.beginRound l).run P w₁ = .ok () w₂ ∧ WP P (some l) body (roundPost P l (RetE W [] (φ (i + 1)) (fun _ => .bool true) (fun C' => (l, .loop r) :: (R ++ (C' ++ Z))))) a₁ w₂) (fun _ _ _ => False))))
    (hstop : k < n → ∀ l (r : Loop) C Z, φ k C → (r.state = .ready ∧ r.pending = none) → Tr (St N ((t, vs k) :: S) [] W [] ((l, .loop r) :: (R ++ (C ++ Z)))) (WP P (some l) assign
      (Exit.then (fun a₁ w₁ => ∃ w₂, (Instr.beginRound l).run P w₁ = .ok () w₂ ∧ WP P (some l) body (roundPost P l (RetE W [] ψ (fun _ => .bool false) (fun C' => (l, stopL jump r) :: (R ++ (C' ++ Z))))) a₁ w₂) (fun _ _ _ => False))))
    (hnone : n ≤ k → ∀ C, φ n C → ∀ r l o, Tr (St N S (markD r :: D) W [] ((l, o) :: (r, .deferred (some [])) :: (R ++ C))) (Q .normal))
    (hsome : k < n → ∀ C, ψ C → ∀ r l o, Tr (St N S (markD r :: D) W [] ((l, o) :: (r, .deferred (some [])) :: (R ++ C))) (WP P none jump Q)) :
    Tr (St N S D W [] L) (WP P none (.rangeFunc x #[t] assign body) Q) := fun a w hs => by
  refine wpIn_rangeFunc fun fn _ => ?_
  have hlt : t < N := Nat.le_of_ble_eq_true hN
  let r : Nat := w.heap.size
  let l : Nat := w.heap.size + 1
  let rec_ : Loop := { state := .ready, pending := none, fn, tmps := a.tmps, params := #[t], assign, body, defers := r }
  have he0 : Eff W [] ((l, .loop rec_) :: (r, .deferred (some [])) :: L) { w with heap := (w.heap.push (.deferred (some []))).push (.loop rec_) } := by
    have h1 := hs.ef.alloc (.deferred (some []))
    have h2 := h1.alloc (.loop rec_)
    simpa [l, r] using h2
  generalize hw1 : ({ w with heap := (w.heap.push (.deferred (some []))).push (.loop rec_) } : World) = w1 at he0
  let φ' : Nat → Heap → Prop := fun i C => ∃ C1, φ i C1 ∧ C = (l, .loop rec_) :: (r, .deferred (some [])) :: C1
  let ψ' : Heap → Prop := fun C => ∃ C1, ψ C1 ∧ C = (l, stopL jump rec_) :: (r, .deferred (some [])) :: C1
  have hE0 : Eff W [] (R ++ ((l, .loop rec_) :: (r, .deferred (some [])) :: C0)) w1 := (he0.sub (.h rfl (.h rfl hsub))).perm (permB _ _ _ _).symm
  have round : ∀ (i : Nat) (C1 : Heap) (go : Bool) (o' : Obj) (χ : Heap → Prop),
      (∀ Z, Tr (St N ((t, vs i) :: S) [] W [] ((l, .loop rec_) :: (R ++ (C1 ++ Z)))) (WP P (some l) assign (Exit.then (fun a₁ w₁ => ∃ w₂, (Instr.beginRound l).run P w₁ = .ok () w₂ ∧ WP P (some l) body (roundPost P l (RetE W [] χ (fun _ => .bool go) (fun C' => (l, o') :: (R ++ (C' ++ Z))))) a₁ w₂) (fun _ _ _ => False)))) →
      YT P l (vs i) W R ((l, .loop rec_) :: (r, .deferred (some [])) :: C1) go (fun C => ∃ C2, χ C2 ∧ C = (l, o') :: (r, .deferred (some [])) :: C2) := fun i C1 go o' χ hb w' L' hw' => by
    have hw2 : Eff W [] ((l, .loop rec_) :: (R ++ (C1 ++ ((r, .deferred (some [])) :: L')))) w' := hw'.perm (permA _ _ _ _ _)
    have hl' : w'.heap[l]? = some (.loop rec_) := hw2.own (l, .loop rec_) (by simp)
    refine ⟨fn, a.tmps.setIfInBounds t (vs i), assign, body, ?_, ?_⟩
    · simp [Instr.yield, run_getLoop hl', Sem.run_bind, Sem.run_pure, rec_]
    · have h3 := hb ((r, .deferred (some [])) :: L') { tmps := a.tmps.setIfInBounds t (vs i), defers := [] } w' ⟨by simp [hs.sz], fun u v hu => ?_, rfl, hw2⟩
      · have h4 := roundIn_of_wpIn (f := fn) (F := FW none) (n := 0) trivial h3
        refine h4.mono ?_
        rintro e w'' ⟨C', hC, rfl, hE⟩
        exact ⟨_, ⟨C', hC, rfl⟩, rfl, hE.perm (permA _ _ _ _ _).symm⟩
      · rw [look_cons] at hu
        show (a.tmps.setIfInBounds t (vs i))[u]? = some v
        rw [Array.getElem?_setIfInBounds]
        split at hu
        · rename_i h; subst h; rw [if_pos rfl, hs.sz, if_pos hlt]; exact hu
        · rename_i h; rw [if_neg h]; exact hs.sl u v hu
  have hc := hI l φ' ψ' w1 _ ⟨C0, h0, rfl⟩ hE0 (fun i C ⟨C1, hC, e⟩ w' L' hw' => by subst e; exact hR i C1 hC w' ((l, .loop rec_) :: (r, .deferred (some [])) :: L') (hw'.perm (permD _ _ _ _ _))) (fun i C hi ⟨C1, hC, e⟩ => by subst e; exact round i C1 true (.loop rec_) (φ (i + 1)) fun Z => hgo l rec_ i C1 Z hi hC ⟨rfl, rfl⟩)
    (fun hk C ⟨C1, hC, e⟩ => by subst e; exact round k C1 false (stopL jump rec_) ψ fun Z => hstop hk l rec_ C1 Z hC ⟨rfl, rfl⟩)
  refine ⟨l, [markD r], w1, { target := .fn (.func F) caps.toArray, args := #[.func (.yield l) #[] #[]] }, w1, F, (.func (.yield l) #[] #[] :: caps).toArray, w1, ?_, ?_, fun _ _ => trivial, ?_, fun h => by simp at h, ?_⟩
  · subst hw1
    simp [Instr.enterLoop, newObj, Sem.run, Sem.run_bind, l, r, rec_, markD]
    rfl
  · have h0 : a.eval x = .func (.func F) #[] caps.toArray := hs.knows x _ hx
    have h1 : (#[Operand.const (.func (.yield l) #[] #[])].map a.eval) = #[.func (.yield l) #[] #[]] := by simp [Act.eval]
    simp only [resolve, h0, h1, Deferred.ofValue, Sem.run_pure]
    simp
  · have := run_callFunc hF (.func (.yield l) #[] #[] :: caps).toArray w1
    simpa [invoke] using this
  · refine (callsIn_wide (n := 0)).2 (hc.mono ?_)
    rintro e w3 ⟨C, hC, rfl, hE⟩
    rcases hC with ⟨hnk, C1, hC1, rfl⟩ | ⟨hkn, C1, hC1, rfl⟩
    · have hE1 : Eff W [] ((l, .loop rec_) :: (r, .deferred (some [])) :: (R ++ C1)) w3 := hE.perm (permB _ _ _ _)
      have hl3 : w3.heap[l]? = some (.loop rec_) := hE1.own (l, .loop rec_) (by simp)
      refine ⟨none, { w3 with heap := w3.heap.setIfInBounds l (.loop { rec_ with state := .exhausted }) }, ?_, ?_⟩
      · simp [Instr.endLoop, run_getLoop hl3, run_setLoop hl3, Sem.run_bind, rec_]
      · exact hnone hnk C1 hC1 r l (.loop { rec_ with state := .exhausted }) _ _ ⟨hs.sz, hs.sl, by simp [hs.df], hE1.setL (i := 0) rfl⟩
    · have hE1 : Eff W [] ((l, stopL jump rec_) :: (r, .deferred (some [])) :: (R ++ C1)) w3 := hE.perm (permB _ _ _ _)
      have hl3 : w3.heap[l]? = some (stopL jump rec_) := hE1.own (l, stopL jump rec_) (by simp)
      refine ⟨some jump, { w3 with heap := w3.heap.setIfInBounds l (.loop { rec_ with state := .exhausted, pending := some jump }) }, ?_, ?_⟩
      · simp [Instr.endLoop, run_getLoop hl3, run_setLoop hl3, Sem.run_bind, rec_]
      · exact hsome hkn C1 hC1 r l (.loop { rec_ with state := .exhausted, pending := some jump }) _ _ ⟨hs.sz, hs.sl, by simp [hs.df], hE1.setL (i := 0) rfl⟩
end
theorem permO (A R C Z : Heap) : (A ++ (R ++ (C ++ Z))).Perm ((A ++ Z) ++ (R ++ C)) := by
  rw [List.append_assoc]
  refine List.Perm.append_left A ?_
  rw [← List.append_assoc]
  exact List.perm_append_comm
theorem permP (p : Nat × Obj) (X C Z : Heap) : (p :: (X ++ (C ++ Z))).Perm (X ++ (C ++ (p :: Z))) := by
  rw [← List.append_assoc, ← List.append_assoc]
  exact List.perm_middle.symm
theorem YT.at {P : Program} {l : Nat} {v : Value} {W : World} {R C : Heap} {go : Bool} {χ : Heap → Prop} (h : YT P l v W R C go χ) (A Z : Heap) (w : World) (hw : Eff W [] (A ++ (R ++ (C ++ Z))) w) :
    YC P l v w (RetE W [] χ (fun _ => .bool go) (fun C' => A ++ (R ++ (C' ++ Z)))) := by
  obtain ⟨f, tmps, assign, body, hr, hround⟩ := h w (A ++ Z) (hw.perm (permO A R C Z))
  refine ⟨f, tmps, assign, body, hr, hround.mono ?_⟩
  rintro e w' ⟨C', hC, rfl, hE⟩
  exact ⟨C', hC, rfl, hE.perm (permO A R C' Z).symm⟩
theorem RetE.perm {ι : Type} {W : World} {M : Heap} {φ : ι → Prop} {v : ι → Value} {L1 L2 : ι → Heap} (h : ∀ y, (L1 y).Perm (L2 y)) {e : Ending} {w : World} (hr : RetE W M φ v L1 e w) : RetE W M φ v L2 e w := by
  obtain ⟨y, h1, h2, h3⟩ := hr
  exact ⟨y, h1, h2, h3.perm (h y)⟩
section
variable {P : Program} {ro : Option Nat} {Q : Exit → Act → World → Prop} {next : Act → World → Prop} {N : Nat} {S : Slots} {D : List Deferred} {W : World} {M L : Heap}
variable {d : Nat} {ty : TypeId} {pos : String} {af : Array Edge} {g : Option (Nat × Bool)}
theorem fYieldE {ι : Type} {x : Operand} {xs : List Operand} {l : Nat} {u : Value} {tys : Array TypeId} {φ : ι → Prop} {v : ι → Value} {L' : ι → Heap} (hx : opd S x = some (.func (.yield l) #[] #[])) (ha : AllOpd S xs [u])
    (hy : ∀ w, Eff W M L w → YC P l u w (RetE W M φ v L')) :
    Tr (St N S D W M L) (opW P none N ⟨some d, .call ⟨.value x, xs.toArray, tys⟩, ty, pos, af, g⟩ (fun a w => ∃ y : {y // φ y}, St N ((d, v y.1) :: S) D W M (L' y.1) a w) Q) :=
  eYieldE hx ha hy fun y h => trTo (Y := fun y : {y // φ y} => St N ((d, v y.1) :: S) D W M (L' y.1)) ⟨y, h⟩ trSelf
end
end ZW
