/-
  Texts Eng, EngB, EngC, EngD in one.
-/
import Derived.RangeFuncLeaves
import Derived.Recover
import Derived.Still
import Derived.KernelRfl
import Derived.OrdersIn
import Derived.Deep.Quiet
import Derived.Below
import Derived.Deep.LoopGhost
import Derived.IntWalk
import Derived.Laws.Sem
import Derived.Laws.Bits
namespace ZW
open Go

/-- The wide fence, in a round or in none. -/
abbrev FW (ro : Option Nat) : Fence := { fn := fun _ => True, depth := none, alive := false, round := ro }

abbrev Slots := List (Nat × Value)
def look : Slots → Nat → Option Value
  | [], _ => none
  | (k, v) :: r, t => bif Nat.beq k t then some v else look r t

theorem look_cons (k : Nat) (v : Value) (r : Slots) (t : Nat) : look ((k, v) :: r) t = if k = t then some v else look r t := by
  by_cases h : k = t
  · subst h; simp [look]
  · have : Nat.beq k t = false := by
      cases hb : Nat.beq k t with
      | false => rfl
      | true => exact absurd (Nat.eq_of_beq_eq_true hb) h
    simp [look, this, h]

abbrev Heap := List (Nat × Obj)
abbrev blk (l : List Value) (e : TypeId) : Obj := .cells l.toArray e (0, 0)

/-- What has become of the memory since W: the blocks M, that were there, and L, new ones, are known; all other ones that were there are as they were. -/
structure Eff (W : World) (M L : Heap) (w : World) : Prop where
  os : w.os = W.os
  tape : w.tape = W.tape
  output : w.output = W.output
  size : W.heap.size ≤ w.heap.size
  frame : ∀ k, k < W.heap.size → (∀ p ∈ M, p.1 ≠ k) → w.heap[k]? = W.heap[k]?
  own : ∀ p ∈ M ++ L, w.heap[p.1]? = some p.2
  new : ∀ p ∈ L, W.heap.size ≤ p.1
  old : ∀ p ∈ M, p.1 < W.heap.size
  nd : ((M ++ L).map (·.1)).Nodup

theorem Eff.refl (W : World) : Eff W [] [] W :=
  ⟨rfl, rfl, rfl, Nat.le_refl _, fun _ _ _ => rfl, fun _ h => by simp at h, fun _ h => by simp at h, fun _ h => by simp at h, by simp⟩

theorem Eff.lt {W : World} {M L : Heap} {w : World} (h : Eff W M L w) {p : Nat × Obj} (hp : p ∈ M ++ L) : p.1 < w.heap.size := by
  have := h.own p hp
  rw [Array.getElem?_eq_some_iff] at this
  exact this.1

theorem Eff.below {W w : World} {L : Heap} (h : Eff W [] L w) : Go.RowKit.Below W.heap.size W w :=
  ⟨h.os, h.tape, h.output, h.size, fun k hk => h.frame k hk (fun _ hp => by simp at hp)⟩

theorem Eff.forget {W : World} {M L L' : Heap} {w : World} (h : Eff W M L w) (hs : List.Sublist L' L) : Eff W M L' w :=
  ⟨h.os, h.tape, h.output, h.size, h.frame,
   fun p hp => h.own p (by rcases List.mem_append.1 hp with hp | hp; (· exact List.mem_append.2 (.inl hp)); exact List.mem_append.2 (.inr (hs.subset hp))),
   fun p hp => h.new p (hs.subset hp), h.old,
   List.Sublist.nodup (List.Sublist.map _ (List.Sublist.append (List.Sublist.refl M) hs)) h.nd⟩

/-- A draw. -/
theorem Eff.drew {W : World} {M L : Heap} {w : World} (h : Eff W M L w) (d : Nat) : Eff W M L { w with drawn := d } :=
  ⟨h.os, h.tape, h.output, h.size, h.frame, h.own, h.new, h.old, h.nd⟩

/-- A new block. -/
theorem Eff.alloc {W : World} {M L : Heap} {w : World} (h : Eff W M L w) (o : Obj) :
    Eff W M ((w.heap.size, o) :: L) { w with heap := w.heap.push o } := by
  refine ⟨h.os, h.tape, h.output, ?_, ?_, ?_, ?_, h.old, ?_⟩
  · have := h.size; simp; omega
  · intro k hk hM
    have hs := h.size
    show (w.heap.push o)[k]? = _
    rw [Array.getElem?_push, if_neg (by omega)]
    exact h.frame k hk hM
  · intro p hp
    show (w.heap.push o)[p.1]? = _
    rw [Array.getElem?_push]
    simp only [List.mem_append, List.mem_cons] at hp
    rcases hp with hp | rfl | hp
    · have := h.lt (p := p) (by simp [hp]); rw [if_neg (by omega)]; exact h.own p (by simp [hp])
    · simp
    · have := h.lt (p := p) (by simp [hp]); rw [if_neg (by omega)]; exact h.own p (by simp [hp])
  · intro p hp
    simp only [List.mem_cons] at hp
    rcases hp with rfl | hp
    · exact h.size
    · exact h.new p hp
  · have hnd := h.nd
    simp only [List.map_append, List.map_cons] at hnd ⊢
    rw [List.nodup_append] at hnd ⊢
    obtain ⟨h1, h2, h3⟩ := hnd
    refine ⟨h1, ?_, ?_⟩
    · rw [List.nodup_cons]
      refine ⟨?_, h2⟩
      intro hc
      obtain ⟨p, hp, he⟩ := List.mem_map.1 hc
      have := h.lt (p := p) (by simp [hp])
      omega
    · intro a ha b hb
      rw [List.mem_cons] at hb
      rcases hb with rfl | hb
      · obtain ⟨p, hp, he⟩ := List.mem_map.1 ha
        have := h.lt (p := p) (by simp [hp])
        omega
      · exact h3 a ha b hb

theorem Eff.trans {W w w' : World} {M L L' : Heap} (h : Eff W M L w) (h' : Eff w [] L' w') : Eff W M (L' ++ L) w' := by
  have hk : ∀ p ∈ M ++ L, w'.heap[p.1]? = some p.2 := fun p hp => by
    rw [h'.frame _ (h.lt hp) (fun _ hq => by simp at hq)]; exact h.own p hp
  refine ⟨h'.os.trans h.os, h'.tape.trans h.tape, h'.output.trans h.output, Nat.le_trans h.size h'.size, ?_, ?_, ?_, h.old, ?_⟩
  · intro k hlt hM
    have := h.size
    rw [h'.frame k (by omega) (fun _ hq => by simp at hq)]; exact h.frame k hlt hM
  · intro p hp
    simp only [List.mem_append] at hp
    rcases hp with hp | hp | hp
    · exact hk p (by simp [hp])
    · exact h'.own p (by simp [hp])
    · exact hk p (by simp [hp])
  · intro p hp
    rcases List.mem_append.1 hp with hp | hp
    · exact Nat.le_trans h.size (h'.new p hp)
    · exact h.new p hp
  · have h1 := h.nd
    have h2 := h'.nd
    simp only [List.map_append, List.nodup_append, List.nil_append, List.mem_append] at h1 h2 ⊢
    have hd : ∀ a ∈ L'.map (·.1), ∀ b ∈ (M ++ L).map (·.1), a ≠ b := by
      intro a ha b hb e
      obtain ⟨p, hp, rfl⟩ := List.mem_map.1 ha
      obtain ⟨q, hq, rfl⟩ := List.mem_map.1 hb
      have hx := h'.new p hp
      have hy := h.lt hq
      omega
    refine ⟨h1.1, ⟨h2, h1.2.1, fun a ha b hb => hd a ha b (by simp only [List.map_append, List.mem_append]; exact .inr hb)⟩, ?_⟩
    intro a ha b hb
    rcases hb with hb | hb
    · exact fun e => hd b hb a (by simp only [List.map_append, List.mem_append]; exact .inl ha) e.symm
    · exact h1.2.2 a ha b hb

/-- What is written over a list of cells. -/
def wr : List Value → Nat → List Value → List Value
  | [], _, _ => []
  | _ :: l, 0, v :: vs => v :: wr l 0 vs
  | x :: l, 0, [] => x :: l
  | x :: l, n + 1, vs => x :: wr l n vs

/-- Part of a list of cells. -/
def sub : List Value → Nat → Nat → Option (List Value)
  | _, 0, 0 => some []
  | [], 0, _ + 1 => none
  | x :: l, 0, k + 1 => match sub l 0 k with
    | some r => some (x :: r)
    | none => none
  | [], _ + 1, _ => none
  | _ :: l, n + 1, k => sub l n k

theorem sub_spec : ∀ (l : List Value) (n k : Nat) (r : List Value), sub l n k = some r → r.length = k ∧ ∀ j, j < k → l[n + j]? = r[j]?
  | l, 0, 0, r, h => by simp [sub] at h; subst h; simp
  | [], 0, k + 1, r, h => by simp [sub] at h
  | x :: l, 0, k + 1, r, h => by
    simp only [sub] at h
    split at h
    · rename_i r' hr
      cases h
      obtain ⟨h1, h2⟩ := sub_spec l 0 k r' hr
      refine ⟨by simp [h1], fun j hj => ?_⟩
      cases j with
      | zero => simp
      | succ j => have := h2 j (by omega); simpa using this
    · cases h
  | [], n + 1, k, r, h => by simp [sub] at h
  | x :: l, n + 1, k, r, h => by
    simp only [sub] at h
    obtain ⟨h1, h2⟩ := sub_spec l n k r h
    refine ⟨h1, fun j hj => ?_⟩
    have := h2 j hj
    rw [show n + 1 + j = (n + j) + 1 from by omega]
    simpa using this

theorem wr_length : ∀ (l : List Value) (n : Nat) (vs : List Value), (wr l n vs).length = l.length
  | [], n, vs => by simp [wr]
  | x :: l, 0, v :: vs => by simp [wr, wr_length l 0 vs]
  | x :: l, 0, [] => by simp [wr]
  | x :: l, n + 1, vs => by simp [wr, wr_length l n vs]

theorem wr_nil : ∀ (l : List Value) (n : Nat), wr l n [] = l
  | [], n => by simp [wr]
  | x :: l, 0 => by simp [wr]
  | x :: l, n + 1 => by simp [wr, wr_nil l n]

theorem wr_cons : ∀ (l : List Value) (n : Nat) (v : Value) (vs : List Value), wr l n (v :: vs) = wr (l.set n v) (n + 1) vs
  | [], n, v, vs => by simp [wr]
  | x :: l, 0, v, vs => by simp [wr]
  | x :: l, n + 1, v, vs => by simp [wr, wr_cons l n v vs]

/-! ### The state -/

/-- The frame has N slots, of which S are known, and D is deferred; of the memory, Eff. -/
structure St (N : Nat) (S : Slots) (D : List Deferred) (W : World) (M L : Heap) (a : Act) (w : World) : Prop where
  sz : a.tmps.size = N
  sl : ∀ t v, look S t = some v → a.tmps[t]? = some v
  df : a.defers = D
  ef : Eff W M L w

def Tr (X F : Act → World → Prop) : Prop := ∀ a w, X a w → F a w

def opd (S : Slots) : Operand → Option Value
  | .tmp t => look S t
  | .const v => some v
  | .func f => some (.func (.func f) #[] #[])
  | .global g => some (.pointer (some ⟨g, 0, none⟩))

/-- The operands that are known. -/
def Knows (S : Slots) (ρ : Operand → Value) : Prop := ∀ x v, opd S x = some v → ρ x = v

theorem St.knows {N : Nat} {S : Slots} {D : List Deferred} {W : World} {M L : Heap} {a : Act} {w : World} (h : St N S D W M L a w) : Knows S a.eval := by
  intro x v hx
  cases x with
  | tmp t => simp only [opd] at hx; simp [Act.eval, h.sl t v hx]
  | const u => simp only [opd, Option.some.injEq] at hx; exact hx
  | func f => simp only [opd, Option.some.injEq] at hx; exact hx
  | global g => simp only [opd, Option.some.injEq] at hx; exact hx

theorem put_slot {N d : Nat} {S : Slots} {a : Act} {v : Value} (hd : d < N) (hs : a.tmps.size = N) (h : ∀ t v, look S t = some v → a.tmps[t]? = some v) :
    ∀ t u, look ((d, v) :: S) t = some u → (a.put (some d) v).tmps[t]? = some u := by
  intro t u hu
  rw [look_cons] at hu
  simp only [Act.put, Array.getElem?_setIfInBounds]
  split at hu
  · rename_i e; subst e; simp [hs, hd] at hu ⊢; exact hu
  · rename_i e; rw [if_neg e]; exact h t u hu

theorem St.put {N d : Nat} {S : Slots} {D : List Deferred} {W : World} {M L : Heap} {a : Act} {w : World} (h : St N S D W M L a w) (hd : d < N) (v : Value) :
    St N ((d, v) :: S) D W M L (a.put (some d) v) w :=
  ⟨by simp [Act.put, h.sz], put_slot hd h.sz h.sl, h.df, h.ef⟩

theorem St.eff {N : Nat} {S : Slots} {D : List Deferred} {W : World} {M L M' L' : Heap} {a : Act} {w w' : World} (h : St N S D W M L a w) (he : Eff W M' L' w') : St N S D W M' L' a w' :=
  ⟨h.sz, h.sl, h.df, he⟩

/-- Fewer slots. -/
inductive AllLook (S : Slots) : Slots → Prop
  | n : AllLook S []
  | c {k : Nat} {v : Value} {r : Slots} : look S k = some v → AllLook S r → AllLook S ((k, v) :: r)

theorem AllLook.look {S S' : Slots} (h : AllLook S S') : ∀ t v, look S' t = some v → look S t = some v := by
  induction h with
  | n => intro t v h; simp [ZW.look] at h
  | c h1 _ ih =>
    intro t v h
    rw [look_cons] at h
    split at h
    · rename_i e; subst e; exact h1.trans h
    · exact ih t v h

theorem weak {N : Nat} {S : Slots} (S' : Slots) {D : List Deferred} {W : World} {M L : Heap} {F : Act → World → Prop} (h : AllLook S S')
    (k : Tr (St N S' D W M L) F) : Tr (St N S D W M L) F :=
  fun a w hs => k a w ⟨hs.sz, fun t v hv => hs.sl t v (h.look t v hv), hs.df, hs.ef⟩

theorem forget {N : Nat} {S : Slots} {D : List Deferred} {W : World} {M L : Heap} (L' : Heap) {F : Act → World → Prop} (h : List.Sublist L' L)
    (k : Tr (St N S D W M L') F) : Tr (St N S D W M L) F :=
  fun a w hs => k a w ⟨hs.sz, hs.sl, hs.df, hs.ef.forget h⟩

/-! ### Code -/
section code
variable {P : Program} {ro : Option Nat} {X : Act → World → Prop} {Q : Exit → Act → World → Prop}

abbrev WP (P : Program) (ro : Option Nat) (c : Code) (Q : Exit → Act → World → Prop) (a : Act) (w : World) : Prop := c.wpIn (FW ro) 0 P Q a w

theorem kSeq {x y : Code} (h : Tr X (WP P ro x (Exit.then (WP P ro y Q) Q))) : Tr X (WP P ro (.seq x y) Q) := fun a w hx => wpIn_seq (h a w hx)
theorem kSkip (h : Tr X (Q .normal)) : Tr X (WP P ro .skip Q) := fun a w hx => wpIn_skip (h a w hx)
theorem kLabel {l : Nat} (h : Tr X (Q .normal)) : Tr X (WP P ro (.label l) Q) := fun a w hx => wpIn_label (h a w hx)
theorem kRet (h : Tr X (Q .ret)) : Tr X (WP P ro .ret Q) := fun a w hx => wpIn_ret (h a w hx)
theorem kExit {id : Nat} (h : Tr X (Q (.exit id))) : Tr X (WP P ro (.exit id) Q) := fun a w hx => wpIn_exit (h a w hx)
theorem kGoto {id : Nat} (h : Tr X (Q (.goto id))) : Tr X (WP P ro (.goto id) Q) := fun a w hx => wpIn_goto (h a w hx)
theorem kBlock {id : Nat} {c : Code} (h : Tr X (WP P ro c (Exit.inBlock id Q))) : Tr X (WP P ro (.block id c) Q) := fun a w hx => wpIn_block (h a w hx)
theorem kThen {next : Act → World → Prop} (h : Tr X next) : Tr X (Exit.then next Q .normal) := h
theorem kThenX {next : Act → World → Prop} {id : Nat} (h : Tr X (Q (.exit id))) : Tr X (Exit.then next Q (.exit id)) := h
theorem kThenR {next : Act → World → Prop} (h : Tr X (Q .ret)) : Tr X (Exit.then next Q .ret) := h
theorem kThenG {next : Act → World → Prop} {id : Nat} (h : Tr X (Q (.goto id))) : Tr X (Exit.then next Q (.goto id)) := h
theorem kThenP {next : Act → World → Prop} {c : List PanicEntry} (h : Tr X (Q (.panic c))) : Tr X (Exit.then next Q (.panic c)) := h
theorem kInN {id : Nat} (h : Tr X (Q .normal)) : Tr X (Exit.inBlock id Q .normal) := h
theorem kInR {id : Nat} (h : Tr X (Q .ret)) : Tr X (Exit.inBlock id Q .ret) := h
theorem kInP {id : Nat} {c : List PanicEntry} (h : Tr X (Q (.panic c))) : Tr X (Exit.inBlock id Q (.panic c)) := h
theorem kInG {id l : Nat} (h : Tr X (Q (.goto l))) : Tr X (Exit.inBlock id Q (.goto l)) := h
theorem kInX {id : Nat} (h : Tr X (Q .normal)) : Tr X (Exit.inBlock id Q (.exit id)) := fun a w hx => by
  simp only [Exit.inBlock, if_true]; exact h a w hx
theorem kInY {id id' : Nat} (hne : Nat.beq id' id = false) (h : Tr X (Q (.exit id'))) : Tr X (Exit.inBlock id Q (.exit id')) := fun a w hx => by
  have : id' ≠ id := by intro e; subst e; simp at hne
  simp only [Exit.inBlock, if_neg this]; exact h a w hx

variable {N : Nat} {S : Slots} {D : List Deferred} {W : World} {M L : Heap}

theorem kIfT {c : Operand} {x y : Code} (hc : opd S c = some (.bool true)) (h : Tr (St N S D W M L) (WP P ro x Q)) : Tr (St N S D W M L) (WP P ro (.cond c x y) Q) :=
  fun a w hs => wpIn_cond_true (hs.knows c _ hc) (h a w hs)
theorem kIfF {c : Operand} {x y : Code} (hc : opd S c = some (.bool false)) (h : Tr (St N S D W M L) (WP P ro y Q)) : Tr (St N S D W M L) (WP P ro (.cond c x y) Q) :=
  fun a w hs => wpIn_cond_false (hs.knows c _ hc) (h a w hs)
/-- A test that is not decided. -/
theorem kIf {c : Operand} {x y : Code} {b : Bool} (hc : opd S c = some (.bool b)) (ht : b = true → Tr (St N S D W M L) (WP P ro x Q))
    (hf : b = false → Tr (St N S D W M L) (WP P ro y Q)) : Tr (St N S D W M L) (WP P ro (.cond c x y) Q) := by
  cases b
  · exact kIfF hc (hf rfl)
  · exact kIfT hc (ht rfl)
/-- A test of a proposition. -/
theorem kIfP {c : Operand} {x y : Code} {p : Prop} [Decidable p] (hc : opd S c = some (.bool (decide p))) (ht : p → Tr (St N S D W M L) (WP P ro x Q))
    (hf : ¬ p → Tr (St N S D W M L) (WP P ro y Q)) : Tr (St N S D W M L) (WP P ro (.cond c x y) Q) :=
  kIf hc (fun h => ht (by simpa using h)) (fun h => hf (by simpa using h))

/-- A loop: what holds at the head is told by x; each round ends at the head with a y of which the measure is less, or leaves. -/
theorem kLoop {ι : Type} {c : Code} (φ : ι → Prop) (S' : ι → Slots) (L' : ι → Heap) (μ : ι → Nat) (x0 : ι) (h0 : φ x0) (hS : AllLook S (S' x0)) (hL : List.Sublist (L' x0) L)
    (body : ∀ x, φ x → Tr (St N (S' x) D W M (L' x)) (WP P ro c (Exit.then (fun a w => ∃ y, φ y ∧ μ y < μ x ∧ St N (S' y) D W M (L' y) a w) Q))) :
    Tr (St N S D W M L) (WP P ro (.loop c) Q) := by
  intro a w hs
  have hst0 : St N (S' x0) D W M (L' x0) a w := ⟨hs.sz, fun t v hv => hs.sl t v (hS.look t v hv), hs.df, hs.ef.forget hL⟩
  let I : Nat → Act → World → Prop := fun n a w => ∃ y, φ y ∧ μ y = n ∧ St N (S' y) D W M (L' y) a w
  refine wpIn_loop (fun a w => ∃ n, I n a w) (fun a w => leastOf (fun n => I n a w)) ⟨μ x0, x0, h0, rfl, hst0⟩ ?_
  intro a w hI
  obtain ⟨y, hy, hn, hst⟩ := (leastOf_spec hI).1
  refine wpIn_mono (body y hy a w hst) ?_
  intro e a' w' hq
  cases e with
  | normal =>
    obtain ⟨z, hz, hlt, hsz⟩ := hq
    have hI' : ∃ n, I n a' w' := ⟨μ z, z, hz, rfl, hsz⟩
    refine ⟨hI', Nat.lt_of_le_of_lt ((leastOf_spec hI').2 (μ z) ⟨z, hz, rfl, hsz⟩) ?_⟩
    rw [← hn]; exact hlt
  | _ => exact hq
/-- A round's end. -/
theorem kRound {ι : Type} (φ : ι → Prop) (S' : ι → Slots) (L' : ι → Heap) (μ : ι → Nat) (m : Nat) (y : ι) (h0 : φ y) (hm : μ y < m) (hS : AllLook S (S' y)) (hL : List.Sublist (L' y) L) :
    Tr (St N S D W M L) (fun a w => ∃ y, φ y ∧ μ y < m ∧ St N (S' y) D W M (L' y) a w) :=
  fun _ _ hs => ⟨y, h0, hm, hs.sz, fun t v hv => hs.sl t v (hS.look t v hv), hs.df, hs.ef.forget hL⟩
end code

/-! ### Operations -/
section ops
variable {P : Program} {ro : Option Nat} {X : Act → World → Prop} {Q : Exit → Act → World → Prop}
variable {N : Nat} {S : Slots} {D : List Deferred} {W : World} {M L : Heap}

/-- One operation, in a frame and a world. -/
def opW (P : Program) (ro : Option Nat) (N : Nat) (o : Oper) (next : Act → World → Prop) (Q : Exit → Act → World → Prop) : Act → World → Prop :=
  fun a w => (∀ d, o.dst = some d → d < N) → o.uponIn (FW ro) 0 P a next Q ((o.semAt ro a.eval).run P w)
/-- Each operation writes a slot that there is. -/
def dLt (N : Nat) (o : Oper) : Bool := match o.dst with
  | some d => Nat.blt d N
  | none => true
theorem dLt_spec {N : Nat} {o : Oper} (h : dLt N o = true) : ∀ d, o.dst = some d → d < N := by
  intro d hd; simpa [dLt, hd] using h

theorem opW_wpIn {o : Oper} {next : Act → World → Prop} {a : Act} {w : World} (hd : ∀ d, o.dst = some d → d < N) (h : opW P ro N o next Q a w) : o.wpIn (FW ro) 0 P a w next Q := ⟨fun _ _ => trivial, h hd⟩

/-- A list of operations in the order of the text. -/
def wpL (P : Program) (ro : Option Nat) (N : Nat) (ops : Array Oper) (Q : Exit → Act → World → Prop) : List Oper → Act → World → Prop
  | [], a, w => Q .normal a w
  | o :: r, a, w => (∀ d, o.dst = some d → d < N) → if Region.wanted o (yielded ops a.tmps) = true then opW P ro N o (wpL P ro N ops Q r) Q a w else wpL P ro N ops Q r (a.put o.dst undef) w

theorem wpL_ops {ops : Array Oper} (l : List Oper) : ∀ (k : Nat), (∀ j, l[j]? = ops[k + j]?) → (l.all (dLt N) = true) → ∀ a w, wpL P ro N ops Q l a w → wpOpsIn (FW ro) 0 P ops Q (List.range' k l.length) a w := by
  induction l with
  | nil => intro k _ _ a w h; simpa [wpOpsIn, wpL] using h
  | cons o l ih =>
    intro k h hB a w hw
    simp only [List.all_cons, Bool.and_eq_true] at hB
    have hd := dLt_spec hB.1
    have h0 : ops[k]? = some o := by simpa using (h 0).symm
    have ih' := ih (k + 1) (fun j => by have := h (j + 1); simpa [Nat.add_assoc, Nat.add_comm 1 j] using this) hB.2
    simp only [List.length_cons, List.range'_succ, wpOpsIn, h0]
    have hw := hw hd
    split at hw
    · rename_i hg
      rw [if_pos hg]
      exact Oper.wpIn_mono ih' (opW_wpIn hd hw)
    · rename_i hg
      rw [if_neg hg]
      exact ⟨fun _ _ => trivial, ih' _ _ hw⟩

theorem kRegion {id : Nat} {l : List Oper} (hB : l.all (dLt N) = true) (h : Tr (St N S D W M L) (wpL P ro N l.toArray Q l)) : Tr (St N S D W M L) (WP P ro (.region id l.toArray false) Q) := fun a w hx => by
  refine wpIn_region ?_
  rw [List.range_eq_range', ← Array.length_toList]
  exact wpL_ops l 0 (by simp) hB a w (h a w hx)

theorem lNil {ops : Array Oper} (h : Tr X (Q .normal)) : Tr X (wpL P ro N ops Q []) := h
/-- An operation without a guard. -/
theorem lE {ops : Array Oper} {o : Oper} {r : List Oper} (hg : o.guard = none) (h : Tr X (opW P ro N o (wpL P ro N ops Q r) Q)) : Tr X (wpL P ro N ops Q (o :: r)) := fun a w hx _ => by
  rw [if_pos (by simp [Region.wanted, hg])]
  exact h a w hx

/-- The slot of the operation that a guard asks. -/
def gslot (ops : Array Oper) (j : Nat) : Option Nat := (ops[j]?).bind (·.dst)

theorem yielded_eq {ops : Array Oper} {j t : Nat} {b : Bool} {a : Act} {w : World} (hj : gslot ops j = some t) (hl : look S t = some (.bool b)) (h : St N S D W M L a w) : yielded ops a.tmps j = some b := by
  have := h.sl t _ hl
  unfold gslot at hj
  simp [yielded, hj, this]

theorem yielded_undef {ops : Array Oper} {j t : Nat} {a : Act} {w : World} (hj : gslot ops j = some t) (hl : look S t = some undef) (h : St N S D W M L a w) : yielded ops a.tmps j = none := by
  have := h.sl t _ hl
  unfold gslot at hj
  simp [yielded, hj, this, undef]

/-- A guard that says yes. -/
theorem lGY {ops : Array Oper} {o : Oper} {r : List Oper} {j t : Nat} {b : Bool} (hg : o.guard = some (j, b)) (hj : gslot ops j = some t) (hl : look S t = some (.bool b))
    (h : Tr (St N S D W M L) (opW P ro N o (wpL P ro N ops Q r) Q)) : Tr (St N S D W M L) (wpL P ro N ops Q (o :: r)) := fun a w hx _ => by
  rw [if_pos (by simp [Region.wanted, hg, yielded_eq hj hl hx])]
  exact h a w hx
/-- A guard that says no. -/
theorem lGN {ops : Array Oper} {o : Oper} {r : List Oper} {j t d : Nat} {b c : Bool} (hg : o.guard = some (j, b)) (hj : gslot ops j = some t) (hl : look S t = some (.bool c)) (hbc : (c == b) = false) (hd : o.dst = some d)
    (h : Tr (St N ((d, undef) :: S) D W M L) (wpL P ro N ops Q r)) : Tr (St N S D W M L) (wpL P ro N ops Q (o :: r)) := fun a w hx hN => by
  rw [if_neg (by simp only [Region.wanted, hg, yielded_eq hj hl hx]; cases b <;> cases c <;> simp_all), hd]
  exact h _ _ (hx.put (hN d hd) _)
/-- A guard that was itself passed over. -/
theorem lGU {ops : Array Oper} {o : Oper} {r : List Oper} {j t d : Nat} {b : Bool} (hg : o.guard = some (j, b)) (hj : gslot ops j = some t) (hl : look S t = some undef) (hd : o.dst = some d)
    (h : Tr (St N ((d, undef) :: S) D W M L) (wpL P ro N ops Q r)) : Tr (St N S D W M L) (wpL P ro N ops Q (o :: r)) := fun a w hx hN => by
  rw [if_neg (by simp [Region.wanted, hg, yielded_undef hj hl hx]), hd]
  exact h _ _ (hx.put (hN d hd) _)

def nd : Op → Bool
  | .defer _ => false
  | _ => true

/-- The call returns just this, and all that was there is as it was. -/
def Ret (w : World) (v : Value) : Ending → World → Prop := fun e w' => e = .returned v ∧ Eff w [] [] w'

/-- What is asked of a quiet operation that is run: its value in the world that it got; or a call under a contract 'Ret'. -/
def quiU (P : Program) (w : World) (v : Value) : Result Next → Prop
  | .ok (.value u) w' => w' = w ∧ u = v
  | .ok (.enter f args) w' => w' = w ∧ Calls P f args w (Ret w v)
  | _ => False

/-- In every world of the class C the operation yields v. -/
def YV (P : Program) (S : Slots) (C : World → Prop) (o : Oper) (v : Value) : Prop :=
  nd o.op = true ∧ ∀ (ρ : Operand → Value), Knows S ρ → ∀ w, C w → quiU P w v ((execOp ρ o).run P w)

theorem semAt_nd {o : Oper} (h : nd o.op = true) (ρ : Operand → Value) : o.semAt ro ρ = execOp ρ o :=
  Oper.semAt_eq ro ρ o (fun c hc => by simp [hc, nd] at h)

theorem upon_quiet {o : Oper} {next : Act → World → Prop} {a : Act} {w : World} {v : Value} (hnd : nd o.op = true)
    (h : quiU P w v ((execOp a.eval o).run P w)) (hn : ∀ w', Eff w [] [] w' → next (a.put o.dst v) w') : o.uponIn (FW ro) 0 P a next Q ((o.semAt ro a.eval).run P w) := by
  rw [semAt_nd hnd]
  generalize (execOp a.eval o).run P w = r at h
  cases r with
  | ok n w' =>
    cases n <;> simp only [quiU] at h
    case value u => obtain ⟨rfl, rfl⟩ := h; exact hn _ (Eff.refl _)
    case enter f args =>
      obtain ⟨rfl, hc⟩ := h
      refine ⟨fun hd => by simp at hd, ⟨trivial, ?_⟩⟩
      have hc' : Calls P f args w' fun
        | .returned v, w'' => next (a.put o.dst v) w''
        | .panicked chain, w'' => Q (.panic chain) a w''
        | .outgrown, _ => LetsOut Q := hc.mono fun e w'' ⟨he, hw⟩ => by subst he; exact hn _ hw
      exact ((callsIn_wide (n := 0)).2 hc').2
  | halt x w' => simp only [quiU] at h

/-- A quiet operation, next in any order. -/
theorem oV {o : Oper} {d : Nat} {v : Value} {next : Act → World → Prop} (h : YV P S (Eff W M L) o v) (hd : o.dst = some d)
    (k : Tr (St N ((d, v) :: S) D W M L) next) : Tr (St N S D W M L) (opW P ro N o next Q) := fun a w hs hN => by
  refine upon_quiet h.1 (h.2 a.eval hs.knows w hs.ef) fun w' hw => ?_
  rw [hd]
  exact k _ _ ((hs.put (hN d hd) v).eff (by simpa using hs.ef.trans hw))
/-- A quiet operation without a result. -/
theorem oV0 {o : Oper} {v : Value} {next : Act → World → Prop} (h : YV P S (Eff W M L) o v) (hd : o.dst = none)
    (k : Tr (St N S D W M L) next) : Tr (St N S D W M L) (opW P ro N o next Q) := fun a w hs _ => by
  refine upon_quiet h.1 (h.2 a.eval hs.knows w hs.ef) fun w' hw => ?_
  rw [hd]
  exact k _ _ (hs.eff (by simpa using hs.ef.trans hw))
/-- The next operation of a list, without a guard. -/
theorem lV {ops : Array Oper} {o : Oper} {r : List Oper} {d : Nat} {v : Value} (h : YV P S (Eff W M L) o v) (hg : o.guard = none) (hd : o.dst = some d)
    (k : Tr (St N ((d, v) :: S) D W M L) (wpL P ro N ops Q r)) : Tr (St N S D W M L) (wpL P ro N ops Q (o :: r)) := lE hg (oV h hd k)

/-! #### What operations yield -/
variable {C : World → Prop} {dst : Option Tmp} {ty : TypeId} {pos : String} {af : Array Edge} {g : Option (Nat × Bool)}

theorem YV.pure {o : Oper} {v : Value} (h : ∀ ρ, Knows S ρ → ∀ w, (execOp ρ o).run P w = .ok (.value v) w) (hnd : nd o.op = true := by rfl) : YV P S C o v := ⟨hnd, fun ρ hk w _ => by
  rw [h ρ hk w]; exact ⟨rfl, rfl⟩⟩

theorem yMove {x : Operand} {v : Value} (hx : opd S x = some v) : YV P S C ⟨dst, .move x, ty, pos, af, g⟩ v :=
  .pure fun ρ hk w => by simp [execOp, hk x v hx, Sem.run_pure]
theorem yAssign {x : Operand} {v : Value} (hx : opd S x = some v) : YV P S C ⟨dst, .assign x, ty, pos, af, g⟩ v :=
  .pure fun ρ hk w => by simp [execOp, hk x v hx, Sem.run_pure]
theorem yPickT {c x y : Operand} {v : Value} (hc : opd S c = some (.bool true)) (hx : opd S x = some v) : YV P S C ⟨dst, .pick c x y, ty, pos, af, g⟩ v :=
  .pure fun ρ hk w => by simp [execOp, hk c _ hc, hk x v hx, asBool, go_sem]
theorem yPickF {c x y : Operand} {v : Value} (hc : opd S c = some (.bool false)) (hy : opd S y = some v) : YV P S C ⟨dst, .pick c x y, ty, pos, af, g⟩ v :=
  .pure fun ρ hk w => by simp [execOp, hk c _ hc, hk y v hy, asBool, go_sem]
end ops
end ZW
namespace ZW
open Go

/-- Several operands that are known. -/
inductive AllOpd (S : Slots) : List Operand → List Value → Prop
  | n : AllOpd S [] []
  | c {x : Operand} {v : Value} {xs : List Operand} {vs : List Value} : opd S x = some v → AllOpd S xs vs → AllOpd S (x :: xs) (v :: vs)

theorem AllOpd.map {S : Slots} {xs : List Operand} {vs : List Value} (h : AllOpd S xs vs) {ρ : Operand → Value} (hk : Knows S ρ) : xs.map ρ = vs := by
  induction h with
  | n => rfl
  | c h1 _ ih => simp [hk _ _ h1, ih]

inductive AllPart (S : Slots) : List (Nat × Operand) → List (Nat × Value) → Prop
  | n : AllPart S [] []
  | c {i : Nat} {x : Operand} {v : Value} {xs : List (Nat × Operand)} {vs : List (Nat × Value)} : opd S x = some v → AllPart S xs vs → AllPart S ((i, x) :: xs) ((i, v) :: vs)

theorem AllPart.map {S : Slots} {xs : List (Nat × Operand)} {vs : List (Nat × Value)} (h : AllPart S xs vs) {ρ : Operand → Value} (hk : Knows S ρ) : (xs.map fun (i, x) => (i, ρ x)) = vs := by
  induction h with
  | n => rfl
  | c h1 _ ih => simp [hk _ _ h1, ih]

/-! ### Facts on the program's types, asked of the kernel once for each type -/
def fOff (P : Program) (T : TypeId) (i : Nat) : Option Nat :=
  match P.underlying T with
  | some (.struct fs) => match fs[i]? with
    | some f => match P.info? f.type with
      | some inf => if inf.size = 0 then none else some f.offset
      | none => none
    | none => none
  | _ => none
/-- A slice type: the size of its elements. -/
def slEl (P : Program) (T : TypeId) : Option (TypeId × Nat) :=
  match P.underlying T with
  | some (.slice e) => match P.info? e with
    | some inf => some (e, inf.size)
    | none => none
  | _ => none
def arEl (P : Program) (T : TypeId) : Option (Nat × Nat) :=
  match P.underlying T with
  | some (.array n e) => match P.info? e with
    | some inf => some (n, inf.size)
    | none => none
  | _ => none
/-- A type of one cell, no aggregate. -/
def oneT (P : Program) (T : TypeId) : Bool :=
  match P.underlying T, P.info? T with
  | some (.struct _), _ => false
  | some (.array _ _), _ => false
  | some _, some inf => inf.size == 1
  | _, _ => false
/-- An aggregate of so many cells. -/
def aggT (P : Program) (T : TypeId) : Option Nat :=
  match P.underlying T, P.info? T with
  | some (.struct _), some inf => some inf.size
  | some (.array _ _), some inf => some inf.size
  | _, _ => none
def zeroT (P : Program) (T : TypeId) : Option (List Value) :=
  match P.info? T with
  | some inf => inf.zero.map (·.cells.toList)
  | none => none
def ifaceT (P : Program) (T : TypeId) : Bool :=
  match P.underlying T with
  | some (.interface _) => true
  | some _ => false
  | none => true
def callT (P : Program) (f : FuncId) : Bool :=
  match P.funcs[f]? with
  | some fn => fn.name != "runtime.NumGoroutine" && fn.body.isSome
  | none => false

section ops
variable {P : Program} {ro : Option Nat} {X : Act → World → Prop} {Q : Exit → Act → World → Prop}
variable {N : Nat} {S : Slots} {D : List Deferred} {W : World} {M L : Heap}
variable {C : World → Prop} {dst : Option Tmp} {ty : TypeId} {pos : String} {af : Array Edge} {g : Option (Nat × Bool)}

theorem run_underlying_of {T : TypeId} {d : TypeDesc} (h : P.underlying T = some d) (w : World) : (underlying T).run P w = .ok d w := by
  simp [underlying, program, Sem.run, h, go_sem]
theorem run_sizeOf_of {T : TypeId} {inf : TypeInfo} (h : P.info? T = some inf) (w : World) : (Go.sizeOf T).run P w = .ok inf.size w := by
  simp [Go.sizeOf, typeInfo, program, Sem.run, h, go_sem]

/-! #### Numbers -/
theorem bin_ints {op : BinOp} {t t' : TypeId} {x y : Operand} {k : IntKind} {a b : Int} {v : Value} (hx : opd S x = some (.int k a)) (hy : opd S y = some (.int k b))
    (h : ∀ w, (binOp op t (.int k a) (.int k b)).run P w = .ok v w) : YV P S C ⟨dst, .binOp op t x y t', ty, pos, af, g⟩ v :=
  .pure (hnd := rfl) fun ρ hk w => by
    have he : (eqGuard op t x y (.int k a) (.int k b)).run P w = .ok () w := by
      cases op <;> simp [eqGuard, Sem.run_pure]
    simp only [execOp, hk x _ hx, hk y _ hy, Sem.run_bind, he, Result.andThen_ok, h w, Sem.run_pure]

theorem yLss {t t' : TypeId} {x y : Operand} {k : IntKind} {a b : Int} (hx : opd S x = some (.int k a)) (hy : opd S y = some (.int k b)) :
    YV P S C ⟨dst, .binOp .lss t x y t', ty, pos, af, g⟩ (.bool (decide (a < b))) := bin_ints hx hy fun w => by simp [binOp, Op.intCmp, Sem.run_pure]
theorem yLeq {t t' : TypeId} {x y : Operand} {k : IntKind} {a b : Int} (hx : opd S x = some (.int k a)) (hy : opd S y = some (.int k b)) :
    YV P S C ⟨dst, .binOp .leq t x y t', ty, pos, af, g⟩ (.bool (decide (a ≤ b))) := bin_ints hx hy fun w => by simp [binOp, Op.intCmp, Sem.run_pure]
theorem yGtr {t t' : TypeId} {x y : Operand} {k : IntKind} {a b : Int} (hx : opd S x = some (.int k a)) (hy : opd S y = some (.int k b)) :
    YV P S C ⟨dst, .binOp .gtr t x y t', ty, pos, af, g⟩ (.bool (decide (b < a))) := bin_ints hx hy fun w => by simp [binOp, Op.intCmp, Sem.run_pure]
theorem yGeq {t t' : TypeId} {x y : Operand} {k : IntKind} {a b : Int} (hx : opd S x = some (.int k a)) (hy : opd S y = some (.int k b)) :
    YV P S C ⟨dst, .binOp .geq t x y t', ty, pos, af, g⟩ (.bool (decide (b ≤ a))) := bin_ints hx hy fun w => by simp [binOp, Op.intCmp, Sem.run_pure]
theorem yEql {t t' : TypeId} {x y : Operand} {k : IntKind} {a b : Int} (hx : opd S x = some (.int k a)) (hy : opd S y = some (.int k b)) :
    YV P S C ⟨dst, .binOp .eql t x y t', ty, pos, af, g⟩ (.bool (decide (a = b))) := bin_ints hx hy fun w => by simp [binOp, Op.intCmp, Sem.run_pure]; rfl
theorem yNeq {t t' : TypeId} {x y : Operand} {k : IntKind} {a b : Int} (hx : opd S x = some (.int k a)) (hy : opd S y = some (.int k b)) :
    YV P S C ⟨dst, .binOp .neq t x y t', ty, pos, af, g⟩ (.bool (decide (a ≠ b))) := bin_ints hx hy fun w => by
  simp only [binOp, Op.intCmp]; simp [Sem.run_pure]; by_cases h : a = b <;> simp [h]

abbrev In64 (n : Int) : Prop := -9223372036854775808 ≤ n ∧ n ≤ 9223372036854775807

theorem yAdd {t t' : TypeId} {x y : Operand} {a b : Int} (hx : opd S x = some (.int .i64 a)) (hy : opd S y = some (.int .i64 b)) (h : In64 (a + b)) :
    YV P S C ⟨dst, .binOp .add t x y t', ty, pos, af, g⟩ (.int .i64 (a + b)) := bin_ints hx hy fun w => by simp [binOp, Op.intArith, Sem.run_pure, IntWalk.i64_in _ h]
theorem ySub {t t' : TypeId} {x y : Operand} {a b : Int} (hx : opd S x = some (.int .i64 a)) (hy : opd S y = some (.int .i64 b)) (h : In64 (a - b)) :
    YV P S C ⟨dst, .binOp .sub t x y t', ty, pos, af, g⟩ (.int .i64 (a - b)) := bin_ints hx hy fun w => by simp [binOp, Op.intArith, Sem.run_pure, IntWalk.i64_in _ h]
theorem yMul {t t' : TypeId} {x y : Operand} {a b : Int} (hx : opd S x = some (.int .i64 a)) (hy : opd S y = some (.int .i64 b)) (h : In64 (a * b)) :
    YV P S C ⟨dst, .binOp .mul t x y t', ty, pos, af, g⟩ (.int .i64 (a * b)) := bin_ints hx hy fun w => by simp [binOp, Op.intArith, Sem.run_pure, IntWalk.i64_in _ h]
/-- Any kind, the wrapped value given. -/
theorem yArith {op : BinOp} {t t' : TypeId} {x y : Operand} {k : IntKind} {a b c : Int} (hx : opd S x = some (.int k a)) (hy : opd S y = some (.int k b))
    (h : (op = .add ∧ k.wrap (a + b) = c) ∨ (op = .sub ∧ k.wrap (a - b) = c) ∨ (op = .mul ∧ k.wrap (a * b) = c)) :
    YV P S C ⟨dst, .binOp op t x y t', ty, pos, af, g⟩ (.int k c) := bin_ints hx hy fun w => by
  rcases h with ⟨rfl, rfl⟩ | ⟨rfl, rfl⟩ | ⟨rfl, rfl⟩ <;> simp [binOp, Op.intArith, Sem.run_pure]
/-- A quotient of numbers that are not negative. -/
theorem yQuo {t t' : TypeId} {x y : Operand} {a b : Int} (hx : opd S x = some (.int .i64 a)) (hy : opd S y = some (.int .i64 b)) (ha : 0 ≤ a) (ha' : a ≤ 9223372036854775807) (hb : 0 < b) :
    YV P S C ⟨dst, .binOp .quo t x y t', ty, pos, af, g⟩ (.int .i64 (a / b)) := bin_ints hx hy fun w => by
  have hb0 : b ≠ 0 := by omega
  simp [binOp, Op.intDiv, hb0, Sem.run_pure, IntWalk.i64_quo a b ⟨ha, ha', by omega⟩]
/-- A quotient, rounded toward nought. -/
theorem yTquo {t t' : TypeId} {x y : Operand} {a b : Int} (hx : opd S x = some (.int .i64 a)) (hy : opd S y = some (.int .i64 b)) (ha : In64 a) (hb : 0 < b) :
    YV P S C ⟨dst, .binOp .quo t x y t', ty, pos, af, g⟩ (.int .i64 (a.tdiv b)) := bin_ints hx hy fun w => by
  have hb0 : b ≠ 0 := by omega
  simp [binOp, Op.intDiv, hb0, Sem.run_pure, IntWalk.i64_quo' a b ⟨ha.1, ha.2, by omega⟩]
theorem yRem {t t' : TypeId} {x y : Operand} {k : IntKind} {a b : Int} (hx : opd S x = some (.int k a)) (hy : opd S y = some (.int k b)) (ha : 0 ≤ a) (hb : 0 < b) :
    YV P S C ⟨dst, .binOp .rem t x y t', ty, pos, af, g⟩ (.int k (a % b)) := bin_ints hx hy fun w => by
  have hb0 : b ≠ 0 := by omega
  simp [binOp, Op.intDiv, hb0, Sem.run_pure, Int.tmod_eq_emod_of_nonneg ha]
theorem yTrem {t t' : TypeId} {x y : Operand} {k : IntKind} {a b : Int} (hx : opd S x = some (.int k a)) (hy : opd S y = some (.int k b)) (hb : 0 < b) :
    YV P S C ⟨dst, .binOp .rem t x y t', ty, pos, af, g⟩ (.int k (a.tmod b)) := bin_ints hx hy fun w => by
  have hb0 : b ≠ 0 := by omega
  simp [binOp, Op.intDiv, hb0, Sem.run_pure]
theorem yNeg {t : TypeId} {x : Operand} {a : Int} (hx : opd S x = some (.int .i64 a)) (h : In64 (-a)) : YV P S C ⟨dst, .unOp .neg t x, ty, pos, af, g⟩ (.int .i64 (-a)) :=
  .pure fun ρ hk w => by simp [execOp, hk x _ hx, Op.unary, Op.intArith, go_sem, IntWalk.i64_in _ h]
theorem yNot {t : TypeId} {x : Operand} {b : Bool} (hx : opd S x = some (.bool b)) : YV P S C ⟨dst, .unOp .not t x, ty, pos, af, g⟩ (.bool (!b)) :=
  .pure fun ρ hk w => by simp [execOp, hk x _ hx, Op.unary, go_sem]
theorem yNotP {t : TypeId} {x : Operand} {p : Prop} [Decidable p] (hx : opd S x = some (.bool (decide p))) : YV P S C ⟨dst, .unOp .not t x, ty, pos, af, g⟩ (.bool (decide (¬ p))) :=
  .pure fun ρ hk w => by simp [execOp, hk x _ hx, Op.unary, go_sem]

/-! #### Bits -/
def is64 : IntKind → Bool
  | .i64 | .u64 => true
  | _ => false
theorem wrap_nat {k : IntKind} (hk : is64 k = true) {n : Nat} (h : n < 2 ^ 63) : k.wrap (n : Int) = n := by
  have h' : n < 9223372036854775808 := by simpa using h
  cases k <;> simp [is64] at hk
  · exact IntWalk.i64_in _ (by omega)
  · exact IntWalk.u64_in _ (by omega)
theorem bits64 {k : IntKind} (hk : is64 k = true) : k.bits = 64 := by cases k <;> simp [is64] at hk <;> rfl
theorem toNat_bv {a : Nat} (h : a < 2 ^ 63) : (BitVec.ofInt 64 (a : Int)).toNat = a := by
  rw [BitVec.toNat_ofInt]
  have : a < 9223372036854775808 := by simpa using h
  omega

theorem bits_run {op : BinOp} {k : IntKind} {a b r : Nat} (hk : is64 k = true) (hr : r < 2 ^ 63)
    (h : (op = .and ∧ (BitVec.ofInt 64 (a : Int) &&& BitVec.ofInt 64 (b : Int)).toNat = r) ∨ (op = .or ∧ (BitVec.ofInt 64 (a : Int) ||| BitVec.ofInt 64 (b : Int)).toNat = r) ∨
      (op = .xor ∧ (BitVec.ofInt 64 (a : Int) ^^^ BitVec.ofInt 64 (b : Int)).toNat = r) ∨ (op = .andNot ∧ (BitVec.ofInt 64 (a : Int) &&& ~~~BitVec.ofInt 64 (b : Int)).toNat = r)) (w : World) :
    (Op.intBits op k (a : Int) (b : Int)).run P w = .ok (.int k (r : Int)) w := by
  have hw := wrap_nat hk hr
  cases k <;> simp [is64] at hk
  · rcases h with ⟨rfl, h⟩ | ⟨rfl, h⟩ | ⟨rfl, h⟩ | ⟨rfl, h⟩
    · show Result.ok (Value.int .i64 (IntKind.i64.wrap (((BitVec.ofInt 64 (a : Int) &&& BitVec.ofInt 64 (b : Int)).toNat : Nat) : Int))) w = _
      rw [h, hw]
    · show Result.ok (Value.int .i64 (IntKind.i64.wrap (((BitVec.ofInt 64 (a : Int) ||| BitVec.ofInt 64 (b : Int)).toNat : Nat) : Int))) w = _
      rw [h, hw]
    · show Result.ok (Value.int .i64 (IntKind.i64.wrap (((BitVec.ofInt 64 (a : Int) ^^^ BitVec.ofInt 64 (b : Int)).toNat : Nat) : Int))) w = _
      rw [h, hw]
    · show Result.ok (Value.int .i64 (IntKind.i64.wrap (((BitVec.ofInt 64 (a : Int) &&& ~~~BitVec.ofInt 64 (b : Int)).toNat : Nat) : Int))) w = _
      rw [h, hw]
  · rcases h with ⟨rfl, h⟩ | ⟨rfl, h⟩ | ⟨rfl, h⟩ | ⟨rfl, h⟩
    · show Result.ok (Value.int .u64 (IntKind.u64.wrap (((BitVec.ofInt 64 (a : Int) &&& BitVec.ofInt 64 (b : Int)).toNat : Nat) : Int))) w = _
      rw [h, hw]
    · show Result.ok (Value.int .u64 (IntKind.u64.wrap (((BitVec.ofInt 64 (a : Int) ||| BitVec.ofInt 64 (b : Int)).toNat : Nat) : Int))) w = _
      rw [h, hw]
    · show Result.ok (Value.int .u64 (IntKind.u64.wrap (((BitVec.ofInt 64 (a : Int) ^^^ BitVec.ofInt 64 (b : Int)).toNat : Nat) : Int))) w = _
      rw [h, hw]
    · show Result.ok (Value.int .u64 (IntKind.u64.wrap (((BitVec.ofInt 64 (a : Int) &&& ~~~BitVec.ofInt 64 (b : Int)).toNat : Nat) : Int))) w = _
      rw [h, hw]

theorem yAnd {t t' : TypeId} {x y : Operand} {k : IntKind} {a b : Nat} (hx : opd S x = some (.int k (a : Int))) (hy : opd S y = some (.int k (b : Int))) (hk : is64 k = true) (ha : a < 2 ^ 63) (hb : b < 2 ^ 63) :
    YV P S C ⟨dst, .binOp .and t x y t', ty, pos, af, g⟩ (.int k ((a &&& b : Nat) : Int)) := bin_ints hx hy fun w => by
  simp only [binOp]
  rw [if_neg (by simp)]
  exact bits_run hk (Nat.lt_of_le_of_lt Nat.and_le_left ha) (.inl ⟨rfl, by rw [BitVec.toNat_and, toNat_bv ha, toNat_bv hb]⟩) w
theorem yOr {t t' : TypeId} {x y : Operand} {k : IntKind} {a b : Nat} (hx : opd S x = some (.int k (a : Int))) (hy : opd S y = some (.int k (b : Int))) (hk : is64 k = true) (ha : a < 2 ^ 63) (hb : b < 2 ^ 63) :
    YV P S C ⟨dst, .binOp .or t x y t', ty, pos, af, g⟩ (.int k ((a ||| b : Nat) : Int)) := bin_ints hx hy fun w => by
  simp only [binOp]
  rw [if_neg (by simp)]
  exact bits_run hk (Nat.or_lt_two_pow ha hb) (.inr (.inl ⟨rfl, by rw [BitVec.toNat_or, toNat_bv ha, toNat_bv hb]⟩)) w
theorem yXor {t t' : TypeId} {x y : Operand} {k : IntKind} {a b : Nat} (hx : opd S x = some (.int k (a : Int))) (hy : opd S y = some (.int k (b : Int))) (hk : is64 k = true) (ha : a < 2 ^ 63) (hb : b < 2 ^ 63) :
    YV P S C ⟨dst, .binOp .xor t x y t', ty, pos, af, g⟩ (.int k ((a ^^^ b : Nat) : Int)) := bin_ints hx hy fun w => by
  simp only [binOp]
  rw [if_neg (by simp)]
  exact bits_run hk (Nat.xor_lt_two_pow ha hb) (.inr (.inr (.inl ⟨rfl, by rw [BitVec.toNat_xor, toNat_bv ha, toNat_bv hb]⟩))) w
/-- a without b. -/
def less (a b : Nat) : Nat := a ^^^ (a &&& b)
theorem testBit_less (a b i : Nat) : (less a b).testBit i = (a.testBit i && !b.testBit i) := by
  simp only [less, Nat.testBit_xor, Nat.testBit_and]; cases a.testBit i <;> cases b.testBit i <;> rfl
theorem less_lt {a b n : Nat} (ha : a < 2 ^ n) : less a b < 2 ^ n := Nat.xor_lt_two_pow ha (Nat.lt_of_le_of_lt Nat.and_le_left ha)
theorem yAndNot {t t' : TypeId} {x y : Operand} {k : IntKind} {a b : Nat} (hx : opd S x = some (.int k (a : Int))) (hy : opd S y = some (.int k (b : Int))) (hk : is64 k = true) (ha : a < 2 ^ 63) (hb : b < 2 ^ 63) :
    YV P S C ⟨dst, .binOp .andNot t x y t', ty, pos, af, g⟩ (.int k ((less a b : Nat) : Int)) := bin_ints hx hy fun w => by
  simp only [binOp]
  rw [if_neg (by simp)]
  refine bits_run hk (less_lt ha) (.inr (.inr (.inr ⟨rfl, ?_⟩))) w
  apply Nat.eq_of_testBit_eq
  intro i
  rw [testBit_less, BitVec.toNat_and, Nat.testBit_and, toNat_bv ha, BitVec.toNat_not, toNat_bv hb]
  by_cases hi : i < 64
  · rw [show 2 ^ 64 - 1 - b = 2 ^ 64 - (b + 1) from by omega, Nat.testBit_two_pow_sub_succ (Nat.lt_trans hb (by decide)), decide_eq_true hi, Bool.true_and]
  · have : a.testBit i = false := Nat.testBit_lt_two_pow (Nat.lt_of_lt_of_le ha (Nat.pow_le_pow_right (by decide) (by omega)))
    simp [this]

theorem bin_shift {op : BinOp} {t t' : TypeId} {x y : Operand} {k yk : IntKind} {a b : Int} {v : Value} (hop : op = .shl ∨ op = .shr) (hx : opd S x = some (.int k a)) (hy : opd S y = some (.int yk b))
    (h : ∀ w, (Op.shift op k a yk b).run P w = .ok v w) : YV P S C ⟨dst, .binOp op t x y t', ty, pos, af, g⟩ v :=
  .pure fun ρ hk w => by
    have he : (eqGuard op t x y (.int k a) (.int yk b)).run P w = .ok () w := by
      rcases hop with rfl | rfl <;> simp [eqGuard, Sem.run_pure]
    have hb : binOp op t (.int k a) (.int yk b) = Op.shift op k a yk b := by
      rcases hop with rfl | rfl <;> rfl
    simp only [execOp, hk x _ hx, hk y _ hy, Sem.run_bind, he, Result.andThen_ok, hb, h w, Sem.run_pure]
theorem yShl {t t' : TypeId} {x y : Operand} {k yk : IntKind} {a b : Nat} (hx : opd S x = some (.int k (a : Int))) (hy : opd S y = some (.int yk (b : Int))) (hk : is64 k = true) (hb : b < 63) (h : a * 2 ^ b < 2 ^ 63) :
    YV P S C ⟨dst, .binOp .shl t x y t', ty, pos, af, g⟩ (.int k ((a * 2 ^ b : Nat) : Int)) := bin_shift (.inl rfl) hx hy fun w => by
  have hm : min (b : Int).toNat k.bits = b := by rw [bits64 hk]; simp; omega
  have hn : ¬ ((b : Int) < 0) := by omega
  simp only [Op.shift, hn, if_false, hm, Sem.run_pure]
  have : ((a : Int) * 2 ^ b) = ((a * 2 ^ b : Nat) : Int) := by simp
  rw [this, wrap_nat hk h]
theorem yShr {t t' : TypeId} {x y : Operand} {k yk : IntKind} {a b : Nat} (hx : opd S x = some (.int k (a : Int))) (hy : opd S y = some (.int yk (b : Int))) (hk : is64 k = true) (ha : a < 2 ^ 63) :
    YV P S C ⟨dst, .binOp .shr t x y t', ty, pos, af, g⟩ (.int k ((a / 2 ^ b : Nat) : Int)) := bin_shift (.inr rfl) hx hy fun w => by
  have hn : ¬ ((b : Int) < 0) := by omega
  have hpos : ∀ n : Nat, (0 : Int) ≤ 2 ^ n := fun n => Int.pow_nonneg (by decide)
  have hdiv : ∀ n : Nat, ((a : Int).fdiv (2 ^ n)) = ((a / 2 ^ n : Nat) : Int) := fun n => by
    rw [Int.fdiv_eq_ediv_of_nonneg _ (hpos n)]; simp
  simp only [Op.shift, hn, if_false, Sem.run_pure, hdiv, bits64 hk]
  by_cases hb : b ≤ 64
  · have : min (b : Int).toNat 64 = b := by simp; omega
    rw [this]
  · have h1 : min (b : Int).toNat 64 = 64 := by simp; omega
    rw [h1, Nat.div_eq_of_lt (Nat.lt_of_lt_of_le ha (Nat.pow_le_pow_right (by decide) (by decide))),
      Nat.div_eq_of_lt (Nat.lt_of_lt_of_le ha (Nat.pow_le_pow_right (by decide) (by omega)))]

/-! #### Functions and interfaces as values; parts -/
theorem yExtract {x : Operand} {i : Nat} {l : List Value} {v : Value} (hx : opd S x = some (.tuple l.toArray)) (hi : l[i]? = some v) : YV P S C ⟨dst, .extract x i, ty, pos, af, g⟩ v :=
  .pure fun ρ hk w => by simp [execOp, hk x _ hx, Instr.extract, hi, go_sem]
theorem yMakeFunc {fn : Fn} {xs ys : List Operand} {us vs : List Value} (h1 : AllOpd S xs us) (h2 : AllOpd S ys vs) : YV P S C ⟨dst, .makeFunc fn xs.toArray ys.toArray, ty, pos, af, g⟩ (.func fn us.toArray vs.toArray) :=
  .pure fun ρ hk w => by simp [execOp, Instr.makeFunc, List.map_toArray, h1.map hk, h2.map hk, go_sem]
theorem yMakeInterface {T : TypeId} {x : Operand} {v : Value} (hx : opd S x = some v) (hT : ifaceT P T = false) : YV P S C ⟨dst, .makeInterface T x, ty, pos, af, g⟩ (.iface T v) :=
  .pure fun ρ hk w => by
    unfold ifaceT at hT
    split at hT
    · cases hT
    · rename_i d hne hd
      simp only [execOp, hk x _ hx, Instr.makeInterface, Sem.run_bind, run_underlying_of hd, Result.andThen_ok]
      cases d <;> first | rfl | exact absurd rfl (hne _)
    · cases hT
theorem yNilCheckP {x : Operand} {a : Addr} (hx : opd S x = some (.pointer (some a))) : YV P S C ⟨dst, .nilCheck x, ty, pos, af, g⟩ (.pointer (some a)) :=
  .pure fun ρ hk w => by simp [execOp, hk x _ hx, go_sem]
theorem yConvInt {T U : TypeId} {x : Operand} {k k' : IntKind} {n : Int} {d : TypeDesc} (hx : opd S x = some (.int k n)) (hT : P.underlying T = some d) (hU : P.underlying U = some (.int k')) (h : k'.wrap n = n) :
    YV P S C ⟨dst, .convert T U x, ty, pos, af, g⟩ (.int k' n) :=
  .pure fun ρ hk w => by
    simp only [execOp, hk x _ hx, convert, Sem.run_bind, run_underlying_of hT, run_underlying_of hU, Result.andThen_ok, Conv.intToInt, Sem.run_pure, h]
theorem yBuild {T : TypeId} {ps : List (Nat × Operand)} {vs : List (Nat × Value)} {v : Value} (h1 : AllPart S ps vs) (h2 : ∀ w, (Instr.build T vs.toArray).run P w = .ok v w) :
    YV P S C ⟨dst, .build T ps.toArray, ty, pos, af, g⟩ v :=
  .pure fun ρ hk w => by
    have := h1.map hk
    simp only [execOp, List.map_toArray, this, Sem.run_bind, h2 w, Result.andThen_ok, Sem.run_pure]

/-! #### Addresses -/
theorem addr_add (b o n : Nat) : (⟨b, o, none⟩ : Addr).add n = ⟨b, o + n, none⟩ := by
  unfold Addr.add; split
  · rename_i h; subst h; rfl
  · rfl
theorem yFieldAddr {T : TypeId} {x : Operand} {i b o k : Nat} (hx : opd S x = some (.pointer (some ⟨b, o, none⟩))) (h : fOff P T i = some k) :
    YV P S C ⟨dst, .fieldAddr T x i, ty, pos, af, g⟩ (.pointer (some ⟨b, o + k, none⟩)) :=
  .pure fun ρ hk w => by
    unfold fOff at h
    split at h
    · rename_i fs hu
      split at h
      · rename_i f hf
        split at h
        · rename_i inf hi
          split at h
          · cases h
          · rename_i hne
            cases h
            simp only [execOp, hk x _ hx, Instr.fieldAt, Sem.run_bind, run_underlying_of hu, Result.andThen_ok, hf, Instr.sureAddr, Sem.run_pure, fieldPlace, run_sizeOf_of hi, if_neg hne, addr_add]
        · cases h
      · cases h
    · cases h
theorem yIndexSl {T e : TypeId} {x i : Operand} {b o len cap sz : Nat} {k : IntKind} {n : Int} (hx : opd S x = some (.slice (some ⟨b, o, none⟩) len cap)) (hi : opd S i = some (.int k n))
    (h : slEl P T = some (e, sz)) (h0 : 0 ≤ n) (h1 : n < len) : YV P S C ⟨dst, .indexAddr T x i, ty, pos, af, g⟩ (.pointer (some ⟨b, o + n.toNat * sz, none⟩)) :=
  .pure fun ρ hk w => by
    unfold slEl at h
    split at h
    · rename_i e' hu
      split at h
      · rename_i inf hi'
        cases h
        simp only [execOp, hk x _ hx, hk i _ hi, Instr.indexAt, asIntOf, Sem.run_bind, run_underlying_of hu, Result.andThen_ok, Sem.run_pure, h0, h1, and_self, if_true, run_sizeOf_of hi', addr_add]
      · cases h
    · cases h
theorem yIndexAr {T : TypeId} {x i : Operand} {b o len sz : Nat} {k : IntKind} {n : Int} (hx : opd S x = some (.pointer (some ⟨b, o, none⟩))) (hi : opd S i = some (.int k n))
    (h : arEl P T = some (len, sz)) (h0 : 0 ≤ n) (h1 : n < len) : YV P S C ⟨dst, .indexAddr T x i, ty, pos, af, g⟩ (.pointer (some ⟨b, o + n.toNat * sz, none⟩)) :=
  .pure fun ρ hk w => by
    unfold arEl at h
    split at h
    · rename_i e' hu
      split at h
      · rename_i inf hi'
        cases h
        simp only [execOp, hk x _ hx, hk i _ hi, Instr.indexAt, asIntOf, Sem.run_bind, run_underlying_of hu, Result.andThen_ok, Sem.run_pure, Instr.sureAddr, h0, h1, and_self, if_true, run_sizeOf_of hi', addr_add]
      · cases h
    · cases h

/-! #### Loads -/
theorem run_load_cell {w : World} {a : Addr} {v : Value} (h : w.cell? a = some v) : (load a).run P w = .ok v w := by simp [load, Sem.run, h]
theorem oneT_spec {T : TypeId} (h : oneT P T = true) : ∃ d inf, P.underlying T = some d ∧ P.info? T = some inf ∧ inf.size = 1 ∧ (∀ fs, d ≠ .struct fs) ∧ (∀ n e, d ≠ .array n e) := by
  unfold oneT at h
  split at h
  · cases h
  · cases h
  · rename_i d inf h1 h2 h3 h4
    exact ⟨d, inf, h3, h4, by simpa using h, fun fs e => h1 fs e, fun n e e' => h2 n e e'⟩
  · cases h
theorem isAgg_one {T : TypeId} (h : oneT P T = true) (w : World) : (isAgg T).run P w = .ok false w := by
  obtain ⟨d, inf, hu, _, _, hs, ha⟩ := oneT_spec h
  unfold isAgg
  simp only [Sem.run_bind, run_underlying_of hu, Result.andThen_ok]
  cases d <;> first | rfl | exact absurd rfl (hs _) | exact absurd rfl (ha _ _)
theorem aggT_spec {T : TypeId} {k : Nat} (h : aggT P T = some k) : ∃ inf, P.info? T = some inf ∧ inf.size = k ∧ ∀ w, (isAgg T).run P w = .ok true w := by
  unfold aggT at h
  split at h
  · rename_i fs inf hu hi
    cases h
    exact ⟨inf, hi, rfl, fun w => by simp [isAgg, run_underlying_of hu, Sem.run_bind, Sem.run_pure]⟩
  · rename_i n e inf hu hi
    cases h
    exact ⟨inf, hi, rfl, fun w => by simp [isAgg, run_underlying_of hu, Sem.run_bind, Sem.run_pure]⟩
  · cases h
theorem run_loadCellsFrom (w : World) (b o : Nat) (vs : List Value) : ∀ (i : Nat) (acc : Array Value), (∀ j, j < vs.length → w.cell? ⟨b, o + i + j, none⟩ = vs[j]?) →
    (loadCellsFrom ⟨b, o, none⟩ i vs.length acc).run P w = .ok (acc ++ vs.toArray) w := by
  induction vs with
  | nil => intro i acc _; simp [loadCellsFrom, Sem.run_pure]
  | cons v vs ih =>
    intro i acc h
    have h0 : w.cell? ⟨b, o + i, none⟩ = some v := by simpa using h 0 (by simp)
    simp only [List.length_cons, loadCellsFrom, Sem.run_bind, addr_add, run_load_cell h0, Result.andThen_ok]
    rw [ih (i + 1) (acc.push v) (fun j hj => by
      have := h (j + 1) (by simp; omega)
      rw [show o + (i + 1) + j = o + i + (j + 1) from by omega]
      simpa using this)]
    simp
theorem run_loadVar_agg {T : TypeId} {w : World} {b o : Nat} {vs : List Value} (hT : aggT P T = some vs.length) (h : ∀ j, j < vs.length → w.cell? ⟨b, o + j, none⟩ = vs[j]?) :
    (loadVar T ⟨b, o, none⟩).run P w = .ok (.agg vs.toArray) w := by
  obtain ⟨inf, hi, hs, ha⟩ := aggT_spec hT
  have := run_loadCellsFrom (P := P) w b o vs 0 #[] (by simpa using h)
  simp only [loadVar, Sem.run_bind, ha, Result.andThen_ok, if_true, run_sizeOf_of hi, hs, loadCells, this, Sem.run_pure]
  simp
theorem run_loadVar_one {T : TypeId} {w : World} {a : Addr} {v : Value} (hT : oneT P T = true) (h : w.cell? a = some v) : (loadVar T a).run P w = .ok v w := by
  simp only [loadVar, Sem.run_bind, isAgg_one hT, Result.andThen_ok, Bool.false_eq_true, if_false, run_load_cell h]

theorem YV.pureC {o : Oper} {v : Value} (h : ∀ ρ, Knows S ρ → ∀ w, C w → (execOp ρ o).run P w = .ok (.value v) w) (hnd : nd o.op = true := by rfl) : YV P S C o v := ⟨hnd, fun ρ hk w hC => by
  rw [h ρ hk w hC]; exact ⟨rfl, rfl⟩⟩

/-- In each world of the class these cells hold these values. -/
def Cells (C : World → Prop) (b o : Nat) (vs : List Value) : Prop := ∀ w, C w → ∀ j, j < vs.length → w.cell? ⟨b, o + j, none⟩ = vs[j]?

theorem yLoad1 {T : TypeId} {x : Operand} {b o : Nat} {v : Value} (hx : opd S x = some (.pointer (some ⟨b, o, none⟩))) (hT : oneT P T = true) (hc : Cells C b o [v]) :
    YV P S C ⟨dst, .load T x, ty, pos, af, g⟩ v :=
  .pureC fun ρ hk w hC => by
    have h0 : w.cell? ⟨b, o, none⟩ = some v := by simpa using hc w hC 0 (by simp)
    simp only [execOp, hk x _ hx, Instr.loadAt, Instr.sureAddr, Sem.run_bind, Sem.run_pure, Result.andThen_ok, run_loadVar_one hT h0]
theorem yLoadA {T : TypeId} {x : Operand} {b o : Nat} {vs : List Value} (hx : opd S x = some (.pointer (some ⟨b, o, none⟩))) (hT : aggT P T = some vs.length) (hc : Cells C b o vs) :
    YV P S C ⟨dst, .load T x, ty, pos, af, g⟩ (.agg vs.toArray) :=
  .pureC fun ρ hk w hC => by
    simp only [execOp, hk x _ hx, Instr.loadAt, Instr.sureAddr, Sem.run_bind, Sem.run_pure, Result.andThen_ok, run_loadVar_agg hT (hc w hC)]

theorem cell_blk {w : World} {b o : Nat} {l : List Value} {e : TypeId} {z : Nat × Nat} (h : w.heap[b]? = some (.cells l.toArray e z)) : w.cell? ⟨b, o, none⟩ = l[o]? := by
  simp [World.cell?, h]

/-- Cells of a block that is known. -/
theorem cOwn {b o : Nat} {l vs : List Value} {e : TypeId} {z : Nat × Nat} (i : Nat) (hi : (M ++ L)[i]? = some (b, .cells l.toArray e z)) (hs : sub l o vs.length = some vs) : Cells (Eff W M L) b o vs := by
  intro w hw j hj
  have h := hw.own _ (List.mem_of_getElem? hi)
  obtain ⟨_, h2⟩ := sub_spec _ _ _ _ hs
  rw [cell_blk h]
  exact h2 j hj
/-- Cells of a block that was there. -/
theorem cOld {b o : Nat} {vs : List Value} (h : ∀ j, j < vs.length → W.cell? ⟨b, o + j, none⟩ = vs[j]?) (hM : ∀ p ∈ M, p.1 ≠ b) (h0 : 0 < vs.length) : Cells (Eff W M L) b o vs := by
  intro w hw j hj
  have h1 := h j hj
  have hb : b < W.heap.size := by
    have h2 := h 0 h0
    rw [List.getElem?_eq_getElem h0] at h2
    exact World.block_lt_of_cell? W _ h2
  rw [World.cell?_of_block (w := W) (hw.frame b hb hM)]
  exact h1

/-! #### Calls -/
theorem run_callFunc {f : FuncId} (h : callT P f = true) (args : Array Value) (w : World) : (callFunc f args).run P w = .ok (.enter f args) w := by
  unfold callT at h
  split at h
  · rename_i fn hf
    simp only [Bool.and_eq_true, bne_iff_ne, ne_eq] at h
    have hb : fn.body.isNone = false := by cases hbb : fn.body <;> simp_all
    simp only [callFunc, program, Sem.run_bind, Sem.run, Result.andThen_ok, hf, beq_iff_eq, h.1, if_false, hb, Bool.false_eq_true, Sem.run_pure]
  · cases h

/-- What a call of a function value comes to. -/
theorem exec_call {x : Operand} {xs : List Operand} {f : FuncId} {us cs vs : List Value} {tys : Array TypeId} (hx : opd S x = some (.func (.func f) us.toArray cs.toArray)) (ha : AllOpd S xs vs) (hf : callT P f = true)
    {ρ : Operand → Value} (hk : Knows S ρ) (w : World) :
    (execOp ρ ⟨dst, .call ⟨.value x, xs.toArray, tys⟩, ty, pos, af, g⟩).run P w = .ok (.enter f (us ++ vs ++ cs).toArray) w := by
  have hm := ha.map hk
  have := run_callFunc hf (us ++ vs ++ cs).toArray w
  simp only [execOp, resolve, List.map_toArray, hm, hk x _ hx, Deferred.ofValue, Sem.run_bind, Sem.run_pure, Result.andThen_ok, invoke]
  simpa using this

/-- A call that only computes. -/
theorem yCall {x : Operand} {xs : List Operand} {f : FuncId} {us cs vs : List Value} {tys : Array TypeId} {v : Value} (hx : opd S x = some (.func (.func f) us.toArray cs.toArray)) (ha : AllOpd S xs vs) (hf : callT P f = true)
    (hc : ∀ w, C w → Calls P f (us ++ vs ++ cs).toArray w (Ret w v)) : YV P S C ⟨dst, .call ⟨.value x, xs.toArray, tys⟩, ty, pos, af, g⟩ v := ⟨rfl, fun ρ hk w hC => by
  rw [exec_call hx ha hf hk w]
  exact ⟨rfl, hc w hC⟩⟩

/-- A length. -/
theorem yLen {T : TypeId} {x : Operand} {a : Option Addr} {len cap : Nat} {r : TypeId × Nat} {tys : List TypeId} (hx : opd S x = some (.slice a len cap)) (hT : slEl P T = some r) :
    YV P S C ⟨dst, .call ⟨.builtin .len, #[x], (T :: tys).toArray⟩, ty, pos, af, g⟩ (.int .i64 len) :=
  .pure fun ρ hk w => by
    unfold slEl at hT
    split at hT
    · rename_i e hu
      simp only [execOp, resolve, List.map_toArray, List.map_cons, List.map_nil, hk x _ hx, Sem.run_bind, Sem.run_pure, Result.andThen_ok, invoke, builtin, Builtin.len_]
      simp [run_underlying_of hu, goInt, Sem.run_bind, Sem.run_pure]
    · cases hT
theorem yMin {x y : Operand} {k : IntKind} {a b : Int} {tys : Array TypeId} (hx : opd S x = some (.int k a)) (hy : opd S y = some (.int k b)) :
    YV P S C ⟨dst, .call ⟨.builtin .min, #[x, y], tys⟩, ty, pos, af, g⟩ (.int k (min a b)) :=
  .pure fun ρ hk w => by
    have : (if b < a then b else a) = min a b := by split <;> omega
    simp [execOp, resolve, hk x _ hx, hk y _ hy, Sem.run_pure, invoke, builtin, Builtin.min_, Builtin.min2, this]
theorem yMax {x y : Operand} {k : IntKind} {a b : Int} {tys : Array TypeId} (hx : opd S x = some (.int k a)) (hy : opd S y = some (.int k b)) :
    YV P S C ⟨dst, .call ⟨.builtin .max, #[x, y], tys⟩, ty, pos, af, g⟩ (.int k (max a b)) :=
  .pure fun ρ hk w => by
    have : (if a < b then b else a) = max a b := by split <;> omega
    simp [execOp, resolve, hk x _ hx, hk y _ hy, Sem.run_pure, invoke, builtin, Builtin.max_, Builtin.max2, this]
end ops
end ZW
namespace ZW
open Go

section effects
variable {P : Program} {ro : Option Nat} {X : Act → World → Prop} {Q : Exit → Act → World → Prop} {next : Act → World → Prop}
variable {N : Nat} {S : Slots} {D : List Deferred} {W : World} {M L : Heap}
variable {dst : Option Tmp} {d : Nat} {ty : TypeId} {pos : String} {af : Array Edge} {g : Option (Nat × Bool)}

/-- An operation that is run to its end: its value, and a world of which Eff is known. -/
theorem opW_value {o : Oper} {a : Act} {w w' : World} {v : Value} (hnd : nd o.op = true) (h : (execOp a.eval o).run P w = .ok (.value v) w') (hn : next (a.put o.dst v) w') : opW P ro N o next Q a w := fun _ => by
  rw [semAt_nd hnd, h]; exact hn
theorem opW_skip {o : Oper} {a : Act} {w w' : World} (hnd : nd o.op = true) (h : (execOp a.eval o).run P w = .ok .skip w') (hn : next (a.put o.dst undef) w') : opW P ro N o next Q a w := fun _ => by
  rw [semAt_nd hnd, h]; exact hn
theorem opW_enter {o : Oper} {a : Act} {w w' : World} {f : FuncId} {args : Array Value} (hnd : nd o.op = true) (h : (execOp a.eval o).run P w = .ok (.enter f args) w')
    (hc : Calls P f args w' fun
      | .returned v, w'' => next (a.put o.dst v) w''
      | .panicked chain, w'' => Q (.panic chain) a w''
      | .outgrown, _ => LetsOut Q) : opW P ro N o next Q a w := fun _ => by
  rw [semAt_nd hnd, h]
  exact ⟨fun hd => by simp at hd, ⟨trivial, ((callsIn_wide (n := 0)).2 hc).2⟩⟩

theorem run_newRow {T : TypeId} (cs : Array Value) (w : World) : (newRow T cs).run P w = .ok ⟨w.heap.size, 0, none⟩ { w with heap := w.heap.push (.cells cs T) } := by
  simp [newRow, newObj, Sem.run, go_sem]
theorem run_zeroValue {T : TypeId} {l : List Value} (h : zeroT P T = some l) (w : World) : ∃ z, (zeroValue T).run P w = .ok z w ∧ z.cells = l.toArray := by
  unfold zeroT at h
  split at h
  · rename_i inf hi
    rw [Option.map_eq_some_iff] at h
    obtain ⟨z, hz, rfl⟩ := h
    exact ⟨z, by simp [zeroValue, typeInfo, program, Sem.run, hi, hz, Sem.run_bind, Sem.run_pure], by simp⟩
  · cases h

theorem eAlloc {T : TypeId} {l : List Value} (hz : zeroT P T = some l) 
    (k : ∀ n, Tr (St N ((d, .pointer (some ⟨n, 0, none⟩)) :: S) D W M ((n, blk l T) :: L)) next) :
    Tr (St N S D W M L) (opW P ro N ⟨some d, .alloc T, ty, pos, af, g⟩ next Q) := fun a w hs hN => by
  obtain ⟨z, hz1, hz2⟩ := run_zeroValue hz w
  refine opW_value (w' := { w with heap := w.heap.push (blk l T) }) (v := .pointer (some ⟨w.heap.size, 0, none⟩)) rfl ?_ (k w.heap.size _ _ ((hs.put (hN d rfl) _).eff (hs.ef.alloc _))) hN
  simp only [execOp, Instr.alloc, Sem.run_bind, hz1, Result.andThen_ok, newVar, run_newRow, Sem.run_pure, hz2]
theorem eBox1 {T : TypeId} {x : Operand} {v : Value} (hx : opd S x = some v) (hv : v.cells = #[v]) 
    (k : ∀ n, Tr (St N ((d, .pointer (some ⟨n, 0, none⟩)) :: S) D W M ((n, blk [v] T) :: L)) next) :
    Tr (St N S D W M L) (opW P ro N ⟨some d, .box T x, ty, pos, af, g⟩ next Q) := fun a w hs hN => by
  refine opW_value (w' := { w with heap := w.heap.push (blk [v] T) }) (v := .pointer (some ⟨w.heap.size, 0, none⟩)) rfl ?_ (k w.heap.size _ _ ((hs.put (hN d rfl) _).eff (hs.ef.alloc _))) hN
  simp only [execOp, Instr.box, hs.knows x _ hx, hv, Sem.run_bind, Result.andThen_ok, newVar, run_newRow, Sem.run_pure]
theorem eBoxA {T : TypeId} {x : Operand} {l : List Value} (hx : opd S x = some (.agg l.toArray)) 
    (k : ∀ n, Tr (St N ((d, .pointer (some ⟨n, 0, none⟩)) :: S) D W M ((n, blk l T) :: L)) next) :
    Tr (St N S D W M L) (opW P ro N ⟨some d, .box T x, ty, pos, af, g⟩ next Q) := fun a w hs hN => by
  refine opW_value (w' := { w with heap := w.heap.push (blk l T) }) (v := .pointer (some ⟨w.heap.size, 0, none⟩)) rfl ?_ (k w.heap.size _ _ ((hs.put (hN d rfl) _).eff (hs.ef.alloc _))) hN
  simp only [execOp, Instr.box, hs.knows x _ hx, Value.cells, Sem.run_bind, Result.andThen_ok, newVar, run_newRow, Sem.run_pure]

/-! #### Stores -/
theorem heap_modify_self {h : Array Obj} {b : Nat} {o : Obj} {f : Obj → Obj} (hb : h[b]? = some o) : (h.modify b f)[b]? = some (f o) := by
  rw [Array.getElem?_modify, if_pos rfl, hb]; rfl
theorem setCell_blk {w : World} {b o : Nat} {l : List Value} {e : TypeId} {z : Nat × Nat} (h : w.heap[b]? = some (.cells l.toArray e z)) (v : Value) :
    (w.setCell ⟨b, o, none⟩ v).heap[b]? = some (.cells (l.set o v).toArray e z) := by
  show (w.heap.modify b _)[b]? = _
  rw [heap_modify_self h]
  simp
theorem setCell_other {w : World} {a : Addr} {v : Value} {k : Nat} (h : k ≠ a.block) : (w.setCell a v).heap[k]? = w.heap[k]? := by
  simp only [World.setCell, Array.getElem?_modify]
  rw [if_neg (by omega)]
theorem frozen_blk {w : World} {b o : Nat} {l : List Value} {e : TypeId} (h : w.heap[b]? = some (blk l e)) : w.frozen? ⟨b, o, none⟩ = false := by
  simp [World.frozen?, h]

/-- In the i-th block of the list this is held now. -/
def upd (H : Heap) (i : Nat) (o : Obj) : Heap := match H, i with
  | [], _ => []
  | (k, _) :: r, 0 => (k, o) :: r
  | p :: r, i + 1 => p :: upd r i o

theorem upd_keys : ∀ (H : Heap) (i : Nat) (o : Obj), (upd H i o).map (·.1) = H.map (·.1)
  | [], i, o => by simp [upd]
  | (k, x) :: r, 0, o => by simp [upd]
  | (k, x) :: r, i + 1, o => by simp [upd, upd_keys r i o]
theorem upd_mem : ∀ (H : Heap) (i : Nat) (o : Obj) (b : Nat) (x : Obj), H[i]? = some (b, x) → (H.map (·.1)).Nodup → ∀ p ∈ upd H i o, (p.1 = b ∧ p.2 = o) ∨ (p ∈ H ∧ p.1 ≠ b)
  | [], i, o, b, x, h, _, p, hp => by simp [upd] at hp
  | (k, y) :: r, 0, o, b, x, h, hn, p, hp => by
    simp only [List.getElem?_cons_zero, Option.some.injEq, Prod.mk.injEq] at h
    obtain ⟨rfl, rfl⟩ := h
    simp only [upd, List.mem_cons] at hp
    rcases hp with rfl | hp
    · exact .inl ⟨rfl, rfl⟩
    · simp only [List.map_cons, List.nodup_cons] at hn
      exact .inr ⟨by simp [hp], fun e => hn.1 (by rw [← e]; exact List.mem_map.2 ⟨p, hp, rfl⟩)⟩
  | (k, y) :: r, i + 1, o, b, x, h, hn, p, hp => by
    simp only [List.getElem?_cons_succ] at h
    simp only [List.map_cons, List.nodup_cons] at hn
    simp only [upd, List.mem_cons] at hp
    rcases hp with rfl | hp
    · refine .inr ⟨by simp, fun e => ?_⟩
      simp only at e
      exact hn.1 (by rw [e]; exact List.mem_map.2 ⟨(b, x), List.mem_of_getElem? h, rfl⟩)
    · rcases upd_mem r i o b x h hn.2 p hp with h1 | h1
      · exact .inl h1
      · exact .inr ⟨by simp [h1.1], h1.2⟩

theorem Eff.updL {w w' : World} (h : Eff W M L w) {i b : Nat} {x o : Obj} (hi : L[i]? = some (b, x)) (h1 : w'.heap[b]? = some o) (h2 : ∀ k, k ≠ b → w'.heap[k]? = w.heap[k]?) (hs : w.heap.size ≤ w'.heap.size)
    (hos : w'.os = w.os) (ht : w'.tape = w.tape) (ho : w'.output = w.output) : Eff W M (upd L i o) w' := by
  have hnL : (L.map (·.1)).Nodup := by have := h.nd; rw [List.map_append, List.nodup_append] at this; exact this.2.1
  have hmem := List.mem_of_getElem? hi
  have hb : W.heap.size ≤ b := h.new _ hmem
  refine ⟨hos.trans h.os, ht.trans h.tape, ho.trans h.output, Nat.le_trans h.size hs, ?_, ?_, ?_, h.old, ?_⟩
  · intro k hk hM; rw [h2 k (by omega)]; exact h.frame k hk hM
  · intro p hp
    rcases List.mem_append.1 hp with hp | hp
    · have hlt := h.old p hp
      rw [h2 _ (by omega)]; exact h.own p (by simp [hp])
    · rcases upd_mem L i o b x hi hnL p hp with ⟨e1, e2⟩ | ⟨e1, e2⟩
      · rw [e1, e2]; exact h1
      · rw [h2 _ e2]; exact h.own p (by simp [e1])
  · intro p hp
    rcases upd_mem L i o b x hi hnL p hp with ⟨e1, e2⟩ | ⟨e1, e2⟩
    · rw [e1]; exact hb
    · exact h.new p e1
  · rw [List.map_append, upd_keys, ← List.map_append]; exact h.nd
theorem Eff.updM {w w' : World} (h : Eff W M L w) {i b : Nat} {x o : Obj} (hi : M[i]? = some (b, x)) (h1 : w'.heap[b]? = some o) (h2 : ∀ k, k ≠ b → w'.heap[k]? = w.heap[k]?) (hs : w.heap.size ≤ w'.heap.size)
    (hos : w'.os = w.os) (ht : w'.tape = w.tape) (ho : w'.output = w.output) : Eff W (upd M i o) L w' := by
  have hnM : (M.map (·.1)).Nodup := by have := h.nd; rw [List.map_append, List.nodup_append] at this; exact this.1
  have hmem := List.mem_of_getElem? hi
  have hb : b < W.heap.size := h.old _ hmem
  have hkeys : ∀ k, (∀ p ∈ upd M i o, p.1 ≠ k) → ∀ p ∈ M, p.1 ≠ k := by
    intro k hk p hp e
    have : p.1 ∈ (upd M i o).map (·.1) := by rw [upd_keys]; exact List.mem_map.2 ⟨p, hp, rfl⟩
    obtain ⟨q, hq, hqe⟩ := List.mem_map.1 this
    exact hk q hq (by rw [hqe]; exact e)
  refine ⟨hos.trans h.os, ht.trans h.tape, ho.trans h.output, Nat.le_trans h.size hs, ?_, ?_, h.new, ?_, ?_⟩
  · intro k hk hM
    have hM' := hkeys k hM
    rw [h2 k (fun e => hM' _ hmem e.symm)]; exact h.frame k hk hM'
  · intro p hp
    rcases List.mem_append.1 hp with hp | hp
    · rcases upd_mem M i o b x hi hnM p hp with ⟨e1, e2⟩ | ⟨e1, e2⟩
      · rw [e1, e2]; exact h1
      · rw [h2 _ e2]; exact h.own p (by simp [e1])
    · have := h.new p hp
      rw [h2 _ (by omega)]; exact h.own p (by simp [hp])
  · intro p hp
    rcases upd_mem M i o b x hi hnM p hp with ⟨e1, e2⟩ | ⟨e1, e2⟩
    · rw [e1]; exact hb
    · exact h.old p e1
  · rw [List.map_append, upd_keys, ← List.map_append]; exact h.nd

def plainV : Value → Bool
  | .agg _ => false
  | .tuple _ => false
  | _ => true
theorem run_store_plain {w : World} {a : Addr} {v u : Value} (hv : plainV v = true) (hc : w.cell? a = some u) (hf : w.frozen? a = false) : (store a v).run P w = .ok () (w.setCell a v) := by
  cases v <;> simp only [plainV, Bool.false_eq_true] at hv <;> simp [store, Sem.run, hc, hf]

/-- What storing cells comes to. -/
theorem run_storeCells (vs : List Value) : ∀ (w : World) (b o i : Nat) (l : List Value) (e : TypeId), w.heap[b]? = some (blk l e) → (∀ v ∈ vs, plainV v = true) → o + i + vs.length ≤ l.length →
    ∃ w', (storeCells ⟨b, o, none⟩ vs i).run P w = .ok () w' ∧ w'.heap[b]? = some (blk (wr l (o + i) vs) e) ∧ (∀ k, k ≠ b → w'.heap[k]? = w.heap[k]?) ∧ w'.heap.size = w.heap.size ∧ w'.os = w.os ∧ w'.tape = w.tape ∧ w'.output = w.output := by
  induction vs with
  | nil => intro w b o i l e h _ _; exact ⟨w, by simp [storeCells, Sem.run_pure], by rw [wr_nil]; exact h, fun _ _ => rfl, rfl, rfl, rfl, rfl⟩
  | cons v vs ih =>
    intro w b o i l e h hv hlen
    have hcell : w.cell? ⟨b, o + i, none⟩ = some (l[o + i]'(by simp at hlen; omega)) := by
      rw [cell_blk h]; exact List.getElem?_eq_getElem _
    have hst := run_store_plain (P := P) (hv v (by simp)) hcell (frozen_blk (o := o + i) h)
    obtain ⟨w', h1, h2, h3, h4, h5, h6, h7⟩ := ih (w.setCell ⟨b, o + i, none⟩ v) b o (i + 1) (l.set (o + i) v) e (setCell_blk h v) (fun u hu => hv u (by simp [hu])) (by simp at hlen ⊢; omega)
    refine ⟨w', ?_, ?_, fun k hk => (h3 k hk).trans (setCell_other hk), by rw [h4]; simp [World.setCell], h5, h6, h7⟩
    · simp only [storeCells, addr_add, Sem.run_bind, hst, Result.andThen_ok, h1]
    · rw [h2, wr_cons]; rfl

def sizeT (P : Program) (T : TypeId) : Option Nat := (P.info? T).map (·.size)

theorem run_storeVar {T : TypeId} {w : World} {b o : Nat} {l vs : List Value} {e : TypeId} {x : Value} (h : w.heap[b]? = some (blk l e)) (hx : x.cells = vs.toArray) (hT : sizeT P T = some vs.length) (hv : vs.all plainV = true)
    (hlen : o + vs.length ≤ l.length) :
    ∃ w', (storeVar T ⟨b, o, none⟩ x).run P w = .ok () w' ∧ w'.heap[b]? = some (blk (wr l o vs) e) ∧ (∀ k, k ≠ b → w'.heap[k]? = w.heap[k]?) ∧ w'.heap.size = w.heap.size ∧ w'.os = w.os ∧ w'.tape = w.tape ∧ w'.output = w.output := by
  obtain ⟨w', h1, h2⟩ := run_storeCells (P := P) vs w b o 0 l e h (fun v hm => List.all_eq_true.1 hv v hm) (by omega)
  refine ⟨w', ?_, by simpa using h2⟩
  unfold sizeT at hT
  rw [Option.map_eq_some_iff] at hT
  obtain ⟨inf, hi, hs⟩ := hT
  simp only [storeVar, hx, Sem.run_bind, run_sizeOf_of hi, Result.andThen_ok, hs]
  simp only [List.size_toArray, ne_eq, not_true_eq_false, if_false]
  exact h1

theorem exec_store {T : TypeId} {ad x : Operand} {b o : Nat} {l vs : List Value} {e : TypeId} {v : Value} {w : World} {ρ : Operand → Value} (hk : Knows S ρ) (ha : opd S ad = some (.pointer (some ⟨b, o, none⟩))) (hx : opd S x = some v)
    (h : w.heap[b]? = some (blk l e)) (hv : v.cells = vs.toArray) (hT : sizeT P T = some vs.length) (hp : vs.all plainV = true) (hlen : Nat.ble (o + vs.length) l.length = true) :
    ∃ w', (execOp ρ ⟨dst, .store T ad x, ty, pos, af, g⟩).run P w = .ok .skip w' ∧ w'.heap[b]? = some (blk (wr l o vs) e) ∧ (∀ k, k ≠ b → w'.heap[k]? = w.heap[k]?) ∧ w'.heap.size = w.heap.size ∧ w'.os = w.os ∧ w'.tape = w.tape ∧ w'.output = w.output := by
  obtain ⟨w', h1, h2⟩ := run_storeVar (P := P) h hv hT hp (Nat.le_of_ble_eq_true hlen)
  exact ⟨w', by simp only [execOp, Instr.storeAt, hk ad _ ha, hk x _ hx, Instr.sureAddr, Sem.run_bind, Sem.run_pure, Result.andThen_ok, h1], h2⟩

/-- A store into the i-th new block. -/
theorem eStoreL {T : TypeId} {ad x : Operand} {b o : Nat} {l vs : List Value} {e : TypeId} {v : Value} (i : Nat) (ha : opd S ad = some (.pointer (some ⟨b, o, none⟩))) (hx : opd S x = some v) (hi : L[i]? = some (b, blk l e))
    (hv : v.cells = vs.toArray) (hT : sizeT P T = some vs.length) (hp : vs.all plainV = true) (hlen : Nat.ble (o + vs.length) l.length = true)
    (k : Tr (St N S D W M (upd L i (blk (wr l o vs) e))) next) : Tr (St N S D W M L) (opW P ro N ⟨none, .store T ad x, ty, pos, af, g⟩ next Q) := fun a w hs hN => by
  have hb := hs.ef.own _ (List.mem_append.2 (.inr (List.mem_of_getElem? hi)))
  obtain ⟨w', h1, h2, h3, h4, h5, h6, h7⟩ := exec_store (P := P) (dst := none) (ty := ty) (pos := pos) (af := af) (g := g) hs.knows ha hx hb hv hT hp hlen
  exact opW_skip rfl h1 (k _ _ (hs.eff (hs.ef.updL hi h2 h3 (by omega) h5 h6 h7))) hN
/-- A store into the i-th block of those that were there. -/
theorem eStoreM {T : TypeId} {ad x : Operand} {b o : Nat} {l vs : List Value} {e : TypeId} {v : Value} (i : Nat) (ha : opd S ad = some (.pointer (some ⟨b, o, none⟩))) (hx : opd S x = some v) (hi : M[i]? = some (b, blk l e))
    (hv : v.cells = vs.toArray) (hT : sizeT P T = some vs.length) (hp : vs.all plainV = true) (hlen : Nat.ble (o + vs.length) l.length = true)
    (k : Tr (St N S D W (upd M i (blk (wr l o vs) e)) L) next) : Tr (St N S D W M L) (opW P ro N ⟨none, .store T ad x, ty, pos, af, g⟩ next Q) := fun a w hs hN => by
  have hb := hs.ef.own _ (List.mem_append.2 (.inl (List.mem_of_getElem? hi)))
  obtain ⟨w', h1, h2, h3, h4, h5, h6, h7⟩ := exec_store (P := P) (dst := none) (ty := ty) (pos := pos) (af := af) (g := g) hs.knows ha hx hb hv hT hp hlen
  exact opW_skip rfl h1 (k _ _ (hs.eff (hs.ef.updM hi h2 h3 (by omega) h5 h6 h7))) hN

/-- A literal slice: a new block; what it holds is a fact on the type. -/
theorem eBuildSlice {T e : TypeId} {len : Nat} {ps : List (Nat × Operand)} {vs : List (Nat × Value)} {l : List Value} (h1 : AllPart S ps vs) 
    (h2 : ∀ w, (Instr.buildSlice T len vs.toArray).run P w = .ok (.slice (some ⟨w.heap.size, 0, none⟩) len len) { w with heap := w.heap.push (blk l e) })
    (k : ∀ n, Tr (St N ((d, .slice (some ⟨n, 0, none⟩) len len) :: S) D W M ((n, blk l e) :: L)) next) :
    Tr (St N S D W M L) (opW P ro N ⟨some d, .buildSlice T len ps.toArray, ty, pos, af, g⟩ next Q) := fun a w hs hN => by
  have hm := h1.map hs.knows
  refine opW_value (w' := { w with heap := w.heap.push (blk l e) }) (v := .slice (some ⟨w.heap.size, 0, none⟩) len len) rfl ?_ (k w.heap.size _ _ ((hs.put (hN d rfl) _).eff (hs.ef.alloc _))) hN
  simp only [execOp, List.map_toArray, hm, Sem.run_bind, h2 w, Result.andThen_ok, Sem.run_pure]

/-! #### Contracts -/
/-- The call returns a value of those that are told; new blocks are as told. -/
def RetX {ι : Type} (w : World) (φ : ι → Prop) (v : ι → Value) (Mx : ι → Heap) (Lx : ι → Heap) : Ending → World → Prop := fun e w' => ∃ x, φ x ∧ e = .returned (v x) ∧ Eff w (Mx x) (Lx x) w'
/-- The call panics with this. -/
def Pan (w : World) (v : Value) : Ending → World → Prop := fun e w' => e = .panicked [{ v, recovered := false }] ∧ Eff w [] [] w'

/-- A call that makes blocks. -/
theorem eCallX {ι : Type} {x : Operand} {xs : List Operand} {f : FuncId} {us cs vs : List Value} {tys : Array TypeId} {φ : ι → Prop} {v : ι → Value} {Lx : ι → Heap} (hx : opd S x = some (.func (.func f) us.toArray cs.toArray)) (ha : AllOpd S xs vs)
    (hf : callT P f = true) (hc : ∀ w, Eff W M L w → Calls P f (us ++ vs ++ cs).toArray w (RetX w φ v (fun _ => []) Lx))
    (k : ∀ y, φ y → Tr (St N ((d, v y) :: S) D W M (Lx y ++ L)) next) : Tr (St N S D W M L) (opW P ro N ⟨some d, .call ⟨.value x, xs.toArray, tys⟩, ty, pos, af, g⟩ next Q) := fun a w hs hN => by
  refine opW_enter rfl (exec_call hx ha hf hs.knows w) ((hc w hs.ef).mono ?_) hN
  rintro e w' ⟨y, hy, rfl, hE⟩
  exact k y hy _ _ ((hs.put (hN d rfl) _).eff (hs.ef.trans hE))
/-- A call that writes into blocks that were there, and makes some: what is then known of the memory is shown world by world. -/
theorem eCallM {ι : Type} {x : Operand} {xs : List Operand} {f : FuncId} {us cs vs : List Value} {tys : Array TypeId} {φ : ι → Prop} {v : ι → Value} {Mx Lx : ι → Heap} (M' L' : ι → Heap) (hx : opd S x = some (.func (.func f) us.toArray cs.toArray)) (ha : AllOpd S xs vs)
    (hf : callT P f = true) (hc : ∀ w, Eff W M L w → Calls P f (us ++ vs ++ cs).toArray w (RetX w φ v Mx Lx))
    (hm : ∀ y w w', φ y → Eff W M L w → Eff w (Mx y) (Lx y) w' → Eff W (M' y) (L' y) w')
    (k : ∀ y, φ y → Tr (St N ((d, v y) :: S) D W (M' y) (L' y)) next) : Tr (St N S D W M L) (opW P ro N ⟨some d, .call ⟨.value x, xs.toArray, tys⟩, ty, pos, af, g⟩ next Q) := fun a w hs hN => by
  refine opW_enter rfl (exec_call hx ha hf hs.knows w) ((hc w hs.ef).mono ?_) hN
  rintro e w' ⟨y, hy, rfl, hE⟩
  exact k y hy _ _ ((hs.put (hN d rfl) _).eff (hm y w w' hy hs.ef hE))
/-- A call that panics. -/
theorem eCallP {x : Operand} {xs : List Operand} {f : FuncId} {us cs vs : List Value} {tys : Array TypeId} {v : Value} (hx : opd S x = some (.func (.func f) us.toArray cs.toArray)) (ha : AllOpd S xs vs)
    (hf : callT P f = true) (hc : ∀ w, Eff W M L w → Calls P f (us ++ vs ++ cs).toArray w (Pan w v))
    (k : Tr (St N S D W M L) (Q (.panic [{ v, recovered := false }]))) : Tr (St N S D W M L) (opW P ro N ⟨dst, .call ⟨.value x, xs.toArray, tys⟩, ty, pos, af, g⟩ next Q) := fun a w hs hN => by
  refine opW_enter rfl (exec_call hx ha hf hs.knows w) ((hc w hs.ef).mono ?_) hN
  rintro e w' ⟨rfl, hE⟩
  exact k _ _ (hs.eff (by simpa using hs.ef.trans hE))

/-- panic(x). -/
theorem ePanic {x : Operand} {t : TypeId} {v : Value} (hx : opd S x = some (.iface t v)) (k : Tr (St N S D W M L) (Q (.panic [{ v := .iface t v, recovered := false }]))) :
    Tr (St N S D W M L) (opW P ro N ⟨dst, .panic x, ty, pos, af, g⟩ next Q) := fun a w hs hN => by
  have h : (execOp a.eval ⟨dst, .panic x, ty, pos, af, g⟩).run P w = .halt (.panic (.iface t v)) w := by
    simp only [execOp, hs.knows x _ hx, Instr.panic, goPanic, Sem.run_bind, Sem.run]; rfl
  rw [semAt_nd rfl, h]
  exact k a w hs
/-- defer f(..), in no round. -/
theorem eDefer {x : Operand} {xs : List Operand} {fn : Fn} {us cs vs : List Value} {tys : Array TypeId} (hx : opd S x = some (.func fn us.toArray cs.toArray)) (ha : AllOpd S xs vs)
    (k : Tr (St N S ({ target := .fn fn cs.toArray, args := (us ++ vs).toArray } :: D) W M L) next) :
    Tr (St N S D W M L) (opW P none N ⟨none, .defer ⟨.value x, xs.toArray, tys⟩, ty, pos, af, g⟩ next Q) := fun a w hs hN => by
  have hm := ha.map hs.knows
  have h : (execOp a.eval ⟨none, .defer ⟨.value x, xs.toArray, tys⟩, ty, pos, af, g⟩).run P w = .ok (.defer { target := .fn fn cs.toArray, args := (us ++ vs).toArray }) w := by
    simp [execOp, resolve, List.map_toArray, hm, hs.knows x _ hx, Deferred.ofValue, Sem.run_pure]
  rw [Oper.semAt_none, h]
  exact k _ _ ⟨hs.sz, hs.sl, by simp [Act.put, hs.df], hs.ef⟩
end effects

/-! ### Functions -/
section funcs
variable {P : Program} {N : Nat} {S : Slots} {D : List Deferred} {W : World} {M L : Heap}

/-- Slots from one on. -/
def slotsFrom : Nat → List Value → Slots
  | _, [] => []
  | k, v :: vs => (k, v) :: slotsFrom (k + 1) vs

theorem look_slotsFrom (vs : List Value) : ∀ (k t : Nat) (v : Value), look (slotsFrom k vs) t = some v → k ≤ t ∧ vs[t - k]? = some v := by
  induction vs with
  | nil => intro k t v h; simp [slotsFrom, look] at h
  | cons u vs ih =>
    intro k t v h
    rw [slotsFrom, look_cons] at h
    split at h
    · rename_i e; subst e; simpa using h
    · rename_i e
      obtain ⟨h1, h2⟩ := ih (k + 1) t v h
      refine ⟨by omega, ?_⟩
      rw [show t - k = (t - (k + 1)) + 1 from by omega]
      simpa using h2

/-- A function is entered. -/
theorem fEnter {f : FuncId} {fn : Func} {c : Code} {vs : List Value} {R : Ending → World → Prop} (hf : P.funcs[f]? = some fn) (hb : fn.body = some c) (hn : fn.ntmps = N) (hN : Nat.ble vs.length N = true)
    (h : Tr (St N (slotsFrom 0 vs) [] W [] []) (WP P none c (bodyPostM (FW none) 0 P fn R))) : Calls P f vs.toArray W R := by
  refine (callsIn_wide (n := 0)).1 (callsIn_of_wp_marks hf hb trivial ?_)
  refine h _ W ⟨?_, ?_, rfl, Eff.refl W⟩
  · have := Nat.le_of_ble_eq_true hN
    simp [hn]; omega
  · intro t v hv
    obtain ⟨h1, h2⟩ := look_slotsFrom vs 0 t v hv
    simp only [Nat.sub_zero] at h2
    have hlt : t < vs.length := by
      rcases Nat.lt_or_ge t vs.length with h | h
      · exact h
      · rw [List.getElem?_eq_none h] at h2; cases h2
    show (vs.toArray ++ Array.replicate (fn.ntmps - vs.toArray.size) undef)[t]? = some v
    rw [Array.getElem?_append_left (by simpa using hlt)]
    simpa using h2

/-- What a function's results are. -/
inductive ResV (P : Program) (S : Slots) (C : World → Prop) : List ResultVar → List Value → Prop
  | n : ResV P S C [] []
  | t {t : Nat} {v : Value} {rs : List ResultVar} {vs : List Value} : look S t = some v → ResV P S C rs vs → ResV P S C (.tmp t :: rs) (v :: vs)
  | c1 {t b o : Nat} {T : TypeId} {v : Value} {rs : List ResultVar} {vs : List Value} : look S t = some (.pointer (some ⟨b, o, none⟩)) → oneT P T = true → Cells C b o [v] → ResV P S C rs vs → ResV P S C (.cell t T :: rs) (v :: vs)
  | cA {t b o : Nat} {T : TypeId} {us : List Value} {rs : List ResultVar} {vs : List Value} : look S t = some (.pointer (some ⟨b, o, none⟩)) → aggT P T = some us.length → Cells C b o us → ResV P S C rs vs →
      ResV P S C (.cell t T :: rs) (.agg us.toArray :: vs)

def packV : List Value → Value
  | [v] => v
  | vs => .tuple vs.toArray

def rdRes (tmps : Array Value) : ResultVar → Sem Value
  | .tmp t => pure (tmps.getD t undef)
  | .cell a t => do loadVar t (← asAddr (tmps.getD a undef))
theorem results_eq (fn : Func) (tmps : Array Value) : results fn tmps = (do let vs ← fn.results.mapM (rdRes tmps); pure (if h : vs.size = 1 then vs[0] else .tuple vs)) := by
  unfold results
  congr 1

theorem rdRes_tmp {tmps : Array Value} {t : Nat} {v : Value} {w : World} (h : tmps[t]? = some v) : (rdRes tmps (.tmp t)).run P w = .ok v w := by
  simp [rdRes, h, Sem.run_pure]
theorem rdRes_cell {tmps : Array Value} {t : Nat} {T : TypeId} {a : Addr} {v : Value} {w : World} (h : tmps[t]? = some (.pointer (some a))) (hv : (loadVar T a).run P w = .ok v w) : (rdRes tmps (.cell t T)).run P w = .ok v w := by
  have : tmps.getD t undef = .pointer (some a) := by simp [h]
  simp only [rdRes, this, asAddr, Sem.run_bind, Sem.run_pure, Result.andThen_ok, hv]

theorem run_results {fn : Func} {tmps : Array Value} {rs : List ResultVar} {vs : List Value} {C : World → Prop} {w : World} (hr : fn.results = rs.toArray) (h : ResV P S C rs vs) (hC : C w) (hs : ∀ t v, look S t = some v → tmps[t]? = some v) :
    (results fn tmps).run P w = .ok (packV vs) w := by
  have key : (rs.mapM (rdRes tmps)).run P w = .ok vs w := by
    clear hr
    induction h with
    | n => simp [Sem.run_pure]
    | t h1 _ ih => simp only [List.mapM_cons, Sem.run_bind, rdRes_tmp (P := P) (w := w) (hs _ _ h1), Result.andThen_ok, ih, Sem.run_pure]
    | c1 h1 hT hc _ ih =>
      have h0 := hc w hC 0 (by simp)
      simp only [List.getElem?_cons_zero, Nat.add_zero] at h0
      simp only [List.mapM_cons, Sem.run_bind, rdRes_cell (hs _ _ h1) (run_loadVar_one hT h0), Result.andThen_ok, ih, Sem.run_pure]
    | cA h1 hT hc _ ih =>
      simp only [List.mapM_cons, Sem.run_bind, rdRes_cell (hs _ _ h1) (run_loadVar_agg hT (hc w hC)), Result.andThen_ok, ih, Sem.run_pure]
  have key' : (rs.toArray.mapM (rdRes tmps)).run P w = .ok vs.toArray w := by
    rw [List.mapM_toArray, map_eq_pure_bind, Sem.run_bind, key]; rfl
  rw [results_eq, hr]
  simp only [Sem.run_bind, key', Result.andThen_ok, Sem.run_pure]
  match vs with
  | [] => rfl
  | [v] => rfl
  | u :: v :: r => simp [packV]

/-- The end of a function that defers nothing. -/
theorem fRet {fn : Func} {rs : List ResultVar} {vs : List Value} {R : Ending → World → Prop} (hr : fn.results = rs.toArray) (h : ResV P S (Eff W M L) rs vs) (k : ∀ w, Eff W M L w → R (.returned (packV vs)) w) :
    Tr (St N S [] W M L) (bodyPostM (FW none) 0 P fn R .ret) := fun a w hs => by
  show LeavesInM (FW none) 0 P fn a.tmps R a.defers .returning w
  rw [hs.df]
  exact ⟨_, run_results hr h hs.ef hs.sl, k w hs.ef⟩
theorem fEnd {fn : Func} {rs : List ResultVar} {vs : List Value} {R : Ending → World → Prop} (hr : fn.results = rs.toArray) (h : ResV P S (Eff W M L) rs vs) (k : ∀ w, Eff W M L w → R (.returned (packV vs)) w) :
    Tr (St N S [] W M L) (bodyPostM (FW none) 0 P fn R .normal) := fRet hr h k
theorem fPan {fn : Func} {c : List PanicEntry} {R : Ending → World → Prop} (k : ∀ w, Eff W M L w → R (.panicked c) w) : Tr (St N S [] W M L) (bodyPostM (FW none) 0 P fn R (.panic c)) := fun a w hs => by
  show LeavesInM (FW none) 0 P fn a.tmps R a.defers (.panicking c) w
  rw [hs.df]
  exact k w hs.ef
end funcs
end ZW
namespace ZW
open Go

/-- i comes before j, by an edge, or by few. -/
def prec (ops : Array Oper) : Nat → Nat → Nat → Bool
  | 0, _, _ => false
  | n + 1, i, j => match ops[j]? with
    | none => false
    | some o => o.after.any (fun e => Region.binds .any e && e.on == i) || o.after.any (fun e => Region.binds .any e && prec ops n i e.on)

def dstOf (ops : Array Oper) (i : Nat) : Option Nat := (ops[i]?).bind (·.dst)
def readsOf (ops : Array Oper) (i : Nat) : List Nat := match ops[i]? with
  | some o => o.looksAt ops
  | none => []
def effs (ops : Array Oper) (ids : List Nat) : List Nat := (List.range ops.size).filter (fun j => !ids.contains j)
def effLeft (ops : Array Oper) (ids dn : List Nat) : List Nat := (effs ops ids).filter (fun j => !dn.contains j)
def effReady (ops : Array Oper) (ids dn : List Nat) : List Nat := (effLeft ops ids dn).filter (fun j => (effs ops ids).all fun k => !prec ops 1 k j || dn.contains k)

/-- What is asked of the region itself. -/
def drawOk (N : Nat) (ops : Array Oper) (ids : List Nat) : Bool :=
  decide (ids.Pairwise (· < ·)) && (ids.all (fun i => (dstOf ops i).isSome) &&
  ids.all (fun i => (List.range ops.size).all fun j => j == i || dstOf ops j != dstOf ops i) &&
  ids.all (fun i => (List.range ops.size).all fun j => !(readsOf ops j).any (fun t => dstOf ops i == some t) || prec ops 2 i j) &&
  ids.all (fun i => (readsOf ops i).all fun t => (effs ops ids).all fun j => dstOf ops j != some t || prec ops 2 i j) &&
  (List.range ops.size).all (fun j => match ops[j]? with
    | some o => dLt N o && (match o.op with | .select _ _ => false | _ => true) && o.after.all (fun e => !Region.binds .any e || Nat.blt e.on j) && (ids.contains j || nd o.op)
    | none => false))

section
variable {P : Program} {ro : Option Nat} {Q : Exit → Act → World → Prop} {N : Nat} {ops : Array Oper}

/-- Calls that only compute turn nothing of what X says. -/
def Closed (X : Act → World → Prop) : Prop := ∀ a w w', X a w → Eff w [] [] w' → X a w'

theorem closedSt {S : Slots} {D : List Deferred} {W : World} {M L : Heap} : Closed (St N S D W M L) := fun _ _ _ h he => h.eff (by simpa using h.ef.trans he)
theorem closedEx {ι : Type} {Y : ι → Act → World → Prop} (h : ∀ n, Closed (Y n)) : Closed (fun a w => ∃ n, Y n a w) := fun a w w' ⟨n, hn⟩ he => ⟨n, h n a w w' hn he⟩
theorem trEx {ι : Type} {Y : ι → Act → World → Prop} {F : Act → World → Prop} (h : ∀ n, Tr (Y n) F) : Tr (fun a w => ∃ n, Y n a w) F := fun a w ⟨n, hn⟩ => h n a w hn
theorem trSelf {X : Act → World → Prop} : Tr X X := fun _ _ h => h
theorem trTo {ι : Type} {X : Act → World → Prop} {Y : ι → Act → World → Prop} (n : ι) (h : Tr X (Y n)) : Tr X (fun a w => ∃ n, Y n a w) := fun a w hx => ⟨n, h a w hx⟩

/-- An operation with an effect, under its guard. -/
def opG (P : Program) (ro : Option Nat) (N : Nat) (ops : Array Oper) (o : Oper) (X' : Act → World → Prop) : Act → World → Prop := fun a w =>
  (∀ d, o.dst = some d → d < N) → if Region.wanted o (yielded ops a.tmps) = true then opW P ro N o X' (fun _ _ _ => False) a w else X' (a.put o.dst undef) w

/-- The effects that are left, k of them. -/
def iDone (ops : Array Oper) (dn : List Nat) (i : Nat) : Bool := dn.any fun j => prec ops 3 i j
/-- Each quiet operation is done by now, or what it asks of the world holds. -/
def CD (ops : Array Oper) (ids dn : List Nat) (X : Act → World → Prop) (C : Nat → World → Prop) : Prop := ∀ i ∈ ids, iDone ops dn i = true ∨ ∀ a w, X a w → C i w
/-- All quiet ones are done ahead of this one. -/
def lastT (ops : Array Oper) (ids : List Nat) (j : Nat) : Bool := ids.all fun q => q == j || prec ops ops.size q j
def EffT (P : Program) (ro : Option Nat) (N : Nat) (ops : Array Oper) (Q : Exit → Act → World → Prop) (ids : List Nat) (C : Nat → World → Prop) : Nat → List Nat → (Act → World → Prop) → Prop
  | 0, dn, X => Closed X ∧ CD ops ids dn X C ∧ effLeft ops ids dn = [] ∧ Tr X (Q .normal)
  | k + 1, dn, X => Closed X ∧ CD ops ids dn X C ∧ effLeft ops ids dn ≠ [] ∧ ∀ j ∈ effReady ops ids dn, (∃ o X', ops[j]? = some o ∧ EffT P ro N ops Q ids C k (j :: dn) X' ∧ Tr X (opG P ro N ops o X')) ∨ (∃ o, ops[j]? = some o ∧ o.guard = none ∧ lastT ops ids j = true ∧ Tr X (opW P ro N o (fun _ _ => False) Q))

def accSlots (F : List (Nat × Nat × Value)) : Slots := F.map fun p => (p.2.1, p.2.2)

/-- The quiet operations, one by one, in the order of the text. -/
inductive DQ (P : Program) (ops : Array Oper) (C : Nat → World → Prop) (Sb : Slots) (R : List (Nat × Nat × Value) → Prop) : List Nat → List (Nat × Nat × Value) → Prop
  | done {F : List (Nat × Nat × Value)} : R F → DQ P ops C Sb R [] F
  | run {i d : Nat} {v : Value} {o : Oper} {r : List Nat} {F : List (Nat × Nat × Value)} : ops[i]? = some o → YV P (accSlots F ++ Sb) (C i) o v → o.guard = none → o.dst = some d → DQ P ops C Sb R r ((i, d, v) :: F) → DQ P ops C Sb R (i :: r) F
  | runG {i d j t : Nat} {b : Bool} {v : Value} {o : Oper} {r : List Nat} {F : List (Nat × Nat × Value)} : ops[i]? = some o → YV P (accSlots F ++ Sb) (C i) o v → o.guard = some (j, b) → gslot ops j = some t → look (accSlots F ++ Sb) t = some (.bool b) → o.dst = some d →
      DQ P ops C Sb R r ((i, d, v) :: F) → DQ P ops C Sb R (i :: r) F
  | skip {i d j t : Nat} {b c : Bool} {o : Oper} {r : List Nat} {F : List (Nat × Nat × Value)} : ops[i]? = some o → o.guard = some (j, b) → gslot ops j = some t → look (accSlots F ++ Sb) t = some (.bool c) → (c == b) = false → o.dst = some d →
      DQ P ops C Sb R r ((i, d, undef) :: F) → DQ P ops C Sb R (i :: r) F
  | skipU {i d j t : Nat} {b : Bool} {o : Oper} {r : List Nat} {F : List (Nat × Nat × Value)} : ops[i]? = some o → o.guard = some (j, b) → gslot ops j = some t → look (accSlots F ++ Sb) t = some undef → o.dst = some d →
      DQ P ops C Sb R r ((i, d, undef) :: F) → DQ P ops C Sb R (i :: r) F

/-- What is known of one quiet operation. -/
def Known (P : Program) (ops : Array Oper) (C : Nat → World → Prop) (S : Slots) (i d : Nat) (v : Value) : Prop :=
  ∃ o, ops[i]? = some o ∧ o.dst = some d ∧
    ((YV P S (C i) o v ∧ (o.guard = none ∨ ∃ j b t, o.guard = some (j, b) ∧ gslot ops j = some t ∧ look S t = some (.bool b))) ∨
     (v = undef ∧ ∃ j b t u, o.guard = some (j, b) ∧ gslot ops j = some t ∧ look S t = some u ∧ u ≠ .bool b))

theorem DQ.spec {C : Nat → World → Prop} {Sb : Slots} {R : List (Nat × Nat × Value) → Prop} {ids : List Nat} {F0 : List (Nat × Nat × Value)} (h : DQ P ops C Sb R ids F0) :
    ∃ F1, R (F1 ++ F0) ∧ F1.map (·.1) = ids.reverse ∧ ∀ A i d v B, F1 = A ++ (i, d, v) :: B → Known P ops C (accSlots (B ++ F0) ++ Sb) i d v := by
  induction h with
  | done h => exact ⟨[], by simpa using h, by simp, fun A i d v B hh => by simp at hh⟩
  | @run i d v o r F ho hy hg hd _ ih =>
    obtain ⟨F1, h1, h2, h3⟩ := ih
    refine ⟨F1 ++ [(i, d, v)], by simpa using h1, by simp [h2], fun A i' d' v' B hh => ?_⟩
    rcases List.append_eq_append_iff.1 hh with ⟨X, hX1, hX2⟩ | ⟨X, hX1, hX2⟩
    · cases X with
      | nil =>
        simp only [List.nil_append, List.cons.injEq, Prod.mk.injEq] at hX2
        obtain ⟨⟨rfl, rfl, rfl⟩, rfl⟩ := hX2
        exact ⟨o, ho, hd, .inl ⟨by simpa using hy, .inl hg⟩⟩
      | cons x X => simp at hX2
    · cases X with
      | nil =>
        simp only [List.nil_append, List.cons.injEq, Prod.mk.injEq] at hX2
        obtain ⟨⟨rfl, rfl, rfl⟩, rfl⟩ := hX2
        exact ⟨o, ho, hd, .inl ⟨by simpa using hy, .inl hg⟩⟩
      | cons x X =>
        simp only [List.cons_append, List.cons.injEq] at hX2
        obtain ⟨rfl, rfl⟩ := hX2
        have := h3 A i' d' v' X hX1
        simpa using this
  | @runG i d j t b v o r F ho hy hg hj hl hd _ ih =>
    obtain ⟨F1, h1, h2, h3⟩ := ih
    refine ⟨F1 ++ [(i, d, v)], by simpa using h1, by simp [h2], fun A i' d' v' B hh => ?_⟩
    rcases List.append_eq_append_iff.1 hh with ⟨X, hX1, hX2⟩ | ⟨X, hX1, hX2⟩
    · cases X with
      | nil =>
        simp only [List.nil_append, List.cons.injEq, Prod.mk.injEq] at hX2
        obtain ⟨⟨rfl, rfl, rfl⟩, rfl⟩ := hX2
        exact ⟨o, ho, hd, .inl ⟨by simpa using hy, .inr ⟨j, b, t, hg, hj, by simpa using hl⟩⟩⟩
      | cons x X => simp at hX2
    · cases X with
      | nil =>
        simp only [List.nil_append, List.cons.injEq, Prod.mk.injEq] at hX2
        obtain ⟨⟨rfl, rfl, rfl⟩, rfl⟩ := hX2
        exact ⟨o, ho, hd, .inl ⟨by simpa using hy, .inr ⟨j, b, t, hg, hj, by simpa using hl⟩⟩⟩
      | cons x X =>
        simp only [List.cons_append, List.cons.injEq] at hX2
        obtain ⟨rfl, rfl⟩ := hX2
        have := h3 A i' d' v' X hX1
        simpa using this
  | @skip i d j t b c o r F ho hg hj hl hbc hd _ ih =>
    obtain ⟨F1, h1, h2, h3⟩ := ih
    have hne : Value.bool c ≠ .bool b := by intro e; cases e; simp at hbc
    refine ⟨F1 ++ [(i, d, undef)], by simpa using h1, by simp [h2], fun A i' d' v' B hh => ?_⟩
    rcases List.append_eq_append_iff.1 hh with ⟨X, hX1, hX2⟩ | ⟨X, hX1, hX2⟩
    · cases X with
      | nil =>
        simp only [List.nil_append, List.cons.injEq, Prod.mk.injEq] at hX2
        obtain ⟨⟨rfl, rfl, rfl⟩, rfl⟩ := hX2
        exact ⟨o, ho, hd, .inr ⟨rfl, j, b, t, _, hg, hj, by simpa using hl, hne⟩⟩
      | cons x X => simp at hX2
    · cases X with
      | nil =>
        simp only [List.nil_append, List.cons.injEq, Prod.mk.injEq] at hX2
        obtain ⟨⟨rfl, rfl, rfl⟩, rfl⟩ := hX2
        exact ⟨o, ho, hd, .inr ⟨rfl, j, b, t, _, hg, hj, by simpa using hl, hne⟩⟩
      | cons x X =>
        simp only [List.cons_append, List.cons.injEq] at hX2
        obtain ⟨rfl, rfl⟩ := hX2
        have := h3 A i' d' v' X hX1
        simpa using this
  | @skipU i d j t b o r F ho hg hj hl hd _ ih =>
    obtain ⟨F1, h1, h2, h3⟩ := ih
    have hne : undef ≠ .bool b := by intro e; cases e
    refine ⟨F1 ++ [(i, d, undef)], by simpa using h1, by simp [h2], fun A i' d' v' B hh => ?_⟩
    rcases List.append_eq_append_iff.1 hh with ⟨X, hX1, hX2⟩ | ⟨X, hX1, hX2⟩
    · cases X with
      | nil =>
        simp only [List.nil_append, List.cons.injEq, Prod.mk.injEq] at hX2
        obtain ⟨⟨rfl, rfl, rfl⟩, rfl⟩ := hX2
        exact ⟨o, ho, hd, .inr ⟨rfl, j, b, t, _, hg, hj, by simpa using hl, hne⟩⟩
      | cons x X => simp at hX2
    · cases X with
      | nil =>
        simp only [List.nil_append, List.cons.injEq, Prod.mk.injEq] at hX2
        obtain ⟨⟨rfl, rfl, rfl⟩, rfl⟩ := hX2
        exact ⟨o, ho, hd, .inr ⟨rfl, j, b, t, _, hg, hj, by simpa using hl, hne⟩⟩
      | cons x X =>
        simp only [List.cons_append, List.cons.injEq] at hX2
        obtain ⟨rfl, rfl⟩ := hX2
        have := h3 A i' d' v' X hX1
        simpa using this

/-! ### Listed operations -/
def Lst (listed : Array Bool) (i : Nat) : Prop := listed.getD i false = true
/-- What comes before a listed one is listed. -/
def DC (ops : Array Oper) (listed : Array Bool) : Prop := ∀ k o, Lst listed k → ops[k]? = some o → ∀ e ∈ o.after, Region.binds .any e = true → Lst listed e.on

theorem prec_spec {listed : Array Bool} (hdc : DC ops listed) : ∀ n i j, prec ops n i j = true → (∀ o, ops[j]? = some o → ∀ e ∈ o.after, Region.binds .any e = true → Lst listed e.on) → Lst listed i
  | 0, i, j, h, _ => by simp [prec] at h
  | n + 1, i, j, h, hj => by
    simp only [prec] at h
    split at h
    · cases h
    · rename_i o ho
      simp only [Bool.or_eq_true, Array.any_eq_true', Bool.and_eq_true, beq_iff_eq] at h
      rcases h with ⟨e, he, hb, rfl⟩ | ⟨e, he, hb, hp⟩
      · exact hj o ho e he hb
      · have hl := hj o ho e he hb
        exact prec_spec hdc n i e.on hp (fun o' ho' e' he' hb' => hdc e.on o' hl ho' e' he' hb')

theorem lst_set {listed : Array Bool} {i k : Nat} (hi : i < listed.size) : Lst (listed.setIfInBounds i true) k ↔ k = i ∨ Lst listed k := by
  unfold Lst
  by_cases h : k = i
  · subst h; simp [hi]
  · simp [Ne.symm h, h]

theorem filter_len_lt {α : Type} {p q : α → Bool} (hpq : ∀ x, q x = true → p x = true) : ∀ (l : List α) (x : α), x ∈ l → p x = true → q x = false → (l.filter q).length < (l.filter p).length
  | y :: l, x, hx, hp, hq => by
    have hle : ∀ l : List α, (l.filter q).length ≤ (l.filter p).length := by
      intro l
      induction l with
      | nil => simp
      | cons z l ih =>
        simp only [List.filter_cons]
        by_cases h1 : q z = true
        · simp [h1, hpq z h1, ih]
        · by_cases h2 : p z = true <;> simp [h1, h2] <;> omega
    rcases List.mem_cons.1 hx with rfl | hx
    · have := hle l
      simp [hp, hq]; omega
    · have ih := filter_len_lt hpq l x hx hp hq
      simp only [List.filter_cons]
      by_cases h1 : q y = true
      · simp [h1, hpq y h1, ih]
      · by_cases h2 : p y = true <;> simp [h1, h2] <;> omega

def unl (n : Nat) (listed : Array Bool) : Nat := ((List.range n).filter fun i => !listed.getD i false).length

/-! ### The law -/
theorem looks_op {o : Oper} {t : Nat} (h : Operand.tmp t ∈ o.op.operands) : t ∈ o.looksAt ops := by
  unfold Oper.looksAt
  refine List.mem_append.2 (.inl ?_)
  rw [List.mem_filterMap]
  exact ⟨.tmp t, by simpa using h, rfl⟩
theorem looks_guard {o : Oper} {j t : Nat} {b : Bool} (h : o.guard = some (j, b)) (hj : gslot ops j = some t) : t ∈ o.looksAt ops := by
  unfold Oper.looksAt
  refine List.mem_append.2 (.inr ?_)
  unfold gslot at hj
  simp [h, hj]

structure DInv (N : Nat) (ops : Array Oper) (ids : List Nat) (Sb : Slots) (F : List (Nat × Nat × Value)) (X : Act → World → Prop) (dn : List Nat) (listed : Array Bool) (a : Act) (w : World) : Prop where
  size : listed.size = ops.size
  sz : a.tmps.size = N
  dc : DC ops listed
  eff : ∀ j, j < ops.size → j ∉ ids → (Lst listed j ↔ j ∈ dn)
  dnE : ∀ {j}, j ∈ ids → j ∉ dn
  base : ∀ t v, look Sb t = some v → (∀ j ∈ dn, dstOf ops j ≠ some t) → (∀ i ∈ ids, dstOf ops i ≠ some t) → a.tmps[t]? = some v
  ghost : ∃ g : Act, X g w ∧ g.defers = a.defers ∧ g.tmps.size = a.tmps.size ∧ (∀ t, (∀ i ∈ ids, ¬ Lst listed i → dstOf ops i ≠ some t) → g.tmps[t]? = a.tmps[t]?) ∧
    (∀ p ∈ F, g.tmps[p.2.1]? = some p.2.2)

theorem upon_ghost {o : Oper} {a g : Act} {w : World} {X' next : Act → World → Prop} (hnd : nd o.op = true) (he : execOp a.eval o = execOp g.eval o) (h : o.uponIn (FW ro) 0 P g X' (fun _ _ _ => False) ((o.semAt ro g.eval).run P w))
    (hn : ∀ ds v w', X' (({ g with defers := ds ++ g.defers } : Act).put o.dst v) w' → next (({ a with defers := ds ++ a.defers } : Act).put o.dst v) w') : o.uponIn (FW ro) 0 P a next Q ((o.semAt ro a.eval).run P w) := by
  rw [semAt_nd hnd] at h ⊢
  rw [he]
  generalize hr : (execOp g.eval o).run P w = r at h
  cases r with
  | ok n w' =>
    cases n <;> simp only [Oper.uponIn] at h ⊢
    case value u => exact hn [] _ _ h
    case skip => exact hn [] _ _ h
    case defer d => exact hn [d] _ _ h
    case enter f args =>
      refine ⟨h.1, h.2.mono fun e w'' hh => ?_⟩
      cases e with
      | returned v => exact hn [] _ _ hh
      | panicked c => exact hh.elim
      | outgrown => obtain ⟨_, _, hh⟩ := hh; exact hh.elim
    case row row args => exact ⟨h.1, h.2.mono fun v w'' hh => hn [] _ _ hh⟩
    case round l f tmps assign body =>
      refine ⟨h.1, h.2.mono fun e w'' hh => ?_⟩
      cases e with
      | returned v => exact hn [] _ _ hh
      | panicked c => exact hh.elim
      | outgrown => obtain ⟨_, _, hh⟩ := hh; exact hh.elim
  | halt x w' => cases x <;> simp only [Oper.uponIn] at h ⊢

theorem take_eq {o : Oper} {a g : Act} (hsel : ∀ cs b, o.op ≠ .select cs b) (h : ∀ t, Operand.tmp t ∈ o.op.operands → g.tmps[t]? = a.tmps[t]?) : execOp a.eval o = execOp g.eval o :=
  execOp_congr o hsel fun x hx => by
    cases x with
    | tmp t => simp [Act.eval, h t hx]
    | _ => rfl

theorem drawOk_1 {ids : List Nat} (h : drawOk N ops ids = true) : ∀ i ∈ ids, ∃ d, dstOf ops i = some d := by
  simp only [drawOk, Bool.and_eq_true, List.all_eq_true] at h
  intro i hi
  exact Option.isSome_iff_exists.1 (h.2.1.1.1.1 i hi)
theorem dstOf_lt {i d : Nat} (h : dstOf ops i = some d) : i < ops.size := by
  unfold dstOf at h
  rcases Nat.lt_or_ge i ops.size with h1 | h1
  · exact h1
  · simp [Array.getElem?_eq_none h1] at h
theorem drawOk_2 {ids : List Nat} (h : drawOk N ops ids = true) : ∀ i ∈ ids, ∀ j d, dstOf ops i = some d → dstOf ops j = some d → j = i := by
  simp only [drawOk, Bool.and_eq_true, List.all_eq_true] at h
  intro i hi j d hd hj
  have := h.2.1.1.1.2 i hi j (List.mem_range.2 (dstOf_lt hj))
  simp only [Bool.or_eq_true, beq_iff_eq, bne_iff_ne] at this
  rcases this with h1 | h1
  · exact h1
  · exact absurd (hj.trans hd.symm) h1
theorem drawOk_3 {ids : List Nat} (h : drawOk N ops ids = true) : ∀ i ∈ ids, ∀ j t, j < ops.size → t ∈ readsOf ops j → dstOf ops i = some t → prec ops 2 i j = true := by
  simp only [drawOk, Bool.and_eq_true, List.all_eq_true] at h
  intro i hi j t hj ht hd
  have := h.2.1.1.2 i hi j (List.mem_range.2 hj)
  simp only [Bool.or_eq_true, Bool.not_eq_true'] at this
  rcases this with h1 | h1
  · rw [List.any_eq_false] at h1
    exact absurd (by simp [hd]) (h1 t ht)
  · exact h1
theorem drawOk_4 {ids : List Nat} (h : drawOk N ops ids = true) : ∀ i ∈ ids, ∀ t ∈ readsOf ops i, ∀ j ∈ effs ops ids, dstOf ops j = some t → prec ops 2 i j = true := by
  simp only [drawOk, Bool.and_eq_true, List.all_eq_true] at h
  intro i hi t ht j hj hd
  have := h.2.1.2 i hi t ht j hj
  simp only [Bool.or_eq_true, bne_iff_ne] at this
  rcases this with h1 | h1
  · exact absurd hd h1
  · exact h1
theorem drawOk_5 {ids : List Nat} (h : drawOk N ops ids = true) {j : Nat} {o : Oper} (ho : ops[j]? = some o) : dLt N o = true ∧ (∀ cs b, o.op ≠ .select cs b) ∧ (∀ e ∈ o.after, Region.binds .any e = true → e.on < j) ∧ (j ∉ ids → nd o.op = true) := by
  simp only [drawOk, Bool.and_eq_true, List.all_eq_true] at h
  have := h.2.2 j (List.mem_range.2 (Array.getElem?_eq_some_iff.1 ho).1)
  simp only [ho, Bool.and_eq_true, Bool.or_eq_true, Array.all_eq_true_iff_forall_mem, Bool.not_eq_true'] at this
  obtain ⟨⟨⟨h1, h2⟩, h3⟩, h4⟩ := this
  refine ⟨h1, fun cs b e => by simp [e] at h2, fun e he hb => ?_, fun hj => ?_⟩
  · have := h3 e he
    rcases this with h | h
    · rw [hb] at h; cases h
    · simpa using h
  · rcases h4 with h | h
    · exact absurd (by simpa using h) hj
    · exact h

theorem accSlots_look : ∀ (F : List (Nat × Nat × Value)) (t : Nat) (v : Value), look (accSlots F) t = some v → ∃ i, (i, t, v) ∈ F
  | [], t, v, h => by simp [accSlots, look] at h
  | (i, d, u) :: F, t, v, h => by
    simp only [accSlots, List.map_cons, look_cons] at h
    split at h
    · rename_i e
      subst e
      cases h
      exact ⟨i, by simp⟩
    · obtain ⟨k, hk⟩ := accSlots_look F t v h
      exact ⟨k, by simp [hk]⟩
theorem look_append (A B : Slots) (t : Nat) : look (A ++ B) t = (look A t).or (look B t) := by
  induction A with
  | nil => simp [look]
  | cons p A ih =>
    obtain ⟨k, v⟩ := p
    simp only [List.cons_append, look_cons, ih]
    split <;> simp
theorem accSlots_none (F : List (Nat × Nat × Value)) (t : Nat) (h : ∀ p ∈ F, p.2.1 ≠ t) : look (accSlots F) t = none := by
  cases hl : look (accSlots F) t with
  | none => rfl
  | some v =>
    obtain ⟨i, hi⟩ := accSlots_look F t v hl
    exact absurd rfl (h _ hi)

theorem act_ext {a g : Act} (hd : g.defers = a.defers) (hs : g.tmps.size = a.tmps.size) (h : ∀ t : Nat, g.tmps[t]? = a.tmps[t]?) : g = a := by
  cases a; cases g
  simp only at hd hs h
  subst hd
  congr 1
  exact Array.ext_getElem? h

theorem drawOk_0 {ids : List Nat} (h : drawOk N ops ids = true) : ids.Pairwise (· < ·) := by
  simp only [drawOk, Bool.and_eq_true, decide_eq_true_eq] at h
  exact h.1

theorem prec_lt {ids : List Nat} (h : drawOk N ops ids = true) : ∀ n i j, prec ops n i j = true → i < j
  | 0, i, j, hp => by simp [prec] at hp
  | n + 1, i, j, hp => by
    simp only [prec] at hp
    split at hp
    · cases hp
    · rename_i o ho
      simp only [Bool.or_eq_true, Array.any_eq_true', Bool.and_eq_true, beq_iff_eq] at hp
      rcases hp with ⟨e, he, hb, rfl⟩ | ⟨e, he, hb, hq⟩
      · exact (drawOk_5 h ho).2.2.1 e he hb
      · exact Nat.lt_trans (prec_lt h n i e.on hq) ((drawOk_5 h ho).2.2.1 e he hb)

theorem all_listed {listed : Array Bool} {n : Nat} (h : unl n listed = 0) : ∀ i, i < n → Lst listed i := by
  intro i hi
  unfold unl at h
  rw [List.length_eq_zero_iff, List.filter_eq_nil_iff] at h
  have := h i (List.mem_range.2 hi)
  unfold Lst
  simpa using this

theorem unl_set {listed : Array Bool} {n i : Nat} (hi : i < n) (hs : i < listed.size) (hl : ¬ Lst listed i) : unl n (listed.setIfInBounds i true) < unl n listed := by
  unfold unl
  refine filter_len_lt (fun x hx => ?_) _ i (List.mem_range.2 hi) ?_ ?_
  · have h1 : ¬ Lst (listed.setIfInBounds i true) x := by unfold Lst; simpa using hx
    have h2 : ¬ Lst listed x := fun h => h1 ((lst_set hs).2 (.inr h))
    unfold Lst at h2; simpa using h2
  · unfold Lst at hl; simpa using hl
  · have : Lst (listed.setIfInBounds i true) i := (lst_set hs).2 (.inl rfl)
    unfold Lst at this; simp [this]

theorem ready_none {ids : List Nat} (h : drawOk N ops ids = true) {listed : Array Bool} (hs : listed.size = ops.size) (hr : Region.ready .any ops listed = []) : ∀ i, i < ops.size → Lst listed i := by
  intro i
  induction i using Nat.strongRecOn with
  | _ i ih =>
    intro hi
    rcases Classical.em (Lst listed i) with hl | hl
    · exact hl
    · exfalso
      obtain ⟨o, ho⟩ : ∃ o, ops[i]? = some o := ⟨ops[i], Array.getElem?_eq_getElem hi⟩
      have : i ∈ Region.ready .any ops listed := mem_ready.2 ⟨by
        unfold Lst at hl
        have hb : i < listed.size := by omega
        simp [hb] at hl ⊢
        exact hl, o, ho, fun e he hb => ih e.on ((drawOk_5 h ho).2.2.1 e he hb) (Nat.lt_trans ((drawOk_5 h ho).2.2.1 e he hb) hi)⟩
      rw [hr] at this
      cases this

theorem mem_effs {ids : List Nat} {j : Nat} : j ∈ effs ops ids ↔ j < ops.size ∧ j ∉ ids := by
  unfold effs; rw [List.mem_filter, List.mem_range]; simp

theorem split_ids {F A B : List (Nat × Nat × Value)} {ids : List Nat} {i d : Nat} {v : Value} (hp : ids.Pairwise (· < ·)) (hF : F.map (·.1) = ids.reverse) (he : F = A ++ (i, d, v) :: B) {k : Nat} (hk : k ∈ ids) (hlt : k < i) : ∃ p ∈ B, p.1 = k := by
  have hids : ids = (B.map (·.1)).reverse ++ i :: (A.map (·.1)).reverse := by
    have : ids = (F.map (·.1)).reverse := by rw [hF, List.reverse_reverse]
    rw [this, he]; simp
  rw [hids] at hp hk
  rw [List.pairwise_append] at hp
  rcases List.mem_append.1 hk with h | h
  · obtain ⟨p, hp', e⟩ := List.mem_map.1 (List.mem_reverse.1 h)
    exact ⟨p, hp', e⟩
  · rcases List.mem_cons.1 h with h | h
    · omega
    · have := (List.pairwise_cons.1 hp.2.1).1 k h
      omega

/-- The effects' statements on class and closedness, whatever is left. -/
theorem EffT.head {ids : List Nat} {C : Nat → World → Prop} {k : Nat} {dn : List Nat} {X : Act → World → Prop} (h : EffT P ro N ops Q ids C k dn X) : Closed X ∧ CD ops ids dn X C := by
  cases k <;> exact ⟨h.1, h.2.1⟩

theorem draw_fin {ids : List Nat} {C : Nat → World → Prop} {Sb : Slots} {F : List (Nat × Nat × Value)} {X : Act → World → Prop} {dn : List Nat} {listed : Array Bool} {a : Act} {w : World} {k : Nat}
    (hi : DInv N ops ids Sb F X dn listed a w) (he : EffT P ro N ops Q ids C k dn X) (hall : ∀ i, i < ops.size → Lst listed i) (hids : ∀ i ∈ ids, i < ops.size) : Q .normal a w := by
  obtain ⟨g, hX, hd, hs, ht, _⟩ := hi.ghost
  have hga : g = a := act_ext hd hs fun t => ht t fun i hm hl => absurd (hall i (hids i hm)) hl
  subst hga
  cases k with
  | zero => exact he.2.2.2 _ _ hX
  | succ k =>
    exfalso
    obtain ⟨j, hj⟩ := List.exists_mem_of_ne_nil _ he.2.2.1
    unfold effLeft at hj
    rw [List.mem_filter] at hj
    have hm := mem_effs.1 hj.1
    have := (hi.eff j hm.1 hm.2).1 (hall j hm.1)
    simp [this] at hj

section main
variable {ids : List Nat} {C : Nat → World → Prop} {Sb : Slots} {F : List (Nat × Nat × Value)} {X : Act → World → Prop} {dn : List Nat} {listed : Array Bool} {a : Act} {w : World}

/-- What a ready operation reads of a slot that is not a quiet one's. -/
theorem reads_base (hB : drawOk N ops ids = true) (hi : DInv N ops ids Sb F X dn listed a w) {i t : Nat} {u : Value} (hid : i ∈ ids) (hun : ¬ Lst listed i) (ht : t ∈ readsOf ops i) (hno : ∀ k ∈ ids, dstOf ops k ≠ some t) (hl : look Sb t = some u) : a.tmps[t]? = some u := by
  refine hi.base t u hl (fun j hj hd => ?_) hno
  have hlt := dstOf_lt hd
  have hjn : j ∉ ids := fun h => hno j h hd
  have hp := drawOk_4 hB i hid t ht j (mem_effs.2 ⟨hlt, hjn⟩) hd
  have hlj := (hi.eff j hlt hjn).2 hj
  exact hun (prec_spec hi.dc 2 i j hp (fun o ho e he hb => hi.dc j o hlj ho e he hb))

/-- A ready quiet operation finds what the walk in the order of the text found. -/
theorem reads_quiet (hB : drawOk N ops ids = true) (hF : F.map (·.1) = ids.reverse) (hFd : ∀ p ∈ F, dstOf ops p.1 = some p.2.1) (hi : DInv N ops ids Sb F X dn listed a w) {i d : Nat} {v : Value} {A B : List (Nat × Nat × Value)}
    (he : F = A ++ (i, d, v) :: B) (hun : ¬ Lst listed i) (hpre : ∀ o, ops[i]? = some o → ∀ e ∈ o.after, Region.binds .any e = true → Lst listed e.on) {t : Nat} {u : Value} (ht : t ∈ readsOf ops i) (hl : look (accSlots B ++ Sb) t = some u) : a.tmps[t]? = some u := by
  have hid : i ∈ ids := by rw [← List.mem_reverse, ← hF, he]; simp
  have hlt : i < ops.size := dstOf_lt (hFd (i, d, v) (by rw [he]; simp))
  rcases Classical.em (∃ k ∈ ids, dstOf ops k = some t) with ⟨k, hk, hkt⟩ | hno
  · have hp := drawOk_3 hB k hk i t hlt ht hkt
    have hkl := prec_spec hi.dc 2 k i hp hpre
    obtain ⟨q, hq, hqk⟩ := split_ids (drawOk_0 hB) hF he hk (prec_lt hB 2 k i hp)
    have hqF : q ∈ F := by rw [he]; simp [hq]
    have hqd := hFd q hqF
    rw [hqk, hkt] at hqd
    obtain ⟨g, _, _, _, hgt, hgF⟩ := hi.ghost
    have hsame : g.tmps[t]? = a.tmps[t]? := hgt t fun i' hi' hl' hd' => hl' (by rw [drawOk_2 hB k hk i' t hkt hd']; exact hkl)
    have hlook : ∃ u', look (accSlots B) t = some u' := by
      cases hlk : look (accSlots B) t with
      | some u' => exact ⟨u', rfl⟩
      | none =>
        exfalso
        have : ∀ (L : List (Nat × Nat × Value)), q ∈ L → look (accSlots L) t ≠ none := by
          intro L
          induction L with
          | nil => intro h; cases h
          | cons p L ih =>
            intro h
            obtain ⟨p1, p2, p3⟩ := p
            simp only [accSlots, List.map_cons, look_cons]
            rcases List.mem_cons.1 h with rfl | h
            · simp only [Option.some.injEq] at hqd
              simp [hqd]
            · split
              · simp
              · exact ih h
        exact this B hq hlk
    obtain ⟨u', hu'⟩ := hlook
    rw [look_append, hu'] at hl
    simp only [Option.some_or, Option.some.injEq] at hl
    subst hl
    obtain ⟨k', hk'⟩ := accSlots_look B t u' hu'
    rw [← hsame]
    exact hgF (k', t, u') (by rw [he]; simp [hk'])
  · have hno' : ∀ k ∈ ids, dstOf ops k ≠ some t := fun k hk hd => hno ⟨k, hk, hd⟩
    have hnone : look (accSlots B) t = none := accSlots_none B t fun p hp e => by
      have hpF : p ∈ F := by rw [he]; simp [hp]
      have hpid : p.1 ∈ ids := by rw [← List.mem_reverse, ← hF]; exact List.mem_map.2 ⟨p, hpF, rfl⟩
      exact hno' p.1 hpid (by rw [hFd p hpF, e])
    rw [look_append, hnone] at hl
    simp only [Option.none_or] at hl
    exact reads_base hB hi hid hun ht hno' hl

theorem put_get {a : Act} {d t : Nat} {v : Value} (hd : d < a.tmps.size) : (a.put (some d) v).tmps[t]? = if d = t then some v else a.tmps[t]? := by
  simp only [Act.put, Array.getElem?_setIfInBounds, hd, if_true]

/-- The invariant behind a quiet operation. -/
theorem dinv_quiet (hF : F.map (·.1) = ids.reverse) (hFd : ∀ p ∈ F, dstOf ops p.1 = some p.2.1) (hcl : Closed X) (hi : DInv N ops ids Sb F X dn listed a w) {i d : Nat} {v : Value} (hm : (i, d, v) ∈ F)
    (hpre : ∀ o, ops[i]? = some o → ∀ e ∈ o.after, Region.binds .any e = true → Lst listed e.on) (hd : d < N) {w' : World} (hw : Eff w [] [] w') : DInv N ops ids Sb F X dn (listed.setIfInBounds i true) (a.put (some d) v) w' := by
  have hid : i ∈ ids := by rw [← List.mem_reverse, ← hF]; exact List.mem_map.2 ⟨_, hm, rfl⟩
  have hdst := hFd _ hm
  have hlt : i < ops.size := dstOf_lt hdst
  have hil : i < listed.size := by rw [hi.size]; exact hlt
  have hda : d < a.tmps.size := by rw [hi.sz]; exact hd
  refine ⟨by simp [hi.size], by simp [Act.put, hi.sz], ?_, ?_, ?_, ?_, ?_⟩
  · intro k o hk ho e he hb
    rcases (lst_set hil).1 hk with rfl | hk
    · exact (lst_set hil).2 (.inr (hpre o ho e he hb))
    · exact (lst_set hil).2 (.inr (hi.dc k o hk ho e he hb))
  · intro j hj hjn
    rw [lst_set hil]
    have hne : j ≠ i := fun e => hjn (e ▸ hid)
    simp only [hne, false_or]
    exact hi.eff j hj hjn
  · exact hi.dnE
  · intro t u hl h1 h2
    rw [put_get hda, if_neg (fun e => h2 i hid (by rw [hdst]; simp [e]))]
    exact hi.base t u hl h1 h2
  · obtain ⟨g, hX, hgd, hgs, hgt, hgF⟩ := hi.ghost
    refine ⟨g, hcl _ _ _ hX hw, by simp [Act.put, hgd], by simp [Act.put, hgs], fun t hun => ?_, hgF⟩
    rw [put_get hda]
    split
    · rename_i e; subst e; exact hgF _ hm
    · rename_i hne
      refine hgt t fun k hk hkl hkd => ?_
      refine hun k hk (fun hl => ?_) hkd
      rcases (lst_set hil).1 hl with rfl | hl
      · rw [hdst] at hkd; cases hkd; exact hne rfl
      · exact hkl hl

theorem look_getD {S : Slots} {a : Act} : Knows S (fun x => (opd S x).getD (a.eval x)) := fun x v h => by simp [h]

theorem draw_main (hB : drawOk N ops ids = true) (hF : F.map (·.1) = ids.reverse) (hK : ∀ A i d v B, F = A ++ (i, d, v) :: B → Known P ops C (accSlots B ++ Sb) i d v) :
    ∀ (fuel t : Nat) (listed : Array Bool) (a : Act) (w : World) (dn : List Nat) (k : Nat) (X : Act → World → Prop), DInv N ops ids Sb F X dn listed a w → EffT P ro N ops Q ids C k dn X → unl ops.size listed ≤ fuel →
      wpOpsIn (FW ro) 0 P ops Q (Region.linearise.go .any ops fuel t listed []) a w := by
  have hFd : ∀ p ∈ F, dstOf ops p.1 = some p.2.1 := fun p hp => by
    obtain ⟨A, B, he⟩ := List.append_of_mem hp
    obtain ⟨o, ho, hd, _⟩ := hK A p.1 p.2.1 p.2.2 B he
    simp [dstOf, ho, hd]
  have hidlt : ∀ i ∈ ids, i < ops.size := fun i h => by obtain ⟨d, hd⟩ := drawOk_1 hB i h; exact dstOf_lt hd
  intro fuel
  induction fuel with
  | zero =>
    intro t listed a w dn k X hi he hu
    have := draw_fin hi he (all_listed (by omega)) hidlt
    simpa [Region.linearise.go, wpOpsIn] using this
  | succ fuel ih =>
    intro t listed a w dn k X hi he hu
    simp only [Region.linearise.go]
    change wpOpsIn (FW ro) 0 P ops Q (match (Region.ready .any ops listed)[t % (Region.ready .any ops listed).length]? with
      | some i => Region.linearise.go .any ops fuel (t / (Region.ready .any ops listed).length) (listed.setIfInBounds i true) [i]
      | none => [].reverse) a w
    cases hri : (Region.ready .any ops listed)[t % (Region.ready .any ops listed).length]? with
    | none =>
      have hnil : Region.ready .any ops listed = [] := by
        cases hr : Region.ready .any ops listed with
        | nil => rfl
        | cons x xs =>
          rw [hr] at hri
          have hlt : t % (x :: xs).length < (x :: xs).length := Nat.mod_lt _ (by simp)
          simp at hri
          simp at hlt
          omega
      have := draw_fin hi he (ready_none hB hi.size hnil) hidlt
      simpa [wpOpsIn] using this
    | some i =>
      simp only []
      rw [linearise_go_acc, List.reverse_singleton, List.singleton_append, wpOpsIn_cons]
      obtain ⟨hun0, o, ho, hpre0⟩ := mem_ready.1 (List.mem_of_getElem? hri)
      have hlt : i < ops.size := (Array.getElem?_eq_some_iff.1 ho).1
      have hil : i < listed.size := by rw [hi.size]; exact hlt
      have hun : ¬ Lst listed i := by unfold Lst; simp [hil] at hun0 ⊢; exact hun0
      have hpre : ∀ o', ops[i]? = some o' → ∀ e ∈ o'.after, Region.binds .any e = true → Lst listed e.on := fun o' ho' e he hb => by
        rw [ho] at ho'; cases ho'; exact hpre0 e he hb
      have hul : unl ops.size (listed.setIfInBounds i true) ≤ fuel := by have := unl_set hlt hil hun; omega
      have hB5 := drawOk_5 hB ho
      unfold wpOpIn
      rw [ho]
      show if Region.wanted o (yielded ops a.tmps) = true then _ else _
      rcases Classical.em (i ∈ ids) with hid | hid
      · -- a quiet one
        obtain ⟨p, hp, hpi⟩ : ∃ p ∈ F, p.1 = i := by
          have : i ∈ F.map (·.1) := by rw [hF]; simpa using hid
          exact List.mem_map.1 this
        obtain ⟨i', d, v⟩ := p
        simp only at hpi
        subst hpi
        obtain ⟨A, B, hAB⟩ := List.append_of_mem hp
        obtain ⟨o', ho', hd', hkn⟩ := hK A i' d v B hAB
        rw [ho] at ho'; cases ho'
        have hrd : ∀ {t : Nat} {u : Value}, t ∈ readsOf ops i' → look (accSlots B ++ Sb) t = some u → a.tmps[t]? = some u := fun ht hl => reads_quiet hB hF hFd hi hAB hun hpre ht hl
        have hro : readsOf ops i' = o.looksAt ops := by simp [readsOf, ho]
        have hdN : d < N := dLt_spec hB5.1 d hd'
        obtain ⟨hcl, hXC⟩ := he.head
        have hCw : C i' w := by
          rcases hXC i' hid with hq | hXC
          · exfalso
            unfold iDone at hq
            simp only [List.any_eq_true] at hq
            obtain ⟨j, hj, hp'⟩ := hq
            rcases Nat.lt_or_ge j ops.size with hjs | hjs
            · rcases Classical.em (j ∈ ids) with hjid | hjid
              · exact absurd hj (hi.dnE hjid)
              · have hlj := (hi.eff j hjs hjid).2 hj
                exact hun (prec_spec hi.dc 3 i' j hp' (fun o' ho' e he' hb => hi.dc j o' hlj ho' e he' hb))
            · simp [prec, Array.getElem?_eq_none hjs] at hp'
          · obtain ⟨g, hX, _⟩ := hi.ghost; exact hXC g w hX
        rcases hkn with ⟨hy, hg⟩ | ⟨hv, j, b, tt, u, hg, hj, hl, hne⟩
        · have hwant : Region.wanted o (yielded ops a.tmps) = true := by
            rcases hg with hg | ⟨j, b, tt, hg, hj, hl⟩
            · simp [Region.wanted, hg]
            · have hs := hrd (by rw [hro]; exact looks_guard hg hj) hl
              have hyj : yielded ops a.tmps j = some b := by unfold gslot at hj; simp [yielded, hj, hs]
              simp [Region.wanted, hg, hyj]
          rw [if_pos hwant]
          refine ⟨fun _ _ => trivial, ?_⟩
          have hex : execOp a.eval o = execOp (fun x => (opd (accSlots B ++ Sb) x).getD (a.eval x)) o := execOp_congr o hB5.2.1 fun x hx => by
            cases x with
            | tmp t =>
              cases hl : look (accSlots B ++ Sb) t with
              | none => simp [opd, hl]
              | some u =>
                have := hrd (by rw [hro]; exact looks_op hx) hl
                simp [opd, hl, Act.eval, this]
            | _ => rfl
          refine upon_quiet hy.1 (by rw [hex]; exact hy.2 _ look_getD w hCw) fun w' hw' => ?_
          rw [hd']
          exact ih _ _ _ _ dn k X (dinv_quiet hF hFd hcl hi hp hpre hdN hw') he hul
        · have hs := hrd (by rw [hro]; exact looks_guard hg hj) hl
          have hwant : ¬ Region.wanted o (yielded ops a.tmps) = true := by
            unfold gslot at hj
            have : yielded ops a.tmps j ≠ some b := by
              simp only [yielded, hj, Option.bind_some, hs]
              cases u <;> simp_all
            simp [Region.wanted, hg, this]
          rw [if_neg hwant]
          refine ⟨fun _ _ => trivial, ?_⟩
          rw [hd', ← hv]
          exact ih _ _ _ _ dn k X (dinv_quiet hF hFd hcl hi hp hpre hdN (Eff.refl w)) he hul
      · -- one with an effect
        have hnd := hB5.2.2.2 hid
        have hie : i ∈ effs ops ids := mem_effs.2 ⟨hlt, hid⟩
        have hidn : i ∉ dn := fun h => hun ((hi.eff i hlt hid).2 h)
        have hleft : i ∈ effLeft ops ids dn := by unfold effLeft; rw [List.mem_filter]; exact ⟨hie, by simpa using hidn⟩
        have hrdy : i ∈ effReady ops ids dn := by
          unfold effReady
          rw [List.mem_filter]
          refine ⟨hleft, ?_⟩
          rw [List.all_eq_true]
          intro k hk
          simp only [Bool.or_eq_true, Bool.not_eq_true']
          rcases Bool.eq_false_or_eq_true (prec ops 1 k i) with h | h
          · right
            have hkl := prec_spec hi.dc 1 k i h hpre
            have hm := mem_effs.1 hk
            simpa using (hi.eff k hm.1 hm.2).1 hkl
          · exact .inl h
        cases k with
        | zero => rw [he.2.2.1] at hleft; cases hleft
        | succ k =>
          rcases he.2.2.2 i hrdy with ⟨o', X', ho', hE', hT⟩ | ⟨o', ho', hg', hlast, hT⟩
          case inr =>
            rw [ho] at ho'; cases ho'
            obtain ⟨g, hX, hgd, hgs, hgt, hgF⟩ := hi.ghost
            have hothers : ∀ q, q ∈ ids → q ≠ i → Lst listed q := fun q hq hne => by
              have h1 := List.all_eq_true.1 hlast q hq
              simp only [Bool.or_eq_true, beq_iff_eq] at h1
              exact prec_spec hi.dc ops.size q i (h1.resolve_left hne) hpre
            have hga : g = a := act_ext hgd hgs fun t => hgt t fun q hq hql => absurd (hothers q hq (fun e => hid (e ▸ hq))) hql
            subst hga
            rw [if_pos (by simp [Region.wanted, hg'])]
            exact Oper.wpIn_mono (fun _ _ h => h.elim) (opW_wpIn (dLt_spec hB5.1) (hT g w hX))
          rw [ho] at ho'; cases ho'
          obtain ⟨g, hX, hgd, hgs, hgt, hgF⟩ := hi.ghost
          have hrds : ∀ t ∈ readsOf ops i, g.tmps[t]? = a.tmps[t]? := fun t ht => hgt t fun q hq hql hqd => hql (prec_spec hi.dc 2 q i (drawOk_3 hB q hq i t hlt ht hqd) hpre)
          have hex : execOp a.eval o = execOp g.eval o := take_eq hB5.2.1 fun t ht => hrds t (by simp only [readsOf, ho]; exact looks_op ht)
          have hstep : ∀ (ds : List Deferred) (v : Value) (w' : World), X' (({ g with defers := ds ++ g.defers } : Act).put o.dst v) w' → wpOpsIn (FW ro) 0 P ops Q (Region.linearise.go .any ops fuel (t / (Region.ready .any ops listed).length) (listed.setIfInBounds i true) []) (({ a with defers := ds ++ a.defers } : Act).put o.dst v) w' := by
            intro ds v w' hX'
            refine ih _ _ _ _ (i :: dn) k X' ?_ hE' hul
            have hdi : dstOf ops i = o.dst := by simp [dstOf, ho]
            have hputs : ∀ (b : Act) (t : Nat), o.dst ≠ some t → (b.put o.dst v).tmps[t]? = b.tmps[t]? := fun b t hne => by
              cases hdd : o.dst with
              | none => rfl
              | some d0 => simp only [Act.put, Array.getElem?_setIfInBounds]; rw [if_neg (fun e => hne (by rw [hdd, e]))]
            have hps : ∀ b : Act, (b.put o.dst v).tmps.size = b.tmps.size := fun b => by cases o.dst <;> simp [Act.put]
            have hpd : ∀ b : Act, (b.put o.dst v).defers = b.defers := fun b => by cases o.dst <;> simp [Act.put]
            refine ⟨by simp [hi.size], by rw [hps]; exact hi.sz, ?_, ?_, ?_, ?_, ?_⟩
            · intro k' o' hk ho' e he' hb
              rcases (lst_set hil).1 hk with rfl | hk
              · exact (lst_set hil).2 (.inr (hpre o' ho' e he' hb))
              · exact (lst_set hil).2 (.inr (hi.dc k' o' hk ho' e he' hb))
            · intro j hj hjn
              rw [lst_set hil, List.mem_cons, hi.eff j hj hjn]
            · intro j hj hjm
              rcases List.mem_cons.1 hjm with rfl | hjm
              · exact hid hj
              · exact hi.dnE hj hjm
            · intro t' u hl h1 h2
              rw [hputs _ t' (by rw [← hdi]; exact h1 i (by simp))]
              exact hi.base t' u hl (fun j hj => h1 j (by simp [hj])) h2
            · refine ⟨_, hX', by rw [hpd, hpd]; simp [hgd], by rw [hps, hps]; exact hgs, fun t' hun' => ?_, fun q hq => ?_⟩
              · have hold : g.tmps[t']? = a.tmps[t']? := hgt t' fun q hq hql hqd => hun' q hq (fun hl => by
                  rcases (lst_set hil).1 hl with rfl | hl
                  · exact hid hq
                  · exact hql hl) hqd
                cases hdd : o.dst with
                | none => exact hold
                | some d0 =>
                  simp only [Act.put, Array.getElem?_setIfInBounds, hgs]
                  split
                  · rfl
                  · exact hold
              · have hqid : q.1 ∈ ids := by rw [← List.mem_reverse, ← hF]; exact List.mem_map.2 ⟨q, hq, rfl⟩
                rw [hputs _ q.2.1 (fun e => hid (by rw [drawOk_2 hB q.1 hqid i q.2.1 (hFd q hq) (hdi.trans e)]; exact hqid))]
                exact hgF q hq
          have hwt : Region.wanted o (yielded ops a.tmps) = Region.wanted o (yielded ops g.tmps) := by
            cases hgd : o.guard with
            | none => simp [Region.wanted, hgd]
            | some jb =>
              obtain ⟨j, b⟩ := jb
              have : yielded ops a.tmps j = yielded ops g.tmps j := by
                cases hj : gslot ops j with
                | none => unfold gslot at hj; simp [yielded, hj]
                | some t' =>
                  have h1 := hrds t' (by simp only [readsOf, ho]; exact looks_guard hgd hj)
                  unfold gslot at hj
                  simp only [yielded, hj, Option.bind_some, h1]
              simp [Region.wanted, hgd, this]
          have hT' := hT g w hX (dLt_spec hB5.1)
          rw [hwt]
          split
          · rename_i hw
            rw [if_pos hw] at hT'
            exact ⟨fun _ _ => trivial, upon_ghost hnd hex (hT' (dLt_spec hB5.1)) fun ds v w' hX' => hstep ds v w' hX'⟩
          · rename_i hw
            rw [if_neg hw] at hT'
            exact ⟨fun _ _ => trivial, hstep [] undef w hT'⟩
end main

theorem accSlots_append (A B : List (Nat × Nat × Value)) : accSlots (A ++ B) = accSlots A ++ accSlots B := by simp [accSlots]

/-- **A region that draws its order.** -/
theorem kDraw {S : Slots} {D : List Deferred} {W : World} {M L : Heap} {id : Nat} {l : List Oper} {C : Nat → World → Prop} (ids : List Nat) (k : Nat) (hm : P.follows .mixedOrders = true) (hB : drawOk N l.toArray ids = true)
    (h : DQ P l.toArray C S (fun F => EffT P ro N l.toArray Q ids C k [] (St N (accSlots F ++ S) D W M L)) ids []) : Tr (St N S D W M L) (WP P ro (.region id l.toArray true) Q) := fun a w hs => by
  obtain ⟨F, hR, hids, hK⟩ := h.spec
  simp only [List.append_nil] at hR hK
  refine wpIn_region_draw fun t => ?_
  simp only [Region.schedule, hm, Bool.true_or, if_true]
  have hFd : ∀ p ∈ F, dstOf l.toArray p.1 = some p.2.1 := fun p hp => by
    obtain ⟨A, B, he⟩ := List.append_of_mem hp
    obtain ⟨o, ho, hd, _⟩ := hK A p.1 p.2.1 p.2.2 B he
    simp only [dstOf, ho, Option.bind_some, hd]
  -- the frame as it will be behind all quiet operations
  have hfill : ∀ (G : List (Nat × Nat × Value)), (∀ p ∈ G, p ∈ F) → ∃ g : Act, g.defers = a.defers ∧ g.tmps.size = N ∧ (∀ t v, look (accSlots G ++ S) t = some v → g.tmps[t]? = some v) ∧ (∀ t, (∀ p ∈ G, p.2.1 ≠ t) → g.tmps[t]? = a.tmps[t]?) := by
    intro G
    induction G with
    | nil => intro _; exact ⟨a, rfl, hs.sz, by simpa [accSlots] using hs.sl, fun _ _ => rfl⟩
    | cons p G ih =>
      intro hG
      obtain ⟨g, h1, h2, h3, h4⟩ := ih fun q hq => hG q (by simp [hq])
      obtain ⟨i, d, v⟩ := p
      have hdst := hFd _ (hG (i, d, v) (by simp))
      have hdN : d < N := by
        have hlt := dstOf_lt hdst
        have ho : l.toArray[i]? = some l.toArray[i] := Array.getElem?_eq_getElem hlt
        refine dLt_spec (drawOk_5 hB ho).1 d ?_
        simpa [dstOf, ho] using hdst
      refine ⟨g.put (some d) v, by simp [Act.put, h1], by simp [Act.put, h2], ?_, ?_⟩
      · exact put_slot hdN h2 h3
      · intro t ht
        rw [put_get (by omega), if_neg (ht (i, d, v) (by simp))]
        exact h4 t fun q hq => ht q (by simp [hq])
  obtain ⟨g, hg1, hg2, hg3, hg4⟩ := hfill F fun _ h => h
  have hempty : ∀ j, ¬ Lst (Array.replicate l.toArray.size false) j := fun j => by
    unfold Lst
    rcases Nat.lt_or_ge j l.length with h | h
    · simp [h]
    · simp [Nat.not_lt.2 h]
  have hef := hs.ef.drew (w.drawn + 1)
  refine draw_main hB hids hK _ _ _ _ _ [] k _ ?_ hR ?_
  · refine ⟨by simp, hs.sz, fun k o h => absurd h (hempty k), fun j _ _ => ⟨fun h => absurd h (hempty j), fun h => (by cases h)⟩, fun _ h => (by cases h), fun t v hl _ _ => hs.sl t v hl, g, ⟨hg2, hg3, by rw [hg1, hs.df], hef⟩, hg1, by rw [hg2, hs.sz], fun t ht => ?_, fun p hp => ?_⟩
    · refine hg4 t fun p hp e => ?_
      have hid : p.1 ∈ ids := by rw [← List.mem_reverse, ← hids]; exact List.mem_map.2 ⟨p, hp, rfl⟩
      exact ht p.1 hid (hempty p.1) (by rw [hFd p hp, e])
    · -- keys are told once
      have huniq : look (accSlots F ++ S) p.2.1 = some p.2.2 := by
        rw [look_append]
        have : ∀ (G : List (Nat × Nat × Value)), (∀ q ∈ G, q ∈ F) → p ∈ G → look (accSlots G) p.2.1 = some p.2.2 := by
          intro G
          induction G with
          | nil => intro _ h; cases h
          | cons q G ih =>
            intro hG hpG
            obtain ⟨q1, q2, q3⟩ := q
            simp only [accSlots, List.map_cons, look_cons]
            split
            · rename_i e
              have hqF := hG (q1, q2, q3) (by simp)
              have h1 := hFd _ hqF
              have h2 := hFd p hp
              simp only at h1 e
              have hpid : p.1 ∈ ids := by rw [← List.mem_reverse, ← hids]; exact List.mem_map.2 ⟨p, hp, rfl⟩
              have hq1 := drawOk_2 hB p.1 hpid q1 p.2.1 h2 (by rw [h1, e])
              -- one index, one entry
              have hnd : (F.map (·.1)).Nodup := by
                rw [hids]
                have := drawOk_0 hB
                exact (List.reverse_perm ids).nodup_iff.2 (this.imp (fun h => Nat.ne_of_lt h))
              have : (q1, q2, q3) = p := by
                obtain ⟨A, B, hAB⟩ := List.append_of_mem hp
                rw [hAB] at hqF hnd
                simp only [List.map_append, List.map_cons] at hnd
                rw [List.nodup_append] at hnd
                rcases List.mem_append.1 hqF with h | h
                · exact absurd hq1 (hnd.2.2 q1 (List.mem_map.2 ⟨_, h, rfl⟩) p.1 (by simp))
                · rcases List.mem_cons.1 h with h | h
                  · exact h
                  · exact absurd (List.mem_map.2 ⟨_, h, hq1⟩) (List.nodup_cons.1 hnd.2.1).1
              rw [← this]
            · rename_i e
              rcases List.mem_cons.1 hpG with h | h
              · subst h; exact absurd rfl e
              · exact ih (fun x hx => hG x (by simp [hx])) h
        rw [this F (fun _ h => h) hp]; rfl
      exact hg3 _ _ huniq
  · unfold unl
    refine Nat.le_trans (List.length_filter_le _ _) (by simp)

/-! ### What quiet operations ask of the world -/
def look2 {α : Type} : List (Nat × α) → Nat → Option α
  | [], _ => none
  | (k, v) :: r, t => bif Nat.beq k t then some v else look2 r t
def keep (L : Heap) (ixs : List Nat) : Heap := ixs.filterMap fun i => L[i]?
/-- Some ask what is told, some that the memory is as known, of all or of some blocks, the others nothing. -/
def clsE (W : World) (M L : Heap) (spec : List (Nat × Option (List Nat))) (cu : List (Nat × (World → Prop))) (i : Nat) : World → Prop :=
  match look2 cu i with
  | some c => c
  | none => match look2 spec i with
    | some none => Eff W M L
    | some (some ixs) => Eff W M (keep L ixs)
    | none => fun _ => True
theorem kDrawE {S : Slots} {D : List Deferred} {W : World} {M L : Heap} {id : Nat} {l : List Oper} (spec : List (Nat × Option (List Nat))) (cu : List (Nat × (World → Prop))) (ids : List Nat) (k : Nat) (hm : P.follows .mixedOrders = true) (hB : drawOk N l.toArray ids = true)
    (h : DQ P l.toArray (clsE W M L spec cu) S (fun F => EffT P ro N l.toArray Q ids (clsE W M L spec cu) k [] (St N (accSlots F ++ S) D W M L)) ids []) : Tr (St N S D W M L) (WP P ro (.region id l.toArray true) Q) := kDraw ids k hm hB h
def left (ops : Array Oper) (ids dn : List Nat) : List Nat := ids.filter fun i => !iDone ops dn i
inductive AllI (p : Nat → Prop) : List Nat → Prop
  | n : AllI p []
  | c {j : Nat} {r : List Nat} : p j → AllI p r → AllI p (j :: r)
theorem AllI.mem {p : Nat → Prop} {l : List Nat} (h : AllI p l) : ∀ j ∈ l, p j := by
  induction h with
  | n => intro j h; cases h
  | c h1 _ ih => intro j h; rcases List.mem_cons.1 h with rfl | h; (· exact h1); exact ih j h
theorem hDone {ids dn : List Nat} {X : Act → World → Prop} {C : Nat → World → Prop} (h : left ops ids dn = []) : CD ops ids dn X C := fun i hi => by
  refine .inl (Classical.byContradiction fun hc => ?_)
  have : i ∈ left ops ids dn := List.mem_filter.2 ⟨hi, by simpa using hc⟩
  rw [h] at this; cases this
/-- Of those that are left and ask for something. -/
theorem hLeft {ids dn : List Nat} {X : Act → World → Prop} {W : World} {M L : Heap} {spec : List (Nat × Option (List Nat))} {cu : List (Nat × (World → Prop))} (R : List Nat) (h : (left ops ids dn).filter (fun i => (look2 cu i).isSome || (look2 spec i).isSome) = R)
    (hR : AllI (fun i => ∀ a w, X a w → clsE W M L spec cu i w) R) : CD ops ids dn X (clsE W M L spec cu) := fun i hi => by
  by_cases hd : iDone ops dn i = true
  · exact .inl hd
  refine .inr fun a w hx => ?_
  by_cases hs : ((look2 cu i).isSome || (look2 spec i).isSome) = true
  · exact hR.mem i (by rw [← h]; exact List.mem_filter.2 ⟨List.mem_filter.2 ⟨hi, by simpa using hd⟩, hs⟩) a w hx
  · simp only [Bool.or_eq_true, not_or, Bool.not_eq_true, Option.isSome_eq_false_iff, Option.isNone_iff_eq_none] at hs
    unfold clsE
    rw [hs.1, hs.2]
    trivial

/-- All are done. -/
theorem effDone {ids : List Nat} {C : Nat → World → Prop} {dn : List Nat} {X : Act → World → Prop} (hc : Closed X) (hX : CD ops ids dn X C) (hl : effLeft ops ids dn = []) (h : Tr X (Q .normal)) :
    EffT P ro N ops Q ids C 0 dn X := ⟨hc, hX, hl, h⟩
/-- Whichever of these comes next. -/
theorem effStep {ids : List Nat} {C : Nat → World → Prop} {dn : List Nat} {X : Act → World → Prop} {k : Nat} (j : Nat) (js : List Nat) (hr : effReady ops ids dn = j :: js) (hc : Closed X) (hX : CD ops ids dn X C)
    (h : AllI (fun j => (∃ o X', ops[j]? = some o ∧ EffT P ro N ops Q ids C k (j :: dn) X' ∧ Tr X (opG P ro N ops o X')) ∨ (∃ o, ops[j]? = some o ∧ o.guard = none ∧ lastT ops ids j = true ∧ Tr X (opW P ro N o (fun _ _ => False) Q))) (j :: js)) : EffT P ro N ops Q ids C (k + 1) dn X :=
  ⟨hc, hX, fun e => (by have := hr; unfold effReady at this; rw [e] at this; cases this), (by rw [hr]; exact h.mem)⟩
theorem effOne {ids : List Nat} {C : Nat → World → Prop} {dn : List Nat} {X X' : Act → World → Prop} {k j : Nat} {o : Oper} (ho : ops[j]? = some o) (ht : Tr X (opG P ro N ops o X')) (h : EffT P ro N ops Q ids C k (j :: dn) X') :
    (∃ o X', ops[j]? = some o ∧ EffT P ro N ops Q ids C k (j :: dn) X' ∧ Tr X (opG P ro N ops o X')) ∨ (∃ o, ops[j]? = some o ∧ o.guard = none ∧ lastT ops ids j = true ∧ Tr X (opW P ro N o (fun _ _ => False) Q)) := .inl ⟨o, X', ho, h, ht⟩
/-- The last one may panic. -/
theorem effLast {ids : List Nat} {C : Nat → World → Prop} {dn : List Nat} {X : Act → World → Prop} {k j : Nat} {o : Oper} (ho : ops[j]? = some o) (hg : o.guard = none) (hl : lastT ops ids j = true) (h : Tr X (opW P ro N o (fun _ _ => False) Q)) :
    (∃ o X', ops[j]? = some o ∧ EffT P ro N ops Q ids C k (j :: dn) X' ∧ Tr X (opG P ro N ops o X')) ∨ (∃ o, ops[j]? = some o ∧ o.guard = none ∧ lastT ops ids j = true ∧ Tr X (opW P ro N o (fun _ _ => False) Q)) := .inr ⟨o, ho, hg, hl, h⟩
/-- An effect under names that are held. -/
theorem opEx {ι : Type} {Y Y' : ι → Act → World → Prop} {o : Oper} (h : ∀ n, Tr (Y n) (opG P ro N ops o (Y' n))) : Tr (fun a w => ∃ n, Y n a w) (opG P ro N ops o (fun a w => ∃ n, Y' n a w)) := fun a w ⟨n, hn⟩ hd => by
  have := h n a w hn hd
  split
  · rename_i hw; rw [if_pos hw] at this
    exact fun _ => (Oper.wpIn_mono (fun _ _ hh => ⟨n, hh⟩) (opW_wpIn hd this)).2
  · rename_i hw; rw [if_neg hw] at this
    exact ⟨n, this⟩
theorem gNone {X X' : Act → World → Prop} {o : Oper} (hg : o.guard = none) (h : Tr X (opW P ro N o X' (fun _ _ _ => False))) : Tr X (opG P ro N ops o X') := fun a w hx _ => by
  rw [if_pos (by simp [Region.wanted, hg])]; exact h a w hx
theorem gYes {S : Slots} {D : List Deferred} {W : World} {M L : Heap} {X' : Act → World → Prop} {o : Oper} {j t : Nat} {b : Bool} (hg : o.guard = some (j, b)) (hj : gslot ops j = some t) (hl : look S t = some (.bool b)) (h : Tr (St N S D W M L) (opW P ro N o X' (fun _ _ _ => False))) :
    Tr (St N S D W M L) (opG P ro N ops o X') := fun a w hx _ => by
  rw [if_pos (by simp [Region.wanted, hg, yielded_eq hj hl hx])]; exact h a w hx
theorem gNo {S : Slots} {D : List Deferred} {W : World} {M L : Heap} {o : Oper} {j t d : Nat} {b c : Bool} (hg : o.guard = some (j, b)) (hj : gslot ops j = some t) (hl : look S t = some (.bool c)) (hbc : (c == b) = false) (hd : o.dst = some d) :
    Tr (St N S D W M L) (opG P ro N ops o (St N ((d, undef) :: S) D W M L)) := fun a w hx hN => by
  rw [if_neg (by simp only [Region.wanted, hg, yielded_eq hj hl hx]; cases b <;> cases c <;> simp_all), hd]
  exact hx.put (hN d hd) _
theorem gUn {S : Slots} {D : List Deferred} {W : World} {M L : Heap} {o : Oper} {j t d : Nat} {b : Bool} (hg : o.guard = some (j, b)) (hj : gslot ops j = some t) (hl : look S t = some undef) (hd : o.dst = some d) :
    Tr (St N S D W M L) (opG P ro N ops o (St N ((d, undef) :: S) D W M L)) := fun a w hx hN => by
  rw [if_neg (by simp [Region.wanted, hg, yielded_undef hj hl hx]), hd]
  exact hx.put (hN d hd) _
end
end ZW
