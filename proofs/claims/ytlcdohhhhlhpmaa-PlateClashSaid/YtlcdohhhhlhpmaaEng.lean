/-
  The engine: Hoare-like rules over the kit's 'wpIn' at the wide fence, with frames told by the slots that matter and heaps told by the blocks that matter. It speaks of no program in particular.
-/
import Derived.RangeFuncLeaves
import Derived.Recover
import Derived.Still
import Derived.KernelRfl
import Derived.OrdersIn
import Derived.Deep.Quiet
import Derived.Below
import Derived.Deep.LoopGhost
namespace ZW
open Go

/-- The wide fence, in a round or in none. -/
abbrev FW (ro : Option Nat) : Fence := { fn := fun _ => True, depth := none, alive := false, round := ro }

abbrev Slots := List (Nat × Value)
def look : Slots → Nat → Option Value
  | [], _ => none
  | (k, v) :: r, t => bif Nat.beq k t then some v else look r t

theorem look_cons (k : Nat) (v : Value) (r : Slots) (t : Nat) : look ((k, v) :: r) t = if k = t then some v else look r t := by
  by_cases h : k = t
  · subst h; simp [look]
  · have : Nat.beq k t = false := by
      cases hb : Nat.beq k t with
      | false => rfl
      | true => exact absurd (Nat.eq_of_beq_eq_true hb) h
    simp [look, this, h]

abbrev Heap := List (Nat × Obj)
abbrev blk (l : List Value) (e : TypeId) : Obj := .cells l.toArray e (0, 0)

/-- What has become of the memory since W: the blocks M, that were there, and L, new ones, are known; all other ones that were there are as they were. -/
structure Eff (W : World) (M L : Heap) (w : World) : Prop where
  os : w.os = W.os
  tape : w.tape = W.tape
  output : w.output = W.output
  size : W.heap.size ≤ w.heap.size
  frame : ∀ k, k < W.heap.size → (∀ p ∈ M, p.1 ≠ k) → w.heap[k]? = W.heap[k]?
  own : ∀ p ∈ M ++ L, w.heap[p.1]? = some p.2
  new : ∀ p ∈ L, W.heap.size ≤ p.1
  old : ∀ p ∈ M, p.1 < W.heap.size
  nd : ((M ++ L).map (·.1)).Nodup

theorem Eff.refl (W : World) : Eff W [] [] W :=
  ⟨rfl, rfl, rfl, Nat.le_refl _, fun _ _ _ => rfl, fun _ h => by simp at h, fun _ h => by simp at h, fun _ h => by simp at h, by simp⟩

theorem Eff.lt {W : World} {M L : Heap} {w : World} (h : Eff W M L w) {p : Nat × Obj} (hp : p ∈ M ++ L) : p.1 < w.heap.size := by
  have := h.own p hp
  rw [Array.getElem?_eq_some_iff] at this
  exact this.1

theorem Eff.below {W w : World} {L : Heap} (h : Eff W [] L w) : Go.RowKit.Below W.heap.size W w :=
  ⟨h.os, h.tape, h.output, h.size, fun k hk => h.frame k hk (fun _ hp => by simp at hp)⟩

theorem Eff.forget {W : World} {M L L' : Heap} {w : World} (h : Eff W M L w) (hs : List.Sublist L' L) : Eff W M L' w :=
  ⟨h.os, h.tape, h.output, h.size, h.frame,
   fun p hp => h.own p (by rcases List.mem_append.1 hp with hp | hp; (· exact List.mem_append.2 (.inl hp)); exact List.mem_append.2 (.inr (hs.subset hp))),
   fun p hp => h.new p (hs.subset hp), h.old,
   List.Sublist.nodup (List.Sublist.map _ (List.Sublist.append (List.Sublist.refl M) hs)) h.nd⟩

/-- A draw. -/
theorem Eff.drew {W : World} {M L : Heap} {w : World} (h : Eff W M L w) (d : Nat) : Eff W M L { w with drawn := d } :=
  ⟨h.os, h.tape, h.output, h.size, h.frame, h.own, h.new, h.old, h.nd⟩

/-- A new block. -/
theorem Eff.alloc {W : World} {M L : Heap} {w : World} (h : Eff W M L w) (o : Obj) :
    Eff W M ((w.heap.size, o) :: L) { w with heap := w.heap.push o } := by
  refine ⟨h.os, h.tape, h.output, ?_, ?_, ?_, ?_, h.old, ?_⟩
  · have := h.size; simp; omega
  · intro k hk hM
    have hs := h.size
    show (w.heap.push o)[k]? = _
    rw [Array.getElem?_push, if_neg (by omega)]
    exact h.frame k hk hM
  · intro p hp
    show (w.heap.push o)[p.1]? = _
    rw [Array.getElem?_push]
    simp only [List.mem_append, List.mem_cons] at hp
    rcases hp with hp | rfl | hp
    · have := h.lt (p := p) (by simp [hp]); rw [if_neg (by omega)]; exact h.own p (by simp [hp])
    · simp
    · have := h.lt (p := p) (by simp [hp]); rw [if_neg (by omega)]; exact h.own p (by simp [hp])
  · intro p hp
    simp only [List.mem_cons] at hp
    rcases hp with rfl | hp
    · exact h.size
    · exact h.new p hp
  · have hnd := h.nd
    simp only [List.map_append, List.map_cons] at hnd ⊢
    rw [List.nodup_append] at hnd ⊢
    obtain ⟨h1, h2, h3⟩ := hnd
    refine ⟨h1, ?_, ?_⟩
    · rw [List.nodup_cons]
      refine ⟨?_, h2⟩
      intro hc
      obtain ⟨p, hp, he⟩ := List.mem_map.1 hc
      have := h.lt (p := p) (by simp [hp])
      omega
    · intro a ha b hb
      rw [List.mem_cons] at hb
      rcases hb with rfl | hb
      · obtain ⟨p, hp, he⟩ := List.mem_map.1 ha
        have := h.lt (p := p) (by simp [hp])
        omega
      · exact h3 a ha b hb

theorem Eff.trans {W w w' : World} {M L L' : Heap} (h : Eff W M L w) (h' : Eff w [] L' w') : Eff W M (L' ++ L) w' := by
  have hk : ∀ p ∈ M ++ L, w'.heap[p.1]? = some p.2 := fun p hp => by
    rw [h'.frame _ (h.lt hp) (fun _ hq => by simp at hq)]; exact h.own p hp
  refine ⟨h'.os.trans h.os, h'.tape.trans h.tape, h'.output.trans h.output, Nat.le_trans h.size h'.size, ?_, ?_, ?_, h.old, ?_⟩
  · intro k hlt hM
    have := h.size
    rw [h'.frame k (by omega) (fun _ hq => by simp at hq)]; exact h.frame k hlt hM
  · intro p hp
    simp only [List.mem_append] at hp
    rcases hp with hp | hp | hp
    · exact hk p (by simp [hp])
    · exact h'.own p (by simp [hp])
    · exact hk p (by simp [hp])
  · intro p hp
    rcases List.mem_append.1 hp with hp | hp
    · exact Nat.le_trans h.size (h'.new p hp)
    · exact h.new p hp
  · have h1 := h.nd
    have h2 := h'.nd
    simp only [List.map_append, List.nodup_append, List.nil_append, List.mem_append] at h1 h2 ⊢
    have hd : ∀ a ∈ L'.map (·.1), ∀ b ∈ (M ++ L).map (·.1), a ≠ b := by
      intro a ha b hb e
      obtain ⟨p, hp, rfl⟩ := List.mem_map.1 ha
      obtain ⟨q, hq, rfl⟩ := List.mem_map.1 hb
      have hx := h'.new p hp
      have hy := h.lt hq
      omega
    refine ⟨h1.1, ⟨h2, h1.2.1, fun a ha b hb => hd a ha b (by simp only [List.map_append, List.mem_append]; exact .inr hb)⟩, ?_⟩
    intro a ha b hb
    rcases hb with hb | hb
    · exact fun e => hd b hb a (by simp only [List.map_append, List.mem_append]; exact .inl ha) e.symm
    · exact h1.2.2 a ha b hb

/-- What is written over a list of cells. -/
def wr : List Value → Nat → List Value → List Value
  | [], _, _ => []
  | _ :: l, 0, v :: vs => v :: wr l 0 vs
  | x :: l, 0, [] => x :: l
  | x :: l, n + 1, vs => x :: wr l n vs

/-- Part of a list of cells. -/
def sub : List Value → Nat → Nat → Option (List Value)
  | _, 0, 0 => some []
  | [], 0, _ + 1 => none
  | x :: l, 0, k + 1 => match sub l 0 k with
    | some r => some (x :: r)
    | none => none
  | [], _ + 1, _ => none
  | _ :: l, n + 1, k => sub l n k

theorem sub_spec : ∀ (l : List Value) (n k : Nat) (r : List Value), sub l n k = some r → r.length = k ∧ ∀ j, j < k → l[n + j]? = r[j]?
  | l, 0, 0, r, h => by simp [sub] at h; subst h; simp
  | [], 0, k + 1, r, h => by simp [sub] at h
  | x :: l, 0, k + 1, r, h => by
    simp only [sub] at h
    split at h
    · rename_i r' hr
      cases h
      obtain ⟨h1, h2⟩ := sub_spec l 0 k r' hr
      refine ⟨by simp [h1], fun j hj => ?_⟩
      cases j with
      | zero => simp
      | succ j => have := h2 j (by omega); simpa using this
    · cases h
  | [], n + 1, k, r, h => by simp [sub] at h
  | x :: l, n + 1, k, r, h => by
    simp only [sub] at h
    obtain ⟨h1, h2⟩ := sub_spec l n k r h
    refine ⟨h1, fun j hj => ?_⟩
    have := h2 j hj
    rw [show n + 1 + j = (n + j) + 1 from by omega]
    simpa using this

theorem wr_length : ∀ (l : List Value) (n : Nat) (vs : List Value), (wr l n vs).length = l.length
  | [], n, vs => by simp [wr]
  | x :: l, 0, v :: vs => by simp [wr, wr_length l 0 vs]
  | x :: l, 0, [] => by simp [wr]
  | x :: l, n + 1, vs => by simp [wr, wr_length l n vs]

theorem wr_nil : ∀ (l : List Value) (n : Nat), wr l n [] = l
  | [], n => by simp [wr]
  | x :: l, 0 => by simp [wr]
  | x :: l, n + 1 => by simp [wr, wr_nil l n]

theorem wr_cons : ∀ (l : List Value) (n : Nat) (v : Value) (vs : List Value), wr l n (v :: vs) = wr (l.set n v) (n + 1) vs
  | [], n, v, vs => by simp [wr]
  | x :: l, 0, v, vs => by simp [wr]
  | x :: l, n + 1, v, vs => by simp [wr, wr_cons l n v vs]

/-! ### The state -/

/-- The frame has N slots, of which S are known, and D is deferred; of the memory, Eff. -/
structure St (N : Nat) (S : Slots) (D : List Deferred) (W : World) (M L : Heap) (a : Act) (w : World) : Prop where
  sz : a.tmps.size = N
  sl : ∀ t v, look S t = some v → a.tmps[t]? = some v
  df : a.defers = D
  ef : Eff W M L w

def Tr (X F : Act → World → Prop) : Prop := ∀ a w, X a w → F a w

def opd (S : Slots) : Operand → Option Value
  | .tmp t => look S t
  | .const v => some v
  | .func f => some (.func (.func f) #[] #[])
  | .global g => some (.pointer (some ⟨g, 0, none⟩))

/-- The operands that are known. -/
def Knows (S : Slots) (ρ : Operand → Value) : Prop := ∀ x v, opd S x = some v → ρ x = v

theorem St.knows {N : Nat} {S : Slots} {D : List Deferred} {W : World} {M L : Heap} {a : Act} {w : World} (h : St N S D W M L a w) : Knows S a.eval := by
  intro x v hx
  cases x with
  | tmp t => simp only [opd] at hx; simp [Act.eval, h.sl t v hx]
  | const u => simp only [opd, Option.some.injEq] at hx; exact hx
  | func f => simp only [opd, Option.some.injEq] at hx; exact hx
  | global g => simp only [opd, Option.some.injEq] at hx; exact hx

theorem put_slot {N d : Nat} {S : Slots} {a : Act} {v : Value} (hd : d < N) (hs : a.tmps.size = N) (h : ∀ t v, look S t = some v → a.tmps[t]? = some v) :
    ∀ t u, look ((d, v) :: S) t = some u → (a.put (some d) v).tmps[t]? = some u := by
  intro t u hu
  rw [look_cons] at hu
  simp only [Act.put, Array.getElem?_setIfInBounds]
  split at hu
  · rename_i e; subst e; simp [hs, hd] at hu ⊢; exact hu
  · rename_i e; rw [if_neg e]; exact h t u hu

theorem St.put {N d : Nat} {S : Slots} {D : List Deferred} {W : World} {M L : Heap} {a : Act} {w : World} (h : St N S D W M L a w) (hd : d < N) (v : Value) :
    St N ((d, v) :: S) D W M L (a.put (some d) v) w :=
  ⟨by simp [Act.put, h.sz], put_slot hd h.sz h.sl, h.df, h.ef⟩

theorem St.eff {N : Nat} {S : Slots} {D : List Deferred} {W : World} {M L M' L' : Heap} {a : Act} {w w' : World} (h : St N S D W M L a w) (he : Eff W M' L' w') : St N S D W M' L' a w' :=
  ⟨h.sz, h.sl, h.df, he⟩

/-- Fewer slots. -/
inductive AllLook (S : Slots) : Slots → Prop
  | n : AllLook S []
  | c {k : Nat} {v : Value} {r : Slots} : look S k = some v → AllLook S r → AllLook S ((k, v) :: r)

theorem AllLook.look {S S' : Slots} (h : AllLook S S') : ∀ t v, look S' t = some v → look S t = some v := by
  induction h with
  | n => intro t v h; simp [ZW.look] at h
  | c h1 _ ih =>
    intro t v h
    rw [look_cons] at h
    split at h
    · rename_i e; subst e; exact h1.trans h
    · exact ih t v h

theorem weak {N : Nat} {S : Slots} (S' : Slots) {D : List Deferred} {W : World} {M L : Heap} {F : Act → World → Prop} (h : AllLook S S')
    (k : Tr (St N S' D W M L) F) : Tr (St N S D W M L) F :=
  fun a w hs => k a w ⟨hs.sz, fun t v hv => hs.sl t v (h.look t v hv), hs.df, hs.ef⟩

theorem forget {N : Nat} {S : Slots} {D : List Deferred} {W : World} {M L : Heap} (L' : Heap) {F : Act → World → Prop} (h : List.Sublist L' L)
    (k : Tr (St N S D W M L') F) : Tr (St N S D W M L) F :=
  fun a w hs => k a w ⟨hs.sz, hs.sl, hs.df, hs.ef.forget h⟩

/-! ### Code -/
section code
variable {P : Program} {ro : Option Nat} {X : Act → World → Prop} {Q : Exit → Act → World → Prop}

abbrev WP (P : Program) (ro : Option Nat) (c : Code) (Q : Exit → Act → World → Prop) (a : Act) (w : World) : Prop := c.wpIn (FW ro) 0 P Q a w

theorem kSeq {x y : Code} (h : Tr X (WP P ro x (Exit.then (WP P ro y Q) Q))) : Tr X (WP P ro (.seq x y) Q) := fun a w hx => wpIn_seq (h a w hx)
theorem kSkip (h : Tr X (Q .normal)) : Tr X (WP P ro .skip Q) := fun a w hx => wpIn_skip (h a w hx)
theorem kLabel {l : Nat} (h : Tr X (Q .normal)) : Tr X (WP P ro (.label l) Q) := fun a w hx => wpIn_label (h a w hx)
theorem kRet (h : Tr X (Q .ret)) : Tr X (WP P ro .ret Q) := fun a w hx => wpIn_ret (h a w hx)
theorem kExit {id : Nat} (h : Tr X (Q (.exit id))) : Tr X (WP P ro (.exit id) Q) := fun a w hx => wpIn_exit (h a w hx)
theorem kGoto {id : Nat} (h : Tr X (Q (.goto id))) : Tr X (WP P ro (.goto id) Q) := fun a w hx => wpIn_goto (h a w hx)
theorem kBlock {id : Nat} {c : Code} (h : Tr X (WP P ro c (Exit.inBlock id Q))) : Tr X (WP P ro (.block id c) Q) := fun a w hx => wpIn_block (h a w hx)
theorem kThen {next : Act → World → Prop} (h : Tr X next) : Tr X (Exit.then next Q .normal) := h
theorem kThenX {next : Act → World → Prop} {id : Nat} (h : Tr X (Q (.exit id))) : Tr X (Exit.then next Q (.exit id)) := h
theorem kThenR {next : Act → World → Prop} (h : Tr X (Q .ret)) : Tr X (Exit.then next Q .ret) := h
theorem kThenG {next : Act → World → Prop} {id : Nat} (h : Tr X (Q (.goto id))) : Tr X (Exit.then next Q (.goto id)) := h
theorem kThenP {next : Act → World → Prop} {c : List PanicEntry} (h : Tr X (Q (.panic c))) : Tr X (Exit.then next Q (.panic c)) := h
theorem kInN {id : Nat} (h : Tr X (Q .normal)) : Tr X (Exit.inBlock id Q .normal) := h
theorem kInR {id : Nat} (h : Tr X (Q .ret)) : Tr X (Exit.inBlock id Q .ret) := h
theorem kInP {id : Nat} {c : List PanicEntry} (h : Tr X (Q (.panic c))) : Tr X (Exit.inBlock id Q (.panic c)) := h
theorem kInG {id l : Nat} (h : Tr X (Q (.goto l))) : Tr X (Exit.inBlock id Q (.goto l)) := h
theorem kInX {id : Nat} (h : Tr X (Q .normal)) : Tr X (Exit.inBlock id Q (.exit id)) := fun a w hx => by
  simp only [Exit.inBlock, if_true]; exact h a w hx
theorem kInY {id id' : Nat} (hne : Nat.beq id' id = false) (h : Tr X (Q (.exit id'))) : Tr X (Exit.inBlock id Q (.exit id')) := fun a w hx => by
  have : id' ≠ id := by intro e; subst e; simp at hne
  simp only [Exit.inBlock, if_neg this]; exact h a w hx

variable {N : Nat} {S : Slots} {D : List Deferred} {W : World} {M L : Heap}

theorem kIfT {c : Operand} {x y : Code} (hc : opd S c = some (.bool true)) (h : Tr (St N S D W M L) (WP P ro x Q)) : Tr (St N S D W M L) (WP P ro (.cond c x y) Q) :=
  fun a w hs => wpIn_cond_true (hs.knows c _ hc) (h a w hs)
theorem kIfF {c : Operand} {x y : Code} (hc : opd S c = some (.bool false)) (h : Tr (St N S D W M L) (WP P ro y Q)) : Tr (St N S D W M L) (WP P ro (.cond c x y) Q) :=
  fun a w hs => wpIn_cond_false (hs.knows c _ hc) (h a w hs)
/-- A test that is not decided. -/
theorem kIf {c : Operand} {x y : Code} {b : Bool} (hc : opd S c = some (.bool b)) (ht : b = true → Tr (St N S D W M L) (WP P ro x Q))
    (hf : b = false → Tr (St N S D W M L) (WP P ro y Q)) : Tr (St N S D W M L) (WP P ro (.cond c x y) Q) := by
  cases b
  · exact kIfF hc (hf rfl)
  · exact kIfT hc (ht rfl)
/-- A test of a proposition. -/
theorem kIfP {c : Operand} {x y : Code} {p : Prop} [Decidable p] (hc : opd S c = some (.bool (decide p))) (ht : p → Tr (St N S D W M L) (WP P ro x Q))
    (hf : ¬ p → Tr (St N S D W M L) (WP P ro y Q)) : Tr (St N S D W M L) (WP P ro (.cond c x y) Q) :=
  kIf hc (fun h => ht (by simpa using h)) (fun h => hf (by simpa using h))

/-- A loop: what holds at the head is told by x; each round ends at the head with a y of which the measure is less, or leaves. -/
theorem kLoop {ι : Type} {c : Code} (φ : ι → Prop) (S' : ι → Slots) (L' : ι → Heap) (μ : ι → Nat) (x0 : ι) (h0 : φ x0) (hS : AllLook S (S' x0)) (hL : List.Sublist (L' x0) L)
    (body : ∀ x, φ x → Tr (St N (S' x) D W M (L' x)) (WP P ro c (Exit.then (fun a w => ∃ y, φ y ∧ μ y < μ x ∧ St N (S' y) D W M (L' y) a w) Q))) :
    Tr (St N S D W M L) (WP P ro (.loop c) Q) := by
  intro a w hs
  have hst0 : St N (S' x0) D W M (L' x0) a w := ⟨hs.sz, fun t v hv => hs.sl t v (hS.look t v hv), hs.df, hs.ef.forget hL⟩
  let I : Nat → Act → World → Prop := fun n a w => ∃ y, φ y ∧ μ y = n ∧ St N (S' y) D W M (L' y) a w
  refine wpIn_loop (fun a w => ∃ n, I n a w) (fun a w => leastOf (fun n => I n a w)) ⟨μ x0, x0, h0, rfl, hst0⟩ ?_
  intro a w hI
  obtain ⟨y, hy, hn, hst⟩ := (leastOf_spec hI).1
  refine wpIn_mono (body y hy a w hst) ?_
  intro e a' w' hq
  cases e with
  | normal =>
    obtain ⟨z, hz, hlt, hsz⟩ := hq
    have hI' : ∃ n, I n a' w' := ⟨μ z, z, hz, rfl, hsz⟩
    refine ⟨hI', Nat.lt_of_le_of_lt ((leastOf_spec hI').2 (μ z) ⟨z, hz, rfl, hsz⟩) ?_⟩
    rw [← hn]; exact hlt
  | _ => exact hq
/-- A round's end. -/
theorem kRound {ι : Type} (φ : ι → Prop) (S' : ι → Slots) (L' : ι → Heap) (μ : ι → Nat) (m : Nat) (y : ι) (h0 : φ y) (hm : μ y < m) (hS : AllLook S (S' y)) (hL : List.Sublist (L' y) L) :
    Tr (St N S D W M L) (fun a w => ∃ y, φ y ∧ μ y < m ∧ St N (S' y) D W M (L' y) a w) :=
  fun _ _ hs => ⟨y, h0, hm, hs.sz, fun t v hv => hs.sl t v (hS.look t v hv), hs.df, hs.ef.forget hL⟩
end code

/-! ### Operations -/
section ops
variable {P : Program} {ro : Option Nat} {X : Act → World → Prop} {Q : Exit → Act → World → Prop}
variable {N : Nat} {S : Slots} {D : List Deferred} {W : World} {M L : Heap}

/-- One operation, in a frame and a world. -/
def opW (P : Program) (ro : Option Nat) (N : Nat) (o : Oper) (next : Act → World → Prop) (Q : Exit → Act → World → Prop) : Act → World → Prop :=
  fun a w => (∀ d, o.dst = some d → d < N) → o.uponIn (FW ro) 0 P a next Q ((o.semAt ro a.eval).run P w)
/-- Each operation writes a slot that there is. -/
def dLt (N : Nat) (o : Oper) : Bool := match o.dst with
  | some d => Nat.blt d N
  | none => true
theorem dLt_spec {N : Nat} {o : Oper} (h : dLt N o = true) : ∀ d, o.dst = some d → d < N := by
  intro d hd; simpa [dLt, hd] using h

theorem opW_wpIn {o : Oper} {next : Act → World → Prop} {a : Act} {w : World} (hd : ∀ d, o.dst = some d → d < N) (h : opW P ro N o next Q a w) : o.wpIn (FW ro) 0 P a w next Q := ⟨fun _ _ => trivial, h hd⟩

/-- A list of operations in the order of the text. -/
def wpL (P : Program) (ro : Option Nat) (N : Nat) (ops : Array Oper) (Q : Exit → Act → World → Prop) : List Oper → Act → World → Prop
  | [], a, w => Q .normal a w
  | o :: r, a, w => (∀ d, o.dst = some d → d < N) → if Region.wanted o (yielded ops a.tmps) = true then opW P ro N o (wpL P ro N ops Q r) Q a w else wpL P ro N ops Q r (a.put o.dst undef) w

theorem wpL_ops {ops : Array Oper} (l : List Oper) : ∀ (k : Nat), (∀ j, l[j]? = ops[k + j]?) → (l.all (dLt N) = true) → ∀ a w, wpL P ro N ops Q l a w → wpOpsIn (FW ro) 0 P ops Q (List.range' k l.length) a w := by
  induction l with
  | nil => intro k _ _ a w h; simpa [wpOpsIn, wpL] using h
  | cons o l ih =>
    intro k h hB a w hw
    simp only [List.all_cons, Bool.and_eq_true] at hB
    have hd := dLt_spec hB.1
    have h0 : ops[k]? = some o := by simpa using (h 0).symm
    have ih' := ih (k + 1) (fun j => by have := h (j + 1); simpa [Nat.add_assoc, Nat.add_comm 1 j] using this) hB.2
    simp only [List.length_cons, List.range'_succ, wpOpsIn, h0]
    have hw := hw hd
    split at hw
    · rename_i hg
      rw [if_pos hg]
      exact Oper.wpIn_mono ih' (opW_wpIn hd hw)
    · rename_i hg
      rw [if_neg hg]
      exact ⟨fun _ _ => trivial, ih' _ _ hw⟩

theorem kRegion {id : Nat} {l : List Oper} (hB : l.all (dLt N) = true) (h : Tr (St N S D W M L) (wpL P ro N l.toArray Q l)) : Tr (St N S D W M L) (WP P ro (.region id l.toArray false) Q) := fun a w hx => by
  refine wpIn_region ?_
  rw [List.range_eq_range', ← Array.length_toList]
  exact wpL_ops l 0 (by simp) hB a w (h a w hx)

theorem lNil {ops : Array Oper} (h : Tr X (Q .normal)) : Tr X (wpL P ro N ops Q []) := h
/-- An operation without a guard. -/
theorem lE {ops : Array Oper} {o : Oper} {r : List Oper} (hg : o.guard = none) (h : Tr X (opW P ro N o (wpL P ro N ops Q r) Q)) : Tr X (wpL P ro N ops Q (o :: r)) := fun a w hx _ => by
  rw [if_pos (by simp [Region.wanted, hg])]
  exact h a w hx

/-- The slot of the operation that a guard asks. -/
def gslot (ops : Array Oper) (j : Nat) : Option Nat := (ops[j]?).bind (·.dst)

theorem yielded_eq {ops : Array Oper} {j t : Nat} {b : Bool} {a : Act} {w : World} (hj : gslot ops j = some t) (hl : look S t = some (.bool b)) (h : St N S D W M L a w) : yielded ops a.tmps j = some b := by
  have := h.sl t _ hl
  unfold gslot at hj
  simp [yielded, hj, this]

theorem yielded_undef {ops : Array Oper} {j t : Nat} {a : Act} {w : World} (hj : gslot ops j = some t) (hl : look S t = some undef) (h : St N S D W M L a w) : yielded ops a.tmps j = none := by
  have := h.sl t _ hl
  unfold gslot at hj
  simp [yielded, hj, this, undef]

/-- A guard that says yes. -/
theorem lGY {ops : Array Oper} {o : Oper} {r : List Oper} {j t : Nat} {b : Bool} (hg : o.guard = some (j, b)) (hj : gslot ops j = some t) (hl : look S t = some (.bool b))
    (h : Tr (St N S D W M L) (opW P ro N o (wpL P ro N ops Q r) Q)) : Tr (St N S D W M L) (wpL P ro N ops Q (o :: r)) := fun a w hx _ => by
  rw [if_pos (by simp [Region.wanted, hg, yielded_eq hj hl hx])]
  exact h a w hx
/-- A guard that says no. -/
theorem lGN {ops : Array Oper} {o : Oper} {r : List Oper} {j t d : Nat} {b c : Bool} (hg : o.guard = some (j, b)) (hj : gslot ops j = some t) (hl : look S t = some (.bool c)) (hbc : (c == b) = false) (hd : o.dst = some d)
    (h : Tr (St N ((d, undef) :: S) D W M L) (wpL P ro N ops Q r)) : Tr (St N S D W M L) (wpL P ro N ops Q (o :: r)) := fun a w hx hN => by
  rw [if_neg (by simp only [Region.wanted, hg, yielded_eq hj hl hx]; cases b <;> cases c <;> simp_all), hd]
  exact h _ _ (hx.put (hN d hd) _)
/-- A guard that was itself passed over. -/
theorem lGU {ops : Array Oper} {o : Oper} {r : List Oper} {j t d : Nat} {b : Bool} (hg : o.guard = some (j, b)) (hj : gslot ops j = some t) (hl : look S t = some undef) (hd : o.dst = some d)
    (h : Tr (St N ((d, undef) :: S) D W M L) (wpL P ro N ops Q r)) : Tr (St N S D W M L) (wpL P ro N ops Q (o :: r)) := fun a w hx hN => by
  rw [if_neg (by simp [Region.wanted, hg, yielded_undef hj hl hx]), hd]
  exact h _ _ (hx.put (hN d hd) _)

def nd : Op → Bool
  | .defer _ => false
  | _ => true

/-- The call returns just this, and all that was there is as it was. -/
def Ret (w : World) (v : Value) : Ending → World → Prop := fun e w' => e = .returned v ∧ Eff w [] [] w'

/-- What is asked of a quiet operation that is run: its value in the world that it got; or a call under a contract 'Ret'. -/
def quiU (P : Program) (w : World) (v : Value) : Result Next → Prop
  | .ok (.value u) w' => w' = w ∧ u = v
  | .ok (.enter f args) w' => w' = w ∧ Calls P f args w (Ret w v)
  | _ => False

/-- In every world of the class C the operation yields v. -/
def YV (P : Program) (S : Slots) (C : World → Prop) (o : Oper) (v : Value) : Prop :=
  nd o.op = true ∧ ∀ (ρ : Operand → Value), Knows S ρ → ∀ w, C w → quiU P w v ((execOp ρ o).run P w)

theorem semAt_nd {o : Oper} (h : nd o.op = true) (ρ : Operand → Value) : o.semAt ro ρ = execOp ρ o :=
  Oper.semAt_eq ro ρ o (fun c hc => by simp [hc, nd] at h)

theorem upon_quiet {o : Oper} {next : Act → World → Prop} {a : Act} {w : World} {v : Value} (hnd : nd o.op = true)
    (h : quiU P w v ((execOp a.eval o).run P w)) (hn : ∀ w', Eff w [] [] w' → next (a.put o.dst v) w') : o.uponIn (FW ro) 0 P a next Q ((o.semAt ro a.eval).run P w) := by
  rw [semAt_nd hnd]
  generalize (execOp a.eval o).run P w = r at h
  cases r with
  | ok n w' =>
    cases n <;> simp only [quiU] at h
    case value u => obtain ⟨rfl, rfl⟩ := h; exact hn _ (Eff.refl _)
    case enter f args =>
      obtain ⟨rfl, hc⟩ := h
      refine ⟨fun hd => by simp at hd, ⟨trivial, ?_⟩⟩
      have hc' : Calls P f args w' fun
        | .returned v, w'' => next (a.put o.dst v) w''
        | .panicked chain, w'' => Q (.panic chain) a w''
        | .outgrown, _ => LetsOut Q := hc.mono fun e w'' ⟨he, hw⟩ => by subst he; exact hn _ hw
      exact ((callsIn_wide (n := 0)).2 hc').2
  | halt x w' => simp only [quiU] at h

/-- A quiet operation, next in any order. -/
theorem oV {o : Oper} {d : Nat} {v : Value} {next : Act → World → Prop} (h : YV P S (Eff W M L) o v) (hd : o.dst = some d)
    (k : Tr (St N ((d, v) :: S) D W M L) next) : Tr (St N S D W M L) (opW P ro N o next Q) := fun a w hs hN => by
  refine upon_quiet h.1 (h.2 a.eval hs.knows w hs.ef) fun w' hw => ?_
  rw [hd]
  exact k _ _ ((hs.put (hN d hd) v).eff (by simpa using hs.ef.trans hw))
/-- A quiet operation without a result. -/
theorem oV0 {o : Oper} {v : Value} {next : Act → World → Prop} (h : YV P S (Eff W M L) o v) (hd : o.dst = none)
    (k : Tr (St N S D W M L) next) : Tr (St N S D W M L) (opW P ro N o next Q) := fun a w hs _ => by
  refine upon_quiet h.1 (h.2 a.eval hs.knows w hs.ef) fun w' hw => ?_
  rw [hd]
  exact k _ _ (hs.eff (by simpa using hs.ef.trans hw))
/-- The next operation of a list, without a guard. -/
theorem lV {ops : Array Oper} {o : Oper} {r : List Oper} {d : Nat} {v : Value} (h : YV P S (Eff W M L) o v) (hg : o.guard = none) (hd : o.dst = some d)
    (k : Tr (St N ((d, v) :: S) D W M L) (wpL P ro N ops Q r)) : Tr (St N S D W M L) (wpL P ro N ops Q (o :: r)) := lE hg (oV h hd k)

/-! #### What operations yield -/
variable {C : World → Prop} {dst : Option Tmp} {ty : TypeId} {pos : String} {af : Array Edge} {g : Option (Nat × Bool)}

theorem YV.pure {o : Oper} {v : Value} (h : ∀ ρ, Knows S ρ → ∀ w, (execOp ρ o).run P w = .ok (.value v) w) (hnd : nd o.op = true := by rfl) : YV P S C o v := ⟨hnd, fun ρ hk w _ => by
  rw [h ρ hk w]; exact ⟨rfl, rfl⟩⟩

theorem yMove {x : Operand} {v : Value} (hx : opd S x = some v) : YV P S C ⟨dst, .move x, ty, pos, af, g⟩ v :=
  .pure fun ρ hk w => by simp [execOp, hk x v hx, Sem.run_pure]
theorem yAssign {x : Operand} {v : Value} (hx : opd S x = some v) : YV P S C ⟨dst, .assign x, ty, pos, af, g⟩ v :=
  .pure fun ρ hk w => by simp [execOp, hk x v hx, Sem.run_pure]
theorem yPickT {c x y : Operand} {v : Value} (hc : opd S c = some (.bool true)) (hx : opd S x = some v) : YV P S C ⟨dst, .pick c x y, ty, pos, af, g⟩ v :=
  .pure fun ρ hk w => by simp [execOp, hk c _ hc, hk x v hx, asBool, go_sem]
theorem yPickF {c x y : Operand} {v : Value} (hc : opd S c = some (.bool false)) (hy : opd S y = some v) : YV P S C ⟨dst, .pick c x y, ty, pos, af, g⟩ v :=
  .pure fun ρ hk w => by simp [execOp, hk c _ hc, hk y v hy, asBool, go_sem]
end ops
end ZW
