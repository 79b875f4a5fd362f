/-
  The engine, fourth part: a region that draws its order. The operations 'ids' are quiet (each yields one value, in every world of a class C); what they yield is told once, in the order of the text; the other operations, those that change the memory, are told in every order that they can have among themselves.
-/
import Derived.Test.YtlcdohhhhlhpmaaEngC
namespace ZW
open Go

/-- i comes before j, by an edge, or by few. -/
def prec (ops : Array Oper) : Nat → Nat → Nat → Bool
  | 0, _, _ => false
  | n + 1, i, j => match ops[j]? with
    | none => false
    | some o => o.after.any (fun e => Region.binds .any e && e.on == i) || o.after.any (fun e => Region.binds .any e && prec ops n i e.on)

def dstOf (ops : Array Oper) (i : Nat) : Option Nat := (ops[i]?).bind (·.dst)
def readsOf (ops : Array Oper) (i : Nat) : List Nat := match ops[i]? with
  | some o => o.looksAt ops
  | none => []
def effs (ops : Array Oper) (ids : List Nat) : List Nat := (List.range ops.size).filter (fun j => !ids.contains j)
def effLeft (ops : Array Oper) (ids dn : List Nat) : List Nat := (effs ops ids).filter (fun j => !dn.contains j)
def effReady (ops : Array Oper) (ids dn : List Nat) : List Nat := (effLeft ops ids dn).filter (fun j => (effs ops ids).all fun k => !prec ops 1 k j || dn.contains k)

/-- What is asked of the region itself. -/
def drawOk (N : Nat) (ops : Array Oper) (ids : List Nat) : Bool :=
  decide (ids.Pairwise (· < ·)) && (ids.all (fun i => (dstOf ops i).isSome) &&
  ids.all (fun i => (List.range ops.size).all fun j => j == i || dstOf ops j != dstOf ops i) &&
  ids.all (fun i => (List.range ops.size).all fun j => !(readsOf ops j).any (fun t => dstOf ops i == some t) || prec ops 2 i j) &&
  ids.all (fun i => (readsOf ops i).all fun t => (effs ops ids).all fun j => dstOf ops j != some t || prec ops 2 i j) &&
  (List.range ops.size).all (fun j => match ops[j]? with
    | some o => dLt N o && (match o.op with | .select _ _ => false | _ => true) && o.after.all (fun e => !Region.binds .any e || Nat.blt e.on j) && (ids.contains j || nd o.op)
    | none => false))

section
variable {P : Program} {ro : Option Nat} {Q : Exit → Act → World → Prop} {N : Nat} {ops : Array Oper}

/-- Calls that only compute turn nothing of what X says. -/
def Closed (X : Act → World → Prop) : Prop := ∀ a w w', X a w → Eff w [] [] w' → X a w'

theorem closedSt {S : Slots} {D : List Deferred} {W : World} {M L : Heap} : Closed (St N S D W M L) := fun _ _ _ h he => h.eff (by simpa using h.ef.trans he)
theorem closedEx {ι : Type} {Y : ι → Act → World → Prop} (h : ∀ n, Closed (Y n)) : Closed (fun a w => ∃ n, Y n a w) := fun a w w' ⟨n, hn⟩ he => ⟨n, h n a w w' hn he⟩
theorem trEx {ι : Type} {Y : ι → Act → World → Prop} {F : Act → World → Prop} (h : ∀ n, Tr (Y n) F) : Tr (fun a w => ∃ n, Y n a w) F := fun a w ⟨n, hn⟩ => h n a w hn
theorem trSelf {X : Act → World → Prop} : Tr X X := fun _ _ h => h
theorem trTo {ι : Type} {X : Act → World → Prop} {Y : ι → Act → World → Prop} (n : ι) (h : Tr X (Y n)) : Tr X (fun a w => ∃ n, Y n a w) := fun a w hx => ⟨n, h a w hx⟩

/-- An operation with an effect, under its guard. -/
def opG (P : Program) (ro : Option Nat) (N : Nat) (ops : Array Oper) (o : Oper) (X' : Act → World → Prop) : Act → World → Prop := fun a w =>
  (∀ d, o.dst = some d → d < N) → if Region.wanted o (yielded ops a.tmps) = true then opW P ro N o X' (fun _ _ _ => False) a w else X' (a.put o.dst undef) w

/-- The effects that are left, k of them. -/
def iDone (ops : Array Oper) (dn : List Nat) (i : Nat) : Bool := dn.any fun j => prec ops 3 i j
/-- Each quiet operation is done by now, or what it asks of the world holds. -/
def CD (ops : Array Oper) (ids dn : List Nat) (X : Act → World → Prop) (C : Nat → World → Prop) : Prop := ∀ i ∈ ids, iDone ops dn i = true ∨ ∀ a w, X a w → C i w
/-- All quiet ones are done ahead of this one. -/
def lastT (ops : Array Oper) (ids : List Nat) (j : Nat) : Bool := ids.all fun q => q == j || prec ops ops.size q j
def EffT (P : Program) (ro : Option Nat) (N : Nat) (ops : Array Oper) (Q : Exit → Act → World → Prop) (ids : List Nat) (C : Nat → World → Prop) : Nat → List Nat → (Act → World → Prop) → Prop
  | 0, dn, X => Closed X ∧ CD ops ids dn X C ∧ effLeft ops ids dn = [] ∧ Tr X (Q .normal)
  | k + 1, dn, X => Closed X ∧ CD ops ids dn X C ∧ effLeft ops ids dn ≠ [] ∧ ∀ j ∈ effReady ops ids dn, (∃ o X', ops[j]? = some o ∧ EffT P ro N ops Q ids C k (j :: dn) X' ∧ Tr X (opG P ro N ops o X')) ∨ (∃ o, ops[j]? = some o ∧ o.guard = none ∧ lastT ops ids j = true ∧ Tr X (opW P ro N o (fun _ _ => False) Q))

def accSlots (F : List (Nat × Nat × Value)) : Slots := F.map fun p => (p.2.1, p.2.2)

/-- The quiet operations, one by one, in the order of the text. -/
inductive DQ (P : Program) (ops : Array Oper) (C : Nat → World → Prop) (Sb : Slots) (R : List (Nat × Nat × Value) → Prop) : List Nat → List (Nat × Nat × Value) → Prop
  | done {F : List (Nat × Nat × Value)} : R F → DQ P ops C Sb R [] F
  | run {i d : Nat} {v : Value} {o : Oper} {r : List Nat} {F : List (Nat × Nat × Value)} : ops[i]? = some o → YV P (accSlots F ++ Sb) (C i) o v → o.guard = none → o.dst = some d → DQ P ops C Sb R r ((i, d, v) :: F) → DQ P ops C Sb R (i :: r) F
  | runG {i d j t : Nat} {b : Bool} {v : Value} {o : Oper} {r : List Nat} {F : List (Nat × Nat × Value)} : ops[i]? = some o → YV P (accSlots F ++ Sb) (C i) o v → o.guard = some (j, b) → gslot ops j = some t → look (accSlots F ++ Sb) t = some (.bool b) → o.dst = some d →
      DQ P ops C Sb R r ((i, d, v) :: F) → DQ P ops C Sb R (i :: r) F
  | skip {i d j t : Nat} {b c : Bool} {o : Oper} {r : List Nat} {F : List (Nat × Nat × Value)} : ops[i]? = some o → o.guard = some (j, b) → gslot ops j = some t → look (accSlots F ++ Sb) t = some (.bool c) → (c == b) = false → o.dst = some d →
      DQ P ops C Sb R r ((i, d, undef) :: F) → DQ P ops C Sb R (i :: r) F
  | skipU {i d j t : Nat} {b : Bool} {o : Oper} {r : List Nat} {F : List (Nat × Nat × Value)} : ops[i]? = some o → o.guard = some (j, b) → gslot ops j = some t → look (accSlots F ++ Sb) t = some undef → o.dst = some d →
      DQ P ops C Sb R r ((i, d, undef) :: F) → DQ P ops C Sb R (i :: r) F

/-- What is known of one quiet operation. -/
def Known (P : Program) (ops : Array Oper) (C : Nat → World → Prop) (S : Slots) (i d : Nat) (v : Value) : Prop :=
  ∃ o, ops[i]? = some o ∧ o.dst = some d ∧
    ((YV P S (C i) o v ∧ (o.guard = none ∨ ∃ j b t, o.guard = some (j, b) ∧ gslot ops j = some t ∧ look S t = some (.bool b))) ∨
     (v = undef ∧ ∃ j b t u, o.guard = some (j, b) ∧ gslot ops j = some t ∧ look S t = some u ∧ u ≠ .bool b))

theorem DQ.spec {C : Nat → World → Prop} {Sb : Slots} {R : List (Nat × Nat × Value) → Prop} {ids : List Nat} {F0 : List (Nat × Nat × Value)} (h : DQ P ops C Sb R ids F0) :
    ∃ F1, R (F1 ++ F0) ∧ F1.map (·.1) = ids.reverse ∧ ∀ A i d v B, F1 = A ++ (i, d, v) :: B → Known P ops C (accSlots (B ++ F0) ++ Sb) i d v := by
  induction h with
  | done h => exact ⟨[], by simpa using h, by simp, fun A i d v B hh => by simp at hh⟩
  | @run i d v o r F ho hy hg hd _ ih =>
    obtain ⟨F1, h1, h2, h3⟩ := ih
    refine ⟨F1 ++ [(i, d, v)], by simpa using h1, by simp [h2], fun A i' d' v' B hh => ?_⟩
    rcases List.append_eq_append_iff.1 hh with ⟨X, hX1, hX2⟩ | ⟨X, hX1, hX2⟩
    · cases X with
      | nil =>
        simp only [List.nil_append, List.cons.injEq, Prod.mk.injEq] at hX2
        obtain ⟨⟨rfl, rfl, rfl⟩, rfl⟩ := hX2
        exact ⟨o, ho, hd, .inl ⟨by simpa using hy, .inl hg⟩⟩
      | cons x X => simp at hX2
    · cases X with
      | nil =>
        simp only [List.nil_append, List.cons.injEq, Prod.mk.injEq] at hX2
        obtain ⟨⟨rfl, rfl, rfl⟩, rfl⟩ := hX2
        exact ⟨o, ho, hd, .inl ⟨by simpa using hy, .inl hg⟩⟩
      | cons x X =>
        simp only [List.cons_append, List.cons.injEq] at hX2
        obtain ⟨rfl, rfl⟩ := hX2
        have := h3 A i' d' v' X hX1
        simpa using this
  | @runG i d j t b v o r F ho hy hg hj hl hd _ ih =>
    obtain ⟨F1, h1, h2, h3⟩ := ih
    refine ⟨F1 ++ [(i, d, v)], by simpa using h1, by simp [h2], fun A i' d' v' B hh => ?_⟩
    rcases List.append_eq_append_iff.1 hh with ⟨X, hX1, hX2⟩ | ⟨X, hX1, hX2⟩
    · cases X with
      | nil =>
        simp only [List.nil_append, List.cons.injEq, Prod.mk.injEq] at hX2
        obtain ⟨⟨rfl, rfl, rfl⟩, rfl⟩ := hX2
        exact ⟨o, ho, hd, .inl ⟨by simpa using hy, .inr ⟨j, b, t, hg, hj, by simpa using hl⟩⟩⟩
      | cons x X => simp at hX2
    · cases X with
      | nil =>
        simp only [List.nil_append, List.cons.injEq, Prod.mk.injEq] at hX2
        obtain ⟨⟨rfl, rfl, rfl⟩, rfl⟩ := hX2
        exact ⟨o, ho, hd, .inl ⟨by simpa using hy, .inr ⟨j, b, t, hg, hj, by simpa using hl⟩⟩⟩
      | cons x X =>
        simp only [List.cons_append, List.cons.injEq] at hX2
        obtain ⟨rfl, rfl⟩ := hX2
        have := h3 A i' d' v' X hX1
        simpa using this
  | @skip i d j t b c o r F ho hg hj hl hbc hd _ ih =>
    obtain ⟨F1, h1, h2, h3⟩ := ih
    have hne : Value.bool c ≠ .bool b := by intro e; cases e; simp at hbc
    refine ⟨F1 ++ [(i, d, undef)], by simpa using h1, by simp [h2], fun A i' d' v' B hh => ?_⟩
    rcases List.append_eq_append_iff.1 hh with ⟨X, hX1, hX2⟩ | ⟨X, hX1, hX2⟩
    · cases X with
      | nil =>
        simp only [List.nil_append, List.cons.injEq, Prod.mk.injEq] at hX2
        obtain ⟨⟨rfl, rfl, rfl⟩, rfl⟩ := hX2
        exact ⟨o, ho, hd, .inr ⟨rfl, j, b, t, _, hg, hj, by simpa using hl, hne⟩⟩
      | cons x X => simp at hX2
    · cases X with
      | nil =>
        simp only [List.nil_append, List.cons.injEq, Prod.mk.injEq] at hX2
        obtain ⟨⟨rfl, rfl, rfl⟩, rfl⟩ := hX2
        exact ⟨o, ho, hd, .inr ⟨rfl, j, b, t, _, hg, hj, by simpa using hl, hne⟩⟩
      | cons x X =>
        simp only [List.cons_append, List.cons.injEq] at hX2
        obtain ⟨rfl, rfl⟩ := hX2
        have := h3 A i' d' v' X hX1
        simpa using this
  | @skipU i d j t b o r F ho hg hj hl hd _ ih =>
    obtain ⟨F1, h1, h2, h3⟩ := ih
    have hne : undef ≠ .bool b := by intro e; cases e
    refine ⟨F1 ++ [(i, d, undef)], by simpa using h1, by simp [h2], fun A i' d' v' B hh => ?_⟩
    rcases List.append_eq_append_iff.1 hh with ⟨X, hX1, hX2⟩ | ⟨X, hX1, hX2⟩
    · cases X with
      | nil =>
        simp only [List.nil_append, List.cons.injEq, Prod.mk.injEq] at hX2
        obtain ⟨⟨rfl, rfl, rfl⟩, rfl⟩ := hX2
        exact ⟨o, ho, hd, .inr ⟨rfl, j, b, t, _, hg, hj, by simpa using hl, hne⟩⟩
      | cons x X => simp at hX2
    · cases X with
      | nil =>
        simp only [List.nil_append, List.cons.injEq, Prod.mk.injEq] at hX2
        obtain ⟨⟨rfl, rfl, rfl⟩, rfl⟩ := hX2
        exact ⟨o, ho, hd, .inr ⟨rfl, j, b, t, _, hg, hj, by simpa using hl, hne⟩⟩
      | cons x X =>
        simp only [List.cons_append, List.cons.injEq] at hX2
        obtain ⟨rfl, rfl⟩ := hX2
        have := h3 A i' d' v' X hX1
        simpa using this

/-! ### Listed operations -/
def Lst (listed : Array Bool) (i : Nat) : Prop := listed.getD i false = true
/-- What comes before a listed one is listed. -/
def DC (ops : Array Oper) (listed : Array Bool) : Prop := ∀ k o, Lst listed k → ops[k]? = some o → ∀ e ∈ o.after, Region.binds .any e = true → Lst listed e.on

theorem prec_spec {listed : Array Bool} (hdc : DC ops listed) : ∀ n i j, prec ops n i j = true → (∀ o, ops[j]? = some o → ∀ e ∈ o.after, Region.binds .any e = true → Lst listed e.on) → Lst listed i
  | 0, i, j, h, _ => by simp [prec] at h
  | n + 1, i, j, h, hj => by
    simp only [prec] at h
    split at h
    · cases h
    · rename_i o ho
      simp only [Bool.or_eq_true, Array.any_eq_true', Bool.and_eq_true, beq_iff_eq] at h
      rcases h with ⟨e, he, hb, rfl⟩ | ⟨e, he, hb, hp⟩
      · exact hj o ho e he hb
      · have hl := hj o ho e he hb
        exact prec_spec hdc n i e.on hp (fun o' ho' e' he' hb' => hdc e.on o' hl ho' e' he' hb')

theorem lst_set {listed : Array Bool} {i k : Nat} (hi : i < listed.size) : Lst (listed.setIfInBounds i true) k ↔ k = i ∨ Lst listed k := by
  unfold Lst
  by_cases h : k = i
  · subst h; simp [hi]
  · simp [Ne.symm h, h]

theorem filter_len_lt {α : Type} {p q : α → Bool} (hpq : ∀ x, q x = true → p x = true) : ∀ (l : List α) (x : α), x ∈ l → p x = true → q x = false → (l.filter q).length < (l.filter p).length
  | y :: l, x, hx, hp, hq => by
    have hle : ∀ l : List α, (l.filter q).length ≤ (l.filter p).length := by
      intro l
      induction l with
      | nil => simp
      | cons z l ih =>
        simp only [List.filter_cons]
        by_cases h1 : q z = true
        · simp [h1, hpq z h1, ih]
        · by_cases h2 : p z = true <;> simp [h1, h2] <;> omega
    rcases List.mem_cons.1 hx with rfl | hx
    · have := hle l
      simp [hp, hq]; omega
    · have ih := filter_len_lt hpq l x hx hp hq
      simp only [List.filter_cons]
      by_cases h1 : q y = true
      · simp [h1, hpq y h1, ih]
      · by_cases h2 : p y = true <;> simp [h1, h2] <;> omega

def unl (n : Nat) (listed : Array Bool) : Nat := ((List.range n).filter fun i => !listed.getD i false).length

/-! ### The law -/
theorem looks_op {o : Oper} {t : Nat} (h : Operand.tmp t ∈ o.op.operands) : t ∈ o.looksAt ops := by
  unfold Oper.looksAt
  refine List.mem_append.2 (.inl ?_)
  rw [List.mem_filterMap]
  exact ⟨.tmp t, by simpa using h, rfl⟩
theorem looks_guard {o : Oper} {j t : Nat} {b : Bool} (h : o.guard = some (j, b)) (hj : gslot ops j = some t) : t ∈ o.looksAt ops := by
  unfold Oper.looksAt
  refine List.mem_append.2 (.inr ?_)
  unfold gslot at hj
  simp [h, hj]

structure DInv (N : Nat) (ops : Array Oper) (ids : List Nat) (Sb : Slots) (F : List (Nat × Nat × Value)) (X : Act → World → Prop) (dn : List Nat) (listed : Array Bool) (a : Act) (w : World) : Prop where
  size : listed.size = ops.size
  sz : a.tmps.size = N
  dc : DC ops listed
  eff : ∀ j, j < ops.size → j ∉ ids → (Lst listed j ↔ j ∈ dn)
  dnE : ∀ {j}, j ∈ ids → j ∉ dn
  base : ∀ t v, look Sb t = some v → (∀ j ∈ dn, dstOf ops j ≠ some t) → (∀ i ∈ ids, dstOf ops i ≠ some t) → a.tmps[t]? = some v
  ghost : ∃ g : Act, X g w ∧ g.defers = a.defers ∧ g.tmps.size = a.tmps.size ∧ (∀ t, (∀ i ∈ ids, ¬ Lst listed i → dstOf ops i ≠ some t) → g.tmps[t]? = a.tmps[t]?) ∧
    (∀ p ∈ F, g.tmps[p.2.1]? = some p.2.2)

theorem upon_ghost {o : Oper} {a g : Act} {w : World} {X' next : Act → World → Prop} (hnd : nd o.op = true) (he : execOp a.eval o = execOp g.eval o) (h : o.uponIn (FW ro) 0 P g X' (fun _ _ _ => False) ((o.semAt ro g.eval).run P w))
    (hn : ∀ ds v w', X' (({ g with defers := ds ++ g.defers } : Act).put o.dst v) w' → next (({ a with defers := ds ++ a.defers } : Act).put o.dst v) w') : o.uponIn (FW ro) 0 P a next Q ((o.semAt ro a.eval).run P w) := by
  rw [semAt_nd hnd] at h ⊢
  rw [he]
  generalize hr : (execOp g.eval o).run P w = r at h
  cases r with
  | ok n w' =>
    cases n <;> simp only [Oper.uponIn] at h ⊢
    case value u => exact hn [] _ _ h
    case skip => exact hn [] _ _ h
    case defer d => exact hn [d] _ _ h
    case enter f args =>
      refine ⟨h.1, h.2.mono fun e w'' hh => ?_⟩
      cases e with
      | returned v => exact hn [] _ _ hh
      | panicked c => exact hh.elim
      | outgrown => obtain ⟨_, _, hh⟩ := hh; exact hh.elim
    case row row args => exact ⟨h.1, h.2.mono fun v w'' hh => hn [] _ _ hh⟩
    case round l f tmps assign body =>
      refine ⟨h.1, h.2.mono fun e w'' hh => ?_⟩
      cases e with
      | returned v => exact hn [] _ _ hh
      | panicked c => exact hh.elim
      | outgrown => obtain ⟨_, _, hh⟩ := hh; exact hh.elim
  | halt x w' => cases x <;> simp only [Oper.uponIn] at h ⊢

theorem take_eq {o : Oper} {a g : Act} (hsel : ∀ cs b, o.op ≠ .select cs b) (h : ∀ t, Operand.tmp t ∈ o.op.operands → g.tmps[t]? = a.tmps[t]?) : execOp a.eval o = execOp g.eval o :=
  execOp_congr o hsel fun x hx => by
    cases x with
    | tmp t => simp [Act.eval, h t hx]
    | _ => rfl

theorem drawOk_1 {ids : List Nat} (h : drawOk N ops ids = true) : ∀ i ∈ ids, ∃ d, dstOf ops i = some d := by
  simp only [drawOk, Bool.and_eq_true, List.all_eq_true] at h
  intro i hi
  exact Option.isSome_iff_exists.1 (h.2.1.1.1.1 i hi)
theorem dstOf_lt {i d : Nat} (h : dstOf ops i = some d) : i < ops.size := by
  unfold dstOf at h
  rcases Nat.lt_or_ge i ops.size with h1 | h1
  · exact h1
  · simp [Array.getElem?_eq_none h1] at h
theorem drawOk_2 {ids : List Nat} (h : drawOk N ops ids = true) : ∀ i ∈ ids, ∀ j d, dstOf ops i = some d → dstOf ops j = some d → j = i := by
  simp only [drawOk, Bool.and_eq_true, List.all_eq_true] at h
  intro i hi j d hd hj
  have := h.2.1.1.1.2 i hi j (List.mem_range.2 (dstOf_lt hj))
  simp only [Bool.or_eq_true, beq_iff_eq, bne_iff_ne] at this
  rcases this with h1 | h1
  · exact h1
  · exact absurd (hj.trans hd.symm) h1
theorem drawOk_3 {ids : List Nat} (h : drawOk N ops ids = true) : ∀ i ∈ ids, ∀ j t, j < ops.size → t ∈ readsOf ops j → dstOf ops i = some t → prec ops 2 i j = true := by
  simp only [drawOk, Bool.and_eq_true, List.all_eq_true] at h
  intro i hi j t hj ht hd
  have := h.2.1.1.2 i hi j (List.mem_range.2 hj)
  simp only [Bool.or_eq_true, Bool.not_eq_true'] at this
  rcases this with h1 | h1
  · rw [List.any_eq_false] at h1
    exact absurd (by simp [hd]) (h1 t ht)
  · exact h1
theorem drawOk_4 {ids : List Nat} (h : drawOk N ops ids = true) : ∀ i ∈ ids, ∀ t ∈ readsOf ops i, ∀ j ∈ effs ops ids, dstOf ops j = some t → prec ops 2 i j = true := by
  simp only [drawOk, Bool.and_eq_true, List.all_eq_true] at h
  intro i hi t ht j hj hd
  have := h.2.1.2 i hi t ht j hj
  simp only [Bool.or_eq_true, bne_iff_ne] at this
  rcases this with h1 | h1
  · exact absurd hd h1
  · exact h1
theorem drawOk_5 {ids : List Nat} (h : drawOk N ops ids = true) {j : Nat} {o : Oper} (ho : ops[j]? = some o) : dLt N o = true ∧ (∀ cs b, o.op ≠ .select cs b) ∧ (∀ e ∈ o.after, Region.binds .any e = true → e.on < j) ∧ (j ∉ ids → nd o.op = true) := by
  simp only [drawOk, Bool.and_eq_true, List.all_eq_true] at h
  have := h.2.2 j (List.mem_range.2 (Array.getElem?_eq_some_iff.1 ho).1)
  simp only [ho, Bool.and_eq_true, Bool.or_eq_true, Array.all_eq_true_iff_forall_mem, Bool.not_eq_true'] at this
  obtain ⟨⟨⟨h1, h2⟩, h3⟩, h4⟩ := this
  refine ⟨h1, fun cs b e => by simp [e] at h2, fun e he hb => ?_, fun hj => ?_⟩
  · have := h3 e he
    rcases this with h | h
    · rw [hb] at h; cases h
    · simpa using h
  · rcases h4 with h | h
    · exact absurd (by simpa using h) hj
    · exact h

theorem accSlots_look : ∀ (F : List (Nat × Nat × Value)) (t : Nat) (v : Value), look (accSlots F) t = some v → ∃ i, (i, t, v) ∈ F
  | [], t, v, h => by simp [accSlots, look] at h
  | (i, d, u) :: F, t, v, h => by
    simp only [accSlots, List.map_cons, look_cons] at h
    split at h
    · rename_i e
      subst e
      cases h
      exact ⟨i, by simp⟩
    · obtain ⟨k, hk⟩ := accSlots_look F t v h
      exact ⟨k, by simp [hk]⟩
theorem look_append (A B : Slots) (t : Nat) : look (A ++ B) t = (look A t).or (look B t) := by
  induction A with
  | nil => simp [look]
  | cons p A ih =>
    obtain ⟨k, v⟩ := p
    simp only [List.cons_append, look_cons, ih]
    split <;> simp
theorem accSlots_none (F : List (Nat × Nat × Value)) (t : Nat) (h : ∀ p ∈ F, p.2.1 ≠ t) : look (accSlots F) t = none := by
  cases hl : look (accSlots F) t with
  | none => rfl
  | some v =>
    obtain ⟨i, hi⟩ := accSlots_look F t v hl
    exact absurd rfl (h _ hi)

theorem act_ext {a g : Act} (hd : g.defers = a.defers) (hs : g.tmps.size = a.tmps.size) (h : ∀ t : Nat, g.tmps[t]? = a.tmps[t]?) : g = a := by
  cases a; cases g
  simp only at hd hs h
  subst hd
  congr 1
  exact Array.ext_getElem? h

theorem drawOk_0 {ids : List Nat} (h : drawOk N ops ids = true) : ids.Pairwise (· < ·) := by
  simp only [drawOk, Bool.and_eq_true, decide_eq_true_eq] at h
  exact h.1

theorem prec_lt {ids : List Nat} (h : drawOk N ops ids = true) : ∀ n i j, prec ops n i j = true → i < j
  | 0, i, j, hp => by simp [prec] at hp
  | n + 1, i, j, hp => by
    simp only [prec] at hp
    split at hp
    · cases hp
    · rename_i o ho
      simp only [Bool.or_eq_true, Array.any_eq_true', Bool.and_eq_true, beq_iff_eq] at hp
      rcases hp with ⟨e, he, hb, rfl⟩ | ⟨e, he, hb, hq⟩
      · exact (drawOk_5 h ho).2.2.1 e he hb
      · exact Nat.lt_trans (prec_lt h n i e.on hq) ((drawOk_5 h ho).2.2.1 e he hb)

theorem all_listed {listed : Array Bool} {n : Nat} (h : unl n listed = 0) : ∀ i, i < n → Lst listed i := by
  intro i hi
  unfold unl at h
  rw [List.length_eq_zero_iff, List.filter_eq_nil_iff] at h
  have := h i (List.mem_range.2 hi)
  unfold Lst
  simpa using this

theorem unl_set {listed : Array Bool} {n i : Nat} (hi : i < n) (hs : i < listed.size) (hl : ¬ Lst listed i) : unl n (listed.setIfInBounds i true) < unl n listed := by
  unfold unl
  refine filter_len_lt (fun x hx => ?_) _ i (List.mem_range.2 hi) ?_ ?_
  · have h1 : ¬ Lst (listed.setIfInBounds i true) x := by unfold Lst; simpa using hx
    have h2 : ¬ Lst listed x := fun h => h1 ((lst_set hs).2 (.inr h))
    unfold Lst at h2; simpa using h2
  · unfold Lst at hl; simpa using hl
  · have : Lst (listed.setIfInBounds i true) i := (lst_set hs).2 (.inl rfl)
    unfold Lst at this; simp [this]

theorem ready_none {ids : List Nat} (h : drawOk N ops ids = true) {listed : Array Bool} (hs : listed.size = ops.size) (hr : Region.ready .any ops listed = []) : ∀ i, i < ops.size → Lst listed i := by
  intro i
  induction i using Nat.strongRecOn with
  | _ i ih =>
    intro hi
    rcases Classical.em (Lst listed i) with hl | hl
    · exact hl
    · exfalso
      obtain ⟨o, ho⟩ : ∃ o, ops[i]? = some o := ⟨ops[i], Array.getElem?_eq_getElem hi⟩
      have : i ∈ Region.ready .any ops listed := mem_ready.2 ⟨by
        unfold Lst at hl
        have hb : i < listed.size := by omega
        simp [hb] at hl ⊢
        exact hl, o, ho, fun e he hb => ih e.on ((drawOk_5 h ho).2.2.1 e he hb) (Nat.lt_trans ((drawOk_5 h ho).2.2.1 e he hb) hi)⟩
      rw [hr] at this
      cases this

theorem mem_effs {ids : List Nat} {j : Nat} : j ∈ effs ops ids ↔ j < ops.size ∧ j ∉ ids := by
  unfold effs; rw [List.mem_filter, List.mem_range]; simp

theorem split_ids {F A B : List (Nat × Nat × Value)} {ids : List Nat} {i d : Nat} {v : Value} (hp : ids.Pairwise (· < ·)) (hF : F.map (·.1) = ids.reverse) (he : F = A ++ (i, d, v) :: B) {k : Nat} (hk : k ∈ ids) (hlt : k < i) : ∃ p ∈ B, p.1 = k := by
  have hids : ids = (B.map (·.1)).reverse ++ i :: (A.map (·.1)).reverse := by
    have : ids = (F.map (·.1)).reverse := by rw [hF, List.reverse_reverse]
    rw [this, he]; simp
  rw [hids] at hp hk
  rw [List.pairwise_append] at hp
  rcases List.mem_append.1 hk with h | h
  · obtain ⟨p, hp', e⟩ := List.mem_map.1 (List.mem_reverse.1 h)
    exact ⟨p, hp', e⟩
  · rcases List.mem_cons.1 h with h | h
    · omega
    · have := (List.pairwise_cons.1 hp.2.1).1 k h
      omega

/-- The effects' statements on class and closedness, whatever is left. -/
theorem EffT.head {ids : List Nat} {C : Nat → World → Prop} {k : Nat} {dn : List Nat} {X : Act → World → Prop} (h : EffT P ro N ops Q ids C k dn X) : Closed X ∧ CD ops ids dn X C := by
  cases k <;> exact ⟨h.1, h.2.1⟩

theorem draw_fin {ids : List Nat} {C : Nat → World → Prop} {Sb : Slots} {F : List (Nat × Nat × Value)} {X : Act → World → Prop} {dn : List Nat} {listed : Array Bool} {a : Act} {w : World} {k : Nat}
    (hi : DInv N ops ids Sb F X dn listed a w) (he : EffT P ro N ops Q ids C k dn X) (hall : ∀ i, i < ops.size → Lst listed i) (hids : ∀ i ∈ ids, i < ops.size) : Q .normal a w := by
  obtain ⟨g, hX, hd, hs, ht, _⟩ := hi.ghost
  have hga : g = a := act_ext hd hs fun t => ht t fun i hm hl => absurd (hall i (hids i hm)) hl
  subst hga
  cases k with
  | zero => exact he.2.2.2 _ _ hX
  | succ k =>
    exfalso
    obtain ⟨j, hj⟩ := List.exists_mem_of_ne_nil _ he.2.2.1
    unfold effLeft at hj
    rw [List.mem_filter] at hj
    have hm := mem_effs.1 hj.1
    have := (hi.eff j hm.1 hm.2).1 (hall j hm.1)
    simp [this] at hj

section main
variable {ids : List Nat} {C : Nat → World → Prop} {Sb : Slots} {F : List (Nat × Nat × Value)} {X : Act → World → Prop} {dn : List Nat} {listed : Array Bool} {a : Act} {w : World}

/-- What a ready operation reads of a slot that is not a quiet one's. -/
theorem reads_base (hB : drawOk N ops ids = true) (hi : DInv N ops ids Sb F X dn listed a w) {i t : Nat} {u : Value} (hid : i ∈ ids) (hun : ¬ Lst listed i) (ht : t ∈ readsOf ops i) (hno : ∀ k ∈ ids, dstOf ops k ≠ some t) (hl : look Sb t = some u) : a.tmps[t]? = some u := by
  refine hi.base t u hl (fun j hj hd => ?_) hno
  have hlt := dstOf_lt hd
  have hjn : j ∉ ids := fun h => hno j h hd
  have hp := drawOk_4 hB i hid t ht j (mem_effs.2 ⟨hlt, hjn⟩) hd
  have hlj := (hi.eff j hlt hjn).2 hj
  exact hun (prec_spec hi.dc 2 i j hp (fun o ho e he hb => hi.dc j o hlj ho e he hb))

/-- A ready quiet operation finds what the walk in the order of the text found. -/
theorem reads_quiet (hB : drawOk N ops ids = true) (hF : F.map (·.1) = ids.reverse) (hFd : ∀ p ∈ F, dstOf ops p.1 = some p.2.1) (hi : DInv N ops ids Sb F X dn listed a w) {i d : Nat} {v : Value} {A B : List (Nat × Nat × Value)}
    (he : F = A ++ (i, d, v) :: B) (hun : ¬ Lst listed i) (hpre : ∀ o, ops[i]? = some o → ∀ e ∈ o.after, Region.binds .any e = true → Lst listed e.on) {t : Nat} {u : Value} (ht : t ∈ readsOf ops i) (hl : look (accSlots B ++ Sb) t = some u) : a.tmps[t]? = some u := by
  have hid : i ∈ ids := by rw [← List.mem_reverse, ← hF, he]; simp
  have hlt : i < ops.size := dstOf_lt (hFd (i, d, v) (by rw [he]; simp))
  rcases Classical.em (∃ k ∈ ids, dstOf ops k = some t) with ⟨k, hk, hkt⟩ | hno
  · have hp := drawOk_3 hB k hk i t hlt ht hkt
    have hkl := prec_spec hi.dc 2 k i hp hpre
    obtain ⟨q, hq, hqk⟩ := split_ids (drawOk_0 hB) hF he hk (prec_lt hB 2 k i hp)
    have hqF : q ∈ F := by rw [he]; simp [hq]
    have hqd := hFd q hqF
    rw [hqk, hkt] at hqd
    obtain ⟨g, _, _, _, hgt, hgF⟩ := hi.ghost
    have hsame : g.tmps[t]? = a.tmps[t]? := hgt t fun i' hi' hl' hd' => hl' (by rw [drawOk_2 hB k hk i' t hkt hd']; exact hkl)
    have hlook : ∃ u', look (accSlots B) t = some u' := by
      cases hlk : look (accSlots B) t with
      | some u' => exact ⟨u', rfl⟩
      | none =>
        exfalso
        have : ∀ (L : List (Nat × Nat × Value)), q ∈ L → look (accSlots L) t ≠ none := by
          intro L
          induction L with
          | nil => intro h; cases h
          | cons p L ih =>
            intro h
            obtain ⟨p1, p2, p3⟩ := p
            simp only [accSlots, List.map_cons, look_cons]
            rcases List.mem_cons.1 h with rfl | h
            · simp only [Option.some.injEq] at hqd
              simp [hqd]
            · split
              · simp
              · exact ih h
        exact this B hq hlk
    obtain ⟨u', hu'⟩ := hlook
    rw [look_append, hu'] at hl
    simp only [Option.some_or, Option.some.injEq] at hl
    subst hl
    obtain ⟨k', hk'⟩ := accSlots_look B t u' hu'
    rw [← hsame]
    exact hgF (k', t, u') (by rw [he]; simp [hk'])
  · have hno' : ∀ k ∈ ids, dstOf ops k ≠ some t := fun k hk hd => hno ⟨k, hk, hd⟩
    have hnone : look (accSlots B) t = none := accSlots_none B t fun p hp e => by
      have hpF : p ∈ F := by rw [he]; simp [hp]
      have hpid : p.1 ∈ ids := by rw [← List.mem_reverse, ← hF]; exact List.mem_map.2 ⟨p, hpF, rfl⟩
      exact hno' p.1 hpid (by rw [hFd p hpF, e])
    rw [look_append, hnone] at hl
    simp only [Option.none_or] at hl
    exact reads_base hB hi hid hun ht hno' hl

theorem put_get {a : Act} {d t : Nat} {v : Value} (hd : d < a.tmps.size) : (a.put (some d) v).tmps[t]? = if d = t then some v else a.tmps[t]? := by
  simp only [Act.put, Array.getElem?_setIfInBounds, hd, if_true]

/-- The invariant behind a quiet operation. -/
theorem dinv_quiet (hF : F.map (·.1) = ids.reverse) (hFd : ∀ p ∈ F, dstOf ops p.1 = some p.2.1) (hcl : Closed X) (hi : DInv N ops ids Sb F X dn listed a w) {i d : Nat} {v : Value} (hm : (i, d, v) ∈ F)
    (hpre : ∀ o, ops[i]? = some o → ∀ e ∈ o.after, Region.binds .any e = true → Lst listed e.on) (hd : d < N) {w' : World} (hw : Eff w [] [] w') : DInv N ops ids Sb F X dn (listed.setIfInBounds i true) (a.put (some d) v) w' := by
  have hid : i ∈ ids := by rw [← List.mem_reverse, ← hF]; exact List.mem_map.2 ⟨_, hm, rfl⟩
  have hdst := hFd _ hm
  have hlt : i < ops.size := dstOf_lt hdst
  have hil : i < listed.size := by rw [hi.size]; exact hlt
  have hda : d < a.tmps.size := by rw [hi.sz]; exact hd
  refine ⟨by simp [hi.size], by simp [Act.put, hi.sz], ?_, ?_, ?_, ?_, ?_⟩
  · intro k o hk ho e he hb
    rcases (lst_set hil).1 hk with rfl | hk
    · exact (lst_set hil).2 (.inr (hpre o ho e he hb))
    · exact (lst_set hil).2 (.inr (hi.dc k o hk ho e he hb))
  · intro j hj hjn
    rw [lst_set hil]
    have hne : j ≠ i := fun e => hjn (e ▸ hid)
    simp only [hne, false_or]
    exact hi.eff j hj hjn
  · exact hi.dnE
  · intro t u hl h1 h2
    rw [put_get hda, if_neg (fun e => h2 i hid (by rw [hdst]; simp [e]))]
    exact hi.base t u hl h1 h2
  · obtain ⟨g, hX, hgd, hgs, hgt, hgF⟩ := hi.ghost
    refine ⟨g, hcl _ _ _ hX hw, by simp [Act.put, hgd], by simp [Act.put, hgs], fun t hun => ?_, hgF⟩
    rw [put_get hda]
    split
    · rename_i e; subst e; exact hgF _ hm
    · rename_i hne
      refine hgt t fun k hk hkl hkd => ?_
      refine hun k hk (fun hl => ?_) hkd
      rcases (lst_set hil).1 hl with rfl | hl
      · rw [hdst] at hkd; cases hkd; exact hne rfl
      · exact hkl hl

theorem look_getD {S : Slots} {a : Act} : Knows S (fun x => (opd S x).getD (a.eval x)) := fun x v h => by simp [h]

theorem draw_main (hB : drawOk N ops ids = true) (hF : F.map (·.1) = ids.reverse) (hK : ∀ A i d v B, F = A ++ (i, d, v) :: B → Known P ops C (accSlots B ++ Sb) i d v) :
    ∀ (fuel t : Nat) (listed : Array Bool) (a : Act) (w : World) (dn : List Nat) (k : Nat) (X : Act → World → Prop), DInv N ops ids Sb F X dn listed a w → EffT P ro N ops Q ids C k dn X → unl ops.size listed ≤ fuel →
      wpOpsIn (FW ro) 0 P ops Q (Region.linearise.go .any ops fuel t listed []) a w := by
  have hFd : ∀ p ∈ F, dstOf ops p.1 = some p.2.1 := fun p hp => by
    obtain ⟨A, B, he⟩ := List.append_of_mem hp
    obtain ⟨o, ho, hd, _⟩ := hK A p.1 p.2.1 p.2.2 B he
    simp [dstOf, ho, hd]
  have hidlt : ∀ i ∈ ids, i < ops.size := fun i h => by obtain ⟨d, hd⟩ := drawOk_1 hB i h; exact dstOf_lt hd
  intro fuel
  induction fuel with
  | zero =>
    intro t listed a w dn k X hi he hu
    have := draw_fin hi he (all_listed (by omega)) hidlt
    simpa [Region.linearise.go, wpOpsIn] using this
  | succ fuel ih =>
    intro t listed a w dn k X hi he hu
    simp only [Region.linearise.go]
    change wpOpsIn (FW ro) 0 P ops Q (match (Region.ready .any ops listed)[t % (Region.ready .any ops listed).length]? with
      | some i => Region.linearise.go .any ops fuel (t / (Region.ready .any ops listed).length) (listed.setIfInBounds i true) [i]
      | none => [].reverse) a w
    cases hri : (Region.ready .any ops listed)[t % (Region.ready .any ops listed).length]? with
    | none =>
      have hnil : Region.ready .any ops listed = [] := by
        cases hr : Region.ready .any ops listed with
        | nil => rfl
        | cons x xs =>
          rw [hr] at hri
          have hlt : t % (x :: xs).length < (x :: xs).length := Nat.mod_lt _ (by simp)
          simp at hri
          simp at hlt
          omega
      have := draw_fin hi he (ready_none hB hi.size hnil) hidlt
      simpa [wpOpsIn] using this
    | some i =>
      simp only []
      rw [linearise_go_acc, List.reverse_singleton, List.singleton_append, wpOpsIn_cons]
      obtain ⟨hun0, o, ho, hpre0⟩ := mem_ready.1 (List.mem_of_getElem? hri)
      have hlt : i < ops.size := (Array.getElem?_eq_some_iff.1 ho).1
      have hil : i < listed.size := by rw [hi.size]; exact hlt
      have hun : ¬ Lst listed i := by unfold Lst; simp [hil] at hun0 ⊢; exact hun0
      have hpre : ∀ o', ops[i]? = some o' → ∀ e ∈ o'.after, Region.binds .any e = true → Lst listed e.on := fun o' ho' e he hb => by
        rw [ho] at ho'; cases ho'; exact hpre0 e he hb
      have hul : unl ops.size (listed.setIfInBounds i true) ≤ fuel := by have := unl_set hlt hil hun; omega
      have hB5 := drawOk_5 hB ho
      unfold wpOpIn
      rw [ho]
      show if Region.wanted o (yielded ops a.tmps) = true then _ else _
      rcases Classical.em (i ∈ ids) with hid | hid
      · -- a quiet one
        obtain ⟨p, hp, hpi⟩ : ∃ p ∈ F, p.1 = i := by
          have : i ∈ F.map (·.1) := by rw [hF]; simpa using hid
          exact List.mem_map.1 this
        obtain ⟨i', d, v⟩ := p
        simp only at hpi
        subst hpi
        obtain ⟨A, B, hAB⟩ := List.append_of_mem hp
        obtain ⟨o', ho', hd', hkn⟩ := hK A i' d v B hAB
        rw [ho] at ho'; cases ho'
        have hrd : ∀ {t : Nat} {u : Value}, t ∈ readsOf ops i' → look (accSlots B ++ Sb) t = some u → a.tmps[t]? = some u := fun ht hl => reads_quiet hB hF hFd hi hAB hun hpre ht hl
        have hro : readsOf ops i' = o.looksAt ops := by simp [readsOf, ho]
        have hdN : d < N := dLt_spec hB5.1 d hd'
        obtain ⟨hcl, hXC⟩ := he.head
        have hCw : C i' w := by
          rcases hXC i' hid with hq | hXC
          · exfalso
            unfold iDone at hq
            simp only [List.any_eq_true] at hq
            obtain ⟨j, hj, hp'⟩ := hq
            rcases Nat.lt_or_ge j ops.size with hjs | hjs
            · rcases Classical.em (j ∈ ids) with hjid | hjid
              · exact absurd hj (hi.dnE hjid)
              · have hlj := (hi.eff j hjs hjid).2 hj
                exact hun (prec_spec hi.dc 3 i' j hp' (fun o' ho' e he' hb => hi.dc j o' hlj ho' e he' hb))
            · simp [prec, Array.getElem?_eq_none hjs] at hp'
          · obtain ⟨g, hX, _⟩ := hi.ghost; exact hXC g w hX
        rcases hkn with ⟨hy, hg⟩ | ⟨hv, j, b, tt, u, hg, hj, hl, hne⟩
        · have hwant : Region.wanted o (yielded ops a.tmps) = true := by
            rcases hg with hg | ⟨j, b, tt, hg, hj, hl⟩
            · simp [Region.wanted, hg]
            · have hs := hrd (by rw [hro]; exact looks_guard hg hj) hl
              have hyj : yielded ops a.tmps j = some b := by unfold gslot at hj; simp [yielded, hj, hs]
              simp [Region.wanted, hg, hyj]
          rw [if_pos hwant]
          refine ⟨fun _ _ => trivial, ?_⟩
          have hex : execOp a.eval o = execOp (fun x => (opd (accSlots B ++ Sb) x).getD (a.eval x)) o := execOp_congr o hB5.2.1 fun x hx => by
            cases x with
            | tmp t =>
              cases hl : look (accSlots B ++ Sb) t with
              | none => simp [opd, hl]
              | some u =>
                have := hrd (by rw [hro]; exact looks_op hx) hl
                simp [opd, hl, Act.eval, this]
            | _ => rfl
          refine upon_quiet hy.1 (by rw [hex]; exact hy.2 _ look_getD w hCw) fun w' hw' => ?_
          rw [hd']
          exact ih _ _ _ _ dn k X (dinv_quiet hF hFd hcl hi hp hpre hdN hw') he hul
        · have hs := hrd (by rw [hro]; exact looks_guard hg hj) hl
          have hwant : ¬ Region.wanted o (yielded ops a.tmps) = true := by
            unfold gslot at hj
            have : yielded ops a.tmps j ≠ some b := by
              simp only [yielded, hj, Option.bind_some, hs]
              cases u <;> simp_all
            simp [Region.wanted, hg, this]
          rw [if_neg hwant]
          refine ⟨fun _ _ => trivial, ?_⟩
          rw [hd', ← hv]
          exact ih _ _ _ _ dn k X (dinv_quiet hF hFd hcl hi hp hpre hdN (Eff.refl w)) he hul
      · -- one with an effect
        have hnd := hB5.2.2.2 hid
        have hie : i ∈ effs ops ids := mem_effs.2 ⟨hlt, hid⟩
        have hidn : i ∉ dn := fun h => hun ((hi.eff i hlt hid).2 h)
        have hleft : i ∈ effLeft ops ids dn := by unfold effLeft; rw [List.mem_filter]; exact ⟨hie, by simpa using hidn⟩
        have hrdy : i ∈ effReady ops ids dn := by
          unfold effReady
          rw [List.mem_filter]
          refine ⟨hleft, ?_⟩
          rw [List.all_eq_true]
          intro k hk
          simp only [Bool.or_eq_true, Bool.not_eq_true']
          rcases Bool.eq_false_or_eq_true (prec ops 1 k i) with h | h
          · right
            have hkl := prec_spec hi.dc 1 k i h hpre
            have hm := mem_effs.1 hk
            simpa using (hi.eff k hm.1 hm.2).1 hkl
          · exact .inl h
        cases k with
        | zero => rw [he.2.2.1] at hleft; cases hleft
        | succ k =>
          rcases he.2.2.2 i hrdy with ⟨o', X', ho', hE', hT⟩ | ⟨o', ho', hg', hlast, hT⟩
          case inr =>
            rw [ho] at ho'; cases ho'
            obtain ⟨g, hX, hgd, hgs, hgt, hgF⟩ := hi.ghost
            have hothers : ∀ q, q ∈ ids → q ≠ i → Lst listed q := fun q hq hne => by
              have h1 := List.all_eq_true.1 hlast q hq
              simp only [Bool.or_eq_true, beq_iff_eq] at h1
              exact prec_spec hi.dc ops.size q i (h1.resolve_left hne) hpre
            have hga : g = a := act_ext hgd hgs fun t => hgt t fun q hq hql => absurd (hothers q hq (fun e => hid (e ▸ hq))) hql
            subst hga
            rw [if_pos (by simp [Region.wanted, hg'])]
            exact Oper.wpIn_mono (fun _ _ h => h.elim) (opW_wpIn (dLt_spec hB5.1) (hT g w hX))
          rw [ho] at ho'; cases ho'
          obtain ⟨g, hX, hgd, hgs, hgt, hgF⟩ := hi.ghost
          have hrds : ∀ t ∈ readsOf ops i, g.tmps[t]? = a.tmps[t]? := fun t ht => hgt t fun q hq hql hqd => hql (prec_spec hi.dc 2 q i (drawOk_3 hB q hq i t hlt ht hqd) hpre)
          have hex : execOp a.eval o = execOp g.eval o := take_eq hB5.2.1 fun t ht => hrds t (by simp only [readsOf, ho]; exact looks_op ht)
          have hstep : ∀ (ds : List Deferred) (v : Value) (w' : World), X' (({ g with defers := ds ++ g.defers } : Act).put o.dst v) w' → wpOpsIn (FW ro) 0 P ops Q (Region.linearise.go .any ops fuel (t / (Region.ready .any ops listed).length) (listed.setIfInBounds i true) []) (({ a with defers := ds ++ a.defers } : Act).put o.dst v) w' := by
            intro ds v w' hX'
            refine ih _ _ _ _ (i :: dn) k X' ?_ hE' hul
            have hdi : dstOf ops i = o.dst := by simp [dstOf, ho]
            have hputs : ∀ (b : Act) (t : Nat), o.dst ≠ some t → (b.put o.dst v).tmps[t]? = b.tmps[t]? := fun b t hne => by
              cases hdd : o.dst with
              | none => rfl
              | some d0 => simp only [Act.put, Array.getElem?_setIfInBounds]; rw [if_neg (fun e => hne (by rw [hdd, e]))]
            have hps : ∀ b : Act, (b.put o.dst v).tmps.size = b.tmps.size := fun b => by cases o.dst <;> simp [Act.put]
            have hpd : ∀ b : Act, (b.put o.dst v).defers = b.defers := fun b => by cases o.dst <;> simp [Act.put]
            refine ⟨by simp [hi.size], by rw [hps]; exact hi.sz, ?_, ?_, ?_, ?_, ?_⟩
            · intro k' o' hk ho' e he' hb
              rcases (lst_set hil).1 hk with rfl | hk
              · exact (lst_set hil).2 (.inr (hpre o' ho' e he' hb))
              · exact (lst_set hil).2 (.inr (hi.dc k' o' hk ho' e he' hb))
            · intro j hj hjn
              rw [lst_set hil, List.mem_cons, hi.eff j hj hjn]
            · intro j hj hjm
              rcases List.mem_cons.1 hjm with rfl | hjm
              · exact hid hj
              · exact hi.dnE hj hjm
            · intro t' u hl h1 h2
              rw [hputs _ t' (by rw [← hdi]; exact h1 i (by simp))]
              exact hi.base t' u hl (fun j hj => h1 j (by simp [hj])) h2
            · refine ⟨_, hX', by rw [hpd, hpd]; simp [hgd], by rw [hps, hps]; exact hgs, fun t' hun' => ?_, fun q hq => ?_⟩
              · have hold : g.tmps[t']? = a.tmps[t']? := hgt t' fun q hq hql hqd => hun' q hq (fun hl => by
                  rcases (lst_set hil).1 hl with rfl | hl
                  · exact hid hq
                  · exact hql hl) hqd
                cases hdd : o.dst with
                | none => exact hold
                | some d0 =>
                  simp only [Act.put, Array.getElem?_setIfInBounds, hgs]
                  split
                  · rfl
                  · exact hold
              · have hqid : q.1 ∈ ids := by rw [← List.mem_reverse, ← hF]; exact List.mem_map.2 ⟨q, hq, rfl⟩
                rw [hputs _ q.2.1 (fun e => hid (by rw [drawOk_2 hB q.1 hqid i q.2.1 (hFd q hq) (hdi.trans e)]; exact hqid))]
                exact hgF q hq
          have hwt : Region.wanted o (yielded ops a.tmps) = Region.wanted o (yielded ops g.tmps) := by
            cases hgd : o.guard with
            | none => simp [Region.wanted, hgd]
            | some jb =>
              obtain ⟨j, b⟩ := jb
              have : yielded ops a.tmps j = yielded ops g.tmps j := by
                cases hj : gslot ops j with
                | none => unfold gslot at hj; simp [yielded, hj]
                | some t' =>
                  have h1 := hrds t' (by simp only [readsOf, ho]; exact looks_guard hgd hj)
                  unfold gslot at hj
                  simp only [yielded, hj, Option.bind_some, h1]
              simp [Region.wanted, hgd, this]
          have hT' := hT g w hX (dLt_spec hB5.1)
          rw [hwt]
          split
          · rename_i hw
            rw [if_pos hw] at hT'
            exact ⟨fun _ _ => trivial, upon_ghost hnd hex (hT' (dLt_spec hB5.1)) fun ds v w' hX' => hstep ds v w' hX'⟩
          · rename_i hw
            rw [if_neg hw] at hT'
            exact ⟨fun _ _ => trivial, hstep [] undef w hT'⟩
end main

theorem accSlots_append (A B : List (Nat × Nat × Value)) : accSlots (A ++ B) = accSlots A ++ accSlots B := by simp [accSlots]

/-- **A region that draws its order.** -/
theorem kDraw {S : Slots} {D : List Deferred} {W : World} {M L : Heap} {id : Nat} {l : List Oper} {C : Nat → World → Prop} (ids : List Nat) (k : Nat) (hm : P.follows .mixedOrders = true) (hB : drawOk N l.toArray ids = true)
    (h : DQ P l.toArray C S (fun F => EffT P ro N l.toArray Q ids C k [] (St N (accSlots F ++ S) D W M L)) ids []) : Tr (St N S D W M L) (WP P ro (.region id l.toArray true) Q) := fun a w hs => by
  obtain ⟨F, hR, hids, hK⟩ := h.spec
  simp only [List.append_nil] at hR hK
  refine wpIn_region_draw fun t => ?_
  simp only [Region.schedule, hm, Bool.true_or, if_true]
  have hFd : ∀ p ∈ F, dstOf l.toArray p.1 = some p.2.1 := fun p hp => by
    obtain ⟨A, B, he⟩ := List.append_of_mem hp
    obtain ⟨o, ho, hd, _⟩ := hK A p.1 p.2.1 p.2.2 B he
    simp only [dstOf, ho, Option.bind_some, hd]
  -- the frame as it will be behind all quiet operations
  have hfill : ∀ (G : List (Nat × Nat × Value)), (∀ p ∈ G, p ∈ F) → ∃ g : Act, g.defers = a.defers ∧ g.tmps.size = N ∧ (∀ t v, look (accSlots G ++ S) t = some v → g.tmps[t]? = some v) ∧ (∀ t, (∀ p ∈ G, p.2.1 ≠ t) → g.tmps[t]? = a.tmps[t]?) := by
    intro G
    induction G with
    | nil => intro _; exact ⟨a, rfl, hs.sz, by simpa [accSlots] using hs.sl, fun _ _ => rfl⟩
    | cons p G ih =>
      intro hG
      obtain ⟨g, h1, h2, h3, h4⟩ := ih fun q hq => hG q (by simp [hq])
      obtain ⟨i, d, v⟩ := p
      have hdst := hFd _ (hG (i, d, v) (by simp))
      have hdN : d < N := by
        have hlt := dstOf_lt hdst
        have ho : l.toArray[i]? = some l.toArray[i] := Array.getElem?_eq_getElem hlt
        refine dLt_spec (drawOk_5 hB ho).1 d ?_
        simpa [dstOf, ho] using hdst
      refine ⟨g.put (some d) v, by simp [Act.put, h1], by simp [Act.put, h2], ?_, ?_⟩
      · exact put_slot hdN h2 h3
      · intro t ht
        rw [put_get (by omega), if_neg (ht (i, d, v) (by simp))]
        exact h4 t fun q hq => ht q (by simp [hq])
  obtain ⟨g, hg1, hg2, hg3, hg4⟩ := hfill F fun _ h => h
  have hempty : ∀ j, ¬ Lst (Array.replicate l.toArray.size false) j := fun j => by
    unfold Lst
    rcases Nat.lt_or_ge j l.length with h | h
    · simp [h]
    · simp [Nat.not_lt.2 h]
  have hef := hs.ef.drew (w.drawn + 1)
  refine draw_main hB hids hK _ _ _ _ _ [] k _ ?_ hR ?_
  · refine ⟨by simp, hs.sz, fun k o h => absurd h (hempty k), fun j _ _ => ⟨fun h => absurd h (hempty j), fun h => (by cases h)⟩, fun _ h => (by cases h), fun t v hl _ _ => hs.sl t v hl, g, ⟨hg2, hg3, by rw [hg1, hs.df], hef⟩, hg1, by rw [hg2, hs.sz], fun t ht => ?_, fun p hp => ?_⟩
    · refine hg4 t fun p hp e => ?_
      have hid : p.1 ∈ ids := by rw [← List.mem_reverse, ← hids]; exact List.mem_map.2 ⟨p, hp, rfl⟩
      exact ht p.1 hid (hempty p.1) (by rw [hFd p hp, e])
    · -- keys are told once
      have huniq : look (accSlots F ++ S) p.2.1 = some p.2.2 := by
        rw [look_append]
        have : ∀ (G : List (Nat × Nat × Value)), (∀ q ∈ G, q ∈ F) → p ∈ G → look (accSlots G) p.2.1 = some p.2.2 := by
          intro G
          induction G with
          | nil => intro _ h; cases h
          | cons q G ih =>
            intro hG hpG
            obtain ⟨q1, q2, q3⟩ := q
            simp only [accSlots, List.map_cons, look_cons]
            split
            · rename_i e
              have hqF := hG (q1, q2, q3) (by simp)
              have h1 := hFd _ hqF
              have h2 := hFd p hp
              simp only at h1 e
              have hpid : p.1 ∈ ids := by rw [← List.mem_reverse, ← hids]; exact List.mem_map.2 ⟨p, hp, rfl⟩
              have hq1 := drawOk_2 hB p.1 hpid q1 p.2.1 h2 (by rw [h1, e])
              -- one index, one entry
              have hnd : (F.map (·.1)).Nodup := by
                rw [hids]
                have := drawOk_0 hB
                exact (List.reverse_perm ids).nodup_iff.2 (this.imp (fun h => Nat.ne_of_lt h))
              have : (q1, q2, q3) = p := by
                obtain ⟨A, B, hAB⟩ := List.append_of_mem hp
                rw [hAB] at hqF hnd
                simp only [List.map_append, List.map_cons] at hnd
                rw [List.nodup_append] at hnd
                rcases List.mem_append.1 hqF with h | h
                · exact absurd hq1 (hnd.2.2 q1 (List.mem_map.2 ⟨_, h, rfl⟩) p.1 (by simp))
                · rcases List.mem_cons.1 h with h | h
                  · exact h
                  · exact absurd (List.mem_map.2 ⟨_, h, hq1⟩) (List.nodup_cons.1 hnd.2.1).1
              rw [← this]
            · rename_i e
              rcases List.mem_cons.1 hpG with h | h
              · subst h; exact absurd rfl e
              · exact ih (fun x hx => hG x (by simp [hx])) h
        rw [this F (fun _ h => h) hp]; rfl
      exact hg3 _ _ huniq
  · unfold unl
    refine Nat.le_trans (List.length_filter_le _ _) (by simp)

/-! ### What quiet operations ask of the world -/
def look2 {α : Type} : List (Nat × α) → Nat → Option α
  | [], _ => none
  | (k, v) :: r, t => bif Nat.beq k t then some v else look2 r t
def keep (L : Heap) (ixs : List Nat) : Heap := ixs.filterMap fun i => L[i]?
/-- Some ask what is told, some that the memory is as known, of all or of some blocks, the others nothing. -/
def clsE (W : World) (M L : Heap) (spec : List (Nat × Option (List Nat))) (cu : List (Nat × (World → Prop))) (i : Nat) : World → Prop :=
  match look2 cu i with
  | some c => c
  | none => match look2 spec i with
    | some none => Eff W M L
    | some (some ixs) => Eff W M (keep L ixs)
    | none => fun _ => True
theorem kDrawE {S : Slots} {D : List Deferred} {W : World} {M L : Heap} {id : Nat} {l : List Oper} (spec : List (Nat × Option (List Nat))) (cu : List (Nat × (World → Prop))) (ids : List Nat) (k : Nat) (hm : P.follows .mixedOrders = true) (hB : drawOk N l.toArray ids = true)
    (h : DQ P l.toArray (clsE W M L spec cu) S (fun F => EffT P ro N l.toArray Q ids (clsE W M L spec cu) k [] (St N (accSlots F ++ S) D W M L)) ids []) : Tr (St N S D W M L) (WP P ro (.region id l.toArray true) Q) := kDraw ids k hm hB h
def left (ops : Array Oper) (ids dn : List Nat) : List Nat := ids.filter fun i => !iDone ops dn i
inductive AllI (p : Nat → Prop) : List Nat → Prop
  | n : AllI p []
  | c {j : Nat} {r : List Nat} : p j → AllI p r → AllI p (j :: r)
theorem AllI.mem {p : Nat → Prop} {l : List Nat} (h : AllI p l) : ∀ j ∈ l, p j := by
  induction h with
  | n => intro j h; cases h
  | c h1 _ ih => intro j h; rcases List.mem_cons.1 h with rfl | h; (· exact h1); exact ih j h
theorem hDone {ids dn : List Nat} {X : Act → World → Prop} {C : Nat → World → Prop} (h : left ops ids dn = []) : CD ops ids dn X C := fun i hi => by
  refine .inl (Classical.byContradiction fun hc => ?_)
  have : i ∈ left ops ids dn := List.mem_filter.2 ⟨hi, by simpa using hc⟩
  rw [h] at this; cases this
/-- Of those that are left and ask for something. -/
theorem hLeft {ids dn : List Nat} {X : Act → World → Prop} {W : World} {M L : Heap} {spec : List (Nat × Option (List Nat))} {cu : List (Nat × (World → Prop))} (R : List Nat) (h : (left ops ids dn).filter (fun i => (look2 cu i).isSome || (look2 spec i).isSome) = R)
    (hR : AllI (fun i => ∀ a w, X a w → clsE W M L spec cu i w) R) : CD ops ids dn X (clsE W M L spec cu) := fun i hi => by
  by_cases hd : iDone ops dn i = true
  · exact .inl hd
  refine .inr fun a w hx => ?_
  by_cases hs : ((look2 cu i).isSome || (look2 spec i).isSome) = true
  · exact hR.mem i (by rw [← h]; exact List.mem_filter.2 ⟨List.mem_filter.2 ⟨hi, by simpa using hd⟩, hs⟩) a w hx
  · simp only [Bool.or_eq_true, not_or, Bool.not_eq_true, Option.isSome_eq_false_iff, Option.isNone_iff_eq_none] at hs
    unfold clsE
    rw [hs.1, hs.2]
    trivial

/-- All are done. -/
theorem effDone {ids : List Nat} {C : Nat → World → Prop} {dn : List Nat} {X : Act → World → Prop} (hc : Closed X) (hX : CD ops ids dn X C) (hl : effLeft ops ids dn = []) (h : Tr X (Q .normal)) :
    EffT P ro N ops Q ids C 0 dn X := ⟨hc, hX, hl, h⟩
/-- Whichever of these comes next. -/
theorem effStep {ids : List Nat} {C : Nat → World → Prop} {dn : List Nat} {X : Act → World → Prop} {k : Nat} (j : Nat) (js : List Nat) (hr : effReady ops ids dn = j :: js) (hc : Closed X) (hX : CD ops ids dn X C)
    (h : AllI (fun j => (∃ o X', ops[j]? = some o ∧ EffT P ro N ops Q ids C k (j :: dn) X' ∧ Tr X (opG P ro N ops o X')) ∨ (∃ o, ops[j]? = some o ∧ o.guard = none ∧ lastT ops ids j = true ∧ Tr X (opW P ro N o (fun _ _ => False) Q))) (j :: js)) : EffT P ro N ops Q ids C (k + 1) dn X :=
  ⟨hc, hX, fun e => (by have := hr; unfold effReady at this; rw [e] at this; cases this), (by rw [hr]; exact h.mem)⟩
theorem effOne {ids : List Nat} {C : Nat → World → Prop} {dn : List Nat} {X X' : Act → World → Prop} {k j : Nat} {o : Oper} (ho : ops[j]? = some o) (ht : Tr X (opG P ro N ops o X')) (h : EffT P ro N ops Q ids C k (j :: dn) X') :
    (∃ o X', ops[j]? = some o ∧ EffT P ro N ops Q ids C k (j :: dn) X' ∧ Tr X (opG P ro N ops o X')) ∨ (∃ o, ops[j]? = some o ∧ o.guard = none ∧ lastT ops ids j = true ∧ Tr X (opW P ro N o (fun _ _ => False) Q)) := .inl ⟨o, X', ho, h, ht⟩
/-- The last one may panic. -/
theorem effLast {ids : List Nat} {C : Nat → World → Prop} {dn : List Nat} {X : Act → World → Prop} {k j : Nat} {o : Oper} (ho : ops[j]? = some o) (hg : o.guard = none) (hl : lastT ops ids j = true) (h : Tr X (opW P ro N o (fun _ _ => False) Q)) :
    (∃ o X', ops[j]? = some o ∧ EffT P ro N ops Q ids C k (j :: dn) X' ∧ Tr X (opG P ro N ops o X')) ∨ (∃ o, ops[j]? = some o ∧ o.guard = none ∧ lastT ops ids j = true ∧ Tr X (opW P ro N o (fun _ _ => False) Q)) := .inr ⟨o, ho, hg, hl, h⟩
/-- An effect under names that are held. -/
theorem opEx {ι : Type} {Y Y' : ι → Act → World → Prop} {o : Oper} (h : ∀ n, Tr (Y n) (opG P ro N ops o (Y' n))) : Tr (fun a w => ∃ n, Y n a w) (opG P ro N ops o (fun a w => ∃ n, Y' n a w)) := fun a w ⟨n, hn⟩ hd => by
  have := h n a w hn hd
  split
  · rename_i hw; rw [if_pos hw] at this
    exact fun _ => (Oper.wpIn_mono (fun _ _ hh => ⟨n, hh⟩) (opW_wpIn hd this)).2
  · rename_i hw; rw [if_neg hw] at this
    exact ⟨n, this⟩
theorem gNone {X X' : Act → World → Prop} {o : Oper} (hg : o.guard = none) (h : Tr X (opW P ro N o X' (fun _ _ _ => False))) : Tr X (opG P ro N ops o X') := fun a w hx _ => by
  rw [if_pos (by simp [Region.wanted, hg])]; exact h a w hx
theorem gYes {S : Slots} {D : List Deferred} {W : World} {M L : Heap} {X' : Act → World → Prop} {o : Oper} {j t : Nat} {b : Bool} (hg : o.guard = some (j, b)) (hj : gslot ops j = some t) (hl : look S t = some (.bool b)) (h : Tr (St N S D W M L) (opW P ro N o X' (fun _ _ _ => False))) :
    Tr (St N S D W M L) (opG P ro N ops o X') := fun a w hx _ => by
  rw [if_pos (by simp [Region.wanted, hg, yielded_eq hj hl hx])]; exact h a w hx
theorem gNo {S : Slots} {D : List Deferred} {W : World} {M L : Heap} {o : Oper} {j t d : Nat} {b c : Bool} (hg : o.guard = some (j, b)) (hj : gslot ops j = some t) (hl : look S t = some (.bool c)) (hbc : (c == b) = false) (hd : o.dst = some d) :
    Tr (St N S D W M L) (opG P ro N ops o (St N ((d, undef) :: S) D W M L)) := fun a w hx hN => by
  rw [if_neg (by simp only [Region.wanted, hg, yielded_eq hj hl hx]; cases b <;> cases c <;> simp_all), hd]
  exact hx.put (hN d hd) _
theorem gUn {S : Slots} {D : List Deferred} {W : World} {M L : Heap} {o : Oper} {j t d : Nat} {b : Bool} (hg : o.guard = some (j, b)) (hj : gslot ops j = some t) (hl : look S t = some undef) (hd : o.dst = some d) :
    Tr (St N S D W M L) (opG P ro N ops o (St N ((d, undef) :: S) D W M L)) := fun a w hx hN => by
  rw [if_neg (by simp [Region.wanted, hg, yielded_undef hj hl hx]), hd]
  exact hx.put (hN d hd) _
end
end ZW
