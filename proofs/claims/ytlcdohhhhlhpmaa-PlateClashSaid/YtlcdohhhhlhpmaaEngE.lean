/-
  The engine, fifth part: values that are found out; loops, with what changes and what stays; equality of structs; assertions; effects with names.
-/
import Derived.Test.YtlcdohhhhlhpmaaEngD
namespace ZW
open Go

/-- A list of blocks out of another one, in whatever order. -/
inductive SubP : Heap → Heap → Prop
  | n {L : Heap} : SubP [] L
  | r {L : Heap} : SubP L L
  | c {p : Nat × Obj} {r L : Heap} (i : Nat) : L[i]? = some p → SubP r (L.eraseIdx i) → SubP (p :: r) L
  | d {r L : Heap} (i : Nat) : SubP r (L.eraseIdx i) → SubP r L

theorem SubP.mem {A L : Heap} (h : SubP A L) : ∀ p ∈ A, p ∈ L := by
  induction h with
  | n => intro p hp; cases hp
  | r => exact fun _ h => h
  | c i hi _ ih =>
    intro p hp
    rcases List.mem_cons.1 hp with rfl | hp
    · exact List.mem_of_getElem? hi
    · exact List.mem_of_mem_eraseIdx (ih p hp)
  | d i _ ih => exact fun p hp => List.mem_of_mem_eraseIdx (ih p hp)
theorem SubP.nd {A L : Heap} (h : SubP A L) : (L.map (·.1)).Nodup → (A.map (·.1)).Nodup := by
  induction h with
  | n => intro _; simp
  | r => exact id
  | @d r L i hr ih => exact fun hn => ih (List.Sublist.nodup ((List.eraseIdx_sublist L i).map _) hn)
  | @c p r L i hi hr ih =>
    intro hn
    obtain ⟨hlt, he⟩ := List.getElem?_eq_some_iff.1 hi
    have hperm : (L.eraseIdx i).Sublist L := List.eraseIdx_sublist L i
    simp only [List.map_cons, List.nodup_cons]
    refine ⟨?_, ih (List.Sublist.nodup (hperm.map _) hn)⟩
    intro hc
    obtain ⟨q, hq, hqe⟩ := List.mem_map.1 hc
    have hq' := hr.mem q hq
    rw [List.mem_eraseIdx_iff_getElem] at hq'
    obtain ⟨j, hjl, hji, hj⟩ := hq'
    have h1 : (L.map (·.1))[i]'(by simpa using hlt) = p.1 := by simp [he]
    have h2 : (L.map (·.1))[j]'(by simpa using hjl) = p.1 := by simp [hj, hqe]
    exact hji ((List.getElem_inj hn).1 (h1.trans h2.symm)).symm

theorem Eff.sub {W : World} {M L L' : Heap} {w : World} (h : Eff W M L w) (hs : SubP L' L) : Eff W M L' w :=
  ⟨h.os, h.tape, h.output, h.size, h.frame,
   fun p hp => h.own p (by rcases List.mem_append.1 hp with hp | hp; (· exact List.mem_append.2 (.inl hp)); exact List.mem_append.2 (.inr (hs.mem p hp))),
   fun p hp => h.new p (hs.mem p hp), h.old, by
    have := h.nd
    rw [List.map_append, List.nodup_append] at this ⊢
    refine ⟨this.1, hs.nd this.2.1, fun a ha b hb => this.2.2 a ha b ?_⟩
    obtain ⟨q, hq, rfl⟩ := List.mem_map.1 hb
    exact List.mem_map.2 ⟨q, hs.mem q hq, rfl⟩⟩

section
variable {P : Program} {ro : Option Nat} {Q : Exit → Act → World → Prop} {N : Nat} {S : Slots} {D : List Deferred} {W : World} {M L : Heap} {F : Act → World → Prop}

theorem forgetP (L' : Heap) (h : SubP L' L) (k : Tr (St N S D W M L') F) : Tr (St N S D W M L) F :=
  fun a w hs => k a w (hs.eff (hs.ef.sub h))

/-! ### Values that are found out -/
/-- A slot holds this, too. -/
theorem same {t : Nat} {v u : Value} (hl : look S t = some v) (h : v = u) (k : Tr (St N ((t, u) :: S) D W M L) F) : Tr (St N S D W M L) F := fun a w hs =>
  k a w ⟨hs.sz, fun x y hx => by
    rw [look_cons] at hx
    split at hx
    · rename_i e; subst e; cases hx; exact hs.sl t _ (by rw [hl, h])
    · exact hs.sl x y hx, hs.df, hs.ef⟩
theorem known {t : Nat} {p : Prop} [Decidable p] (hl : look S t = some (.bool (decide p))) (h : p) (k : Tr (St N ((t, .bool true) :: S) D W M L) F) : Tr (St N S D W M L) F := same hl (by rw [decide_eq_true h]) k
theorem knownN {t : Nat} {p : Prop} [Decidable p] (hl : look S t = some (.bool (decide p))) (h : ¬ p) (k : Tr (St N ((t, .bool false) :: S) D W M L) F) : Tr (St N S D W M L) F := same hl (by rw [decide_eq_false h]) k
theorem knownB {t : Nat} {b c : Bool} (hl : look S t = some (.bool b)) (h : b = c) (k : Tr (St N ((t, .bool c) :: S) D W M L) F) : Tr (St N S D W M L) F := same hl (by rw [h]) k
theorem split {t : Nat} {p : Prop} [Decidable p] (hl : look S t = some (.bool (decide p))) (ht : p → Tr (St N ((t, .bool true) :: S) D W M L) F) (hf : ¬ p → Tr (St N ((t, .bool false) :: S) D W M L) F) : Tr (St N S D W M L) F :=
  if h : p then known hl h (ht h) else knownN hl h (hf h)
theorem splitB {t : Nat} {b : Bool} (hl : look S t = some (.bool b)) (ht : b = true → Tr (St N ((t, .bool true) :: S) D W M L) F) (hf : b = false → Tr (St N ((t, .bool false) :: S) D W M L) F) : Tr (St N S D W M L) F := by
  cases b
  · exact knownB hl rfl (hf rfl)
  · exact knownB hl rfl (ht rfl)
/-- What cannot be. -/
theorem trFalse {X : Act → World → Prop} (h : False) : Tr X F := h.elim

/-! ### Loops -/
/-- A loop: of the slots Sc changes and Sf stays; of the memory Mc and Lc change, Lf stays. -/
theorem kLoopX {ι : Type} {c : Code} (φ : ι → Prop) (Sc : ι → Slots) (Sf : Slots) (Mc Lc : ι → Heap) (Lf : Heap) (μ : ι → Nat) (x0 : ι) (h0 : φ x0) (hM : M = Mc x0) (hc : AllLook S (Sc x0)) (hf : AllLook S Sf) (hL : SubP (Lf ++ Lc x0) L)
    (body : ∀ x, φ x → Tr (St N (Sc x ++ Sf) D W (Mc x) (Lf ++ Lc x)) (WP P ro c (Exit.then (fun a w => ∃ y, φ y ∧ μ y < μ x ∧ St N (Sc y ++ Sf) D W (Mc y) (Lf ++ Lc y) a w) Q))) :
    Tr (St N S D W M L) (WP P ro (.loop c) Q) := by
  intro a w hs
  have hlk : ∀ t v, look (Sc x0 ++ Sf) t = some v → look S t = some v := fun t v h => by
    rw [look_append] at h
    cases h1 : look (Sc x0) t with
    | some u => rw [h1] at h; simp only [Option.some_or, Option.some.injEq] at h; subst h; exact hc.look t _ h1
    | none => rw [h1] at h; simp only [Option.none_or] at h; exact hf.look t _ h
  have hst0 : St N (Sc x0 ++ Sf) D W (Mc x0) (Lf ++ Lc x0) a w := ⟨hs.sz, fun t v hv => hs.sl t v (hlk t v hv), hs.df, hM ▸ hs.ef.sub hL⟩
  let I : Nat → Act → World → Prop := fun n a w => ∃ y, φ y ∧ μ y = n ∧ St N (Sc y ++ Sf) D W (Mc y) (Lf ++ Lc y) a w
  refine wpIn_loop (fun a w => ∃ n, I n a w) (fun a w => leastOf (fun n => I n a w)) ⟨μ x0, x0, h0, rfl, hst0⟩ ?_
  intro a w hI
  obtain ⟨y, hy, hn, hst⟩ := (leastOf_spec hI).1
  refine wpIn_mono (body y hy a w hst) ?_
  intro e a' w' hq
  cases e with
  | normal =>
    obtain ⟨z, hz, hlt, hsz⟩ := hq
    have hI' : ∃ n, I n a' w' := ⟨μ z, z, hz, rfl, hsz⟩
    refine ⟨hI', Nat.lt_of_le_of_lt ((leastOf_spec hI').2 (μ z) ⟨z, hz, rfl, hsz⟩) ?_⟩
    rw [← hn]; exact hlt
  | _ => exact hq
theorem kRoundX {ι : Type} {φ : ι → Prop} {Sc : ι → Slots} {Sf : Slots} {Mc Lc : ι → Heap} {Lf : Heap} {μ : ι → Nat} {m : Nat} (y : ι) (h0 : φ y) (hm : μ y < m) (hM : M = Mc y) (hc : AllLook S (Sc y)) (hf : AllLook S Sf) (hL : SubP (Lf ++ Lc y) L) :
    Tr (St N S D W M L) (fun a w => ∃ y, φ y ∧ μ y < m ∧ St N (Sc y ++ Sf) D W (Mc y) (Lf ++ Lc y) a w) := fun a w hs => by
  have hlk : ∀ t v, look (Sc y ++ Sf) t = some v → look S t = some v := fun t v h => by
    rw [look_append] at h
    cases h1 : look (Sc y) t with
    | some u => rw [h1] at h; simp only [Option.some_or, Option.some.injEq] at h; subst h; exact hc.look t _ h1
    | none => rw [h1] at h; simp only [Option.none_or] at h; exact hf.look t _ h
  exact ⟨y, h0, hm, hs.sz, fun t v hv => hs.sl t v (hlk t v hv), hs.df, hM ▸ hs.ef.sub hL⟩
/-- Where ways meet again: what holds there is told by x. -/
theorem kCut {ι : Type} {c : Code} {next : Act → World → Prop} (φ : ι → Prop) (Sc : ι → Slots) (Mc Lc : ι → Heap) (hc : Tr (St N S D W M L) (WP P ro c (Exit.then (fun a w => ∃ y, φ y ∧ St N (Sc y) D W (Mc y) (Lc y) a w) Q)))
    (hn : ∀ x, φ x → Tr (St N (Sc x) D W (Mc x) (Lc x)) next) : Tr (St N S D W M L) (WP P ro c (Exit.then next Q)) := fun _ _ hs =>
  wpIn_mono (hc _ _ hs) fun e a' w' hq => by
    cases e with
    | normal => obtain ⟨y, hy, hst⟩ := hq; exact hn y hy _ _ hst
    | _ => exact hq
theorem kMeet {ι : Type} {φ : ι → Prop} {Sc : ι → Slots} {Mc Lc : ι → Heap} (y : ι) (h0 : φ y) (hM : M = Mc y) (hc : AllLook S (Sc y)) (hL : SubP (Lc y) L) :
    Tr (St N S D W M L) (fun a w => ∃ y, φ y ∧ St N (Sc y) D W (Mc y) (Lc y) a w) := fun _ _ hs =>
  ⟨y, h0, hs.sz, fun t v hv => hs.sl t v (hc.look t v hv), hs.df, hM ▸ hs.ef.sub hL⟩
end

section ops
variable {P : Program} {N : Nat} {S : Slots} {C : World → Prop} {dst : Option Tmp} {ty : TypeId} {pos : String} {af : Array Edge} {g : Option (Nat × Bool)}

/-! ### Equality -/
/-- A value that can be compared at a type, in a frame of cells: ints, bools. -/
def eqCell : Value → Value → Option Bool
  | .int k a, .int k' b => if k = k' then some (a == b) else none
  | .bool a, .bool b => some (a == b)
  | _, _ => none
def eqCells : List Value → List Value → Option Bool
  | [], [] => some true
  | x :: xs, y :: ys => match eqCell x y, eqCells xs ys with
    | some a, some b => some (a && b)
    | _, _ => none
  | _, _ => none

theorem equal_step (t : TypeId) (x y : Value) : Op.equal t x y = Op.equalIn (9999 + 1) t x y := rfl
theorem yEqBool {t t' : TypeId} {x y : Operand} {a b : Bool} (hx : opd S x = some (.bool a)) (hy : opd S y = some (.bool b)) (hT : P.underlying t = some .bool) : YV P S C ⟨dst, .binOp .eql t x y t', ty, pos, af, g⟩ (.bool (decide (a = b))) :=
  .pure fun ρ hk w => by
    have : (Op.equal t (.bool a) (.bool b)).run P w = .ok (a == b) w := by
      rw [equal_step, Op.equalIn]; simp only [Sem.run_bind, run_underlying_of hT, Result.andThen_ok, Sem.run_pure]
    have h2 : (a == b) = decide (a = b) := by cases a <;> cases b <;> rfl
    have h0 : (eqGuard .eql t x y (.bool a) (.bool b)).run P w = .ok () w := by simp [eqGuard, Sem.run_pure]
    simp only [execOp, hk x _ hx, hk y _ hy, Sem.run_bind, h0, binOp, this, Result.andThen_ok, Sem.run_pure, h2]
theorem yNeBool {t t' : TypeId} {x y : Operand} {a b : Bool} (hx : opd S x = some (.bool a)) (hy : opd S y = some (.bool b)) (hT : P.underlying t = some .bool) : YV P S C ⟨dst, .binOp .neq t x y t', ty, pos, af, g⟩ (.bool (decide (a ≠ b))) :=
  .pure fun ρ hk w => by
    have : (Op.equal t (.bool a) (.bool b)).run P w = .ok (a == b) w := by
      rw [equal_step, Op.equalIn]; simp only [Sem.run_bind, run_underlying_of hT, Result.andThen_ok, Sem.run_pure]
    have h2 : (!(a == b)) = decide (a ≠ b) := by cases a <;> cases b <;> rfl
    have h0 : (eqGuard .neq t x y (.bool a) (.bool b)).run P w = .ok () w := by simp [eqGuard, Sem.run_pure]
    simp only [execOp, hk x _ hx, hk y _ hy, Sem.run_bind, h0, binOp, this, Result.andThen_ok, Sem.run_pure, h2]
/-- A slice against nil. -/
theorem yEqNilSl {t t' e : TypeId} {x : Operand} {a : Option Addr} {n c n' c' : Nat} (hx : opd S x = some (.slice a n c)) (hT : P.underlying t = some (.slice e)) : YV P S C ⟨dst, .binOp .eql t x (.const (.slice none n' c')) t', ty, pos, af, g⟩ (.bool a.isNone) :=
  .pure fun ρ hk w => by
    have hy : ρ (.const (.slice none n' c')) = .slice none n' c' := hk _ _ rfl
    have h0 : (eqGuard .eql t x (.const (.slice none n' c')) (.slice a n c) (.slice none n' c')).run P w = .ok () w := by simp [eqGuard, Sem.run_pure]
    have : (Op.equal t (.slice a n c) (.slice none n' c')).run P w = .ok a.isNone w := by
      rw [equal_step, Op.equalIn]; cases a <;> simp [Sem.run_bind, run_underlying_of hT, Sem.run_pure]
    simp only [execOp, hk x _ hx, hy, Sem.run_bind, h0, binOp, this, Result.andThen_ok, Sem.run_pure]
/-- A struct, or an array, against another one: what comes out is a fact on the type. -/
theorem yEqAgg {t t' : TypeId} {x y : Operand} {us vs : List Value} {b : Bool} (hx : opd S x = some (.agg us.toArray)) (hy : opd S y = some (.agg vs.toArray)) (hg : P.eqGuardType P.depth t = false) (h : ∀ w, (Op.equal t (.agg us.toArray) (.agg vs.toArray)).run P w = .ok b w) :
    YV P S C ⟨dst, .binOp .eql t x y t', ty, pos, af, g⟩ (.bool b) :=
  .pure fun ρ hk w => by
    have he : (eqGuard .eql t x y (.agg us.toArray) (.agg vs.toArray)).run P w = .ok () w := by
      simp [eqGuard, program, Sem.run, hg, Sem.run_bind, Sem.run_pure]
    simp only [execOp, hk x _ hx, hk y _ hy, Sem.run_bind, he, binOp, h w, Result.andThen_ok, Sem.run_pure]
theorem yNeAgg {t t' : TypeId} {x y : Operand} {us vs : List Value} {b : Bool} (hx : opd S x = some (.agg us.toArray)) (hy : opd S y = some (.agg vs.toArray)) (hg : P.eqGuardType P.depth t = false) (h : ∀ w, (Op.equal t (.agg us.toArray) (.agg vs.toArray)).run P w = .ok b w) :
    YV P S C ⟨dst, .binOp .neq t x y t', ty, pos, af, g⟩ (.bool (!b)) :=
  .pure fun ρ hk w => by
    have he : (eqGuard .neq t x y (.agg us.toArray) (.agg vs.toArray)).run P w = .ok () w := by
      simp [eqGuard, program, Sem.run, hg, Sem.run_bind, Sem.run_pure]
    simp only [execOp, hk x _ hx, hk y _ hy, Sem.run_bind, he, binOp, h w, Result.andThen_ok, Sem.run_pure]
/-- An interface against nil. -/
theorem yEqNilIf {t t' : TypeId} {x : Operand} {ms : Array (String × TypeId)} {tv : TypeId} {v : Value} (hx : opd S x = some (.iface tv v)) (hT : P.underlying t = some (.interface ms)) : YV P S C ⟨dst, .binOp .eql t x (.const .nilIface) t', ty, pos, af, g⟩ (.bool false) :=
  .pure fun ρ hk w => by
    have hy : ρ (.const .nilIface) = .nilIface := hk _ _ rfl
    have h0 : (eqGuard .eql t x (.const .nilIface) (.iface tv v) .nilIface).run P w = .ok () w := by simp [eqGuard, Sem.run_pure]
    have : (Op.equal t (.iface tv v) .nilIface).run P w = .ok false w := by
      rw [equal_step, Op.equalIn]; simp only [Sem.run_bind, run_underlying_of hT, Result.andThen_ok, Sem.run_pure]
    simp only [execOp, hk x _ hx, hy, Sem.run_bind, h0, binOp, this, Result.andThen_ok, Sem.run_pure]
theorem yEqNilNil {t t' : TypeId} {x : Operand} {ms : Array (String × TypeId)} (hx : opd S x = some .nilIface) (hT : P.underlying t = some (.interface ms)) : YV P S C ⟨dst, .binOp .eql t x (.const .nilIface) t', ty, pos, af, g⟩ (.bool true) :=
  .pure fun ρ hk w => by
    have hy : ρ (.const .nilIface) = .nilIface := hk _ _ rfl
    have h0 : (eqGuard .eql t x (.const .nilIface) .nilIface .nilIface).run P w = .ok () w := by simp [eqGuard, Sem.run_pure]
    have : (Op.equal t .nilIface .nilIface).run P w = .ok true w := by
      rw [equal_step, Op.equalIn]; simp only [Sem.run_bind, run_underlying_of hT, Result.andThen_ok, Sem.run_pure]
    simp only [execOp, hk x _ hx, hy, Sem.run_bind, h0, binOp, this, Result.andThen_ok, Sem.run_pure]
/-- x.(T), of a value that has this type, T no interface. -/
theorem yAssertY {x : Operand} {xT T : TypeId} {v : Value} (hx : opd S x = some (.iface T v)) (hT : ifaceT P T = false) : YV P S C ⟨dst, .typeAssert x xT T true, ty, pos, af, g⟩ (.tuple [v, .bool true].toArray) :=
  .pure fun ρ hk w => by
    unfold ifaceT at hT
    split at hT
    · cases hT
    · rename_i d hne hd
      simp only [execOp, hk x _ hx, Instr.typeAssert, Sem.run_bind, run_underlying_of hd, Result.andThen_ok]
      cases d <;> first | (exact absurd rfl (hne _)) | (simp only [if_true, Sem.run_pure, Result.andThen_ok])
    · cases hT
end ops

section effects
variable {P : Program} {ro : Option Nat} {Q : Exit → Act → World → Prop}
variable {N : Nat} {S : Slots} {D : List Deferred} {W : World} {M L : Heap}
variable {dst : Option Tmp} {d : Nat} {ty : TypeId} {pos : String} {af : Array Edge} {g : Option (Nat × Bool)}

/-! ### Effects, as the walk of a region that draws wants them -/
theorem fAlloc {T : TypeId} {l : List Value} (hz : zeroT P T = some l) : Tr (St N S D W M L) (opW P ro N ⟨some d, .alloc T, ty, pos, af, g⟩ (fun a w => ∃ n, St N ((d, .pointer (some ⟨n, 0, none⟩)) :: S) D W M ((n, blk l T) :: L) a w) Q) :=
  eAlloc hz fun n => trTo (Y := fun n => St N ((d, .pointer (some ⟨n, 0, none⟩)) :: S) D W M ((n, blk l T) :: L)) n trSelf
theorem fBuildSlice {T e : TypeId} {len : Nat} {ps : List (Nat × Operand)} {vs : List (Nat × Value)} {l : List Value} (h1 : AllPart S ps vs)
    (h2 : ∀ w, (Instr.buildSlice T len vs.toArray).run P w = .ok (.slice (some ⟨w.heap.size, 0, none⟩) len len) { w with heap := w.heap.push (blk l e) }) :
    Tr (St N S D W M L) (opW P ro N ⟨some d, .buildSlice T len ps.toArray, ty, pos, af, g⟩ (fun a w => ∃ n, St N ((d, .slice (some ⟨n, 0, none⟩) len len) :: S) D W M ((n, blk l e) :: L) a w) Q) :=
  eBuildSlice h1 h2 fun n => trTo (Y := fun n => St N ((d, .slice (some ⟨n, 0, none⟩) len len) :: S) D W M ((n, blk l e) :: L)) n trSelf
theorem fStoreL {T : TypeId} {ad x : Operand} {b o : Nat} {l vs : List Value} {e : TypeId} {v : Value} (i : Nat) (ha : opd S ad = some (.pointer (some ⟨b, o, none⟩))) (hx : opd S x = some v) (hi : L[i]? = some (b, blk l e))
    (hv : v.cells = vs.toArray) (hT : sizeT P T = some vs.length) (hp : vs.all plainV = true) (hlen : Nat.ble (o + vs.length) l.length = true) :
    Tr (St N S D W M L) (opW P ro N ⟨none, .store T ad x, ty, pos, af, g⟩ (St N S D W M (upd L i (blk (wr l o vs) e))) Q) := eStoreL i ha hx hi hv hT hp hlen trSelf
theorem fStoreM {T : TypeId} {ad x : Operand} {b o : Nat} {l vs : List Value} {e : TypeId} {v : Value} (i : Nat) (ha : opd S ad = some (.pointer (some ⟨b, o, none⟩))) (hx : opd S x = some v) (hi : M[i]? = some (b, blk l e))
    (hv : v.cells = vs.toArray) (hT : sizeT P T = some vs.length) (hp : vs.all plainV = true) (hlen : Nat.ble (o + vs.length) l.length = true) :
    Tr (St N S D W M L) (opW P ro N ⟨none, .store T ad x, ty, pos, af, g⟩ (St N S D W (upd M i (blk (wr l o vs) e)) L) Q) := eStoreM i ha hx hi hv hT hp hlen trSelf
theorem fV {o : Oper} {d : Nat} {v : Value} (h : YV P S (Eff W M L) o v) (hd : o.dst = some d) : Tr (St N S D W M L) (opW P ro N o (St N ((d, v) :: S) D W M L) Q) := oV h hd trSelf
theorem fV0 {o : Oper} {v : Value} (h : YV P S (Eff W M L) o v) (hd : o.dst = none) : Tr (St N S D W M L) (opW P ro N o (St N S D W M L) Q) := oV0 h hd trSelf
end effects
end ZW
