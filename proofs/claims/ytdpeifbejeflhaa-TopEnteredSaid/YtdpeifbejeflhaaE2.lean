/-
  Texts EngE, EngF, EngG, EngH, EngI, EngJ, EngK in one.
-/
import Derived.Test.YtdpeifbejeflhaaE1
import Derived.Laws.StructEq
import Derived.ArgAppend
import Derived.Maps.AppendAt
import Derived.RecoverIn
import Derived.ChangeKeysEq
namespace ZW
open Go

/-- A list of blocks out of another one, in whatever order. -/
inductive SubP : Heap → Heap → Prop
  | n {L : Heap} : SubP [] L
  | r {L : Heap} : SubP L L
  | c {p : Nat × Obj} {r L : Heap} (i : Nat) : L[i]? = some p → SubP r (L.eraseIdx i) → SubP (p :: r) L
  | d {r L : Heap} (i : Nat) : SubP r (L.eraseIdx i) → SubP r L

theorem SubP.mem {A L : Heap} (h : SubP A L) : ∀ p ∈ A, p ∈ L := by
  induction h with
  | n => intro p hp; cases hp
  | r => exact fun _ h => h
  | c i hi _ ih =>
    intro p hp
    rcases List.mem_cons.1 hp with rfl | hp
    · exact List.mem_of_getElem? hi
    · exact List.mem_of_mem_eraseIdx (ih p hp)
  | d i _ ih => exact fun p hp => List.mem_of_mem_eraseIdx (ih p hp)
theorem SubP.nd {A L : Heap} (h : SubP A L) : (L.map (·.1)).Nodup → (A.map (·.1)).Nodup := by
  induction h with
  | n => intro _; simp
  | r => exact id
  | @d r L i hr ih => exact fun hn => ih (List.Sublist.nodup ((List.eraseIdx_sublist L i).map _) hn)
  | @c p r L i hi hr ih =>
    intro hn
    obtain ⟨hlt, he⟩ := List.getElem?_eq_some_iff.1 hi
    have hperm : (L.eraseIdx i).Sublist L := List.eraseIdx_sublist L i
    simp only [List.map_cons, List.nodup_cons]
    refine ⟨?_, ih (List.Sublist.nodup (hperm.map _) hn)⟩
    intro hc
    obtain ⟨q, hq, hqe⟩ := List.mem_map.1 hc
    have hq' := hr.mem q hq
    rw [List.mem_eraseIdx_iff_getElem] at hq'
    obtain ⟨j, hjl, hji, hj⟩ := hq'
    have h1 : (L.map (·.1))[i]'(by simpa using hlt) = p.1 := by simp [he]
    have h2 : (L.map (·.1))[j]'(by simpa using hjl) = p.1 := by simp [hj, hqe]
    exact hji ((List.getElem_inj hn).1 (h1.trans h2.symm)).symm

theorem Eff.sub {W : World} {M L L' : Heap} {w : World} (h : Eff W M L w) (hs : SubP L' L) : Eff W M L' w :=
  ⟨h.os, h.tape, h.output, h.size, h.frame,
   fun p hp => h.own p (by rcases List.mem_append.1 hp with hp | hp; (· exact List.mem_append.2 (.inl hp)); exact List.mem_append.2 (.inr (hs.mem p hp))),
   fun p hp => h.new p (hs.mem p hp), h.old, by
    have := h.nd
    rw [List.map_append, List.nodup_append] at this ⊢
    refine ⟨this.1, hs.nd this.2.1, fun a ha b hb => this.2.2 a ha b ?_⟩
    obtain ⟨q, hq, rfl⟩ := List.mem_map.1 hb
    exact List.mem_map.2 ⟨q, hs.mem q hq, rfl⟩⟩

section
variable {P : Program} {ro : Option Nat} {Q : Exit → Act → World → Prop} {N : Nat} {S : Slots} {D : List Deferred} {W : World} {M L : Heap} {F : Act → World → Prop}

theorem forgetP (L' : Heap) (h : SubP L' L) (k : Tr (St N S D W M L') F) : Tr (St N S D W M L) F :=
  fun a w hs => k a w (hs.eff (hs.ef.sub h))

/-! ### Values that are found out -/
/-- A slot holds this, too. -/
theorem same {t : Nat} {v u : Value} (hl : look S t = some v) (h : v = u) (k : Tr (St N ((t, u) :: S) D W M L) F) : Tr (St N S D W M L) F := fun a w hs =>
  k a w ⟨hs.sz, fun x y hx => by
    rw [look_cons] at hx
    split at hx
    · rename_i e; subst e; cases hx; exact hs.sl t _ (by rw [hl, h])
    · exact hs.sl x y hx, hs.df, hs.ef⟩
theorem known {t : Nat} {p : Prop} [Decidable p] (hl : look S t = some (.bool (decide p))) (h : p) (k : Tr (St N ((t, .bool true) :: S) D W M L) F) : Tr (St N S D W M L) F := same hl (by rw [decide_eq_true h]) k
theorem knownN {t : Nat} {p : Prop} [Decidable p] (hl : look S t = some (.bool (decide p))) (h : ¬ p) (k : Tr (St N ((t, .bool false) :: S) D W M L) F) : Tr (St N S D W M L) F := same hl (by rw [decide_eq_false h]) k
theorem knownB {t : Nat} {b c : Bool} (hl : look S t = some (.bool b)) (h : b = c) (k : Tr (St N ((t, .bool c) :: S) D W M L) F) : Tr (St N S D W M L) F := same hl (by rw [h]) k
theorem split {t : Nat} {p : Prop} [Decidable p] (hl : look S t = some (.bool (decide p))) (ht : p → Tr (St N ((t, .bool true) :: S) D W M L) F) (hf : ¬ p → Tr (St N ((t, .bool false) :: S) D W M L) F) : Tr (St N S D W M L) F :=
  if h : p then known hl h (ht h) else knownN hl h (hf h)
theorem splitB {t : Nat} {b : Bool} (hl : look S t = some (.bool b)) (ht : b = true → Tr (St N ((t, .bool true) :: S) D W M L) F) (hf : b = false → Tr (St N ((t, .bool false) :: S) D W M L) F) : Tr (St N S D W M L) F := by
  cases b
  · exact knownB hl rfl (hf rfl)
  · exact knownB hl rfl (ht rfl)
/-- What cannot be. -/
theorem trFalse {X : Act → World → Prop} (h : False) : Tr X F := h.elim

/-! ### Loops -/
/-- A loop: of the slots Sc changes and Sf stays; of the memory Mc and Lc change, Lf stays. -/
theorem kLoopX {ι : Type} {c : Code} (φ : ι → Prop) (Sc : ι → Slots) (Sf : Slots) (Mc Lc : ι → Heap) (Lf : Heap) (μ : ι → Nat) (x0 : ι) (h0 : φ x0) (hM : M = Mc x0) (hc : AllLook S (Sc x0)) (hf : AllLook S Sf) (hL : SubP (Lf ++ Lc x0) L)
    (body : ∀ x, φ x → Tr (St N (Sc x ++ Sf) D W (Mc x) (Lf ++ Lc x)) (WP P ro c (Exit.then (fun a w => ∃ y, φ y ∧ μ y < μ x ∧ St N (Sc y ++ Sf) D W (Mc y) (Lf ++ Lc y) a w) Q))) :
    Tr (St N S D W M L) (WP P ro (.loop c) Q) := by
  intro a w hs
  have hlk : ∀ t v, look (Sc x0 ++ Sf) t = some v → look S t = some v := fun t v h => by
    rw [look_append] at h
    cases h1 : look (Sc x0) t with
    | some u => rw [h1] at h; simp only [Option.some_or, Option.some.injEq] at h; subst h; exact hc.look t _ h1
    | none => rw [h1] at h; simp only [Option.none_or] at h; exact hf.look t _ h
  have hst0 : St N (Sc x0 ++ Sf) D W (Mc x0) (Lf ++ Lc x0) a w := ⟨hs.sz, fun t v hv => hs.sl t v (hlk t v hv), hs.df, hM ▸ hs.ef.sub hL⟩
  let I : Nat → Act → World → Prop := fun n a w => ∃ y, φ y ∧ μ y = n ∧ St N (Sc y ++ Sf) D W (Mc y) (Lf ++ Lc y) a w
  refine wpIn_loop (fun a w => ∃ n, I n a w) (fun a w => leastOf (fun n => I n a w)) ⟨μ x0, x0, h0, rfl, hst0⟩ ?_
  intro a w hI
  obtain ⟨y, hy, hn, hst⟩ := (leastOf_spec hI).1
  refine wpIn_mono (body y hy a w hst) ?_
  intro e a' w' hq
  cases e with
  | normal =>
    obtain ⟨z, hz, hlt, hsz⟩ := hq
    have hI' : ∃ n, I n a' w' := ⟨μ z, z, hz, rfl, hsz⟩
    refine ⟨hI', Nat.lt_of_le_of_lt ((leastOf_spec hI').2 (μ z) ⟨z, hz, rfl, hsz⟩) ?_⟩
    rw [← hn]; exact hlt
  | _ => exact hq
theorem kRoundX {ι : Type} {φ : ι → Prop} {Sc : ι → Slots} {Sf : Slots} {Mc Lc : ι → Heap} {Lf : Heap} {μ : ι → Nat} {m : Nat} (y : ι) (h0 : φ y) (hm : μ y < m) (hM : M = Mc y) (hc : AllLook S (Sc y)) (hf : AllLook S Sf) (hL : SubP (Lf ++ Lc y) L) :
    Tr (St N S D W M L) (fun a w => ∃ y, φ y ∧ μ y < m ∧ St N (Sc y ++ Sf) D W (Mc y) (Lf ++ Lc y) a w) := fun a w hs => by
  have hlk : ∀ t v, look (Sc y ++ Sf) t = some v → look S t = some v := fun t v h => by
    rw [look_append] at h
    cases h1 : look (Sc y) t with
    | some u => rw [h1] at h; simp only [Option.some_or, Option.some.injEq] at h; subst h; exact hc.look t _ h1
    | none => rw [h1] at h; simp only [Option.none_or] at h; exact hf.look t _ h
  exact ⟨y, h0, hm, hs.sz, fun t v hv => hs.sl t v (hlk t v hv), hs.df, hM ▸ hs.ef.sub hL⟩
/-- Where ways meet again: what holds there is told by x. -/
theorem kCut {ι : Type} {c : Code} {next : Act → World → Prop} (φ : ι → Prop) (Sc : ι → Slots) (Mc Lc : ι → Heap) (hc : Tr (St N S D W M L) (WP P ro c (Exit.then (fun a w => ∃ y, φ y ∧ St N (Sc y) D W (Mc y) (Lc y) a w) Q)))
    (hn : ∀ x, φ x → Tr (St N (Sc x) D W (Mc x) (Lc x)) next) : Tr (St N S D W M L) (WP P ro c (Exit.then next Q)) := fun _ _ hs =>
  wpIn_mono (hc _ _ hs) fun e a' w' hq => by
    cases e with
    | normal => obtain ⟨y, hy, hst⟩ := hq; exact hn y hy _ _ hst
    | _ => exact hq
theorem kMeet {ι : Type} {φ : ι → Prop} {Sc : ι → Slots} {Mc Lc : ι → Heap} (y : ι) (h0 : φ y) (hM : M = Mc y) (hc : AllLook S (Sc y)) (hL : SubP (Lc y) L) :
    Tr (St N S D W M L) (fun a w => ∃ y, φ y ∧ St N (Sc y) D W (Mc y) (Lc y) a w) := fun _ _ hs =>
  ⟨y, h0, hs.sz, fun t v hv => hs.sl t v (hc.look t v hv), hs.df, hM ▸ hs.ef.sub hL⟩
end

section ops
variable {P : Program} {N : Nat} {S : Slots} {C : World → Prop} {dst : Option Tmp} {ty : TypeId} {pos : String} {af : Array Edge} {g : Option (Nat × Bool)}

/-! ### Equality -/
/-- A value that can be compared at a type, in a frame of cells: ints, bools. -/
def eqCell : Value → Value → Option Bool
  | .int k a, .int k' b => if k = k' then some (a == b) else none
  | .bool a, .bool b => some (a == b)
  | _, _ => none
def eqCells : List Value → List Value → Option Bool
  | [], [] => some true
  | x :: xs, y :: ys => match eqCell x y, eqCells xs ys with
    | some a, some b => some (a && b)
    | _, _ => none
  | _, _ => none

theorem equal_step (t : TypeId) (x y : Value) : Op.equal t x y = Op.equalIn (9999 + 1) t x y := rfl
theorem yEqBool {t t' : TypeId} {x y : Operand} {a b : Bool} (hx : opd S x = some (.bool a)) (hy : opd S y = some (.bool b)) (hT : P.underlying t = some .bool) : YV P S C ⟨dst, .binOp .eql t x y t', ty, pos, af, g⟩ (.bool (decide (a = b))) :=
  .pure fun ρ hk w => by
    have : (Op.equal t (.bool a) (.bool b)).run P w = .ok (a == b) w := by
      rw [equal_step, Op.equalIn]; simp only [Sem.run_bind, run_underlying_of hT, Result.andThen_ok, Sem.run_pure]
    have h2 : (a == b) = decide (a = b) := by cases a <;> cases b <;> rfl
    have h0 : (eqGuard .eql t x y (.bool a) (.bool b)).run P w = .ok () w := by simp [eqGuard, Sem.run_pure]
    simp only [execOp, hk x _ hx, hk y _ hy, Sem.run_bind, h0, binOp, this, Result.andThen_ok, Sem.run_pure, h2]
theorem yNeBool {t t' : TypeId} {x y : Operand} {a b : Bool} (hx : opd S x = some (.bool a)) (hy : opd S y = some (.bool b)) (hT : P.underlying t = some .bool) : YV P S C ⟨dst, .binOp .neq t x y t', ty, pos, af, g⟩ (.bool (decide (a ≠ b))) :=
  .pure fun ρ hk w => by
    have : (Op.equal t (.bool a) (.bool b)).run P w = .ok (a == b) w := by
      rw [equal_step, Op.equalIn]; simp only [Sem.run_bind, run_underlying_of hT, Result.andThen_ok, Sem.run_pure]
    have h2 : (!(a == b)) = decide (a ≠ b) := by cases a <;> cases b <;> rfl
    have h0 : (eqGuard .neq t x y (.bool a) (.bool b)).run P w = .ok () w := by simp [eqGuard, Sem.run_pure]
    simp only [execOp, hk x _ hx, hk y _ hy, Sem.run_bind, h0, binOp, this, Result.andThen_ok, Sem.run_pure, h2]
/-- A slice against nil. -/
theorem yEqNilSl {t t' e : TypeId} {x : Operand} {a : Option Addr} {n c n' c' : Nat} (hx : opd S x = some (.slice a n c)) (hT : P.underlying t = some (.slice e)) : YV P S C ⟨dst, .binOp .eql t x (.const (.slice none n' c')) t', ty, pos, af, g⟩ (.bool a.isNone) :=
  .pure fun ρ hk w => by
    have hy : ρ (.const (.slice none n' c')) = .slice none n' c' := hk _ _ rfl
    have h0 : (eqGuard .eql t x (.const (.slice none n' c')) (.slice a n c) (.slice none n' c')).run P w = .ok () w := by simp [eqGuard, Sem.run_pure]
    have : (Op.equal t (.slice a n c) (.slice none n' c')).run P w = .ok a.isNone w := by
      rw [equal_step, Op.equalIn]; cases a <;> simp [Sem.run_bind, run_underlying_of hT, Sem.run_pure]
    simp only [execOp, hk x _ hx, hy, Sem.run_bind, h0, binOp, this, Result.andThen_ok, Sem.run_pure]
/-- A struct, or an array, against another one: what comes out is a fact on the type. -/
theorem yEqAgg {t t' : TypeId} {x y : Operand} {us vs : List Value} {b : Bool} (hx : opd S x = some (.agg us.toArray)) (hy : opd S y = some (.agg vs.toArray)) (hg : P.eqGuardType P.depth t = false) (h : ∀ w, (Op.equal t (.agg us.toArray) (.agg vs.toArray)).run P w = .ok b w) :
    YV P S C ⟨dst, .binOp .eql t x y t', ty, pos, af, g⟩ (.bool b) :=
  .pure fun ρ hk w => by
    have he : (eqGuard .eql t x y (.agg us.toArray) (.agg vs.toArray)).run P w = .ok () w := by
      simp [eqGuard, program, Sem.run, hg, Sem.run_bind, Sem.run_pure]
    simp only [execOp, hk x _ hx, hk y _ hy, Sem.run_bind, he, binOp, h w, Result.andThen_ok, Sem.run_pure]
theorem yNeAgg {t t' : TypeId} {x y : Operand} {us vs : List Value} {b : Bool} (hx : opd S x = some (.agg us.toArray)) (hy : opd S y = some (.agg vs.toArray)) (hg : P.eqGuardType P.depth t = false) (h : ∀ w, (Op.equal t (.agg us.toArray) (.agg vs.toArray)).run P w = .ok b w) :
    YV P S C ⟨dst, .binOp .neq t x y t', ty, pos, af, g⟩ (.bool (!b)) :=
  .pure fun ρ hk w => by
    have he : (eqGuard .neq t x y (.agg us.toArray) (.agg vs.toArray)).run P w = .ok () w := by
      simp [eqGuard, program, Sem.run, hg, Sem.run_bind, Sem.run_pure]
    simp only [execOp, hk x _ hx, hk y _ hy, Sem.run_bind, he, binOp, h w, Result.andThen_ok, Sem.run_pure]
/-- An interface against nil. -/
theorem yEqNilIf {t t' : TypeId} {x : Operand} {ms : Array (String × TypeId)} {tv : TypeId} {v : Value} (hx : opd S x = some (.iface tv v)) (hT : P.underlying t = some (.interface ms)) : YV P S C ⟨dst, .binOp .eql t x (.const .nilIface) t', ty, pos, af, g⟩ (.bool false) :=
  .pure fun ρ hk w => by
    have hy : ρ (.const .nilIface) = .nilIface := hk _ _ rfl
    have h0 : (eqGuard .eql t x (.const .nilIface) (.iface tv v) .nilIface).run P w = .ok () w := by simp [eqGuard, Sem.run_pure]
    have : (Op.equal t (.iface tv v) .nilIface).run P w = .ok false w := by
      rw [equal_step, Op.equalIn]; simp only [Sem.run_bind, run_underlying_of hT, Result.andThen_ok, Sem.run_pure]
    simp only [execOp, hk x _ hx, hy, Sem.run_bind, h0, binOp, this, Result.andThen_ok, Sem.run_pure]
theorem yEqNilNil {t t' : TypeId} {x : Operand} {ms : Array (String × TypeId)} (hx : opd S x = some .nilIface) (hT : P.underlying t = some (.interface ms)) : YV P S C ⟨dst, .binOp .eql t x (.const .nilIface) t', ty, pos, af, g⟩ (.bool true) :=
  .pure fun ρ hk w => by
    have hy : ρ (.const .nilIface) = .nilIface := hk _ _ rfl
    have h0 : (eqGuard .eql t x (.const .nilIface) .nilIface .nilIface).run P w = .ok () w := by simp [eqGuard, Sem.run_pure]
    have : (Op.equal t .nilIface .nilIface).run P w = .ok true w := by
      rw [equal_step, Op.equalIn]; simp only [Sem.run_bind, run_underlying_of hT, Result.andThen_ok, Sem.run_pure]
    simp only [execOp, hk x _ hx, hy, Sem.run_bind, h0, binOp, this, Result.andThen_ok, Sem.run_pure]
/-- x.(T), of a value that has this type, T no interface. -/
theorem yAssertY {x : Operand} {xT T : TypeId} {v : Value} (hx : opd S x = some (.iface T v)) (hT : ifaceT P T = false) : YV P S C ⟨dst, .typeAssert x xT T true, ty, pos, af, g⟩ (.tuple [v, .bool true].toArray) :=
  .pure fun ρ hk w => by
    unfold ifaceT at hT
    split at hT
    · cases hT
    · rename_i d hne hd
      simp only [execOp, hk x _ hx, Instr.typeAssert, Sem.run_bind, run_underlying_of hd, Result.andThen_ok]
      cases d <;> first | (exact absurd rfl (hne _)) | (simp only [if_true, Sem.run_pure, Result.andThen_ok])
    · cases hT
end ops

section effects
variable {P : Program} {ro : Option Nat} {Q : Exit → Act → World → Prop}
variable {N : Nat} {S : Slots} {D : List Deferred} {W : World} {M L : Heap}
variable {dst : Option Tmp} {d : Nat} {ty : TypeId} {pos : String} {af : Array Edge} {g : Option (Nat × Bool)}

/-! ### Effects, as the walk of a region that draws wants them -/
theorem fAlloc {T : TypeId} {l : List Value} (hz : zeroT P T = some l) : Tr (St N S D W M L) (opW P ro N ⟨some d, .alloc T, ty, pos, af, g⟩ (fun a w => ∃ n, St N ((d, .pointer (some ⟨n, 0, none⟩)) :: S) D W M ((n, blk l T) :: L) a w) Q) :=
  eAlloc hz fun n => trTo (Y := fun n => St N ((d, .pointer (some ⟨n, 0, none⟩)) :: S) D W M ((n, blk l T) :: L)) n trSelf
theorem fBuildSlice {T e : TypeId} {len : Nat} {ps : List (Nat × Operand)} {vs : List (Nat × Value)} {l : List Value} (h1 : AllPart S ps vs)
    (h2 : ∀ w, (Instr.buildSlice T len vs.toArray).run P w = .ok (.slice (some ⟨w.heap.size, 0, none⟩) len len) { w with heap := w.heap.push (blk l e) }) :
    Tr (St N S D W M L) (opW P ro N ⟨some d, .buildSlice T len ps.toArray, ty, pos, af, g⟩ (fun a w => ∃ n, St N ((d, .slice (some ⟨n, 0, none⟩) len len) :: S) D W M ((n, blk l e) :: L) a w) Q) :=
  eBuildSlice h1 h2 fun n => trTo (Y := fun n => St N ((d, .slice (some ⟨n, 0, none⟩) len len) :: S) D W M ((n, blk l e) :: L)) n trSelf
theorem fStoreL {T : TypeId} {ad x : Operand} {b o : Nat} {l vs : List Value} {e : TypeId} {v : Value} (i : Nat) (ha : opd S ad = some (.pointer (some ⟨b, o, none⟩))) (hx : opd S x = some v) (hi : L[i]? = some (b, blk l e))
    (hv : v.cells = vs.toArray) (hT : sizeT P T = some vs.length) (hp : vs.all plainV = true) (hlen : Nat.ble (o + vs.length) l.length = true) :
    Tr (St N S D W M L) (opW P ro N ⟨none, .store T ad x, ty, pos, af, g⟩ (St N S D W M (upd L i (blk (wr l o vs) e))) Q) := eStoreL i ha hx hi hv hT hp hlen trSelf
theorem fStoreM {T : TypeId} {ad x : Operand} {b o : Nat} {l vs : List Value} {e : TypeId} {v : Value} (i : Nat) (ha : opd S ad = some (.pointer (some ⟨b, o, none⟩))) (hx : opd S x = some v) (hi : M[i]? = some (b, blk l e))
    (hv : v.cells = vs.toArray) (hT : sizeT P T = some vs.length) (hp : vs.all plainV = true) (hlen : Nat.ble (o + vs.length) l.length = true) :
    Tr (St N S D W M L) (opW P ro N ⟨none, .store T ad x, ty, pos, af, g⟩ (St N S D W (upd M i (blk (wr l o vs) e)) L) Q) := eStoreM i ha hx hi hv hT hp hlen trSelf
theorem fV {o : Oper} {d : Nat} {v : Value} (h : YV P S (Eff W M L) o v) (hd : o.dst = some d) : Tr (St N S D W M L) (opW P ro N o (St N ((d, v) :: S) D W M L) Q) := oV h hd trSelf
theorem fV0 {o : Oper} {v : Value} (h : YV P S (Eff W M L) o v) (hd : o.dst = none) : Tr (St N S D W M L) (opW P ro N o (St N S D W M L) Q) := oV0 h hd trSelf
end effects
end ZW
namespace ZW
open Go

section
variable {P : Program} {ro : Option Nat} {Q : Exit → Act → World → Prop} {N : Nat} {S : Slots} {D : List Deferred} {W : World} {M L : Heap}

theorem lookApp {S A B : Slots} (hc : AllLook S A) (hf : AllLook S B) : ∀ t v, look (A ++ B) t = some v → look S t = some v := fun t v h => by
  rw [look_append] at h
  cases h1 : look A t with
  | some u => rw [h1] at h; simp only [Option.some_or, Option.some.injEq] at h; subst h; exact hc.look t _ h1
  | none => rw [h1] at h; simp only [Option.none_or] at h; exact hf.look t _ h

/-- Where ways meet again: of the slots Sc is told anew and Sf stays, of the memory Mc and Lc are told anew and Lf stays. -/
theorem kCutX {ι : Type} {c : Code} {next : Act → World → Prop} (φ : ι → Prop) (Sc : ι → Slots) (Sf : Slots) (Mc Lc : ι → Heap) (Lf : Heap) (_ : AllLook S Sf) (_ : SubP Lf L)
    (hc : Tr (St N S D W M L) (WP P ro c (Exit.then (fun a w => ∃ y, φ y ∧ St N (Sc y ++ Sf) D W (Mc y) (Lf ++ Lc y) a w) Q)))
    (hn : ∀ x, φ x → Tr (St N (Sc x ++ Sf) D W (Mc x) (Lf ++ Lc x)) next) : Tr (St N S D W M L) (WP P ro c (Exit.then next Q)) := fun _ _ hs =>
  wpIn_mono (hc _ _ hs) fun e _ _ hq => by
    cases e with
    | normal => obtain ⟨y, hy, hst⟩ := hq; exact hn y hy _ _ hst
    | _ => exact hq
theorem kMeetX {ι : Type} {φ : ι → Prop} {Sc : ι → Slots} {Sf : Slots} {Mc Lc : ι → Heap} {Lf : Heap} (y : ι) (h0 : φ y) (hM : M = Mc y) (hc : AllLook S (Sc y)) (hf : AllLook S Sf) (hL : SubP (Lf ++ Lc y) L) :
    Tr (St N S D W M L) (fun a w => ∃ y, φ y ∧ St N (Sc y ++ Sf) D W (Mc y) (Lf ++ Lc y) a w) := fun _ _ hs =>
  ⟨y, h0, hs.sz, fun t v hv => hs.sl t v (lookApp hc hf t v hv), hs.df, hM ▸ hs.ef.sub hL⟩

theorem endRet {v u : Value} (h : u = v) : ∀ w, Eff W [] L w → Ret W v (.returned u) w := fun _ hw => ⟨by rw [h], hw.sub .n⟩
theorem endPan {v u : Value} (h : u = v) : ∀ w, Eff W [] L w → Pan W v (.panicked [{ v := u, recovered := false }]) w := fun _ hw => ⟨by rw [h], hw.sub .n⟩
/-- The end of a function that makes blocks, or writes into some. -/
theorem endX {ι : Type} {φ : ι → Prop} {v : ι → Value} {Mx Lx : ι → Heap} {u : Value} (y : ι) (h0 : φ y) (hv : u = v y) (hM : M = Mx y) (hL : SubP (Lx y) L) : ∀ w, Eff W M L w → RetX W φ v Mx Lx (.returned u) w := fun _ hw =>
  ⟨y, h0, by rw [hv], hM ▸ hw.sub hL⟩

theorem conv_ok {n : Int} (h : 0 ≤ n ∧ n ≤ 9223372036854775807) {k : IntKind} (hk : is64 k = true := by rfl) : k.wrap n = n := by
  cases k <;> simp [is64] at hk
  · exact IntWalk.i64_in _ (by omega)
  · exact IntWalk.u64_in _ (by omega)

/-- A function is entered that writes into blocks that are there. -/
theorem fEnterM {f : FuncId} {fn : Func} {c : Code} {vs : List Value} {R : Ending → World → Prop} (hE : Eff W M [] W) (hf : P.funcs[f]? = some fn) (hb : fn.body = some c) (hn : fn.ntmps = N) (hN : Nat.ble vs.length N = true)
    (h : Tr (St N (slotsFrom 0 vs) [] W M []) (WP P none c (bodyPostM (FW none) 0 P fn R))) : Calls P f vs.toArray W R := by
  refine (callsIn_wide (n := 0)).1 (callsIn_of_wp_marks hf hb trivial ?_)
  refine h _ W ⟨?_, ?_, rfl, hE⟩
  · have := Nat.le_of_ble_eq_true hN
    simp [hn]; omega
  · intro t v hv
    obtain ⟨h1, h2⟩ := look_slotsFrom vs 0 t v hv
    simp only [Nat.sub_zero] at h2
    have hlt : t < vs.length := by
      rcases Nat.lt_or_ge t vs.length with h | h
      · exact h
      · rw [List.getElem?_eq_none h] at h2; cases h2
    show (vs.toArray ++ Array.replicate (fn.ntmps - vs.toArray.size) undef)[t]? = some v
    rw [Array.getElem?_append_left (by simpa using hlt)]
    simpa using h2
theorem Eff.one {b : Nat} {o : Obj} (h : W.heap[b]? = some o) : Eff W [(b, o)] [] W := by
  have hlt : b < W.heap.size := by rw [Array.getElem?_eq_some_iff] at h; exact h.1
  refine ⟨rfl, rfl, rfl, Nat.le_refl _, fun _ _ _ => rfl, fun p hp => ?_, fun _ hp => by simp at hp, fun p hp => ?_, by simp⟩
  · simp only [List.append_nil, List.mem_singleton] at hp; subst hp; exact h
  · simp only [List.mem_singleton] at hp; subst hp; exact hlt
theorem Eff.two {b c : Nat} {o p : Obj} (h : W.heap[b]? = some o) (k : W.heap[c]? = some p) (hne : b ≠ c) : Eff W [(b, o), (c, p)] [] W := by
  have hlt : b < W.heap.size := by rw [Array.getElem?_eq_some_iff] at h; exact h.1
  have hlt' : c < W.heap.size := by rw [Array.getElem?_eq_some_iff] at k; exact k.1
  refine ⟨rfl, rfl, rfl, Nat.le_refl _, fun _ _ _ => rfl, fun q hq => ?_, fun _ hp => by simp at hp, fun q hq => ?_, by simp [hne]⟩
  · simp only [List.append_nil, List.mem_cons, List.not_mem_nil, or_false] at hq; rcases hq with rfl | rfl; (· exact h); exact k
  · simp only [List.mem_cons, List.not_mem_nil, or_false] at hq; rcases hq with rfl | rfl; (· exact hlt); exact hlt'

/-! #### A scope -/
theorem stepR_scope {b : Frame} {a : Act} {k : List Item} {cs : List Frame} {w : World} {c : Code} : step P (lone (b.atR a (.code (.scope c) :: k)) cs w) = .next (lone (b.atR a (.code c :: .inScope c :: k)) cs w) :=
  step_lone_go (by simp [stepG, stepG.exec, Frame.atR])
theorem stepR_inScope {b : Frame} {a : Act} {k : List Item} {cs : List Frame} {w : World} {c : Code} : step P (lone (b.atR a (.inScope c :: k)) cs w) = .next (lone (b.atR a k) cs w) :=
  step_lone_go (by simp [stepG, stepG.exec, Frame.atR])
def Exit.noGo (Q : Exit → Act → World → Prop) : Exit → Act → World → Prop
  | .goto _, _, _ => False
  | e, a, w => Q e a w
/-- A scope through which the run goes without a goto. -/
theorem kScope {X : Act → World → Prop} {c : Code} (h : Tr X (WP P ro c (Exit.noGo Q))) : Tr X (WP P ro (.scope c) Q) := fun a w hx => by
  intro b k cs hro hb hr
  have h0 : (lone (b.atR a (.code (.scope c) :: k)) cs w).fenced P (FW ro) := fenced_calm hb hr rfl
  obtain ⟨e, a₁, w₁, hq, harr⟩ := h a w hx b (.inScope c :: k) cs hro hb hr
  cases e with
  | normal => exact ⟨.normal, a₁, w₁, hq, .head h0 stepR_scope (StepsIn.trans harr (.one (fenced_calm hb hr rfl) stepR_inScope))⟩
  | exit id' =>
    have hx : exitTo id' (.inScope c :: k) = exitTo id' k := by simp [exitTo]
    exact ⟨.exit id', a₁, w₁, hq, fun k' hk => .head h0 stepR_scope (harr.1 k' (by rw [hx]; exact hk)),
      fun hr' hk => let ⟨k₁, h1, h2⟩ := harr.2 hr' (by rw [hx]; exact hk); ⟨k₁, h1, .head h0 stepR_scope h2⟩⟩
  | goto l => exact hq.elim
  | ret => exact ⟨_, a₁, w₁, hq, .of_steps (.one h0 stepR_scope) harr⟩
  | panic ch => exact ⟨_, a₁, w₁, hq, .of_steps (.one h0 stepR_scope) harr⟩
  | outgrown => exact ⟨_, a₁, w₁, hq, .of_steps (.one h0 stepR_scope) harr⟩
theorem kScN {X : Act → World → Prop} (h : Tr X (Q .normal)) : Tr X (Exit.noGo Q .normal) := h
theorem kScR {X : Act → World → Prop} (h : Tr X (Q .ret)) : Tr X (Exit.noGo Q .ret) := h
theorem kScX {X : Act → World → Prop} {id : Nat} (h : Tr X (Q (.exit id))) : Tr X (Exit.noGo Q (.exit id)) := h
theorem kScP {X : Act → World → Prop} {c : List PanicEntry} (h : Tr X (Q (.panic c))) : Tr X (Exit.noGo Q (.panic c)) := h

theorem fBoxA {d : Nat} {ty : TypeId} {pos : String} {af : Array Edge} {g : Option (Nat × Bool)} {T : TypeId} {x : Operand} {l : List Value} (hx : opd S x = some (.agg l.toArray)) :
    Tr (St N S D W M L) (opW P ro N ⟨some d, .box T x, ty, pos, af, g⟩ (fun a w => ∃ n, St N ((d, .pointer (some ⟨n, 0, none⟩)) :: S) D W M ((n, blk l T) :: L) a w) Q) :=
  eBoxA hx fun n => trTo (Y := fun n => St N ((d, .pointer (some ⟨n, 0, none⟩)) :: S) D W M ((n, blk l T) :: L)) n trSelf

variable {C : World → Prop}
theorem yvSame {o : Oper} {v u : Value} (h : YV P S C o v) (hv : v = u) : YV P S C o u := hv ▸ h
theorem yvTrue {o : Oper} {p : Prop} [Decidable p] (h : YV P S C o (.bool (decide p))) (hp : p) : YV P S C o (.bool true) := yvSame h (by rw [decide_eq_true hp])
theorem yvFalse {o : Oper} {p : Prop} [Decidable p] (h : YV P S C o (.bool (decide p))) (hp : ¬ p) : YV P S C o (.bool false) := yvSame h (by rw [decide_eq_false hp])
theorem yvIs {o : Oper} {b c : Bool} (h : YV P S C o (.bool b)) (hp : b = c) : YV P S C o (.bool c) := yvSame h (by rw [hp])
end
end ZW
namespace ZW
open Go

/-- Where a slice's cells begin. -/
def sblk (a : Option Addr) : Nat := (a.getD ⟨0, 0, none⟩).block
def soff (a : Option Addr) : Nat := (a.getD ⟨0, 0, none⟩).off

/-- In this world a slice holds these elements, each of sz cells. -/
structure SlE (w : World) (a : Option Addr) (n sz : Nat) (f : Nat → List Value) : Prop where
  len : ∀ i, i < n → (f i).length = sz
  at_ : 0 < n → a = some ⟨sblk a, soff a, none⟩
  cell : ∀ i j, i < n → j < sz → w.cell? ⟨sblk a, soff a + i * sz + j, none⟩ = (f i)[j]?

/-- In each world of the class it does. -/
def SlR (C : World → Prop) (a : Option Addr) (n sz : Nat) (f : Nat → List Value) : Prop := ∀ w, C w → SlE w a n sz f

theorem SlE.eff {W w : World} {M L : Heap} {a : Option Addr} {n sz : Nat} {f : Nat → List Value} (h : SlE W a n sz f) (hw : Eff W M L w) (hM : ∀ p ∈ M, p.1 ≠ sblk a) : SlE w a n sz f :=
  ⟨h.len, h.at_, fun i j hi hj => by
    have h1 := h.cell i j hi hj
    have hl := h.len i hi
    have hb : sblk a < W.heap.size := by
      rw [List.getElem?_eq_getElem (by omega)] at h1
      exact World.block_lt_of_cell? W ⟨sblk a, _, none⟩ h1
    rw [World.cell?_of_block (w := W) (a := ⟨sblk a, _, none⟩) (hw.frame _ hb hM)]
    exact h1⟩
theorem SlE.eff0 {W w : World} {L : Heap} {a : Option Addr} {n sz : Nat} {f : Nat → List Value} (h : SlE W a n sz f) (hw : Eff W [] L w) : SlE w a n sz f := h.eff hw (by simp)
theorem SlE.r {W : World} {M L : Heap} {a : Option Addr} {n sz : Nat} {f : Nat → List Value} (h : SlE W a n sz f) (hM : ∀ p ∈ M, p.1 ≠ sblk a := by simp) : SlR (Eff W M L) a n sz f := fun _ hw => h.eff hw hM
theorem SlE.nil {w : World} {a : Option Addr} {sz : Nat} {f : Nat → List Value} : SlE w a 0 sz f := ⟨fun _ h => by omega, fun h => by omega, fun _ _ h => by omega⟩

section
variable {P : Program} {ro : Option Nat} {Q : Exit → Act → World → Prop} {next : Act → World → Prop} {N : Nat} {S : Slots} {D : List Deferred} {W : World} {M L : Heap}
variable {C : World → Prop} {dst : Option Tmp} {d : Nat} {ty : TypeId} {pos : String} {af : Array Edge} {g : Option (Nat × Bool)}

/-- The address of an element. -/
theorem yIndexS {T e : TypeId} {x i : Operand} {a : Option Addr} {n c sz k : Nat} {kd : IntKind} {f : Nat → List Value} (hx : opd S x = some (.slice a n c)) (hi : opd S i = some (.int kd (k : Nat))) (h : slEl P T = some (e, sz))
    (hs : SlR C a n sz f) (hk : k < n) : YV P S C ⟨dst, .indexAddr T x i, ty, pos, af, g⟩ (.pointer (some ⟨sblk a, soff a + k * sz, none⟩)) :=
  .pureC fun ρ hkn w hC => by
    have ha := (hs w hC).at_ (by omega)
    have hx' := hkn x _ hx
    rw [ha] at hx'
    unfold slEl at h
    split at h
    · rename_i e' hu
      split at h
      · rename_i inf hi'
        cases h
        have h0 : (0 : Int) ≤ (k : Int) := by omega
        have h1 : ((k : Nat) : Int) < (n : Nat) := by omega
        simp only [execOp, hx', hkn i _ hi, Instr.indexAt, asIntOf, Sem.run_bind, run_underlying_of hu, Result.andThen_ok, Sem.run_pure, h0, h1, and_self, if_true, run_sizeOf_of hi', addr_add, Int.toNat_natCast]
      · cases h
    · cases h
/-- Some cells of an element. -/
theorem cSl {a : Option Addr} {n sz i k : Nat} {f : Nat → List Value} {vs : List Value} (h : SlR C a n sz f) (hi : i < n) (hs : sub (f i) k vs.length = some vs) : Cells C (sblk a) (soff a + i * sz + k) vs := by
  intro w hw j hj
  obtain ⟨_, h2⟩ := sub_spec _ _ _ _ hs
  have h3 := h2 j hj
  have hE := h w hw
  have hkj : k + j < sz := by
    have hl := hE.len i hi
    rw [List.getElem?_eq_getElem hj] at h3
    have := (List.getElem?_eq_some_iff.1 h3).1
    omega
  rw [show soff a + i * sz + k + j = soff a + i * sz + (k + j) from by omega, hE.cell i (k + j) hi hkj]
  exact h3
theorem cSl0 {a : Option Addr} {n sz i : Nat} {f : Nat → List Value} {vs : List Value} (h : SlR C a n sz f) (hi : i < n) (hs : sub (f i) 0 vs.length = some vs) : Cells C (sblk a) (soff a + i * sz) vs := cSl (k := 0) h hi hs

/-! ### Slices that the call owns -/
inductive Own
  | e (a : Option Addr)
  | b (n cap : Nat) (l : List Value)
def osA : Own → Option Addr
  | .e a => a
  | .b n _ _ => some ⟨n, 0, none⟩
def osC : Own → Nat
  | .e _ => 0
  | .b _ c _ => c
abbrev osV (g : Own) (len : Nat) : Value := .slice (osA g) len (osC g)
def osL (e : TypeId) : Own → Heap
  | .e _ => []
  | .b n _ l => [(n, blk l e)]
/-- An own slice holds these elements. -/
structure OS (sz : Nat) (g : Own) (es : List (List Value)) : Prop where
  len : ∀ x ∈ es, x.length = sz
  at_ : match g with
    | .e _ => es = []
    | .b _ c l => es.length ≤ c ∧ c ≤ maxLen ∧ l.length = c * sz ∧ l.take (es.length * sz) = es.flatten

theorem OS.empty {sz : Nat} {a : Option Addr} : OS sz (.e a) [] := ⟨by simp, rfl⟩
/-- A literal. -/
theorem OS.lit {sz n : Nat} {l : List Value} {es : List (List Value)} (h : ∀ x ∈ es, x.length = sz) (hl : l = es.flatten) (hm : es.length ≤ 9223372036854775807) : OS sz (.b n es.length l) es := by
  subst hl
  have : es.flatten.length = es.length * sz := by
    clear hm
    induction es with
    | nil => simp
    | cons x r ih => simp only [List.flatten_cons, List.length_append, h x (by simp), ih (fun y hy => h y (by simp [hy])), List.length_cons, Nat.add_mul]; omega
  refine ⟨h, Nat.le_refl _, by simpa [maxLen] using hm, this, ?_⟩
  rw [← this]; exact List.take_length
theorem flatten_length {sz : Nat} {es : List (List Value)} (h : ∀ x ∈ es, x.length = sz) : es.flatten.length = es.length * sz := by
  induction es with
  | nil => simp
  | cons x r ih => simp only [List.flatten_cons, List.length_append, h x (by simp), ih (fun y hy => h y (by simp [hy])), List.length_cons, Nat.add_mul]; omega
theorem flatten_at {sz : Nat} : ∀ (es : List (List Value)) (_ : ∀ x ∈ es, x.length = sz) (i j : Nat), i < es.length → j < sz → es.flatten[i * sz + j]? = (es.getD i [])[j]?
  | [], _, i, j, hi, _ => by simp at hi
  | x :: r, h, 0, j, _, hj => by
    have := h x (by simp)
    simp only [List.flatten_cons, Nat.zero_mul, Nat.zero_add, List.getD_cons_zero]
    rw [List.getElem?_append_left (by omega)]
  | x :: r, h, i + 1, j, hi, hj => by
    have hx := h x (by simp)
    have ih := flatten_at r (fun y hy => h y (by simp [hy])) i j (by simpa using hi) hj
    simp only [List.flatten_cons, List.getD_cons_succ]
    rw [List.getElem?_append_right (by rw [hx, Nat.add_mul]; omega), ← ih]
    congr 1
    rw [hx, Nat.add_mul]; omega

theorem OS.sle {sz : Nat} {g : Own} {es : List (List Value)} {e : TypeId} {w : World} (h : OS sz g es) (hw : ∀ p ∈ osL e g, w.heap[p.1]? = some p.2) : SlE w (osA g) es.length sz (fun i => es.getD i []) := by
  refine ⟨fun i hi => h.len _ ?_, fun hn => ?_, fun i j hi hj => ?_⟩
  · rw [← List.getElem_eq_getD (h := hi)]; exact List.getElem_mem hi
  · cases g with
    | e a => have := h.at_; simp only at this; subst this; simp at hn
    | b n c l => rfl
  · cases g with
    | e a => have := h.at_; simp only at this; subst this; simp at hi
    | b n c l =>
      obtain ⟨h1, h2, h3, h4⟩ := h.at_
      have hb := hw (n, blk l e) (by simp [osL])
      simp only [sblk, soff, osA, Option.getD_some, Nat.zero_add]
      rw [cell_blk hb]
      have hlt : i * sz + j < es.length * sz := by
        have : (i + 1) * sz ≤ es.length * sz := Nat.mul_le_mul_right _ hi
        rw [Nat.add_mul] at this; omega
      have := flatten_at es h.len i j hi hj
      rw [← h4, List.getElem?_take, if_pos hlt] at this
      exact this
theorem OS.r {sz : Nat} {g : Own} {es : List (List Value)} {e : TypeId} (h : OS sz g es) (hs : SubP (osL e g) L) : SlR (Eff W M L) (osA g) es.length sz (fun i => es.getD i []) := fun _ hw =>
  h.sle fun p hp => hw.own p (List.mem_append.2 (.inr (hs.mem p hp)))

/-- The cells of the elements that a slice value shows. -/
def SlN (C : World → Prop) (ao : Option Addr) (l : List Value) : Prop := ∀ w, C w → ∀ j u, l[j]? = some u → ∃ a, ao = some a ∧ w.cell? (a.add j) = some u
theorem SlN.nil {ao : Option Addr} : SlN C ao [] := fun _ _ j u h => by simp at h
/-- Of an own slice, whole, or a literal. -/
theorem SlN.own {n : Nat} {l vs : List Value} {e : TypeId} (i : Nat) (hi : (M ++ L)[i]? = some (n, blk l e)) (hl : l.take vs.length = vs) : SlN (Eff W M L) (some ⟨n, 0, none⟩) vs := fun w hw j u hj => by
  refine ⟨_, rfl, ?_⟩
  have h := hw.own _ (List.mem_of_getElem? hi)
  rw [addr_add, Nat.zero_add, cell_blk h]
  have hlt := (List.getElem?_eq_some_iff.1 hj).1
  rw [← hl, List.getElem?_take, if_pos hlt] at hj
  exact hj
theorem SlN.sl {a : Option Addr} {n sz : Nat} {f : Nat → List Value} (h : SlR C a n sz f) : SlN C a ((List.range n).map f).flatten := fun w hw j u hj => by
  have hE := h w hw
  have hlen : ∀ x ∈ (List.range n).map f, x.length = sz := by
    intro x hx
    obtain ⟨i, hi, rfl⟩ := List.mem_map.1 hx
    exact hE.len i (List.mem_range.1 hi)
  have hjl := (List.getElem?_eq_some_iff.1 hj).1
  rw [flatten_length hlen] at hjl
  simp only [List.length_map, List.length_range] at hjl
  have hsz : 0 < sz := by rcases Nat.eq_zero_or_pos sz with h | h; (· subst h; simp at hjl); exact h
  have hi : j / sz < n := by rw [Nat.div_lt_iff_lt_mul hsz]; exact hjl
  have hm : j % sz < sz := Nat.mod_lt _ hsz
  have hn : 0 < n := Nat.lt_of_le_of_lt (Nat.zero_le _) hi
  have hfl := flatten_at _ hlen (j / sz) (j % sz) (by simpa using hi) hm
  have hdm : j / sz * sz + j % sz = j := by rw [Nat.mul_comm]; exact Nat.div_add_mod j sz
  rw [hdm, hj] at hfl
  have hg : ((List.range n).map f).getD (j / sz) [] = f (j / sz) := by
    rw [← List.getElem_eq_getD (h := by simpa using hi)]; simp
  rw [hg] at hfl
  refine ⟨_, hE.at_ hn, ?_⟩
  rw [addr_add, show soff a + j = soff a + j / sz * sz + j % sz from by omega, hE.cell _ _ hi hm]
  exact hfl.symm

/-- A slice type for appends: the element's type, cells and bytes. -/
def appT (P : Program) (T : TypeId) : Option (TypeId × Nat × Nat) :=
  match P.underlying T with
  | some (.slice e) => match P.info? e with
    | some inf => match inf.zero with
      | some z => if z.cells.size = inf.size ∧ 0 < inf.size then some (e, inf.size, inf.bytes) else none
      | none => none
    | none => none
  | _ => none
theorem appT_spec {T e : TypeId} {sz by_ : Nat} (h : appT P T = some (e, sz, by_)) : ∃ inf z, P.underlying T = some (.slice e) ∧ P.info? e = some inf ∧ inf.zero = some z ∧ inf.size = sz ∧ inf.bytes = by_ ∧ z.cells.size = sz ∧ 0 < sz := by
  unfold appT at h
  split at h
  · rename_i e' hu
    split at h
    · rename_i inf hi
      split at h
      · rename_i z hz
        split at h
        · rename_i hc
          cases h
          exact ⟨inf, z, hu, hi, hz, rfl, rfl, hc.1, hc.2⟩
        · cases h
      · cases h
    · cases h
  · cases h

/-- What an append to an own slice comes to, in one world. -/
theorem run_append_os {T e ty : TypeId} {sz by_ : Nat} {W w : World} {M A : Heap} {gs : Own} {es news : List (List Value)} {ao : Option Addr} {m c : Nat} (hT : appT P T = some (e, sz, by_)) (hE : Eff W M (A ++ osL e gs) w) (hos : OS sz gs es)
    (hm : news.length = m) (hn : ∀ x ∈ news, x.length = sz) (hc : ∀ j u, news.flatten[j]? = some u → ∃ a, ao = some a ∧ w.cell? (a.add j) = some u) (hp : ∀ x ∈ news, ∀ u ∈ x, u.oneCell' = true)
    (hb : (es.length + m) * by_ ≤ 140737488355328) (h63 : es.length + m ≤ 9223372036854775807) :
    ∃ g' w', (Builtin.append_ #[T, T] ty #[osV gs es.length, .slice ao m c]).run P w = .ok (osV g' (es.length + m)) w' ∧ OS sz g' (es ++ news) ∧ Eff W M (A ++ osL e g') w' := by
  obtain ⟨inf, z, hu, hi, hz, hsz, hby, hzc, hpos⟩ := appT_spec hT
  have h63' : es.length + m ≤ maxLen := by simpa [maxLen] using h63
  have hfl : news.flatten.length = m * sz := by rw [flatten_length hn, hm]
  have hlen' : ∀ x ∈ es ++ news, x.length = sz := fun x hx => by rcases List.mem_append.1 hx with h | h; (· exact hos.len x h); exact hn x h
  by_cases hm0 : m = 0
  · -- nothing to append
    subst hm0
    have hnil : news = [] := List.eq_nil_of_length_eq_zero hm
    subst hnil
    refine ⟨gs, w, ?_, by simpa using hos, hE⟩
    have hroom : es.length + 0 ≤ osC gs := by
      cases gs with
      | e a => have := hos.at_; simp only at this; subst this; simp
      | b n c l => exact hos.at_.1
    have hf : (Builtin.firstCells inf.size 0 (.slice ao 0 c)).run P w = .ok #[] w := by
      cases ao with
      | none => simp [Builtin.firstCells, Sem.run_pure]
      | some a => simp [Builtin.firstCells, loadCells, loadCellsFrom, Sem.run_pure]
    simp only [Nat.add_zero] at hroom ⊢
    cases hg : osA gs with
    | none => simp [Builtin.append_, run_underlying hu, Go.sizeOf, typeInfo, hi, Builtin.lenOf, hroom, hf, hg]
    | some a => simp [Builtin.append_, run_underlying hu, Go.sizeOf, typeInfo, hi, Builtin.lenOf, hroom, hf, hg, storeCells]
  · -- something
    have hfpos : 0 < news.flatten.length := by rw [hfl]; exact Nat.mul_pos (by omega) hpos
    obtain ⟨ad, rfl, _⟩ := hc 0 _ (List.getElem?_eq_getElem hfpos)
    have hnews : ∀ j u, news.flatten[j]? = some u → w.cell? (ad.add j) = some u := fun j u hj => by
      obtain ⟨a, ha, h⟩ := hc j u hj
      cases ha
      exact h
    have h1 : ∀ u ∈ news.flatten, u.oneCell' = true := fun u hu => by
      obtain ⟨x, hx, hux⟩ := List.mem_flatten.1 hu
      exact hp x hx u hux
    -- what comes of a grown row
    have fin : ∀ (v' : Value) (w' : World), (Builtin.append_ #[T, T] ty #[osV gs es.length, .slice (some ad) m c]).run P w = .ok v' w' → w'.ownsRow w.heap.size e sz v' (es.length + m) (es.flatten ++ news.flatten) → w.grownBy w' none →
        ∃ g' w', (Builtin.append_ #[T, T] ty #[osV gs es.length, .slice (some ad) m c]).run P w = .ok (osV g' (es.length + m)) w' ∧ OS sz g' (es ++ news) ∧ Eff W M (A ++ osL e g') w' := by
      intro v' w' hr hrow hgr
      rcases hrow.2 with ⟨_, h0⟩ | ⟨n, cap, cur, rfl, hbn, hcur, hle, hmax, hcs, htk⟩
      · omega
      · have hsub : Eff W M A w := hE.sub (by
          cases gs with
          | e a => rw [show osL e (.e a) = [] from rfl, List.append_nil]; exact .r
          | b n c l =>
            rw [show osL e (.b n c l) = [(n, blk l e)] from rfl]
            refine .d A.length ?_
            rw [List.eraseIdx_append_of_length_le (Nat.le_refl _)]
            simpa using .r)
        have hnl : n < w'.heap.size := by rw [Array.getElem?_eq_some_iff] at hcur; exact hcur.1
        have hold : ∀ k, k < w.heap.size → w'.heap[k]? = w.heap[k]? := fun k hk => hgr.block k hk (by simp)
        refine ⟨.b n cap cur.toList, w', hr, ⟨hlen', by rw [List.length_append, hm]; exact hle, hmax, by simpa using hcs, ?_⟩, ?_⟩
        · rw [List.length_append, hm, List.flatten_append]; exact htk
        · refine ⟨hgr.os.trans hsub.os, hgr.tape.trans hsub.tape, hgr.output.trans hsub.output, Nat.le_trans hsub.size hgr.size, fun k hk hM => ?_, fun p hp => ?_, fun p hp => ?_, hsub.old, ?_⟩
          · rw [hold k (Nat.lt_of_lt_of_le hk hsub.size)]; exact hsub.frame k hk hM
          · simp only [osL, List.mem_append, List.mem_singleton] at hp
            rcases hp with hp | hp | rfl
            · rw [hold _ (hsub.lt (by simp [hp]))]; exact hsub.own p (by simp [hp])
            · rw [hold _ (hsub.lt (by simp [hp]))]; exact hsub.own p (by simp [hp])
            · simpa using hcur
          · simp only [osL, List.mem_append, List.mem_singleton] at hp
            rcases hp with hp | rfl
            · exact hsub.new p hp
            · exact Nat.le_trans hsub.size hbn
          · have hnd := hsub.nd
            rw [← List.append_assoc, List.map_append, List.nodup_append]
            refine ⟨hnd, by simp [osL], fun a ha b hb => ?_⟩
            simp only [osL, List.map_cons, List.map_nil, List.mem_singleton] at hb
            subst hb
            obtain ⟨q, hq, rfl⟩ := List.mem_map.1 ha
            have := hsub.lt hq
            omega
    cases gs with
    | e a =>
      have h0 := hos.at_
      simp only at h0
      subst h0
      cases a with
      | none =>
        obtain ⟨v', w', hr, hrow, hgr, _⟩ := run_append_own (P := P) w w.heap.size T ty e inf z sz by_ hu hi hz hsz hby hzc hpos (.slice none 0 0) 0 [] (World.ownsRow_nil w _ e sz) ad m c news.flatten hfl hnews h1 (by simpa using h63') (by simpa using hb) (Nat.le_refl _)
        exact fin v' w' hr (by simpa using hrow) hgr
      | some a =>
        obtain ⟨v', w', hr, hrow, hgr⟩ := run_append_arg_grows (P := P) w T ty e inf z sz by_ hu hi hz hsz hby hzc hpos a 0 0 [] (by simp) (by simp) ad m c news.flatten hfl hnews (by omega) (by simpa using h63') (by simpa using hb)
        exact fin v' w' hr (by simpa using hrow) hgr
    | b n cap l =>
      obtain ⟨h1c, h2c, h3c, h4c⟩ := hos.at_
      have hblk : w.heap[n]? = some (blk l e) := hE.own (n, blk l e) (by simp [osL])
      by_cases hroom : es.length + m ≤ cap
      · have hfit : es.length * sz + news.flatten.length ≤ l.toArray.size := by
          rw [hfl, List.size_toArray, h3c, ← Nat.add_mul]; exact Nat.mul_le_mul_right _ hroom
        subst hsz
        have hr := run_append_room (P := P) w T ty e inf hu hi n es.length cap l.toArray hblk ad m c news.flatten hfl hnews h1 hroom hfit
        refine ⟨.b n cap (l.take (es.length * inf.size) ++ news.flatten ++ l.drop (es.length * inf.size + news.flatten.length)), _, hr, ⟨hlen', by rw [List.length_append, hm]; exact hroom, h2c, ?_, ?_⟩, ?_⟩
        · simp only [List.length_append, List.length_take, List.length_drop]
          simp only [List.size_toArray] at hfit
          omega
        · have : (es ++ news).length * inf.size = (es.flatten ++ news.flatten).length := by
            rw [← List.flatten_append, flatten_length hlen']
          rw [this, h4c, List.flatten_append]
          exact List.take_left
        · have hi' : (A ++ osL e (.b n cap l))[A.length]? = some (n, blk l e) := by rw [List.getElem?_append_right (Nat.le_refl _)]; simp [osL]
          have hset := setRow_heap w n l.toArray (l.take (es.length * inf.size) ++ news.flatten ++ l.drop (es.length * inf.size + news.flatten.length)).toArray e (0, 0) hblk
          have hupd := hE.updL (w' := w.setRow n (l.take (es.length * inf.size) ++ news.flatten ++ l.drop (es.length * inf.size + news.flatten.length)).toArray) (i := A.length) hi' hset (fun k hk => setRow_other w n k _ hk) (by simp [World.setRow]) rfl rfl rfl
          have hu : ∀ (A : Heap) (o : Obj), upd (A ++ osL e (.b n cap l)) A.length o = A ++ [(n, o)] := by
            intro A o
            induction A with
            | nil => simp [osL, upd]
            | cons p A ih => simp [upd, ih]
          rw [hu] at hupd
          exact hupd
      · have holds : ∀ j u, es.flatten[j]? = some u → w.cell? ((⟨n, 0, none⟩ : Addr).add j) = some u := fun j u hj => by
          rw [addr_add, Nat.zero_add, cell_blk hblk]
          have hlt := (List.getElem?_eq_some_iff.1 hj).1
          rw [flatten_length hos.len] at hlt
          rw [← h4c, List.getElem?_take, if_pos hlt] at hj
          exact hj
        obtain ⟨v', w', hr, hrow, hgr⟩ := run_append_arg_grows (P := P) w T ty e inf z sz by_ hu hi hz hsz hby hzc hpos ⟨n, 0, none⟩ es.length cap es.flatten (flatten_length hos.len) holds ad m c news.flatten hfl hnews (by omega) h63' hb
        exact fin v' w' hr hrow hgr

/-- append to an own slice. -/
theorem eAppend {T e : TypeId} {sz by_ : Nat} {x y : Operand} {gs : Own} (A : Heap) {es : List (List Value)} (news : List (List Value)) {ao : Option Addr} {m c : Nat} (hT : appT P T = some (e, sz, by_)) (hx : opd S x = some (osV gs es.length)) (hy : opd S y = some (.slice ao m c)) (hL : SubP (A ++ osL e gs) L) (hos : OS sz gs es)
    (hm : news.length = m) (hn : ∀ x ∈ news, x.length = sz) (hc : SlN (Eff W M L) ao news.flatten) (hp : ∀ x ∈ news, ∀ u ∈ x, u.oneCell' = true) (hb : (es.length + m) * by_ ≤ 140737488355328) (h63 : es.length + m ≤ 9223372036854775807)
    (k : ∀ g', OS sz g' (es ++ news) → Tr (St N ((d, osV g' (es ++ news).length) :: S) D W M (A ++ osL e g')) next) :
    Tr (St N S D W M L) (opW P ro N ⟨some d, .call ⟨.builtin .append, #[x, y], #[T, T]⟩, ty, pos, af, g⟩ next Q) := fun a w hs hN => by
  obtain ⟨g', w', hr, ho, hE⟩ := run_append_os (P := P) (ty := ty) (c := c) hT (hs.ef.sub hL) hos hm hn (fun j u hj => hc w hs.ef j u hj) hp hb h63
  have hlen : (es ++ news).length = es.length + m := by rw [List.length_append, hm]
  refine opW_value (w' := w') (v := osV g' (es ++ news).length) rfl ?_ (k g' ho _ _ ((hs.put (hN d rfl) _).eff hE)) hN
  · rw [hlen]
    simp [execOp, resolve, hs.knows x _ hx, hs.knows y _ hy, invoke, builtin, hr]
/-- The same, in a region that draws. -/
theorem fAppend {T e : TypeId} {sz by_ : Nat} {x y : Operand} {gs : Own} (A : Heap) {es : List (List Value)} (news : List (List Value)) {ao : Option Addr} {m c : Nat} (hT : appT P T = some (e, sz, by_)) (hx : opd S x = some (osV gs es.length)) (hy : opd S y = some (.slice ao m c)) (hL : SubP (A ++ osL e gs) L) (hos : OS sz gs es)
    (hm : news.length = m) (hn : ∀ x ∈ news, x.length = sz) (hc : SlN (Eff W M L) ao news.flatten) (hp : ∀ x ∈ news, ∀ u ∈ x, u.oneCell' = true) (hb : (es.length + m) * by_ ≤ 140737488355328) (h63 : es.length + m ≤ 9223372036854775807) :
    Tr (St N S D W M L) (opW P ro N ⟨some d, .call ⟨.builtin .append, #[x, y], #[T, T]⟩, ty, pos, af, g⟩ (fun a w => ∃ g' : {g' // OS sz g' (es ++ news)}, St N ((d, osV g'.1 (es ++ news).length) :: S) D W M (A ++ osL e g'.1) a w) Q) :=
  eAppend A news hT hx hy hL hos hm hn hc hp hb h63 fun g' h => trTo (Y := fun g' : {g' // OS sz g' (es ++ news)} => St N ((d, osV g'.1 (es ++ news).length) :: S) D W M (A ++ osL e g'.1)) ⟨g', h⟩ trSelf
end
end ZW
namespace ZW
open Go

theorem callsDIn_wide_of_wpS {P : Program} {f : FuncId} {fn : Func} {c : Code} {args : Array Value} {u : FrameMode} {w : World} {R : Ending → FrameMode → World → Prop}
    (hf : P.funcs[f]? = some fn) (hb : fn.body = some c)
    (h : ∀ (c₀ : Frame) (cs : List Frame), c₀.mode = u →
      c.wpS P (bodyPostS P fn c₀ cs R) { tmps := args ++ Array.replicate (fn.ntmps - args.size) undef, defers := [] } (c₀ :: cs) w) :
    CallsDIn (FW none) 0 P f args u w R := by
  refine ⟨trivial, fun c₀ cs hu _ => ?_⟩
  let b : Frame := { (default : Frame) with fn := f, kind := .deferred }
  have henter : Frame.enter P f args .deferred =
      b.at { tmps := args ++ Array.replicate (fn.ntmps - args.size) undef, defers := [] } [.code c] := by
    simp [Frame.enter, Frame.at, hf, hb, b]
  obtain ⟨e, a', cs', w', hq, harr⟩ := h c₀ cs hu b [] rfl rfl
  rw [← henter] at harr
  cases e with
  | normal =>
    obtain ⟨hd, u', rfl, v, hr, hR⟩ := hq
    exact ⟨.returned v, u', w', _, hR, comesIn_wide.2 (Steps.trans harr (.one step_end)), rfl, rfl, rfl, hd, fn, hf, hr⟩
  | ret =>
    obtain ⟨hd, u', rfl, v, hr, hR⟩ := hq
    obtain ⟨todo, hs⟩ := harr
    exact ⟨.returned v, u', w', _, hR, comesIn_wide.2 hs, rfl, rfl, rfl, hd, fn, hf, hr⟩
  | panic chain =>
    obtain ⟨hd, u', rfl, hR⟩ := hq
    obtain ⟨todo, hs⟩ := harr
    exact ⟨.panicked chain, u', w', _, hR, comesIn_wide.2 hs, rfl, rfl, rfl, hd, fn, hf⟩
  | exit id => exact hq.elim
  | goto l => exact hq.elim
  | outgrown =>
    obtain ⟨u', hR⟩ := hq
    exact ⟨.outgrown, u', w', b, hR, comesIn_wide.2 (harr.resolve_left (by simp [b])), rfl, rfl, trivial⟩

section
variable {P : Program}

/-- The closure 'func() { g(recover(), p) }', entered as a deferred call. -/
theorem catchD {f g : FuncId} {fn : Func} {id : Nat} {T1 T2 : TypeId} {p1 p2 : String} {af1 af2 : Array Edge} {tys : Array TypeId} {v0 : Value} {w : World} {u u' : FrameMode} {x : Value} {X : World → Prop}
    (hf : P.funcs[f]? = some fn)
    (hb : fn.body = some (.region id #[⟨some 1, .call ⟨.builtin .recover, #[], #[]⟩, T1, p1, af1, none⟩, ⟨some 2, .call ⟨.value (.func g), #[.tmp 1, .tmp 0], tys⟩, T2, p2, af2, none⟩] false))
    (hn : fn.ntmps = 3) (hr : fn.results = #[]) (hg : callT P g = true)
    (hrec : ∀ (c₀ : Frame) (cs : List Frame), c₀.mode = u → (match recoverD (c₀ :: cs) with | some (v, cs') => v = x ∧ cs' = { c₀ with mode := u' } :: cs | none => x = .nilIface ∧ u' = u))
    (hc : Calls P g #[x, v0] w (fun e w' => (∃ v, e = .returned v) ∧ X w')) :
    CallsDIn (FW none) 0 P f #[v0] u w (fun e m w' => (∃ v, e = .returned v) ∧ m = u' ∧ X w') := by
  refine callsDIn_wide_of_wpS hf hb fun c₀ cs hu => wpS_region ?_
  have h1 : ∀ ρ : Operand → Value, (execOp ρ ⟨some 1, .call ⟨.builtin .recover, #[], #[]⟩, T1, p1, af1, none⟩).run P w = .ok .recover w := fun ρ => by
    simp [execOp, resolve, invoke, builtin, Sem.run_pure]
  have hz : (List.range 2) = [0, 1] := rfl
  have hrc := hrec c₀ cs hu
  have key : ∀ cs', cs' = { c₀ with mode := u' } :: cs → wpOpsS P #[⟨some 1, .call ⟨.builtin .recover, #[], #[]⟩, T1, p1, af1, none⟩, ⟨some 2, .call ⟨.value (.func g), #[.tmp 1, .tmp 0], tys⟩, T2, p2, af2, none⟩]
      (bodyPostS P fn c₀ cs (fun e m w' => (∃ v, e = .returned v) ∧ m = u' ∧ X w')) [1] (({ tmps := #[v0, undef, undef], defers := [] } : Act).put (some 1) x) cs' w := by
    intro cs' hcs
    have hev : ((({ tmps := #[v0, undef, undef], defers := [] } : Act).put (some 1) x).eval) (.tmp 1) = x ∧ ((({ tmps := #[v0, undef, undef], defers := [] } : Act).put (some 1) x).eval) (.tmp 0) = v0 := by
      simp [Act.eval, Act.put]
    have h2 : (execOp (({ tmps := #[v0, undef, undef], defers := [] } : Act).put (some 1) x).eval ⟨some 2, .call ⟨.value (.func g), #[.tmp 1, .tmp 0], tys⟩, T2, p2, af2, none⟩).run P w = .ok (.enter g #[x, v0]) w := by
      have := run_callFunc hg #[x, v0] w
      have h3 : ((({ tmps := #[v0, undef, undef], defers := [] } : Act).put (some 1) x).eval) (.func g) = .func (.func g) #[] #[] := rfl
      simp only [execOp, resolve, List.map_toArray, List.map_cons, List.map_nil, hev.1, hev.2, h3, Deferred.ofValue, Sem.run_bind, Sem.run_pure, Result.andThen_ok, invoke]
      simpa using this
    simp only [wpOpsS, List.getElem?_toArray, List.getElem?_cons_succ, List.getElem?_cons_zero, Region.wanted, if_true, h2, Oper.upon]
    refine hc.mono ?_
    rintro e w' ⟨⟨v, rfl⟩, hX⟩
    subst hcs
    refine ⟨by simp [Act.put], u', rfl, .tuple #[], ?_, ⟨_, rfl⟩, rfl, hX⟩
    simp [results, hr, Sem.run_pure]
  rw [show (#[(⟨some 1, .call ⟨.builtin .recover, #[], #[]⟩, T1, p1, af1, none⟩ : Oper), ⟨some 2, .call ⟨.value (.func g), #[.tmp 1, .tmp 0], tys⟩, T2, p2, af2, none⟩] : Array Oper).size = 2 from rfl, hz]
  have ht : (#[v0] ++ Array.replicate (fn.ntmps - #[v0].size) undef : Array Value) = #[v0, undef, undef] := by rw [hn]; rfl
  rw [ht, wpOpsS]
  simp only [List.getElem?_toArray, List.getElem?_cons_zero, Region.wanted, if_true, h1]
  cases hd : recoverD (c₀ :: cs) with
  | none =>
    simp only [hd] at hrc
    obtain ⟨rfl, rfl⟩ := hrc
    refine key _ ?_
    cases c₀; subst hu; rfl
  | some r =>
    obtain ⟨v, cs'⟩ := r
    simp only [hd] at hrc
    obtain ⟨rfl, rfl⟩ := hrc
    exact key _ rfl

variable {N : Nat} {S : Slots} {W : World} {M L : Heap}

/-- Blocks that were known are written by a call. -/
theorem Eff.merge {w w' : World} {M1 L1 : Heap} (M' L' : Heap) (h : Eff W M L w) (h' : Eff w M1 L1 w') (hM : M'.map (·.1) = M.map (·.1)) (hL : L'.map (·.1) = L.map (·.1))
    (hs : ∀ p ∈ M' ++ L', p ∈ M1 ∨ (p ∈ M ++ L ∧ ∀ q ∈ M1, q.1 ≠ p.1)) (h1 : ∀ q ∈ M1, q.1 ∈ (M ++ L).map (·.1)) : Eff W M' (L1 ++ L') w' := by
  have hkM : ∀ p ∈ M', p.1 ∈ M.map (·.1) := fun p hp => by rw [← hM]; exact List.mem_map.2 ⟨p, hp, rfl⟩
  have hkL : ∀ p ∈ L', p.1 ∈ L.map (·.1) := fun p hp => by rw [← hL]; exact List.mem_map.2 ⟨p, hp, rfl⟩
  have hown : ∀ p ∈ M' ++ L', w'.heap[p.1]? = some p.2 := fun p hp => by
    rcases hs p hp with h2 | ⟨h2, h3⟩
    · exact h'.own p (by simp [h2])
    · rw [h'.frame _ (h.lt h2) h3]; exact h.own p h2
  refine ⟨h'.os.trans h.os, h'.tape.trans h.tape, h'.output.trans h.output, Nat.le_trans h.size h'.size, fun k hk hkM' => ?_, fun p hp => ?_, fun p hp => ?_, fun p hp => ?_, ?_⟩
  · have hnM : ∀ p ∈ M, p.1 ≠ k := fun p hp e => by
      have : p.1 ∈ M'.map (·.1) := by rw [hM]; exact List.mem_map.2 ⟨p, hp, rfl⟩
      obtain ⟨q, hq, hqe⟩ := List.mem_map.1 this
      exact hkM' q hq (hqe.trans e)
    have hn1 : ∀ q ∈ M1, q.1 ≠ k := fun q hq e => by
      obtain ⟨p, hp, hpe⟩ := List.mem_map.1 (h1 q hq)
      rcases List.mem_append.1 hp with hp | hp
      · exact hnM p hp (hpe.trans e)
      · have := h.new p hp; omega
    rw [h'.frame k (Nat.lt_of_lt_of_le hk h.size) hn1]
    exact h.frame k hk hnM
  · rcases List.mem_append.1 hp with hp | hp
    · exact hown p (by simp [hp])
    · rcases List.mem_append.1 hp with hp | hp
      · exact h'.own p (by simp [hp])
      · exact hown p (by simp [hp])
  · rcases List.mem_append.1 hp with hp | hp
    · exact Nat.le_trans h.size (h'.new p hp)
    · obtain ⟨q, hq, hqe⟩ := List.mem_map.1 (hkL p hp)
      rw [← hqe]; exact h.new q hq
  · obtain ⟨q, hq, hqe⟩ := List.mem_map.1 (hkM p hp)
    rw [← hqe]; exact h.old q hq
  · have hnd := h.nd
    have hnd' := h'.nd
    simp only [List.map_append, List.nodup_append, List.mem_append, hM, hL] at hnd hnd' ⊢
    have hd : ∀ a ∈ L1.map (·.1), ∀ b ∈ (M ++ L).map (·.1), a ≠ b := by
      intro a ha b hb e
      obtain ⟨p, hp, rfl⟩ := List.mem_map.1 ha
      obtain ⟨q, hq, rfl⟩ := List.mem_map.1 hb
      have hx := h'.new p hp
      have hy := h.lt hq
      omega
    refine ⟨hnd.1, ⟨hnd'.2.1, hnd.2.1, fun a ha b hb => hd a ha b (by simp only [List.map_append, List.mem_append]; exact .inr hb)⟩, ?_⟩
    intro a ha b hb
    rcases hb with hb | hb
    · exact fun e => hd b hb a (by simp only [List.map_append, List.mem_append]; exact .inl ha) e.symm
    · exact hnd.2.2 a ha b hb

theorem upd_mem' {H : Heap} {i b : Nat} {x o : Obj} (hi : H[i]? = some (b, x)) (hn : (H.map (·.1)).Nodup) : ∀ p ∈ upd H i o, p = (b, o) ∨ (p ∈ H ∧ p.1 ≠ b) := fun p hp => by
  rcases upd_mem H i o b x hi hn p hp with ⟨h1, h2⟩ | h
  · exact .inl (Prod.ext h1 h2)
  · exact .inr h

/-- One of the new blocks. -/
theorem Eff.wroteL {w w' : World} {i b : Nat} {x o : Obj} {L1 : Heap} (h : Eff W M L w) (hi : L[i]? = some (b, x)) (h' : Eff w [(b, o)] L1 w') : Eff W M (L1 ++ upd L i o) w' := by
  have hnd := h.nd
  rw [List.map_append, List.nodup_append] at hnd
  have hb := List.mem_of_getElem? hi
  refine h.merge M (upd L i o) h' rfl (upd_keys _ _ _) (fun p hp => ?_) (fun q hq => ?_)
  · rcases List.mem_append.1 hp with hp | hp
    · refine .inr ⟨by simp [hp], fun q hq => ?_⟩
      simp only [List.mem_singleton] at hq
      subst hq
      exact fun e => hnd.2.2 p.1 (List.mem_map.2 ⟨p, hp, rfl⟩) b (List.mem_map.2 ⟨_, hb, rfl⟩) e.symm
    · rcases upd_mem' hi hnd.2.1 p hp with rfl | ⟨h2, h3⟩
      · exact .inl (by simp)
      · refine .inr ⟨by simp [h2], fun q hq => ?_⟩
        simp only [List.mem_singleton] at hq
        subst hq
        exact Ne.symm h3
  · simp only [List.mem_singleton] at hq
    subst hq
    exact List.mem_map.2 ⟨_, List.mem_append.2 (.inr hb), rfl⟩
/-- One of the blocks that were there. -/
theorem Eff.wroteM {w w' : World} {i b : Nat} {x o : Obj} {L1 : Heap} (h : Eff W M L w) (hi : M[i]? = some (b, x)) (h' : Eff w [(b, o)] L1 w') : Eff W (upd M i o) (L1 ++ L) w' := by
  have hnd := h.nd
  rw [List.map_append, List.nodup_append] at hnd
  have hb := List.mem_of_getElem? hi
  refine h.merge (upd M i o) L h' (upd_keys _ _ _) rfl (fun p hp => ?_) (fun q hq => ?_)
  · rcases List.mem_append.1 hp with hp | hp
    · rcases upd_mem' hi hnd.1 p hp with rfl | ⟨h2, h3⟩
      · exact .inl (by simp)
      · refine .inr ⟨by simp [h2], fun q hq => ?_⟩
        simp only [List.mem_singleton] at hq
        subst hq
        exact Ne.symm h3
    · refine .inr ⟨by simp [hp], fun q hq => ?_⟩
      simp only [List.mem_singleton] at hq
      subst hq
      exact fun e => hnd.2.2 b (List.mem_map.2 ⟨_, hb, rfl⟩) p.1 (List.mem_map.2 ⟨p, hp, rfl⟩) e
  · simp only [List.mem_singleton] at hq
    subst hq
    exact List.mem_map.2 ⟨_, List.mem_append.2 (.inl hb), rfl⟩

abbrev dfr (f : FuncId) (p : Value) : Deferred := { target := .fn (.func f) [p].toArray, args := [].toArray }

theorem leavesIn_dfr {fn : Func} {tmps : Array Value} {R : Ending → World → Prop} {f : FuncId} {p : Value} {ds : List Deferred} {u : FrameMode} {w : World} (hu : u ≠ .run) (hg : callT P f = true)
    (h : CallsDIn (FW none) 0 P f #[p] u w fun
          | .returned _, u', w' => LeavesInM (FW none) 0 P fn tmps R ds (settle u') w'
          | .panicked chain, u', w' => LeavesInM (FW none) 0 P fn tmps R ds (raised u' chain) w'
          | .outgrown, _, w' => R .outgrown w') : LeavesInM (FW none) 0 P fn tmps R (dfr f p :: ds) u w :=
  ⟨hu, .inr ⟨fun h => by simp at h, .func f, #[p], f, #[p], rfl, by simpa [invoke] using run_callFunc hg #[p] w, fun _ _ => trivial, h⟩⟩

/-- The end of a function that has deferred such a closure, by return. -/
theorem fRetD {fn : Func} {rs : List ResultVar} {vs : List Value} {R : Ending → World → Prop} {f : FuncId} {p : Value} (hg : callT P f = true) (hr : fn.results = rs.toArray) (h : ResV P S (Eff W M L) rs vs)
    (hd : ∀ w, Eff W M L w → CallsDIn (FW none) 0 P f #[p] .returning w (fun e u' w' => (∃ v, e = .returned v) ∧ u' = .returning ∧ Eff w [] [] w'))
    (k : ∀ w, Eff W M L w → R (.returned (packV vs)) w) : Tr (St N S [dfr f p] W M L) (bodyPostM (FW none) 0 P fn R .ret) := fun a w hs => by
  show LeavesInM (FW none) 0 P fn a.tmps R a.defers .returning w
  rw [hs.df]
  refine leavesIn_dfr (by simp) hg ((hd w hs.ef).mono ?_)
  rintro e u' w' ⟨⟨v, rfl⟩, rfl, hE⟩
  have hE' : Eff W M L w' := by simpa using hs.ef.trans hE
  exact ⟨_, run_results hr h hE' hs.sl, k w' hE'⟩
theorem fEndD {fn : Func} {rs : List ResultVar} {vs : List Value} {R : Ending → World → Prop} {f : FuncId} {p : Value} (hg : callT P f = true) (hr : fn.results = rs.toArray) (h : ResV P S (Eff W M L) rs vs)
    (hd : ∀ w, Eff W M L w → CallsDIn (FW none) 0 P f #[p] .returning w (fun e u' w' => (∃ v, e = .returned v) ∧ u' = .returning ∧ Eff w [] [] w'))
    (k : ∀ w, Eff W M L w → R (.returned (packV vs)) w) : Tr (St N S [dfr f p] W M L) (bodyPostM (FW none) 0 P fn R .normal) := fRetD hg hr h hd k
/-- By a panic that the closure recovers. -/
theorem fPanD {fn : Func} {rs : List ResultVar} {vs : List Value} {R : Ending → World → Prop} {f : FuncId} {p pv : Value} {L' : Heap} (hg : callT P f = true) (hr : fn.results = rs.toArray) (h : ResV P S (Eff W M L') rs vs)
    (hd : ∀ w, Eff W M L w → CallsDIn (FW none) 0 P f #[p] (.panicking [{ v := pv, recovered := false }]) w (fun e u' w' => (∃ v, e = .returned v) ∧ u' = .panicking [{ v := pv, recovered := true }] ∧ Eff W M L' w'))
    (k : ∀ w, Eff W M L' w → R (.returned (packV vs)) w) : Tr (St N S [dfr f p] W M L) (bodyPostM (FW none) 0 P fn R (.panic [{ v := pv, recovered := false }])) := fun a w hs => by
  show LeavesInM (FW none) 0 P fn a.tmps R a.defers (.panicking _) w
  rw [hs.df]
  refine leavesIn_dfr (by simp) hg ((hd w hs.ef).mono ?_)
  rintro e u' w' ⟨⟨v, rfl⟩, rfl, hE⟩
  exact ⟨_, run_results hr h hE hs.sl, k w' hE⟩

theorem recover_idle (c₀ : Frame) (cs : List Frame) (h : c₀.mode = .returning) : match recoverD (c₀ :: cs) with | some (v, cs') => v = Value.nilIface ∧ cs' = { c₀ with mode := .returning } :: cs | none => Value.nilIface = .nilIface ∧ FrameMode.returning = .returning := by
  simp [recoverD, h]
theorem recover_some (pv : Value) (c₀ : Frame) (cs : List Frame) (h : c₀.mode = .panicking [{ v := pv, recovered := false }]) :
    match recoverD (c₀ :: cs) with | some (v, cs') => v = pv ∧ cs' = { c₀ with mode := .panicking [{ v := pv, recovered := true }] } :: cs | none => pv = .nilIface ∧ FrameMode.panicking [{ v := pv, recovered := true }] = .panicking [{ v := pv, recovered := false }] := by
  simp [recoverD, h]
end
end ZW
namespace ZW
open Go

section
variable {P : Program}

theorem run_part_one {T : TypeId} {cs : Array Value} {o : Nat} {v : Value} (hT : oneT P T = true) (h : cs[o]? = some v) (w : World) : (part T cs o).run P w = .ok v w := by
  simp only [part, Sem.run_bind, isAgg_one hT, Result.andThen_ok, Bool.false_eq_true, if_false, h, Sem.run_pure]
theorem run_part_agg {T : TypeId} {cs : Array Value} {o k : Nat} (hT : aggT P T = some k) (w : World) : (part T cs o).run P w = .ok (.agg (cs.extract o (o + k))) w := by
  obtain ⟨inf, hi, hs, ha⟩ := aggT_spec hT
  simp only [part, Sem.run_bind, ha, Result.andThen_ok, if_true, run_sizeOf_of hi, hs, Sem.run_pure]

/-- The fields of a struct type, if its equality is that of all its fields. -/
def eqFs (P : Program) (T : TypeId) : Option (List (TypeId × Nat)) :=
  match P.underlying T with
  | some (.struct fs) => if P.stoodInHeld T = false ∧ fs.toList.all (fun f => f.name != "_") = true then some (fs.toList.map fun f => (f.type, f.offset)) else none
  | _ => none

/-- The comparison of some fields. -/
def eqAll (d : Nat) (xs ys : Array Value) : List (TypeId × Nat) → Sem Bool
  | [] => pure true
  | (t, o) :: r => do
    let a ← part t xs o
    let b ← part t ys o
    let q ← Op.equalIn d t a b
    if (!q) = true then pure false else eqAll d xs ys r

theorem run_equalIn_fs {T : TypeId} {l : List (TypeId × Nat)} (h : eqFs P T = some l) (d : Nat) (xs ys : Array Value) (w : World) : (Op.equalIn (d + 1) T (.agg xs) (.agg ys)).run P w = (eqAll d xs ys l).run P w := by
  unfold eqFs at h
  split at h
  · rename_i fs hu
    split at h
    · rename_i hc
      cases h
      obtain ⟨hst, hn⟩ := hc
      have hf : P.fieldsOf T = fs := by simp [Program.fieldsOf, hu]
      rw [run_equalIn_struct w d T xs ys (by rw [hf]; exact hu) hst, hf]
      generalize fs.toList = l at hn
      clear hf hu
      induction l generalizing w with
      | nil => simp [Op.eqFields, eqAll]
      | cons f r ih =>
        simp only [List.all_cons, Bool.and_eq_true] at hn
        have h1 : f.name ≠ "_" := by simpa using hn.1
        simp only [Op.eqFields, if_pos h1, List.map_cons, eqAll, Sem.run_bind]
        generalize (part f.type xs f.offset).run P w = r1
        cases r1 with
        | ok a w1 =>
          simp only [Result.andThen_ok]
          generalize (part f.type ys f.offset).run P w1 = r2
          cases r2 with
          | ok b w2 =>
            simp only [Result.andThen_ok]
            generalize (Op.equalIn d f.type a b).run P w2 = r3
            cases r3 with
            | ok q w3 =>
              simp only [Result.andThen_ok]
              split
              · rfl
              · exact ih w3 hn.2
            | halt x w3 => rfl
          | halt x w2 => rfl
        | halt x w1 => rfl
    · cases h
  · cases h

/-- One field more, an int. -/
theorem eqAll_int {d : Nat} {xs ys : Array Value} {T : TypeId} {o : Nat} {r : List (TypeId × Nat)} {k k' : IntKind} {a b : Int} {p : Prop} [Decidable p] {w : World} (hT : oneT P T = true) (hu : P.underlying T = some (.int k')) (hx : xs[o]? = some (.int k a)) (hy : ys[o]? = some (.int k b))
    (h : (eqAll (d + 1) xs ys r).run P w = .ok (decide p) w) : (eqAll (d + 1) xs ys ((T, o) :: r)).run P w = .ok (decide (a = b ∧ p)) w := by
  simp only [eqAll, Sem.run_bind, run_part_one hT hx, run_part_one hT hy, Result.andThen_ok, run_equalIn_int w d T k k' a b hu, Sem.run_ite, h, Sem.run_pure]
  by_cases hab : a = b <;> simp [hab]
theorem eqAll_bool {d : Nat} {xs ys : Array Value} {T : TypeId} {o : Nat} {r : List (TypeId × Nat)} {a b : Bool} {p : Prop} [Decidable p] {w : World} (hT : oneT P T = true) (hu : P.underlying T = some .bool) (hx : xs[o]? = some (.bool a)) (hy : ys[o]? = some (.bool b))
    (h : (eqAll (d + 1) xs ys r).run P w = .ok (decide p) w) : (eqAll (d + 1) xs ys ((T, o) :: r)).run P w = .ok (decide (a = b ∧ p)) w := by
  simp only [eqAll, Sem.run_bind, run_part_one hT hx, run_part_one hT hy, Result.andThen_ok, run_equalIn_bool' w d T a b hu, Sem.run_ite, h, Sem.run_pure]
  by_cases hab : a = b <;> simp [hab]
theorem eqAll_nil {d : Nat} {xs ys : Array Value} {w : World} : (eqAll d xs ys []).run P w = .ok (decide True) w := by simp [eqAll]

/-- Arrays, item by item. -/
theorem run_eqItems_all {d : Nat} {e : TypeId} {c : Nat} {xs ys : Array Value} {f : Nat → Bool} {w : World} : ∀ (l : List Nat), (∀ i ∈ l, ∃ a b, (part e xs (i * c)).run P w = .ok a w ∧ (part e ys (i * c)).run P w = .ok b w ∧ (Op.equalIn d e a b).run P w = .ok (f i) w) →
    (Op.eqItems d e c xs ys l).run P w = .ok (l.all f) w
  | [], _ => by simp [Op.eqItems]
  | i :: l, h => by
    obtain ⟨a, b, h1, h2, h3⟩ := h i (by simp)
    have ih := run_eqItems_all l fun j hj => h j (by simp [hj])
    simp only [Op.eqItems, Sem.run_bind, h1, h2, h3, Result.andThen_ok, Sem.run_ite, ih, Sem.run_pure, List.all_cons]
    cases f i <;> simp
end

section ops
variable {P : Program} {ro : Option Nat} {Q : Exit → Act → World → Prop} {next : Act → World → Prop} {N : Nat} {S : Slots} {D : List Deferred} {W : World} {M L : Heap}
variable {C : World → Prop} {dst : Option Tmp} {d : Nat} {ty : TypeId} {pos : String} {af : Array Edge} {g : Option (Nat × Bool)}

theorem yMin3 {x y z : Operand} {k : IntKind} {a b c : Int} {tys : Array TypeId} (hx : opd S x = some (.int k a)) (hy : opd S y = some (.int k b)) (hz : opd S z = some (.int k c)) :
    YV P S C ⟨dst, .call ⟨.builtin .min, #[x, y, z], tys⟩, ty, pos, af, g⟩ (.int k (min (min a b) c)) :=
  .pure fun ρ hk w => by
    have h1 : (if b < a then b else a) = min a b := by split <;> omega
    have h2 : (if c < min a b then c else min a b) = min (min a b) c := by split <;> omega
    simp [execOp, resolve, hk x _ hx, hk y _ hy, hk z _ hz, Sem.run_pure, invoke, builtin, Builtin.min_, Builtin.min2, h1, h2]
theorem yMax3 {x y z : Operand} {k : IntKind} {a b c : Int} {tys : Array TypeId} (hx : opd S x = some (.int k a)) (hy : opd S y = some (.int k b)) (hz : opd S z = some (.int k c)) :
    YV P S C ⟨dst, .call ⟨.builtin .max, #[x, y, z], tys⟩, ty, pos, af, g⟩ (.int k (max (max a b) c)) :=
  .pure fun ρ hk w => by
    have h1 : (if a < b then b else a) = max a b := by split <;> omega
    have h2 : (if max a b < c then c else max a b) = max (max a b) c := by split <;> omega
    simp [execOp, resolve, hk x _ hx, hk y _ hy, hk z _ hz, Sem.run_pure, invoke, builtin, Builtin.max_, Builtin.max2, h1, h2]

/-- A call that makes blocks, in a region that draws. -/
theorem fCallX {ι : Type} {x : Operand} {xs : List Operand} {f : FuncId} {us cs vs : List Value} {tys : Array TypeId} {φ : ι → Prop} {v : ι → Value} {Lx : ι → Heap} (hx : opd S x = some (.func (.func f) us.toArray cs.toArray)) (ha : AllOpd S xs vs)
    (hf : callT P f = true) (hc : ∀ w, Eff W M L w → Calls P f (us ++ vs ++ cs).toArray w (RetX w φ v (fun _ => []) Lx)) :
    Tr (St N S D W M L) (opW P ro N ⟨some d, .call ⟨.value x, xs.toArray, tys⟩, ty, pos, af, g⟩ (fun a w => ∃ y : {y // φ y}, St N ((d, v y.1) :: S) D W M (Lx y.1 ++ L) a w) Q) :=
  eCallX hx ha hf hc fun y h => trTo (Y := fun y : {y // φ y} => St N ((d, v y.1) :: S) D W M (Lx y.1 ++ L)) ⟨y, h⟩ trSelf
end ops
end ZW
namespace ZW
open Go

theorem SubP.comm : ∀ (A B : Heap), SubP (A ++ B) (B ++ A)
  | [], B => by simpa using SubP.r
  | p :: A, B => by
    refine .c B.length ?_ ?_
    · rw [List.getElem?_append_right (Nat.le_refl _)]; simp
    · rw [List.eraseIdx_append_of_length_le (Nat.le_refl _)]
      simpa using SubP.comm A B

section
variable {P : Program} {ro : Option Nat} {Q : Exit → Act → World → Prop} {next : Act → World → Prop} {N : Nat} {S : Slots} {D : List Deferred} {W : World} {M L : Heap}
variable {C : World → Prop} {dst : Option Tmp} {d : Nat} {ty : TypeId} {pos : String} {af : Array Edge} {g : Option (Nat × Bool)}

/-- A call whose new blocks stand behind those that were there. -/
theorem eCallO {ι : Type} {x : Operand} {xs : List Operand} {f : FuncId} {us cs vs : List Value} {tys : Array TypeId} {φ : ι → Prop} {v : ι → Value} {Lx : ι → Heap} (hx : opd S x = some (.func (.func f) us.toArray cs.toArray)) (ha : AllOpd S xs vs)
    (hf : callT P f = true) (hc : ∀ w, Eff W M L w → Calls P f (us ++ vs ++ cs).toArray w (RetX w φ v (fun _ => []) Lx))
    (k : ∀ y, φ y → Tr (St N ((d, v y) :: S) D W M (L ++ Lx y)) next) : Tr (St N S D W M L) (opW P ro N ⟨some d, .call ⟨.value x, xs.toArray, tys⟩, ty, pos, af, g⟩ next Q) :=
  eCallX hx ha hf hc fun y hy => forgetP _ (SubP.comm _ _) (k y hy)
theorem fCallO {ι : Type} {x : Operand} {xs : List Operand} {f : FuncId} {us cs vs : List Value} {tys : Array TypeId} {φ : ι → Prop} {v : ι → Value} {Lx : ι → Heap} (hx : opd S x = some (.func (.func f) us.toArray cs.toArray)) (ha : AllOpd S xs vs)
    (hf : callT P f = true) (hc : ∀ w, Eff W M L w → Calls P f (us ++ vs ++ cs).toArray w (RetX w φ v (fun _ => []) Lx)) :
    Tr (St N S D W M L) (opW P ro N ⟨some d, .call ⟨.value x, xs.toArray, tys⟩, ty, pos, af, g⟩ (fun a w => ∃ y : {y // φ y}, St N ((d, v y.1) :: S) D W M (L ++ Lx y.1) a w) Q) :=
  eCallO hx ha hf hc fun y h => trTo (Y := fun y : {y // φ y} => St N ((d, v y.1) :: S) D W M (L ++ Lx y.1)) ⟨y, h⟩ trSelf

/-- A place of an array. -/
theorem yIndexN {T : TypeId} {x i : Operand} {b o len sz n : Nat} {k : IntKind} (hx : opd S x = some (.pointer (some ⟨b, o, none⟩))) (hi : opd S i = some (.int k (n : Nat)))
    (h : arEl P T = some (len, sz)) (h1 : n < len) : YV P S C ⟨dst, .indexAddr T x i, ty, pos, af, g⟩ (.pointer (some ⟨b, o + n * sz, none⟩)) := by
  have := yIndexAr (C := C) (P := P) (dst := dst) (ty := ty) (pos := pos) (af := af) (g := g) hx hi h (by omega) (by omega)
  simpa using this

/-- The method of a type that takes a value. -/
def methT (P : Program) (t : TypeId) (name : String) : Option FuncId :=
  match P.info? t with
  | some inf => match inf.methods.find? (fun m => m.name == name) with
    | some m => if m.path.toList.isEmpty = true then match m.func with
        | some (f, false) => match P.underlying t with
          | some (.pointer _) => none
          | some _ => some f
          | none => none
        | _ => none
      else none
    | none => none
  | none => none
theorem run_method {t : TypeId} {name : String} {f : FuncId} (h : methT P t name = some f) (v : Value) (n : Nat) (w : World) : (method (n + 1) t v name).run P w = .ok (f, v) w := by
  unfold methT at h
  split at h
  · rename_i inf hi
    split at h
    · rename_i m hm
      split at h
      · rename_i hp
        split at h
        · rename_i f' hf
          have hp' : m.path.toList = [] := by simpa using hp
          have ht : (typeInfo t).run P w = .ok inf w := by simp [typeInfo, program, Sem.run, hi]
          split at h
          · cases h
          · rename_i d hne hd
            cases h
            simp only [method, Sem.run_bind, ht, Result.andThen_ok, hm, hp', follow, Sem.run_pure, hf, receiverAt, run_underlying_of hd]
            cases d <;> first | (exact absurd rfl (hne _)) | rfl
          · cases h
        · cases h
      · cases h
    · cases h
  · cases h

theorem exec_invoke {x : Operand} {xs : List Operand} {t : TypeId} {name : String} {f : FuncId} {v : Value} {vs : List Value} {tys : Array TypeId} (hx : opd S x = some (.iface t v)) (ha : AllOpd S xs vs) (hm : methT P t name = some f) (hf : callT P f = true)
    {ρ : Operand → Value} (hk : Knows S ρ) (w : World) :
    (execOp ρ ⟨dst, .call ⟨.invoke x name, xs.toArray, tys⟩, ty, pos, af, g⟩).run P w = .ok (.enter f (v :: vs).toArray) w := by
  have h1 := ha.map hk
  have h2 := run_callFunc hf (v :: vs).toArray w
  have h3 := run_method hm v (P.types.size + 99) w
  have h4 : (#[v] ++ vs.toArray : Array Value) = (v :: vs).toArray := by simp
  have h5 : ((#[Value.iface t v] ++ vs.toArray).extract 1 (#[Value.iface t v] ++ vs.toArray).size : Array Value) = vs.toArray := by simp
  have h6 : ((#[Value.iface t v] ++ vs.toArray)[0]? : Option Value) = some (Value.iface t v) := by simp
  have h7 : (#[] : Array Value).size = 0 := rfl
  simp only [execOp, resolve, List.map_toArray, h1, hk x _ hx, Sem.run_bind, Sem.run_pure, Result.andThen_ok, invoke]
  rw [h6, h5]
  simp only [callMethod, Sem.run_bind, run_program, Result.andThen_ok]
  have h8 : P.types.size + Made.depth = P.types.size + 99 + 1 := rfl
  rw [h8, h3]
  simp only [Result.andThen_ok, h4, h2]

/-- A method that writes into blocks that were there. -/
theorem eInvokeM {ι : Type} {x : Operand} {xs : List Operand} {t : TypeId} {name : String} {f : FuncId} {u : Value} {vs : List Value} {tys : Array TypeId} {φ : ι → Prop} {v : ι → Value} {Mx Lx : ι → Heap} (M' L' : ι → Heap)
    (hx : opd S x = some (.iface t u)) (ha : AllOpd S xs vs) (hm : methT P t name = some f) (hf : callT P f = true) (hc : ∀ w, Eff W M L w → Calls P f (u :: vs).toArray w (RetX w φ v Mx Lx))
    (he : ∀ y w w', φ y → Eff W M L w → Eff w (Mx y) (Lx y) w' → Eff W (M' y) (L' y) w')
    (k : ∀ y, φ y → Tr (St N ((d, v y) :: S) D W (M' y) (L' y)) next) : Tr (St N S D W M L) (opW P ro N ⟨some d, .call ⟨.invoke x name, xs.toArray, tys⟩, ty, pos, af, g⟩ next Q) := fun a w hs hN => by
  refine opW_enter rfl (exec_invoke hx ha hm hf hs.knows w) ((hc w hs.ef).mono ?_) hN
  rintro e w' ⟨y, hy, rfl, hE⟩
  exact k y hy _ _ ((hs.put (hN d rfl) _).eff (he y w w' hy hs.ef hE))

/-- A call that writes into the i-th of the new blocks, and makes none. -/
theorem eCallW {x : Operand} {xs : List Operand} {f : FuncId} {us cs vs : List Value} {tys : Array TypeId} {b : Nat} {o o' : Obj} {v : Value} (i : Nat) (hi : L[i]? = some (b, o)) (hx : opd S x = some (.func (.func f) us.toArray cs.toArray)) (ha : AllOpd S xs vs)
    (hf : callT P f = true) (hc : ∀ w, Eff W M L w → w.heap[b]? = some o → Calls P f (us ++ vs ++ cs).toArray w (fun e w' => e = .returned v ∧ Eff w [(b, o')] [] w'))
    (k : Tr (St N ((d, v) :: S) D W M (upd L i o')) next) : Tr (St N S D W M L) (opW P ro N ⟨some d, .call ⟨.value x, xs.toArray, tys⟩, ty, pos, af, g⟩ next Q) := fun a w hs hN => by
  have hb := hs.ef.own _ (List.mem_append.2 (.inr (List.mem_of_getElem? hi)))
  refine opW_enter rfl (exec_call hx ha hf hs.knows w) ((hc w hs.ef hb).mono ?_) hN
  rintro e w' ⟨rfl, hE⟩
  exact k _ _ ((hs.put (hN d rfl) _).eff (by simpa using hs.ef.wroteL hi hE))
/-- The same, of the blocks that were there. -/
theorem eCallWM {x : Operand} {xs : List Operand} {f : FuncId} {us cs vs : List Value} {tys : Array TypeId} {b : Nat} {o o' : Obj} {v : Value} (i : Nat) (hi : M[i]? = some (b, o)) (hx : opd S x = some (.func (.func f) us.toArray cs.toArray)) (ha : AllOpd S xs vs)
    (hf : callT P f = true) (hc : ∀ w, Eff W M L w → w.heap[b]? = some o → Calls P f (us ++ vs ++ cs).toArray w (fun e w' => e = .returned v ∧ Eff w [(b, o')] [] w'))
    (k : Tr (St N ((d, v) :: S) D W (upd M i o') L) next) : Tr (St N S D W M L) (opW P ro N ⟨some d, .call ⟨.value x, xs.toArray, tys⟩, ty, pos, af, g⟩ next Q) := fun a w hs hN => by
  have hb := hs.ef.own _ (List.mem_append.2 (.inl (List.mem_of_getElem? hi)))
  refine opW_enter rfl (exec_call hx ha hf hs.knows w) ((hc w hs.ef hb).mono ?_) hN
  rintro e w' ⟨rfl, hE⟩
  exact k _ _ ((hs.put (hN d rfl) _).eff (by simpa using hs.ef.wroteM hi hE))
/-- A method that writes into the i-th of the new blocks. -/
theorem eInvokeW {x : Operand} {xs : List Operand} {t : TypeId} {name : String} {f : FuncId} {u : Value} {vs : List Value} {tys : Array TypeId} {b : Nat} {o o' : Obj} {v : Value} (i : Nat) (hi : L[i]? = some (b, o))
    (hx : opd S x = some (.iface t u)) (ha : AllOpd S xs vs) (hm : methT P t name = some f) (hf : callT P f = true) (hc : ∀ w, Eff W M L w → w.heap[b]? = some o → Calls P f (u :: vs).toArray w (fun e w' => e = .returned v ∧ Eff w [(b, o')] [] w'))
    (k : Tr (St N ((d, v) :: S) D W M (upd L i o')) next) : Tr (St N S D W M L) (opW P ro N ⟨some d, .call ⟨.invoke x name, xs.toArray, tys⟩, ty, pos, af, g⟩ next Q) := fun a w hs hN => by
  have hb := hs.ef.own _ (List.mem_append.2 (.inr (List.mem_of_getElem? hi)))
  refine opW_enter rfl (exec_invoke hx ha hm hf hs.knows w) ((hc w hs.ef hb).mono ?_) hN
  rintro e w' ⟨rfl, hE⟩
  exact k _ _ ((hs.put (hN d rfl) _).eff (by simpa using hs.ef.wroteL hi hE))
/-- What such a function promises. -/
abbrev Wr (w : World) (b : Nat) (o' : Obj) (v : Value) : Ending → World → Prop := fun e w' => e = .returned v ∧ Eff w [(b, o')] [] w'
theorem endW {b : Nat} {o o' : Obj} {v u : Value} (hv : u = v) (ho : o = o') : ∀ w, Eff W [(b, o)] L w → Wr W b o' v (.returned u) w := fun _ hw => ⟨by rw [hv], ho ▸ hw.sub .n⟩
theorem endW2 {b c : Nat} {o o' p : Obj} {v u : Value} (hv : u = v) (ho : o = o') (hc : W.heap[c]? = some p) : ∀ w, Eff W [(b, o), (c, p)] L w → Wr W b o' v (.returned u) w := fun w hw => by
  refine ⟨by rw [hv], hw.os, hw.tape, hw.output, hw.size, fun k hk hM => ?_, fun q hq => ?_, fun q hq => by simp at hq, fun q hq => ?_, by simp⟩
  · by_cases hkc : k = c
    · subst hkc; rw [hc]; exact hw.own (k, p) (by simp)
    · exact hw.frame k hk fun q hq => by
        simp only [List.mem_cons, List.not_mem_nil, or_false] at hq
        rcases hq with rfl | rfl
        · exact hM (b, o') (by simp)
        · exact fun e => hkc e.symm
  · simp only [List.append_nil, List.mem_singleton] at hq
    subst hq; subst ho; exact hw.own (b, o) (by simp)
  · simp only [List.mem_singleton] at hq
    subst hq; exact hw.old (b, o) (by simp)
end
end ZW
namespace ZW
open Go

theorem SlE.congr {w : World} {a : Option Addr} {n m sz : Nat} {f g : Nat → List Value} (h : SlE w a n sz f) (hm : m = n) (hfg : ∀ i, i < n → f i = g i) : SlE w a m sz g := by
  subst hm
  exact ⟨fun i hi => by rw [← hfg i hi]; exact h.len i hi, h.at_, fun i j hi hj => by rw [← hfg i hi]; exact h.cell i j hi hj⟩

theorem map_getD {α : Type} {f : α → List Value} {l : List α} {i : Nat} (h : i < l.length) (d : α) : (l.map f).getD i [] = f (l.getD i d) := by
  rw [← List.getElem_eq_getD (h := by simpa using h), ← List.getElem_eq_getD (h := h)]; simp
/-- A literal of rows. -/
theorem sleRows {α : Type} {f : α → List Value} {sz : Nat} (hsz : ∀ x, (f x).length = sz) (d : α) (l : List α) {w : World} {n : Nat} {e : TypeId} {z : Nat × Nat} {cs : List Value} (hcs : (l.map f).flatten = cs) (h : w.heap[n]? = some (.cells cs.toArray e z)) :
    SlE w (some ⟨n, 0, none⟩) l.length sz (fun i => f (l.getD i d)) := by
  subst hcs
  refine ⟨fun i _ => hsz _, fun _ => rfl, fun i j hi hj => ?_⟩
  simp only [sblk, soff, Option.getD_some, Nat.zero_add]
  rw [cell_blk h]
  have hl : ∀ x ∈ l.map f, x.length = sz := fun x hx => by
    obtain ⟨y, _, rfl⟩ := List.mem_map.1 hx; exact hsz y
  rw [flatten_at _ hl i j (by simpa using hi) hj, map_getD hi d]
/-- An own slice of rows. -/
theorem OS.rows {α : Type} {f : α → List Value} {sz : Nat} {g : Own} (d : α) {l : List α} {e : TypeId} {w : World} (h : OS sz g (l.map f)) (hw : ∀ p ∈ osL e g, w.heap[p.1]? = some p.2) : SlE w (osA g) l.length sz (fun i => f (l.getD i d)) :=
  (h.sle hw).congr (by simp) fun i hi => map_getD (by simpa using hi) d
theorem OS.rowsE {α : Type} {f : α → List Value} {sz : Nat} {g : Own} (d : α) {l : List α} {e : TypeId} {W w : World} {M L : Heap} (h : OS sz g (l.map f)) (hw : Eff W M L w) (hs : SubP (osL e g) L) : SlE w (osA g) l.length sz (fun i => f (l.getD i d)) :=
  h.rows d fun p hp => hw.own p (List.mem_append.2 (.inr (hs.mem p hp)))
/-- The last block of a heap of which the head is known. -/
theorem SubP.tail {A B : Heap} : SubP B (A ++ B) := by
  induction A with
  | nil => simpa using SubP.r
  | cons p A ih => exact .d 0 (by simpa using ih)
/-- An own block in a world of the class. -/
theorem Eff.blkAt {W w : World} {M L : Heap} (h : Eff W M L w) (i : Nat) {p : Nat × Obj} (hi : (M ++ L)[i]? = some p) : w.heap[p.1]? = some p.2 := h.own p (List.mem_of_getElem? hi)
theorem flatten_range {α : Type} {f : α → List Value} (l : List α) (d : α) : ((List.range l.length).map fun i => f (l.getD i d)) = l.map f := by
  refine List.ext_getElem? fun i => ?_
  by_cases hi : i < l.length
  · simp [hi]
  · simp [hi]
/-- Blocks that were known and are as they were. -/
theorem Eff.unM {W w : World} {M L : Heap} (hE : Eff W M [] W) (h : Eff W M L w) : Eff W [] L w := by
  refine ⟨h.os, h.tape, h.output, h.size, fun k hk _ => ?_, fun p hp => h.own p (by simp at hp; simp [hp]), h.new, fun p hp => by simp at hp, ?_⟩
  · by_cases hm : ∃ p ∈ M, p.1 = k
    · obtain ⟨p, hp, rfl⟩ := hm
      rw [h.own p (by simp [hp]), hE.own p (by simp [hp])]
    · exact h.frame k hk fun p hp e => hm ⟨p, hp, e⟩
  · have := h.nd
    rw [List.map_append, List.nodup_append] at this
    simpa using this.2.1
theorem endRetM {W : World} {M L : Heap} {v u : Value} (hE : Eff W M [] W) (h : u = v) : ∀ w, Eff W M L w → Ret W v (.returned u) w := fun _ hw => ⟨by rw [h], (hE.unM hw).sub .n⟩
theorem endPanM {W : World} {M L : Heap} {v u : Value} (hE : Eff W M [] W) (h : u = v) : ∀ w, Eff W M L w → Pan W v (.panicked [{ v := u, recovered := false }]) w := fun _ hw => ⟨by rw [h], (hE.unM hw).sub .n⟩
theorem endXM {W : World} {M L : Heap} {ι : Type} {φ : ι → Prop} {v : ι → Value} {Lx : ι → Heap} {u : Value} (hE : Eff W M [] W) (y : ι) (h0 : φ y) (hv : u = v y) (hL : SubP (Lx y) L) : ∀ w, Eff W M L w → RetX W φ v (fun _ => []) Lx (.returned u) w := fun _ hw =>
  ⟨y, h0, by rw [hv], (hE.unM hw).sub hL⟩
/-- What a quiet call promises, where blocks are known. -/
theorem Ret.of {W w : World} {M L : Heap} (_ : Eff W M L w) {P : Program} {f : FuncId} {args : Array Value} {v : Value} (h : Calls P f args w (Ret w v)) : Calls P f args w (Ret w v) := h
theorem cCell {b o : Nat} {v : Value} : Cells (fun w => w.cell? ⟨b, o, none⟩ = some v) b o [v] := fun w hw j hj => by
  simp only [List.length_singleton] at hj
  obtain rfl : j = 0 := by omega
  simpa using hw
theorem cHeap {b o : Nat} {l vs : List Value} {e : TypeId} {z : Nat × Nat} (hs : sub l o vs.length = some vs) : Cells (fun w => w.heap[b]? = some (.cells l.toArray e z)) b o vs := fun w hw j hj => by
  obtain ⟨_, h2⟩ := sub_spec _ _ _ _ hs
  rw [cell_blk hw]; exact h2 j hj
section
variable {P : Program} {S : Slots} {C : World → Prop} {dst : Option Tmp} {ty : TypeId} {pos : String} {af : Array Edge} {g : Option (Nat × Bool)}
def isIf (P : Program) (T : TypeId) : Bool :=
  match P.underlying T with
  | some (.interface _) => true
  | _ => false
theorem ifaceT_spec {T : TypeId} (h : isIf P T = true) : ∃ ms, P.underlying T = some (.interface ms) := by
  unfold isIf at h
  split at h
  · rename_i ms hu; exact ⟨_, hu⟩
  · cases h
theorem yEqNilIf' {t t' : TypeId} {x : Operand} {tv : TypeId} {v : Value} (hx : opd S x = some (.iface tv v)) (hT : isIf P t = true) : YV P S C ⟨dst, .binOp .eql t x (.const .nilIface) t', ty, pos, af, g⟩ (.bool false) :=
  let ⟨_, h⟩ := ifaceT_spec hT; yEqNilIf hx h
theorem yEqNilNil' {t t' : TypeId} {x : Operand} (hx : opd S x = some .nilIface) (hT : isIf P t = true) : YV P S C ⟨dst, .binOp .eql t x (.const .nilIface) t', ty, pos, af, g⟩ (.bool true) :=
  let ⟨_, h⟩ := ifaceT_spec hT; yEqNilNil hx h
end
end ZW
