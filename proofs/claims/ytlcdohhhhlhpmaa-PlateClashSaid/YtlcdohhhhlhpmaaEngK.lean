/-
  The engine, eleventh part: slices of rows of one kind.
-/
import Derived.Test.YtlcdohhhhlhpmaaEngJ
namespace ZW
open Go

theorem SlE.congr {w : World} {a : Option Addr} {n m sz : Nat} {f g : Nat → List Value} (h : SlE w a n sz f) (hm : m = n) (hfg : ∀ i, i < n → f i = g i) : SlE w a m sz g := by
  subst hm
  exact ⟨fun i hi => by rw [← hfg i hi]; exact h.len i hi, h.at_, fun i j hi hj => by rw [← hfg i hi]; exact h.cell i j hi hj⟩

theorem map_getD {α : Type} {f : α → List Value} {l : List α} {i : Nat} (h : i < l.length) (d : α) : (l.map f).getD i [] = f (l.getD i d) := by
  rw [← List.getElem_eq_getD (h := by simpa using h), ← List.getElem_eq_getD (h := h)]; simp
/-- A literal of rows. -/
theorem sleRows {α : Type} {f : α → List Value} {sz : Nat} (hsz : ∀ x, (f x).length = sz) (d : α) (l : List α) {w : World} {n : Nat} {e : TypeId} {z : Nat × Nat} {cs : List Value} (hcs : (l.map f).flatten = cs) (h : w.heap[n]? = some (.cells cs.toArray e z)) :
    SlE w (some ⟨n, 0, none⟩) l.length sz (fun i => f (l.getD i d)) := by
  subst hcs
  refine ⟨fun i _ => hsz _, fun _ => rfl, fun i j hi hj => ?_⟩
  simp only [sblk, soff, Option.getD_some, Nat.zero_add]
  rw [cell_blk h]
  have hl : ∀ x ∈ l.map f, x.length = sz := fun x hx => by
    obtain ⟨y, _, rfl⟩ := List.mem_map.1 hx; exact hsz y
  rw [flatten_at _ hl i j (by simpa using hi) hj, map_getD hi d]
/-- An own slice of rows. -/
theorem OS.rows {α : Type} {f : α → List Value} {sz : Nat} {g : Own} (d : α) {l : List α} {e : TypeId} {w : World} (h : OS sz g (l.map f)) (hw : ∀ p ∈ osL e g, w.heap[p.1]? = some p.2) : SlE w (osA g) l.length sz (fun i => f (l.getD i d)) :=
  (h.sle hw).congr (by simp) fun i hi => map_getD (by simpa using hi) d
theorem OS.rowsE {α : Type} {f : α → List Value} {sz : Nat} {g : Own} (d : α) {l : List α} {e : TypeId} {W w : World} {M L : Heap} (h : OS sz g (l.map f)) (hw : Eff W M L w) (hs : SubP (osL e g) L) : SlE w (osA g) l.length sz (fun i => f (l.getD i d)) :=
  h.rows d fun p hp => hw.own p (List.mem_append.2 (.inr (hs.mem p hp)))
/-- The last block of a heap of which the head is known. -/
theorem SubP.tail {A B : Heap} : SubP B (A ++ B) := by
  induction A with
  | nil => simpa using SubP.r
  | cons p A ih => exact .d 0 (by simpa using ih)
/-- An own block in a world of the class. -/
theorem Eff.blkAt {W w : World} {M L : Heap} (h : Eff W M L w) (i : Nat) {p : Nat × Obj} (hi : (M ++ L)[i]? = some p) : w.heap[p.1]? = some p.2 := h.own p (List.mem_of_getElem? hi)
theorem flatten_range {α : Type} {f : α → List Value} (l : List α) (d : α) : ((List.range l.length).map fun i => f (l.getD i d)) = l.map f := by
  refine List.ext_getElem? fun i => ?_
  by_cases hi : i < l.length
  · simp [hi]
  · simp [hi]
/-- Blocks that were known and are as they were. -/
theorem Eff.unM {W w : World} {M L : Heap} (hE : Eff W M [] W) (h : Eff W M L w) : Eff W [] L w := by
  refine ⟨h.os, h.tape, h.output, h.size, fun k hk _ => ?_, fun p hp => h.own p (by simp at hp; simp [hp]), h.new, fun p hp => by simp at hp, ?_⟩
  · by_cases hm : ∃ p ∈ M, p.1 = k
    · obtain ⟨p, hp, rfl⟩ := hm
      rw [h.own p (by simp [hp]), hE.own p (by simp [hp])]
    · exact h.frame k hk fun p hp e => hm ⟨p, hp, e⟩
  · have := h.nd
    rw [List.map_append, List.nodup_append] at this
    simpa using this.2.1
theorem endRetM {W : World} {M L : Heap} {v u : Value} (hE : Eff W M [] W) (h : u = v) : ∀ w, Eff W M L w → Ret W v (.returned u) w := fun _ hw => ⟨by rw [h], (hE.unM hw).sub .n⟩
theorem endPanM {W : World} {M L : Heap} {v u : Value} (hE : Eff W M [] W) (h : u = v) : ∀ w, Eff W M L w → Pan W v (.panicked [{ v := u, recovered := false }]) w := fun _ hw => ⟨by rw [h], (hE.unM hw).sub .n⟩
theorem endXM {W : World} {M L : Heap} {ι : Type} {φ : ι → Prop} {v : ι → Value} {Lx : ι → Heap} {u : Value} (hE : Eff W M [] W) (y : ι) (h0 : φ y) (hv : u = v y) (hL : SubP (Lx y) L) : ∀ w, Eff W M L w → RetX W φ v (fun _ => []) Lx (.returned u) w := fun _ hw =>
  ⟨y, h0, by rw [hv], (hE.unM hw).sub hL⟩
/-- What a quiet call promises, where blocks are known. -/
theorem Ret.of {W w : World} {M L : Heap} (_ : Eff W M L w) {P : Program} {f : FuncId} {args : Array Value} {v : Value} (h : Calls P f args w (Ret w v)) : Calls P f args w (Ret w v) := h
theorem cCell {b o : Nat} {v : Value} : Cells (fun w => w.cell? ⟨b, o, none⟩ = some v) b o [v] := fun w hw j hj => by
  simp only [List.length_singleton] at hj
  obtain rfl : j = 0 := by omega
  simpa using hw
theorem cHeap {b o : Nat} {l vs : List Value} {e : TypeId} {z : Nat × Nat} (hs : sub l o vs.length = some vs) : Cells (fun w => w.heap[b]? = some (.cells l.toArray e z)) b o vs := fun w hw j hj => by
  obtain ⟨_, h2⟩ := sub_spec _ _ _ _ hs
  rw [cell_blk hw]; exact h2 j hj
section
variable {P : Program} {S : Slots} {C : World → Prop} {dst : Option Tmp} {ty : TypeId} {pos : String} {af : Array Edge} {g : Option (Nat × Bool)}
def isIf (P : Program) (T : TypeId) : Bool :=
  match P.underlying T with
  | some (.interface _) => true
  | _ => false
theorem ifaceT_spec {T : TypeId} (h : isIf P T = true) : ∃ ms, P.underlying T = some (.interface ms) := by
  unfold isIf at h
  split at h
  · rename_i ms hu; exact ⟨_, hu⟩
  · cases h
theorem yEqNilIf' {t t' : TypeId} {x : Operand} {tv : TypeId} {v : Value} (hx : opd S x = some (.iface tv v)) (hT : isIf P t = true) : YV P S C ⟨dst, .binOp .eql t x (.const .nilIface) t', ty, pos, af, g⟩ (.bool false) :=
  let ⟨_, h⟩ := ifaceT_spec hT; yEqNilIf hx h
theorem yEqNilNil' {t t' : TypeId} {x : Operand} (hx : opd S x = some .nilIface) (hT : isIf P t = true) : YV P S C ⟨dst, .binOp .eql t x (.const .nilIface) t', ty, pos, af, g⟩ (.bool true) :=
  let ⟨_, h⟩ := ifaceT_spec hT; yEqNilNil hx h
end
end ZW
