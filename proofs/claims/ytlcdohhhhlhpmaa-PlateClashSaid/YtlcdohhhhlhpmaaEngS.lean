/-
  The engine, last part: make of a slice of numbers.
-/
import Derived.Test.YtlcdohhhhlhpmaaEngR
import Derived.Laws.MakeOwn
namespace ZW
open Go

/-- Numbers of 64 bits are one cell, and nought at first. -/
def mkI (P : Program) (e : TypeId) : Bool := match P.info? e with
  | some i => i.size == 1 && decide (i.bytes ≤ 8) && (match i.zero with
    | some (.int .i64 0) => true
    | _ => false)
  | none => false
theorem mkI_spec {P : Program} {e : TypeId} (h : mkI P e = true) : ∃ i, P.info? e = some i ∧ i.size = 1 ∧ i.bytes ≤ 8 ∧ i.zero = some (.int .i64 0) := by
  unfold mkI at h
  split at h
  · rename_i i hi
    simp only [Bool.and_eq_true, beq_iff_eq, decide_eq_true_eq] at h
    refine ⟨i, hi, h.1.1, h.1.2, ?_⟩
    have h2 := h.2
    split at h2
    · assumption
    · cases h2
  · cases h
theorem madeI (n : Nat) : madeCells #[.int .i64 0] n = (List.replicate n (Value.int .i64 0)).toArray := by
  unfold madeCells
  refine Array.ext (by simp) fun i h1 h2 => ?_
  simp [Nat.mod_one]
section
variable {P : Program} {ro : Option Nat} {Q : Exit → Act → World → Prop} {next : Act → World → Prop} {N : Nat} {S : Slots} {D : List Deferred} {W : World} {M L : Heap}
variable {d : Nat} {ty : TypeId} {pos : String} {af : Array Edge} {g : Option (Nat × Bool)}
theorem eMakeSlice {T e : TypeId} {x y : Operand} {kl kc : IntKind} {n : Nat} (hT : P.underlying T = some (.slice e)) (he : mkI P e = true) (hx : opd S x = some (.int kl (n : Nat))) (hy : opd S y = some (.int kc (n : Nat))) (hn : n ≤ 1000000)
    (k : ∀ b, Tr (St N ((d, .slice (some ⟨b, 0, none⟩) n n) :: S) D W M ((b, blk (List.replicate n (.int .i64 0)) e) :: L)) next) :
    Tr (St N S D W M L) (opW P ro N ⟨some d, .makeSlice T x y, ty, pos, af, g⟩ next Q) := fun a w hs hN => by
  obtain ⟨i, hi, hs1, hb, hz⟩ := mkI_spec he
  have hr := run_make w T e i (.int .i64 0) hT hi hz kl kc n n (by omega) (Int.le_refl _) (by
    have : (i.bytes : Int) * (n : Int) ≤ 8 * (n : Int) := Int.mul_le_mul_of_nonneg_right (by omega) (by omega)
    omega) (by omega)
  simp only [Int.toNat_natCast, hs1, Nat.mul_one] at hr
  have hc : (Value.int .i64 0).cells = #[.int .i64 0] := rfl
  rw [hc, madeI] at hr
  refine opW_value (w' := { w with heap := w.heap.push (blk (List.replicate n (.int .i64 0)) e) }) (v := .slice (some ⟨w.heap.size, 0, none⟩) n n) rfl ?_ (k w.heap.size _ _ ((hs.put (hN d rfl) _).eff (hs.ef.alloc _))) hN
  simp only [execOp, hs.knows x _ hx, hs.knows y _ hy, Sem.run_bind, hr, Result.andThen_ok, Sem.run_pure]
  rfl
end
/-! ### Several tails -/
theorem SubP.leftA : ∀ (A B : Heap), SubP A (A ++ B)
  | [], _ => .n
  | p :: A, B => .c 0 rfl (SubP.leftA A B)
theorem SubP.leftOf {X A B : Heap} (h : SubP X A) : SubP X (A ++ B) := by
  induction h with
  | n => exact .n
  | r => exact SubP.leftA _ _
  | @c p r L i hi _ ih =>
    have hl : i < L.length := (List.getElem?_eq_some_iff.1 hi).1
    refine .c i ?_ ?_
    · rw [List.getElem?_append_left hl]; exact hi
    · rw [List.eraseIdx_append_of_lt_length hl]; exact ih
  | @d r L i _ ih =>
    by_cases hl : i < L.length
    · refine .d i ?_
      rw [List.eraseIdx_append_of_lt_length hl]; exact ih
    · rw [List.eraseIdx_of_length_le (by omega)] at ih
      exact ih
/-- A cut behind code that nothing follows in its block. -/
theorem kCutQ {P : Program} {ro : Option Nat} {N : Nat} {S : Slots} {D : List Deferred} {W : World} {M L : Heap} {Q : Exit → Act → World → Prop} {ι : Type} {c : Code} (φ : ι → Prop) (Sc : ι → Slots) (Sf : Slots) (Mc Lc : ι → Heap) (Lf : Heap) (_ : AllLook S Sf) (_ : SubP Lf L)
    (hc : Tr (St N S D W M L) (WP P ro c (Exit.then (fun a w => ∃ y, φ y ∧ St N (Sc y ++ Sf) D W (Mc y) (Lf ++ Lc y) a w) Q)))
    (hn : ∀ x, φ x → Tr (St N (Sc x ++ Sf) D W (Mc x) (Lf ++ Lc x)) (Q .normal)) : Tr (St N S D W M L) (WP P ro c Q) := fun _ _ hs =>
  wpIn_mono (hc _ _ hs) fun e _ _ hq => by
    cases e with
    | normal => obtain ⟨y, hy, hst⟩ := hq; exact hn y hy _ _ hst
    | _ => exact hq
theorem SubP.trans' {X A L : Heap} (h : SubP X A) (k : SubP A L) : ∀ {W w : World} {M : Heap}, Eff W M L w → Eff W M X w := fun hw => (hw.sub k).sub h
end ZW
