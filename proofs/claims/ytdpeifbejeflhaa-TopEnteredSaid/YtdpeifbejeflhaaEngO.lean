/-
  The engine: the first elements of an array, as a slice; sorting by insertion, in plain words.
-/
import Derived.Test.YtdpeifbejeflhaaEngN
namespace ZW
open Go

section
variable {P : Program} {S : Slots} {C : World → Prop} {dst : Option Tmp} {ty : TypeId} {pos : String} {af : Array Edge} {g : Option (Nat × Bool)}
theorem ySliceA {T : TypeId} {x h : Operand} {b o len sz n : Nat} {k : IntKind} (hx : opd S x = some (.pointer (some ⟨b, o, none⟩))) (hh : opd S h = some (.int k (n : Nat))) (hT : arEl P T = some (len, sz)) (hn : n ≤ len) :
    YV P S C ⟨dst, .slice T x none (some h) none, ty, pos, af, g⟩ (.slice (some ⟨b, o, none⟩) n len) :=
  .pure fun ρ hk w => by
    unfold arEl at hT
    split at hT
    · rename_i e' hu
      split at hT
      · rename_i inf hi'
        cases hT
        have h1 : (0 : Int) ≤ (n : Nat) ∧ ((n : Nat) : Int) ≤ (len : Nat) := by omega
        simp only [execOp, hk x _ hx, Option.map_none, Option.map_some, hk h _ hh, Instr.sliceAt, Instr.sliceBounds, Instr.sliceBound, asIntOf, Sem.run_bind, run_underlying_of hu, Result.andThen_ok, Sem.run_pure, Instr.sureAddr, h1, and_self, if_true, run_sizeOf_of hi',
          Bool.false_eq_true, if_false, Int.toNat_natCast, Nat.sub_zero, Nat.zero_mul, addr_add, Nat.add_zero, ite_self]
      · cases hT
    · cases hT
end
end ZW
