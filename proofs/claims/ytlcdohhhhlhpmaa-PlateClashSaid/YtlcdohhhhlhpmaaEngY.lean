/-
  The engine: a byte of a string of 256.
-/
import Derived.Test.YtlcdohhhhlhpmaaEngX
namespace ZW
open Go
section
variable {P : Program} {S : Slots} {C : World → Prop} {dst : Option Tmp} {ty : TypeId} {pos : String} {af : Array Edge} {g : Option (Nat × Bool)}
theorem yIndexStr {T : TypeId} {x i : Operand} {s : ByteArray} {q : IntKind} {k : Nat} (hx : opd S x = some (.string s)) (hi : opd S i = some (.int q (k : Nat))) (hT : P.underlying T = some .string) (hn : s.size = 256) (hk : k < 256) :
    YV P S C ⟨dst, .index T x i, ty, pos, af, g⟩ (.int .u8 (((s[k]?).getD 0).toNat : Nat)) :=
  .pure fun ρ hρ w => by
    have hb : s[k]? = some (s[k]'(by omega)) := by simp [hn, hk]
    simp only [execOp, hρ x _ hx, hρ i _ hi, Sem.run_bind, Sem.run_pure]
    simp [Instr.index, asIntOf, Sem.run_bind, run_underlying_of hT, hb, Sem.run_pure]
end
end ZW
