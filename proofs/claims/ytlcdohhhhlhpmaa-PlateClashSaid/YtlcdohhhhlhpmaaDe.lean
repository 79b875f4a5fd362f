/-
  PlateClash: it returns true.
-/
import Derived.Test.YtlcdohhhhlhpmaaDd
namespace Go.Proofs.Ytlcdohhhhlhpmaa
open ZW

theorem pclash_any (y : Option Addr × Nat) (p : Plt) (bits : Nat) (w : World) (hm : InP w y p) (hbits : bits < 65536) :
    Calls Try.prog 8 [.agg (pltC y p).toArray, .int .u16 (bits : Nat)].toArray w (Ret w (.bool true)) := by
  by_cases hp : PltOk p
  · exact pclash_ok y p bits w hm hbits hp
  · exact pclash_bad y p bits w hm hbits hp
end Go.Proofs.Ytlcdohhhhlhpmaa
