/-
  No cell of these rows narrows 'for every input' (looked for: loops, veiled, ifaces, maps, wideKeys, modest, calm, conditions, laid).
  DERIVED. THE GIVEN ROWS OF THIS SEAT. 10 by the template 'for every input the law returns true; each argument reads behind the call as it read before'; 0 by the template 'total and deterministic' (their statements: YtlcdohhhhlhpmaaTotals.lean).
  GIVEN WITH THE SEED: the statements are not yours to turn. If you find one false, say at which input.
  Laid BY PROGRAM, IN A SANDBOX (cutbox-rows.mjs): the forced cells as the released guide's own fill.sh prints them over the translation 89dae6a3abca2ed8… (all of the seat's roots in one cut). By AI agents, Wed Nov 11 2026. No macro, syntax, notation, axiom, sorry.
-/
import Derived.Test.YtlcdohhhhlhpmaaChecked
import GoSem.Claim
import GoSem.ClaimJoined
import GoSem.ClaimMapViews
import Derived.JoinedTies
import Derived.KernelRfl
namespace Go.Proofs.Ytlcdohhhhlhpmaa
/- THE CELL 'sum', in the pinned program and in every row, IS THE sha256 OF THE DUMP (.gsa) THAT YtlcdohhhhlhpmaaProg.lean LOADS. Nothing in Lean hashes anything: it is a label: what it is worth is what the hold of that sum in a sandbox is worth. -/
noncomputable def Try.pinned : Pinned := { name := "ytlcdohhhhlhpmaa", sum := "89dae6a3abca2ed813ccf4aaebc4cd771366fc36af53e3fb20a504f09059633b", checked := Try.checked }
namespace Rows
def none {H : Type} : Left H := { results := [], args := [] }

/-- 'zoneworkslaw04.PlateStars': WHATEVER THE INPUT: true; the input reads as it did. -/
def plateStarsSpec : ChangeSpec := { name := "plateStars", fn := fun _ => fun
  | [d1, d2, d3] => { results := [.lit (.bool true)], args := [d1, d2, d3] }
  | _ => none }
def plateStarsRow : OpenClaim := { program := "ytlcdohhhhlhpmaa", sum := "89dae6a3abca2ed813ccf4aaebc4cd771366fc36af53e3fb20a504f09059633b", func := "zoneworks/zoneworkslaw04.PlateStars", spec := "plateStars", unfollowed := true, recurses := true, apart := false }
def PlateStarsSaid : Prop := plateStarsRow.holds Try.pinned (OpenSpec.ofChange plateStarsSpec)

/-- ITS FALSE NEIGHBOUR: 'it returns false'. Refute it at one input. -/
def plateStarsWrong : ChangeSpec := { name := "plateStars", fn := fun _ => fun
  | [d1, d2, d3] => { results := [.lit (.bool false)], args := [d1, d2, d3] }
  | _ => none }
def PlateStarsWrongFalsely : Prop := plateStarsRow.holds Try.pinned (OpenSpec.ofChange plateStarsWrong)

/-- 'zoneworkslaw04.PlateFinds': WHATEVER THE INPUT: true; the input reads as it did. -/
def plateFindsSpec : ChangeSpec := { name := "plateFinds", fn := fun _ => fun
  | [d1, d2, d3] => { results := [.lit (.bool true)], args := [d1, d2, d3] }
  | _ => none }
def plateFindsRow : OpenClaim := { program := "ytlcdohhhhlhpmaa", sum := "89dae6a3abca2ed813ccf4aaebc4cd771366fc36af53e3fb20a504f09059633b", func := "zoneworks/zoneworkslaw04.PlateFinds", spec := "plateFinds", unfollowed := true, recurses := true, apart := false }
def PlateFindsSaid : Prop := plateFindsRow.holds Try.pinned (OpenSpec.ofChange plateFindsSpec)

/-- ITS FALSE NEIGHBOUR: 'it returns false'. Refute it at one input. -/
def plateFindsWrong : ChangeSpec := { name := "plateFinds", fn := fun _ => fun
  | [d1, d2, d3] => { results := [.lit (.bool false)], args := [d1, d2, d3] }
  | _ => none }
def PlateFindsWrongFalsely : Prop := plateFindsRow.holds Try.pinned (OpenSpec.ofChange plateFindsWrong)

/-- 'zoneworkslaw04.PlateNames': WHATEVER THE INPUT: true; the input reads as it did. -/
def plateNamesSpec : ChangeSpec := { name := "plateNames", fn := fun _ => fun
  | [] => { results := [.lit (.bool true)], args := [] }
  | _ => none }
def plateNamesRow : OpenClaim := { program := "ytlcdohhhhlhpmaa", sum := "89dae6a3abca2ed813ccf4aaebc4cd771366fc36af53e3fb20a504f09059633b", func := "zoneworks/zoneworkslaw04.PlateNames", spec := "plateNames", unfollowed := true, recurses := true, apart := false }
def PlateNamesSaid : Prop := plateNamesRow.holds Try.pinned (OpenSpec.ofChange plateNamesSpec)

/-- ITS FALSE NEIGHBOUR: 'it returns false'. Refute it at one input. -/
def plateNamesWrong : ChangeSpec := { name := "plateNames", fn := fun _ => fun
  | [] => { results := [.lit (.bool false)], args := [] }
  | _ => none }
def PlateNamesWrongFalsely : Prop := plateNamesRow.holds Try.pinned (OpenSpec.ofChange plateNamesWrong)

/-- 'zoneworkslaw04.PlateTrue': WHATEVER THE INPUT: true; the input reads as it did. -/
def plateTrueSpec : ChangeSpec := { name := "plateTrue", fn := fun _ => fun
  | [d] => { results := [.lit (.bool true)], args := [d] }
  | _ => none }
def plateTrueRow : OpenClaim := { program := "ytlcdohhhhlhpmaa", sum := "89dae6a3abca2ed813ccf4aaebc4cd771366fc36af53e3fb20a504f09059633b", func := "zoneworks/zoneworkslaw04.PlateTrue", spec := "plateTrue", unfollowed := true, recurses := true, apart := false }
def PlateTrueSaid : Prop := plateTrueRow.holds Try.pinned (OpenSpec.ofChange plateTrueSpec)

/-- ITS FALSE NEIGHBOUR: 'it returns false'. Refute it at one input. -/
def plateTrueWrong : ChangeSpec := { name := "plateTrue", fn := fun _ => fun
  | [d] => { results := [.lit (.bool false)], args := [d] }
  | _ => none }
def PlateTrueWrongFalsely : Prop := plateTrueRow.holds Try.pinned (OpenSpec.ofChange plateTrueWrong)

/-- 'zoneworkslaw04.PlateEnds': WHATEVER THE INPUT: true; the input reads as it did. -/
def plateEndsSpec : ChangeSpec := { name := "plateEnds", fn := fun _ => fun
  | [d1, d2] => { results := [.lit (.bool true)], args := [d1, d2] }
  | _ => none }
def plateEndsRow : OpenClaim := { program := "ytlcdohhhhlhpmaa", sum := "89dae6a3abca2ed813ccf4aaebc4cd771366fc36af53e3fb20a504f09059633b", func := "zoneworks/zoneworkslaw04.PlateEnds", spec := "plateEnds", unfollowed := true, recurses := true, apart := false }
def PlateEndsSaid : Prop := plateEndsRow.holds Try.pinned (OpenSpec.ofChange plateEndsSpec)

/-- ITS FALSE NEIGHBOUR: 'it returns false'. Refute it at one input. -/
def plateEndsWrong : ChangeSpec := { name := "plateEnds", fn := fun _ => fun
  | [d1, d2] => { results := [.lit (.bool false)], args := [d1, d2] }
  | _ => none }
def PlateEndsWrongFalsely : Prop := plateEndsRow.holds Try.pinned (OpenSpec.ofChange plateEndsWrong)

/-- 'zoneworkslaw04.PlateClash': WHATEVER THE INPUT: true; the input reads as it did. -/
def plateClashSpec : ChangeSpec := { name := "plateClash", fn := fun _ => fun
  | [d1, d2] => { results := [.lit (.bool true)], args := [d1, d2] }
  | _ => none }
def plateClashRow : OpenClaim := { program := "ytlcdohhhhlhpmaa", sum := "89dae6a3abca2ed813ccf4aaebc4cd771366fc36af53e3fb20a504f09059633b", func := "zoneworks/zoneworkslaw04.PlateClash", spec := "plateClash", unfollowed := true, recurses := true, apart := false }
def PlateClashSaid : Prop := plateClashRow.holds Try.pinned (OpenSpec.ofChange plateClashSpec)

/-- ITS FALSE NEIGHBOUR: 'it returns false'. Refute it at one input. -/
def plateClashWrong : ChangeSpec := { name := "plateClash", fn := fun _ => fun
  | [d1, d2] => { results := [.lit (.bool false)], args := [d1, d2] }
  | _ => none }
def PlateClashWrongFalsely : Prop := plateClashRow.holds Try.pinned (OpenSpec.ofChange plateClashWrong)

/-- 'zoneworkslaw04.PlateMore': WHATEVER THE INPUT: true; the input reads as it did. -/
def plateMoreSpec : ChangeSpec := { name := "plateMore", fn := fun _ => fun
  | [d1, d2, d3, d4, d5, d6] => { results := [.lit (.bool true)], args := [d1, d2, d3, d4, d5, d6] }
  | _ => none }
def plateMoreRow : OpenClaim := { program := "ytlcdohhhhlhpmaa", sum := "89dae6a3abca2ed813ccf4aaebc4cd771366fc36af53e3fb20a504f09059633b", func := "zoneworks/zoneworkslaw04.PlateMore", spec := "plateMore", unfollowed := true, recurses := true, apart := false }
def PlateMoreSaid : Prop := plateMoreRow.holds Try.pinned (OpenSpec.ofChange plateMoreSpec)

/-- ITS FALSE NEIGHBOUR: 'it returns false'. Refute it at one input. -/
def plateMoreWrong : ChangeSpec := { name := "plateMore", fn := fun _ => fun
  | [d1, d2, d3, d4, d5, d6] => { results := [.lit (.bool false)], args := [d1, d2, d3, d4, d5, d6] }
  | _ => none }
def PlateMoreWrongFalsely : Prop := plateMoreRow.holds Try.pinned (OpenSpec.ofChange plateMoreWrong)

/-- 'zoneworkslaw04.PlateMoved': WHATEVER THE INPUT: true; the input reads as it did. -/
def plateMovedSpec : ChangeSpec := { name := "plateMoved", fn := fun _ => fun
  | [d1, d2, d3, d4, d5, d6, d7] => { results := [.lit (.bool true)], args := [d1, d2, d3, d4, d5, d6, d7] }
  | _ => none }
def plateMovedRow : OpenClaim := { program := "ytlcdohhhhlhpmaa", sum := "89dae6a3abca2ed813ccf4aaebc4cd771366fc36af53e3fb20a504f09059633b", func := "zoneworks/zoneworkslaw04.PlateMoved", spec := "plateMoved", unfollowed := true, recurses := true, apart := false }
def PlateMovedSaid : Prop := plateMovedRow.holds Try.pinned (OpenSpec.ofChange plateMovedSpec)

/-- ITS FALSE NEIGHBOUR: 'it returns false'. Refute it at one input. -/
def plateMovedWrong : ChangeSpec := { name := "plateMoved", fn := fun _ => fun
  | [d1, d2, d3, d4, d5, d6, d7] => { results := [.lit (.bool false)], args := [d1, d2, d3, d4, d5, d6, d7] }
  | _ => none }
def PlateMovedWrongFalsely : Prop := plateMovedRow.holds Try.pinned (OpenSpec.ofChange plateMovedWrong)

/-- 'zoneworkslaw04.PlateTurned': WHATEVER THE INPUT: true; the input reads as it did. -/
def plateTurnedSpec : ChangeSpec := { name := "plateTurned", fn := fun _ => fun
  | [d1, d2, d3] => { results := [.lit (.bool true)], args := [d1, d2, d3] }
  | _ => none }
def plateTurnedRow : OpenClaim := { program := "ytlcdohhhhlhpmaa", sum := "89dae6a3abca2ed813ccf4aaebc4cd771366fc36af53e3fb20a504f09059633b", func := "zoneworks/zoneworkslaw04.PlateTurned", spec := "plateTurned", unfollowed := true, recurses := true, apart := false }
def PlateTurnedSaid : Prop := plateTurnedRow.holds Try.pinned (OpenSpec.ofChange plateTurnedSpec)

/-- ITS FALSE NEIGHBOUR: 'it returns false'. Refute it at one input. -/
def plateTurnedWrong : ChangeSpec := { name := "plateTurned", fn := fun _ => fun
  | [d1, d2, d3] => { results := [.lit (.bool false)], args := [d1, d2, d3] }
  | _ => none }
def PlateTurnedWrongFalsely : Prop := plateTurnedRow.holds Try.pinned (OpenSpec.ofChange plateTurnedWrong)

/-- 'zoneworkstop.TopMeasured': WHATEVER THE INPUT: true; the input reads as it did. -/
def topMeasuredSpec : ChangeSpec := { name := "topMeasured", fn := fun _ => fun
  | [d] => { results := [.lit (.bool true)], args := [d] }
  | _ => none }
def topMeasuredRow : OpenClaim := { program := "ytlcdohhhhlhpmaa", sum := "89dae6a3abca2ed813ccf4aaebc4cd771366fc36af53e3fb20a504f09059633b", func := "zoneworks/zoneworkstop.TopMeasured", spec := "topMeasured", unfollowed := true, recurses := true, apart := false }
def TopMeasuredSaid : Prop := topMeasuredRow.holds Try.pinned (OpenSpec.ofChange topMeasuredSpec)

/-- ITS FALSE NEIGHBOUR: 'it returns false'. Refute it at one input. -/
def topMeasuredWrong : ChangeSpec := { name := "topMeasured", fn := fun _ => fun
  | [d] => { results := [.lit (.bool false)], args := [d] }
  | _ => none }
def TopMeasuredWrongFalsely : Prop := topMeasuredRow.holds Try.pinned (OpenSpec.ofChange topMeasuredWrong)

/- THE SECOND FORM. 'bulk': how many values and letters a reading holds, each counted each time it is reached (what is shared counts as often as it is met; a slice's spare places count too). A statement '..UptoSaid' is the law's where the arguments, and the package variables that the reading takes, are together of bulk at most 1048576: NARROWER than '..Said'. Prove '..Said' where nothing that the law and all that it calls make is longer than what came in: it says more and counts as full. Else prove '..UptoSaid'. A law counts once. -/
mutual
def uptoBulk {H : Type} : DataW H → Nat
  | .lit (.string bytes) => bytes.length + 1
  | .lit _ => 1
  | .nil => 1
  | .ptr d => uptoBulk d + 1
  | .slice elems spare => uptoBulkAll elems + uptoBulkAll spare + 1
  | .agg parts => uptoBulkAll parts + 1
  | .iface _ d => uptoBulk d + 1
  | .map entries => uptoBulkEntries entries + 1
  | .held _ => 1
def uptoBulkAll {H : Type} : List (DataW H) → Nat
  | [] => 0
  | d :: r => uptoBulk d + uptoBulkAll r
def uptoBulkEntries {H : Type} : List (Lit × DataW H) → Nat
  | [] => 0
  | x :: r => uptoBulkEntry x + uptoBulkEntries r
def uptoBulkEntry {H : Type} : Lit × DataW H → Nat
  | (.string bytes, d) => bytes.length + uptoBulk d + 1
  | (_, d) => uptoBulk d + 1
 end
def uptoSmall : (H : Type) → List (DataW H) → Bool := fun _ ds => decide (uptoBulkAll ds ≤ 1048576)
def OpenSpec.upto (s : _root_.Go.ChangeSpec) : _root_.Go.OpenSpec := { _root_.Go.OpenSpec.ofChange s with cond := some uptoSmall }

/-- 'zoneworkslaw04.PlateStars', WHERE WHAT IT READS IS OF BULK AT MOST 1048576: true; the input reads as it did. -/
def plateStarsUptoRow : OpenClaim := { program := "ytlcdohhhhlhpmaa", sum := "89dae6a3abca2ed813ccf4aaebc4cd771366fc36af53e3fb20a504f09059633b", func := "zoneworks/zoneworkslaw04.PlateStars", spec := "plateStars", unfollowed := true, recurses := true, apart := false, narrowed := true }
def PlateStarsUptoSaid : Prop := plateStarsUptoRow.holds Try.pinned (OpenSpec.upto plateStarsSpec)

/-- 'zoneworkslaw04.PlateFinds', WHERE WHAT IT READS IS OF BULK AT MOST 1048576: true; the input reads as it did. -/
def plateFindsUptoRow : OpenClaim := { program := "ytlcdohhhhlhpmaa", sum := "89dae6a3abca2ed813ccf4aaebc4cd771366fc36af53e3fb20a504f09059633b", func := "zoneworks/zoneworkslaw04.PlateFinds", spec := "plateFinds", unfollowed := true, recurses := true, apart := false, narrowed := true }
def PlateFindsUptoSaid : Prop := plateFindsUptoRow.holds Try.pinned (OpenSpec.upto plateFindsSpec)

/-- 'zoneworkslaw04.PlateNames', WHERE WHAT IT READS IS OF BULK AT MOST 1048576: true; the input reads as it did. -/
def plateNamesUptoRow : OpenClaim := { program := "ytlcdohhhhlhpmaa", sum := "89dae6a3abca2ed813ccf4aaebc4cd771366fc36af53e3fb20a504f09059633b", func := "zoneworks/zoneworkslaw04.PlateNames", spec := "plateNames", unfollowed := true, recurses := true, apart := false, narrowed := true }
def PlateNamesUptoSaid : Prop := plateNamesUptoRow.holds Try.pinned (OpenSpec.upto plateNamesSpec)

/-- 'zoneworkslaw04.PlateTrue', WHERE WHAT IT READS IS OF BULK AT MOST 1048576: true; the input reads as it did. -/
def plateTrueUptoRow : OpenClaim := { program := "ytlcdohhhhlhpmaa", sum := "89dae6a3abca2ed813ccf4aaebc4cd771366fc36af53e3fb20a504f09059633b", func := "zoneworks/zoneworkslaw04.PlateTrue", spec := "plateTrue", unfollowed := true, recurses := true, apart := false, narrowed := true }
def PlateTrueUptoSaid : Prop := plateTrueUptoRow.holds Try.pinned (OpenSpec.upto plateTrueSpec)

/-- 'zoneworkslaw04.PlateEnds', WHERE WHAT IT READS IS OF BULK AT MOST 1048576: true; the input reads as it did. -/
def plateEndsUptoRow : OpenClaim := { program := "ytlcdohhhhlhpmaa", sum := "89dae6a3abca2ed813ccf4aaebc4cd771366fc36af53e3fb20a504f09059633b", func := "zoneworks/zoneworkslaw04.PlateEnds", spec := "plateEnds", unfollowed := true, recurses := true, apart := false, narrowed := true }
def PlateEndsUptoSaid : Prop := plateEndsUptoRow.holds Try.pinned (OpenSpec.upto plateEndsSpec)

/-- 'zoneworkslaw04.PlateClash', WHERE WHAT IT READS IS OF BULK AT MOST 1048576: true; the input reads as it did. -/
def plateClashUptoRow : OpenClaim := { program := "ytlcdohhhhlhpmaa", sum := "89dae6a3abca2ed813ccf4aaebc4cd771366fc36af53e3fb20a504f09059633b", func := "zoneworks/zoneworkslaw04.PlateClash", spec := "plateClash", unfollowed := true, recurses := true, apart := false, narrowed := true }
def PlateClashUptoSaid : Prop := plateClashUptoRow.holds Try.pinned (OpenSpec.upto plateClashSpec)

/-- 'zoneworkslaw04.PlateMore', WHERE WHAT IT READS IS OF BULK AT MOST 1048576: true; the input reads as it did. -/
def plateMoreUptoRow : OpenClaim := { program := "ytlcdohhhhlhpmaa", sum := "89dae6a3abca2ed813ccf4aaebc4cd771366fc36af53e3fb20a504f09059633b", func := "zoneworks/zoneworkslaw04.PlateMore", spec := "plateMore", unfollowed := true, recurses := true, apart := false, narrowed := true }
def PlateMoreUptoSaid : Prop := plateMoreUptoRow.holds Try.pinned (OpenSpec.upto plateMoreSpec)

/-- 'zoneworkslaw04.PlateMoved', WHERE WHAT IT READS IS OF BULK AT MOST 1048576: true; the input reads as it did. -/
def plateMovedUptoRow : OpenClaim := { program := "ytlcdohhhhlhpmaa", sum := "89dae6a3abca2ed813ccf4aaebc4cd771366fc36af53e3fb20a504f09059633b", func := "zoneworks/zoneworkslaw04.PlateMoved", spec := "plateMoved", unfollowed := true, recurses := true, apart := false, narrowed := true }
def PlateMovedUptoSaid : Prop := plateMovedUptoRow.holds Try.pinned (OpenSpec.upto plateMovedSpec)

/-- 'zoneworkslaw04.PlateTurned', WHERE WHAT IT READS IS OF BULK AT MOST 1048576: true; the input reads as it did. -/
def plateTurnedUptoRow : OpenClaim := { program := "ytlcdohhhhlhpmaa", sum := "89dae6a3abca2ed813ccf4aaebc4cd771366fc36af53e3fb20a504f09059633b", func := "zoneworks/zoneworkslaw04.PlateTurned", spec := "plateTurned", unfollowed := true, recurses := true, apart := false, narrowed := true }
def PlateTurnedUptoSaid : Prop := plateTurnedUptoRow.holds Try.pinned (OpenSpec.upto plateTurnedSpec)

/-- 'zoneworkstop.TopMeasured', WHERE WHAT IT READS IS OF BULK AT MOST 1048576: true; the input reads as it did. -/
def topMeasuredUptoRow : OpenClaim := { program := "ytlcdohhhhlhpmaa", sum := "89dae6a3abca2ed813ccf4aaebc4cd771366fc36af53e3fb20a504f09059633b", func := "zoneworks/zoneworkstop.TopMeasured", spec := "topMeasured", unfollowed := true, recurses := true, apart := false, narrowed := true }
def TopMeasuredUptoSaid : Prop := topMeasuredUptoRow.holds Try.pinned (OpenSpec.upto topMeasuredSpec)

end Rows
end Go.Proofs.Ytlcdohhhhlhpmaa
