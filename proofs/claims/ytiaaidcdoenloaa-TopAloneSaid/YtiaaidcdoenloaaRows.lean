/-
  No cell of these rows narrows 'for every input' (looked for: loops, veiled, ifaces, maps, wideKeys, modest, calm, conditions, laid).
  DERIVED. THE GIVEN ROWS OF THIS SEAT. 10 by the template 'for every input the law returns true; each argument reads behind the call as it read before'; 0 by the template 'total and deterministic' (their statements: YtiaaidcdoenloaaTotals.lean).
  GIVEN WITH THE SEED: the statements are not yours to turn. If you find one false, say at which input.
  Laid BY PROGRAM, IN A SANDBOX (cutbox-rows.mjs): the forced cells as the released guide's own fill.sh prints them over the translation d6b26b1a749d7671… (all of the seat's roots in one cut). By AI agents, Wed Nov 11 2026. No macro, syntax, notation, axiom, sorry.
-/
import Derived.Test.YtiaaidcdoenloaaChecked
import GoSem.Claim
import GoSem.ClaimJoined
import GoSem.ClaimMapViews
import Derived.JoinedTies
import Derived.KernelRfl
namespace Go.Proofs.Ytiaaidcdoenloaa
/- THE CELL 'sum', in the pinned program and in every row, IS THE sha256 OF THE DUMP (.gsa) THAT YtiaaidcdoenloaaProg.lean LOADS. Nothing in Lean hashes anything: it is a label: what it is worth is what the hold of that sum in a sandbox is worth. -/
noncomputable def Try.pinned : Pinned := { name := "ytiaaidcdoenloaa", sum := "d6b26b1a749d7671bfb96b0c88c467c914e83dca734b40a0b807770534421b34", checked := Try.checked }
namespace Rows
def none {H : Type} : Left H := { results := [], args := [] }

/-- 'zoneworkslaw03.EyeHabits': WHATEVER THE INPUT: true; the input reads as it did. -/
def eyeHabitsSpec : ChangeSpec := { name := "eyeHabits", fn := fun _ => fun
  | [d1, d2, d3, d4] => { results := [.lit (.bool true)], args := [d1, d2, d3, d4] }
  | _ => none }
def eyeHabitsRow : OpenClaim := { program := "ytiaaidcdoenloaa", sum := "d6b26b1a749d7671bfb96b0c88c467c914e83dca734b40a0b807770534421b34", func := "zoneworks/zoneworkslaw03.EyeHabits", spec := "eyeHabits", unfollowed := true, recurses := true, apart := false }
def EyeHabitsSaid : Prop := eyeHabitsRow.holds Try.pinned (OpenSpec.ofChange eyeHabitsSpec)

/-- ITS FALSE NEIGHBOUR: 'it returns false'. Refute it at one input. -/
def eyeHabitsWrong : ChangeSpec := { name := "eyeHabits", fn := fun _ => fun
  | [d1, d2, d3, d4] => { results := [.lit (.bool false)], args := [d1, d2, d3, d4] }
  | _ => none }
def EyeHabitsWrongFalsely : Prop := eyeHabitsRow.holds Try.pinned (OpenSpec.ofChange eyeHabitsWrong)

/-- 'zoneworkslaw03.EyeSets': WHATEVER THE INPUT: true; the input reads as it did. -/
def eyeSetsSpec : ChangeSpec := { name := "eyeSets", fn := fun _ => fun
  | [d] => { results := [.lit (.bool true)], args := [d] }
  | _ => none }
def eyeSetsRow : OpenClaim := { program := "ytiaaidcdoenloaa", sum := "d6b26b1a749d7671bfb96b0c88c467c914e83dca734b40a0b807770534421b34", func := "zoneworks/zoneworkslaw03.EyeSets", spec := "eyeSets", unfollowed := true, recurses := true, apart := false }
def EyeSetsSaid : Prop := eyeSetsRow.holds Try.pinned (OpenSpec.ofChange eyeSetsSpec)

/-- ITS FALSE NEIGHBOUR: 'it returns false'. Refute it at one input. -/
def eyeSetsWrong : ChangeSpec := { name := "eyeSets", fn := fun _ => fun
  | [d] => { results := [.lit (.bool false)], args := [d] }
  | _ => none }
def EyeSetsWrongFalsely : Prop := eyeSetsRow.holds Try.pinned (OpenSpec.ofChange eyeSetsWrong)

/-- 'zoneworkslaw03.EyeTrue': WHATEVER THE INPUT: true; the input reads as it did. -/
def eyeTrueSpec : ChangeSpec := { name := "eyeTrue", fn := fun _ => fun
  | [d] => { results := [.lit (.bool true)], args := [d] }
  | _ => none }
def eyeTrueRow : OpenClaim := { program := "ytiaaidcdoenloaa", sum := "d6b26b1a749d7671bfb96b0c88c467c914e83dca734b40a0b807770534421b34", func := "zoneworks/zoneworkslaw03.EyeTrue", spec := "eyeTrue", unfollowed := true, recurses := true, apart := false }
def EyeTrueSaid : Prop := eyeTrueRow.holds Try.pinned (OpenSpec.ofChange eyeTrueSpec)

/-- ITS FALSE NEIGHBOUR: 'it returns false'. Refute it at one input. -/
def eyeTrueWrong : ChangeSpec := { name := "eyeTrue", fn := fun _ => fun
  | [d] => { results := [.lit (.bool false)], args := [d] }
  | _ => none }
def EyeTrueWrongFalsely : Prop := eyeTrueRow.holds Try.pinned (OpenSpec.ofChange eyeTrueWrong)

/-- 'zoneworkslaw03.EyeDiffer': WHATEVER THE INPUT: true; the input reads as it did. -/
def eyeDifferSpec : ChangeSpec := { name := "eyeDiffer", fn := fun _ => fun
  | [d1, d2, d3, d4] => { results := [.lit (.bool true)], args := [d1, d2, d3, d4] }
  | _ => none }
def eyeDifferRow : OpenClaim := { program := "ytiaaidcdoenloaa", sum := "d6b26b1a749d7671bfb96b0c88c467c914e83dca734b40a0b807770534421b34", func := "zoneworks/zoneworkslaw03.EyeDiffer", spec := "eyeDiffer", unfollowed := true, recurses := true, apart := false }
def EyeDifferSaid : Prop := eyeDifferRow.holds Try.pinned (OpenSpec.ofChange eyeDifferSpec)

/-- ITS FALSE NEIGHBOUR: 'it returns false'. Refute it at one input. -/
def eyeDifferWrong : ChangeSpec := { name := "eyeDiffer", fn := fun _ => fun
  | [d1, d2, d3, d4] => { results := [.lit (.bool false)], args := [d1, d2, d3, d4] }
  | _ => none }
def EyeDifferWrongFalsely : Prop := eyeDifferRow.holds Try.pinned (OpenSpec.ofChange eyeDifferWrong)

/-- 'zoneworkslaw03.EyePlaces': WHATEVER THE INPUT: true; the input reads as it did. -/
def eyePlacesSpec : ChangeSpec := { name := "eyePlaces", fn := fun _ => fun
  | [d] => { results := [.lit (.bool true)], args := [d] }
  | _ => none }
def eyePlacesRow : OpenClaim := { program := "ytiaaidcdoenloaa", sum := "d6b26b1a749d7671bfb96b0c88c467c914e83dca734b40a0b807770534421b34", func := "zoneworks/zoneworkslaw03.EyePlaces", spec := "eyePlaces", unfollowed := true, recurses := true, apart := false }
def EyePlacesSaid : Prop := eyePlacesRow.holds Try.pinned (OpenSpec.ofChange eyePlacesSpec)

/-- ITS FALSE NEIGHBOUR: 'it returns false'. Refute it at one input. -/
def eyePlacesWrong : ChangeSpec := { name := "eyePlaces", fn := fun _ => fun
  | [d] => { results := [.lit (.bool false)], args := [d] }
  | _ => none }
def EyePlacesWrongFalsely : Prop := eyePlacesRow.holds Try.pinned (OpenSpec.ofChange eyePlacesWrong)

/-- 'zoneworkslaw03.EyeClash': WHATEVER THE INPUT: true; the input reads as it did. -/
def eyeClashSpec : ChangeSpec := { name := "eyeClash", fn := fun _ => fun
  | [d1, d2] => { results := [.lit (.bool true)], args := [d1, d2] }
  | _ => none }
def eyeClashRow : OpenClaim := { program := "ytiaaidcdoenloaa", sum := "d6b26b1a749d7671bfb96b0c88c467c914e83dca734b40a0b807770534421b34", func := "zoneworks/zoneworkslaw03.EyeClash", spec := "eyeClash", unfollowed := true, recurses := true, apart := false }
def EyeClashSaid : Prop := eyeClashRow.holds Try.pinned (OpenSpec.ofChange eyeClashSpec)

/-- ITS FALSE NEIGHBOUR: 'it returns false'. Refute it at one input. -/
def eyeClashWrong : ChangeSpec := { name := "eyeClash", fn := fun _ => fun
  | [d1, d2] => { results := [.lit (.bool false)], args := [d1, d2] }
  | _ => none }
def EyeClashWrongFalsely : Prop := eyeClashRow.holds Try.pinned (OpenSpec.ofChange eyeClashWrong)

/-- 'zoneworkslaw03.EyeExplain': WHATEVER THE INPUT: true; the input reads as it did. -/
def eyeExplainSpec : ChangeSpec := { name := "eyeExplain", fn := fun _ => fun
  | [d1, d2] => { results := [.lit (.bool true)], args := [d1, d2] }
  | _ => none }
def eyeExplainRow : OpenClaim := { program := "ytiaaidcdoenloaa", sum := "d6b26b1a749d7671bfb96b0c88c467c914e83dca734b40a0b807770534421b34", func := "zoneworks/zoneworkslaw03.EyeExplain", spec := "eyeExplain", unfollowed := true, recurses := true, apart := false }
def EyeExplainSaid : Prop := eyeExplainRow.holds Try.pinned (OpenSpec.ofChange eyeExplainSpec)

/-- ITS FALSE NEIGHBOUR: 'it returns false'. Refute it at one input. -/
def eyeExplainWrong : ChangeSpec := { name := "eyeExplain", fn := fun _ => fun
  | [d1, d2] => { results := [.lit (.bool false)], args := [d1, d2] }
  | _ => none }
def EyeExplainWrongFalsely : Prop := eyeExplainRow.holds Try.pinned (OpenSpec.ofChange eyeExplainWrong)

/-- 'zoneworkslaw03.EyeMore': WHATEVER THE INPUT: true; the input reads as it did. -/
def eyeMoreSpec : ChangeSpec := { name := "eyeMore", fn := fun _ => fun
  | [d1, d2, d3] => { results := [.lit (.bool true)], args := [d1, d2, d3] }
  | _ => none }
def eyeMoreRow : OpenClaim := { program := "ytiaaidcdoenloaa", sum := "d6b26b1a749d7671bfb96b0c88c467c914e83dca734b40a0b807770534421b34", func := "zoneworks/zoneworkslaw03.EyeMore", spec := "eyeMore", unfollowed := true, recurses := true, apart := false }
def EyeMoreSaid : Prop := eyeMoreRow.holds Try.pinned (OpenSpec.ofChange eyeMoreSpec)

/-- ITS FALSE NEIGHBOUR: 'it returns false'. Refute it at one input. -/
def eyeMoreWrong : ChangeSpec := { name := "eyeMore", fn := fun _ => fun
  | [d1, d2, d3] => { results := [.lit (.bool false)], args := [d1, d2, d3] }
  | _ => none }
def EyeMoreWrongFalsely : Prop := eyeMoreRow.holds Try.pinned (OpenSpec.ofChange eyeMoreWrong)

/-- 'zoneworkslaw03.EyeTurned': WHATEVER THE INPUT: true; the input reads as it did. -/
def eyeTurnedSpec : ChangeSpec := { name := "eyeTurned", fn := fun _ => fun
  | [d1, d2, d3] => { results := [.lit (.bool true)], args := [d1, d2, d3] }
  | _ => none }
def eyeTurnedRow : OpenClaim := { program := "ytiaaidcdoenloaa", sum := "d6b26b1a749d7671bfb96b0c88c467c914e83dca734b40a0b807770534421b34", func := "zoneworks/zoneworkslaw03.EyeTurned", spec := "eyeTurned", unfollowed := true, recurses := true, apart := false }
def EyeTurnedSaid : Prop := eyeTurnedRow.holds Try.pinned (OpenSpec.ofChange eyeTurnedSpec)

/-- ITS FALSE NEIGHBOUR: 'it returns false'. Refute it at one input. -/
def eyeTurnedWrong : ChangeSpec := { name := "eyeTurned", fn := fun _ => fun
  | [d1, d2, d3] => { results := [.lit (.bool false)], args := [d1, d2, d3] }
  | _ => none }
def EyeTurnedWrongFalsely : Prop := eyeTurnedRow.holds Try.pinned (OpenSpec.ofChange eyeTurnedWrong)

/-- 'zoneworkstop.TopAlone': WHATEVER THE INPUT: true; the input reads as it did. -/
def topAloneSpec : ChangeSpec := { name := "topAlone", fn := fun _ => fun
  | [d] => { results := [.lit (.bool true)], args := [d] }
  | _ => none }
def topAloneRow : OpenClaim := { program := "ytiaaidcdoenloaa", sum := "d6b26b1a749d7671bfb96b0c88c467c914e83dca734b40a0b807770534421b34", func := "zoneworks/zoneworkstop.TopAlone", spec := "topAlone", unfollowed := true, recurses := true, apart := false }
def TopAloneSaid : Prop := topAloneRow.holds Try.pinned (OpenSpec.ofChange topAloneSpec)

/-- ITS FALSE NEIGHBOUR: 'it returns false'. Refute it at one input. -/
def topAloneWrong : ChangeSpec := { name := "topAlone", fn := fun _ => fun
  | [d] => { results := [.lit (.bool false)], args := [d] }
  | _ => none }
def TopAloneWrongFalsely : Prop := topAloneRow.holds Try.pinned (OpenSpec.ofChange topAloneWrong)

/- THE SECOND FORM. 'bulk': how many values and letters a reading holds, each counted each time it is reached (what is shared counts as often as it is met; a slice's spare places count too). A statement '..UptoSaid' is the law's where the arguments, and the package variables that the reading takes, are together of bulk at most 1048576: NARROWER than '..Said'. Prove '..Said' where nothing that the law and all that it calls make is longer than what came in: it says more and counts as full. Else prove '..UptoSaid'. A law counts once. -/
mutual
def uptoBulk {H : Type} : DataW H → Nat
  | .lit (.string bytes) => bytes.length + 1
  | .lit _ => 1
  | .nil => 1
  | .ptr d => uptoBulk d + 1
  | .slice elems spare => uptoBulkAll elems + uptoBulkAll spare + 1
  | .agg parts => uptoBulkAll parts + 1
  | .iface _ d => uptoBulk d + 1
  | .map entries => uptoBulkEntries entries + 1
  | .held _ => 1
def uptoBulkAll {H : Type} : List (DataW H) → Nat
  | [] => 0
  | d :: r => uptoBulk d + uptoBulkAll r
def uptoBulkEntries {H : Type} : List (Lit × DataW H) → Nat
  | [] => 0
  | x :: r => uptoBulkEntry x + uptoBulkEntries r
def uptoBulkEntry {H : Type} : Lit × DataW H → Nat
  | (.string bytes, d) => bytes.length + uptoBulk d + 1
  | (_, d) => uptoBulk d + 1
 end
def uptoSmall : (H : Type) → List (DataW H) → Bool := fun _ ds => decide (uptoBulkAll ds ≤ 1048576)
def OpenSpec.upto (s : _root_.Go.ChangeSpec) : _root_.Go.OpenSpec := { _root_.Go.OpenSpec.ofChange s with cond := some uptoSmall }

/-- 'zoneworkslaw03.EyeHabits', WHERE WHAT IT READS IS OF BULK AT MOST 1048576: true; the input reads as it did. -/
def eyeHabitsUptoRow : OpenClaim := { program := "ytiaaidcdoenloaa", sum := "d6b26b1a749d7671bfb96b0c88c467c914e83dca734b40a0b807770534421b34", func := "zoneworks/zoneworkslaw03.EyeHabits", spec := "eyeHabits", unfollowed := true, recurses := true, apart := false, narrowed := true }
def EyeHabitsUptoSaid : Prop := eyeHabitsUptoRow.holds Try.pinned (OpenSpec.upto eyeHabitsSpec)

/-- 'zoneworkslaw03.EyeSets', WHERE WHAT IT READS IS OF BULK AT MOST 1048576: true; the input reads as it did. -/
def eyeSetsUptoRow : OpenClaim := { program := "ytiaaidcdoenloaa", sum := "d6b26b1a749d7671bfb96b0c88c467c914e83dca734b40a0b807770534421b34", func := "zoneworks/zoneworkslaw03.EyeSets", spec := "eyeSets", unfollowed := true, recurses := true, apart := false, narrowed := true }
def EyeSetsUptoSaid : Prop := eyeSetsUptoRow.holds Try.pinned (OpenSpec.upto eyeSetsSpec)

/-- 'zoneworkslaw03.EyeTrue', WHERE WHAT IT READS IS OF BULK AT MOST 1048576: true; the input reads as it did. -/
def eyeTrueUptoRow : OpenClaim := { program := "ytiaaidcdoenloaa", sum := "d6b26b1a749d7671bfb96b0c88c467c914e83dca734b40a0b807770534421b34", func := "zoneworks/zoneworkslaw03.EyeTrue", spec := "eyeTrue", unfollowed := true, recurses := true, apart := false, narrowed := true }
def EyeTrueUptoSaid : Prop := eyeTrueUptoRow.holds Try.pinned (OpenSpec.upto eyeTrueSpec)

/-- 'zoneworkslaw03.EyeDiffer', WHERE WHAT IT READS IS OF BULK AT MOST 1048576: true; the input reads as it did. -/
def eyeDifferUptoRow : OpenClaim := { program := "ytiaaidcdoenloaa", sum := "d6b26b1a749d7671bfb96b0c88c467c914e83dca734b40a0b807770534421b34", func := "zoneworks/zoneworkslaw03.EyeDiffer", spec := "eyeDiffer", unfollowed := true, recurses := true, apart := false, narrowed := true }
def EyeDifferUptoSaid : Prop := eyeDifferUptoRow.holds Try.pinned (OpenSpec.upto eyeDifferSpec)

/-- 'zoneworkslaw03.EyePlaces', WHERE WHAT IT READS IS OF BULK AT MOST 1048576: true; the input reads as it did. -/
def eyePlacesUptoRow : OpenClaim := { program := "ytiaaidcdoenloaa", sum := "d6b26b1a749d7671bfb96b0c88c467c914e83dca734b40a0b807770534421b34", func := "zoneworks/zoneworkslaw03.EyePlaces", spec := "eyePlaces", unfollowed := true, recurses := true, apart := false, narrowed := true }
def EyePlacesUptoSaid : Prop := eyePlacesUptoRow.holds Try.pinned (OpenSpec.upto eyePlacesSpec)

/-- 'zoneworkslaw03.EyeClash', WHERE WHAT IT READS IS OF BULK AT MOST 1048576: true; the input reads as it did. -/
def eyeClashUptoRow : OpenClaim := { program := "ytiaaidcdoenloaa", sum := "d6b26b1a749d7671bfb96b0c88c467c914e83dca734b40a0b807770534421b34", func := "zoneworks/zoneworkslaw03.EyeClash", spec := "eyeClash", unfollowed := true, recurses := true, apart := false, narrowed := true }
def EyeClashUptoSaid : Prop := eyeClashUptoRow.holds Try.pinned (OpenSpec.upto eyeClashSpec)

/-- 'zoneworkslaw03.EyeExplain', WHERE WHAT IT READS IS OF BULK AT MOST 1048576: true; the input reads as it did. -/
def eyeExplainUptoRow : OpenClaim := { program := "ytiaaidcdoenloaa", sum := "d6b26b1a749d7671bfb96b0c88c467c914e83dca734b40a0b807770534421b34", func := "zoneworks/zoneworkslaw03.EyeExplain", spec := "eyeExplain", unfollowed := true, recurses := true, apart := false, narrowed := true }
def EyeExplainUptoSaid : Prop := eyeExplainUptoRow.holds Try.pinned (OpenSpec.upto eyeExplainSpec)

/-- 'zoneworkslaw03.EyeMore', WHERE WHAT IT READS IS OF BULK AT MOST 1048576: true; the input reads as it did. -/
def eyeMoreUptoRow : OpenClaim := { program := "ytiaaidcdoenloaa", sum := "d6b26b1a749d7671bfb96b0c88c467c914e83dca734b40a0b807770534421b34", func := "zoneworks/zoneworkslaw03.EyeMore", spec := "eyeMore", unfollowed := true, recurses := true, apart := false, narrowed := true }
def EyeMoreUptoSaid : Prop := eyeMoreUptoRow.holds Try.pinned (OpenSpec.upto eyeMoreSpec)

/-- 'zoneworkslaw03.EyeTurned', WHERE WHAT IT READS IS OF BULK AT MOST 1048576: true; the input reads as it did. -/
def eyeTurnedUptoRow : OpenClaim := { program := "ytiaaidcdoenloaa", sum := "d6b26b1a749d7671bfb96b0c88c467c914e83dca734b40a0b807770534421b34", func := "zoneworks/zoneworkslaw03.EyeTurned", spec := "eyeTurned", unfollowed := true, recurses := true, apart := false, narrowed := true }
def EyeTurnedUptoSaid : Prop := eyeTurnedUptoRow.holds Try.pinned (OpenSpec.upto eyeTurnedSpec)

/-- 'zoneworkstop.TopAlone', WHERE WHAT IT READS IS OF BULK AT MOST 1048576: true; the input reads as it did. -/
def topAloneUptoRow : OpenClaim := { program := "ytiaaidcdoenloaa", sum := "d6b26b1a749d7671bfb96b0c88c467c914e83dca734b40a0b807770534421b34", func := "zoneworks/zoneworkstop.TopAlone", spec := "topAlone", unfollowed := true, recurses := true, apart := false, narrowed := true }
def TopAloneUptoSaid : Prop := topAloneUptoRow.holds Try.pinned (OpenSpec.upto topAloneSpec)

end Rows
end Go.Proofs.Ytiaaidcdoenloaa
