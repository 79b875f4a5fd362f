/-
  No cell of these rows narrows 'for every input' (looked for: loops, veiled, ifaces, maps, wideKeys, modest, calm, conditions, laid).
  DERIVED. THE GIVEN ROWS OF THIS SEAT. 10 by the template 'for every input the law returns true; each argument reads behind the call as it read before'; 0 by the template 'total and deterministic' (their statements: YtoefcofplkbnkaaTotals.lean).
  GIVEN WITH THE SEED: the statements are not yours to turn. If you find one false, say at which input.
  Laid BY PROGRAM, IN A SANDBOX (cutbox-rows.mjs): the forced cells as the released guide's own fill.sh prints them over the translation 43617d0c378dbeda… (all of the seat's roots in one cut). By AI agents, Wed Nov 11 2026. No macro, syntax, notation, axiom, sorry.
-/
import Derived.Test.YtoefcofplkbnkaaChecked
import GoSem.Claim
import GoSem.ClaimJoined
import GoSem.ClaimMapViews
import Derived.JoinedTies
import Derived.KernelRfl
namespace Go.Proofs.Ytoefcofplkbnkaa
/- THE CELL 'sum', in the pinned program and in every row, IS THE sha256 OF THE DUMP (.gsa) THAT YtoefcofplkbnkaaProg.lean LOADS. Nothing in Lean hashes anything: it is a label: what it is worth is what the hold of that sum in a sandbox is worth. -/
noncomputable def Try.pinned : Pinned := { name := "ytoefcofplkbnkaa", sum := "43617d0c378dbedab31fc9ef4b2a88218281e13366c7158d8995dde7efa47cb2", checked := Try.checked }
namespace Rows
def none {H : Type} : Left H := { results := [], args := [] }

/-- 'zoneworkslaw01.ScrewReads': WHATEVER THE INPUT: true; the input reads as it did. -/
def screwReadsSpec : ChangeSpec := { name := "screwReads", fn := fun _ => fun
  | [d1, d2, d3, d4] => { results := [.lit (.bool true)], args := [d1, d2, d3, d4] }
  | _ => none }
def screwReadsRow : OpenClaim := { program := "ytoefcofplkbnkaa", sum := "43617d0c378dbedab31fc9ef4b2a88218281e13366c7158d8995dde7efa47cb2", func := "zoneworks/zoneworkslaw01.ScrewReads", spec := "screwReads", unfollowed := true, recurses := true, apart := false }
def ScrewReadsSaid : Prop := screwReadsRow.holds Try.pinned (OpenSpec.ofChange screwReadsSpec)

/-- ITS FALSE NEIGHBOUR: 'it returns false'. Refute it at one input. -/
def screwReadsWrong : ChangeSpec := { name := "screwReads", fn := fun _ => fun
  | [d1, d2, d3, d4] => { results := [.lit (.bool false)], args := [d1, d2, d3, d4] }
  | _ => none }
def ScrewReadsWrongFalsely : Prop := screwReadsRow.holds Try.pinned (OpenSpec.ofChange screwReadsWrong)

/-- 'zoneworkslaw01.ScrewTrue': WHATEVER THE INPUT: true; the input reads as it did. -/
def screwTrueSpec : ChangeSpec := { name := "screwTrue", fn := fun _ => fun
  | [d] => { results := [.lit (.bool true)], args := [d] }
  | _ => none }
def screwTrueRow : OpenClaim := { program := "ytoefcofplkbnkaa", sum := "43617d0c378dbedab31fc9ef4b2a88218281e13366c7158d8995dde7efa47cb2", func := "zoneworks/zoneworkslaw01.ScrewTrue", spec := "screwTrue", unfollowed := true, recurses := true, apart := false }
def ScrewTrueSaid : Prop := screwTrueRow.holds Try.pinned (OpenSpec.ofChange screwTrueSpec)

/-- ITS FALSE NEIGHBOUR: 'it returns false'. Refute it at one input. -/
def screwTrueWrong : ChangeSpec := { name := "screwTrue", fn := fun _ => fun
  | [d] => { results := [.lit (.bool false)], args := [d] }
  | _ => none }
def ScrewTrueWrongFalsely : Prop := screwTrueRow.holds Try.pinned (OpenSpec.ofChange screwTrueWrong)

/-- 'zoneworkslaw01.ScrewEnds': WHATEVER THE INPUT: true; the input reads as it did. -/
def screwEndsSpec : ChangeSpec := { name := "screwEnds", fn := fun _ => fun
  | [d1, d2, d3] => { results := [.lit (.bool true)], args := [d1, d2, d3] }
  | _ => none }
def screwEndsRow : OpenClaim := { program := "ytoefcofplkbnkaa", sum := "43617d0c378dbedab31fc9ef4b2a88218281e13366c7158d8995dde7efa47cb2", func := "zoneworks/zoneworkslaw01.ScrewEnds", spec := "screwEnds", unfollowed := true, recurses := true, apart := false }
def ScrewEndsSaid : Prop := screwEndsRow.holds Try.pinned (OpenSpec.ofChange screwEndsSpec)

/-- ITS FALSE NEIGHBOUR: 'it returns false'. Refute it at one input. -/
def screwEndsWrong : ChangeSpec := { name := "screwEnds", fn := fun _ => fun
  | [d1, d2, d3] => { results := [.lit (.bool false)], args := [d1, d2, d3] }
  | _ => none }
def ScrewEndsWrongFalsely : Prop := screwEndsRow.holds Try.pinned (OpenSpec.ofChange screwEndsWrong)

/-- 'zoneworkslaw01.ScrewClash': WHATEVER THE INPUT: true; the input reads as it did. -/
def screwClashSpec : ChangeSpec := { name := "screwClash", fn := fun _ => fun
  | [d1, d2] => { results := [.lit (.bool true)], args := [d1, d2] }
  | _ => none }
def screwClashRow : OpenClaim := { program := "ytoefcofplkbnkaa", sum := "43617d0c378dbedab31fc9ef4b2a88218281e13366c7158d8995dde7efa47cb2", func := "zoneworks/zoneworkslaw01.ScrewClash", spec := "screwClash", unfollowed := true, recurses := true, apart := false }
def ScrewClashSaid : Prop := screwClashRow.holds Try.pinned (OpenSpec.ofChange screwClashSpec)

/-- ITS FALSE NEIGHBOUR: 'it returns false'. Refute it at one input. -/
def screwClashWrong : ChangeSpec := { name := "screwClash", fn := fun _ => fun
  | [d1, d2] => { results := [.lit (.bool false)], args := [d1, d2] }
  | _ => none }
def ScrewClashWrongFalsely : Prop := screwClashRow.holds Try.pinned (OpenSpec.ofChange screwClashWrong)

/-- 'zoneworkslaw01.ScrewMore': WHATEVER THE INPUT: true; the input reads as it did. -/
def screwMoreSpec : ChangeSpec := { name := "screwMore", fn := fun _ => fun
  | [d1, d2, d3, d4, d5] => { results := [.lit (.bool true)], args := [d1, d2, d3, d4, d5] }
  | _ => none }
def screwMoreRow : OpenClaim := { program := "ytoefcofplkbnkaa", sum := "43617d0c378dbedab31fc9ef4b2a88218281e13366c7158d8995dde7efa47cb2", func := "zoneworks/zoneworkslaw01.ScrewMore", spec := "screwMore", unfollowed := true, recurses := true, apart := false }
def ScrewMoreSaid : Prop := screwMoreRow.holds Try.pinned (OpenSpec.ofChange screwMoreSpec)

/-- ITS FALSE NEIGHBOUR: 'it returns false'. Refute it at one input. -/
def screwMoreWrong : ChangeSpec := { name := "screwMore", fn := fun _ => fun
  | [d1, d2, d3, d4, d5] => { results := [.lit (.bool false)], args := [d1, d2, d3, d4, d5] }
  | _ => none }
def ScrewMoreWrongFalsely : Prop := screwMoreRow.holds Try.pinned (OpenSpec.ofChange screwMoreWrong)

/-- 'zoneworkslaw01.ScrewIdle': WHATEVER THE INPUT: true; the input reads as it did. -/
def screwIdleSpec : ChangeSpec := { name := "screwIdle", fn := fun _ => fun
  | [d] => { results := [.lit (.bool true)], args := [d] }
  | _ => none }
def screwIdleRow : OpenClaim := { program := "ytoefcofplkbnkaa", sum := "43617d0c378dbedab31fc9ef4b2a88218281e13366c7158d8995dde7efa47cb2", func := "zoneworks/zoneworkslaw01.ScrewIdle", spec := "screwIdle", unfollowed := true, recurses := true, apart := false }
def ScrewIdleSaid : Prop := screwIdleRow.holds Try.pinned (OpenSpec.ofChange screwIdleSpec)

/-- ITS FALSE NEIGHBOUR: 'it returns false'. Refute it at one input. -/
def screwIdleWrong : ChangeSpec := { name := "screwIdle", fn := fun _ => fun
  | [d] => { results := [.lit (.bool false)], args := [d] }
  | _ => none }
def ScrewIdleWrongFalsely : Prop := screwIdleRow.holds Try.pinned (OpenSpec.ofChange screwIdleWrong)

/-- 'zoneworkslaw01.ScrewWrong': WHATEVER THE INPUT: true; the input reads as it did. -/
def screwWrongSpec : ChangeSpec := { name := "screwWrong", fn := fun _ => fun
  | [d] => { results := [.lit (.bool true)], args := [d] }
  | _ => none }
def screwWrongRow : OpenClaim := { program := "ytoefcofplkbnkaa", sum := "43617d0c378dbedab31fc9ef4b2a88218281e13366c7158d8995dde7efa47cb2", func := "zoneworks/zoneworkslaw01.ScrewWrong", spec := "screwWrong", unfollowed := true, recurses := true, apart := false }
def ScrewWrongSaid : Prop := screwWrongRow.holds Try.pinned (OpenSpec.ofChange screwWrongSpec)

/-- ITS FALSE NEIGHBOUR: 'it returns false'. Refute it at one input. -/
def screwWrongWrong : ChangeSpec := { name := "screwWrong", fn := fun _ => fun
  | [d] => { results := [.lit (.bool false)], args := [d] }
  | _ => none }
def ScrewWrongWrongFalsely : Prop := screwWrongRow.holds Try.pinned (OpenSpec.ofChange screwWrongWrong)

/-- 'zoneworkslaw01.ScrewNames': WHATEVER THE INPUT: true; the input reads as it did. -/
def screwNamesSpec : ChangeSpec := { name := "screwNames", fn := fun _ => fun
  | [] => { results := [.lit (.bool true)], args := [] }
  | _ => none }
def screwNamesRow : OpenClaim := { program := "ytoefcofplkbnkaa", sum := "43617d0c378dbedab31fc9ef4b2a88218281e13366c7158d8995dde7efa47cb2", func := "zoneworks/zoneworkslaw01.ScrewNames", spec := "screwNames", unfollowed := true, recurses := true, apart := false }
def ScrewNamesSaid : Prop := screwNamesRow.holds Try.pinned (OpenSpec.ofChange screwNamesSpec)

/-- ITS FALSE NEIGHBOUR: 'it returns false'. Refute it at one input. -/
def screwNamesWrong : ChangeSpec := { name := "screwNames", fn := fun _ => fun
  | [] => { results := [.lit (.bool false)], args := [] }
  | _ => none }
def ScrewNamesWrongFalsely : Prop := screwNamesRow.holds Try.pinned (OpenSpec.ofChange screwNamesWrong)

/-- 'zoneworkslaw01.ScrewIdles': WHATEVER THE INPUT: true; the input reads as it did. -/
def screwIdlesSpec : ChangeSpec := { name := "screwIdles", fn := fun _ => fun
  | [d] => { results := [.lit (.bool true)], args := [d] }
  | _ => none }
def screwIdlesRow : OpenClaim := { program := "ytoefcofplkbnkaa", sum := "43617d0c378dbedab31fc9ef4b2a88218281e13366c7158d8995dde7efa47cb2", func := "zoneworks/zoneworkslaw01.ScrewIdles", spec := "screwIdles", unfollowed := true, recurses := true, apart := false }
def ScrewIdlesSaid : Prop := screwIdlesRow.holds Try.pinned (OpenSpec.ofChange screwIdlesSpec)

/-- ITS FALSE NEIGHBOUR: 'it returns false'. Refute it at one input. -/
def screwIdlesWrong : ChangeSpec := { name := "screwIdles", fn := fun _ => fun
  | [d] => { results := [.lit (.bool false)], args := [d] }
  | _ => none }
def ScrewIdlesWrongFalsely : Prop := screwIdlesRow.holds Try.pinned (OpenSpec.ofChange screwIdlesWrong)

/-- 'zoneworkslaw01.ScrewTurned': WHATEVER THE INPUT: true; the input reads as it did. -/
def screwTurnedSpec : ChangeSpec := { name := "screwTurned", fn := fun _ => fun
  | [d1, d2, d3, d4] => { results := [.lit (.bool true)], args := [d1, d2, d3, d4] }
  | _ => none }
def screwTurnedRow : OpenClaim := { program := "ytoefcofplkbnkaa", sum := "43617d0c378dbedab31fc9ef4b2a88218281e13366c7158d8995dde7efa47cb2", func := "zoneworks/zoneworkslaw01.ScrewTurned", spec := "screwTurned", unfollowed := true, recurses := true, apart := false }
def ScrewTurnedSaid : Prop := screwTurnedRow.holds Try.pinned (OpenSpec.ofChange screwTurnedSpec)

/-- ITS FALSE NEIGHBOUR: 'it returns false'. Refute it at one input. -/
def screwTurnedWrong : ChangeSpec := { name := "screwTurned", fn := fun _ => fun
  | [d1, d2, d3, d4] => { results := [.lit (.bool false)], args := [d1, d2, d3, d4] }
  | _ => none }
def ScrewTurnedWrongFalsely : Prop := screwTurnedRow.holds Try.pinned (OpenSpec.ofChange screwTurnedWrong)

/- THE SECOND FORM. 'bulk': how many values and letters a reading holds, each counted each time it is reached (what is shared counts as often as it is met; a slice's spare places count too). A statement '..UptoSaid' is the law's where the arguments, and the package variables that the reading takes, are together of bulk at most 1048576: NARROWER than '..Said'. Prove '..Said' where nothing that the law and all that it calls make is longer than what came in: it says more and counts as full. Else prove '..UptoSaid'. A law counts once. -/
mutual
def uptoBulk {H : Type} : DataW H → Nat
  | .lit (.string bytes) => bytes.length + 1
  | .lit _ => 1
  | .nil => 1
  | .ptr d => uptoBulk d + 1
  | .slice elems spare => uptoBulkAll elems + uptoBulkAll spare + 1
  | .agg parts => uptoBulkAll parts + 1
  | .iface _ d => uptoBulk d + 1
  | .map entries => uptoBulkEntries entries + 1
  | .held _ => 1
def uptoBulkAll {H : Type} : List (DataW H) → Nat
  | [] => 0
  | d :: r => uptoBulk d + uptoBulkAll r
def uptoBulkEntries {H : Type} : List (Lit × DataW H) → Nat
  | [] => 0
  | x :: r => uptoBulkEntry x + uptoBulkEntries r
def uptoBulkEntry {H : Type} : Lit × DataW H → Nat
  | (.string bytes, d) => bytes.length + uptoBulk d + 1
  | (_, d) => uptoBulk d + 1
 end
def uptoSmall : (H : Type) → List (DataW H) → Bool := fun _ ds => decide (uptoBulkAll ds ≤ 1048576)
def OpenSpec.upto (s : _root_.Go.ChangeSpec) : _root_.Go.OpenSpec := { _root_.Go.OpenSpec.ofChange s with cond := some uptoSmall }

/-- 'zoneworkslaw01.ScrewReads', WHERE WHAT IT READS IS OF BULK AT MOST 1048576: true; the input reads as it did. -/
def screwReadsUptoRow : OpenClaim := { program := "ytoefcofplkbnkaa", sum := "43617d0c378dbedab31fc9ef4b2a88218281e13366c7158d8995dde7efa47cb2", func := "zoneworks/zoneworkslaw01.ScrewReads", spec := "screwReads", unfollowed := true, recurses := true, apart := false, narrowed := true }
def ScrewReadsUptoSaid : Prop := screwReadsUptoRow.holds Try.pinned (OpenSpec.upto screwReadsSpec)

/-- 'zoneworkslaw01.ScrewTrue', WHERE WHAT IT READS IS OF BULK AT MOST 1048576: true; the input reads as it did. -/
def screwTrueUptoRow : OpenClaim := { program := "ytoefcofplkbnkaa", sum := "43617d0c378dbedab31fc9ef4b2a88218281e13366c7158d8995dde7efa47cb2", func := "zoneworks/zoneworkslaw01.ScrewTrue", spec := "screwTrue", unfollowed := true, recurses := true, apart := false, narrowed := true }
def ScrewTrueUptoSaid : Prop := screwTrueUptoRow.holds Try.pinned (OpenSpec.upto screwTrueSpec)

/-- 'zoneworkslaw01.ScrewEnds', WHERE WHAT IT READS IS OF BULK AT MOST 1048576: true; the input reads as it did. -/
def screwEndsUptoRow : OpenClaim := { program := "ytoefcofplkbnkaa", sum := "43617d0c378dbedab31fc9ef4b2a88218281e13366c7158d8995dde7efa47cb2", func := "zoneworks/zoneworkslaw01.ScrewEnds", spec := "screwEnds", unfollowed := true, recurses := true, apart := false, narrowed := true }
def ScrewEndsUptoSaid : Prop := screwEndsUptoRow.holds Try.pinned (OpenSpec.upto screwEndsSpec)

/-- 'zoneworkslaw01.ScrewClash', WHERE WHAT IT READS IS OF BULK AT MOST 1048576: true; the input reads as it did. -/
def screwClashUptoRow : OpenClaim := { program := "ytoefcofplkbnkaa", sum := "43617d0c378dbedab31fc9ef4b2a88218281e13366c7158d8995dde7efa47cb2", func := "zoneworks/zoneworkslaw01.ScrewClash", spec := "screwClash", unfollowed := true, recurses := true, apart := false, narrowed := true }
def ScrewClashUptoSaid : Prop := screwClashUptoRow.holds Try.pinned (OpenSpec.upto screwClashSpec)

/-- 'zoneworkslaw01.ScrewMore', WHERE WHAT IT READS IS OF BULK AT MOST 1048576: true; the input reads as it did. -/
def screwMoreUptoRow : OpenClaim := { program := "ytoefcofplkbnkaa", sum := "43617d0c378dbedab31fc9ef4b2a88218281e13366c7158d8995dde7efa47cb2", func := "zoneworks/zoneworkslaw01.ScrewMore", spec := "screwMore", unfollowed := true, recurses := true, apart := false, narrowed := true }
def ScrewMoreUptoSaid : Prop := screwMoreUptoRow.holds Try.pinned (OpenSpec.upto screwMoreSpec)

/-- 'zoneworkslaw01.ScrewIdle', WHERE WHAT IT READS IS OF BULK AT MOST 1048576: true; the input reads as it did. -/
def screwIdleUptoRow : OpenClaim := { program := "ytoefcofplkbnkaa", sum := "43617d0c378dbedab31fc9ef4b2a88218281e13366c7158d8995dde7efa47cb2", func := "zoneworks/zoneworkslaw01.ScrewIdle", spec := "screwIdle", unfollowed := true, recurses := true, apart := false, narrowed := true }
def ScrewIdleUptoSaid : Prop := screwIdleUptoRow.holds Try.pinned (OpenSpec.upto screwIdleSpec)

/-- 'zoneworkslaw01.ScrewWrong', WHERE WHAT IT READS IS OF BULK AT MOST 1048576: true; the input reads as it did. -/
def screwWrongUptoRow : OpenClaim := { program := "ytoefcofplkbnkaa", sum := "43617d0c378dbedab31fc9ef4b2a88218281e13366c7158d8995dde7efa47cb2", func := "zoneworks/zoneworkslaw01.ScrewWrong", spec := "screwWrong", unfollowed := true, recurses := true, apart := false, narrowed := true }
def ScrewWrongUptoSaid : Prop := screwWrongUptoRow.holds Try.pinned (OpenSpec.upto screwWrongSpec)

/-- 'zoneworkslaw01.ScrewNames', WHERE WHAT IT READS IS OF BULK AT MOST 1048576: true; the input reads as it did. -/
def screwNamesUptoRow : OpenClaim := { program := "ytoefcofplkbnkaa", sum := "43617d0c378dbedab31fc9ef4b2a88218281e13366c7158d8995dde7efa47cb2", func := "zoneworks/zoneworkslaw01.ScrewNames", spec := "screwNames", unfollowed := true, recurses := true, apart := false, narrowed := true }
def ScrewNamesUptoSaid : Prop := screwNamesUptoRow.holds Try.pinned (OpenSpec.upto screwNamesSpec)

/-- 'zoneworkslaw01.ScrewIdles', WHERE WHAT IT READS IS OF BULK AT MOST 1048576: true; the input reads as it did. -/
def screwIdlesUptoRow : OpenClaim := { program := "ytoefcofplkbnkaa", sum := "43617d0c378dbedab31fc9ef4b2a88218281e13366c7158d8995dde7efa47cb2", func := "zoneworks/zoneworkslaw01.ScrewIdles", spec := "screwIdles", unfollowed := true, recurses := true, apart := false, narrowed := true }
def ScrewIdlesUptoSaid : Prop := screwIdlesUptoRow.holds Try.pinned (OpenSpec.upto screwIdlesSpec)

/-- 'zoneworkslaw01.ScrewTurned', WHERE WHAT IT READS IS OF BULK AT MOST 1048576: true; the input reads as it did. -/
def screwTurnedUptoRow : OpenClaim := { program := "ytoefcofplkbnkaa", sum := "43617d0c378dbedab31fc9ef4b2a88218281e13366c7158d8995dde7efa47cb2", func := "zoneworks/zoneworkslaw01.ScrewTurned", spec := "screwTurned", unfollowed := true, recurses := true, apart := false, narrowed := true }
def ScrewTurnedUptoSaid : Prop := screwTurnedUptoRow.holds Try.pinned (OpenSpec.upto screwTurnedSpec)

end Rows
end Go.Proofs.Ytoefcofplkbnkaa
