/-
  No cell of these rows narrows 'for every input' (looked for: loops, veiled, ifaces, maps, wideKeys, modest, calm, conditions, laid).
  DERIVED. THE GIVEN ROWS OF THIS SEAT. 4 by the template 'for every input the law returns true; each argument reads behind the call as it read before'; 0 by the template 'total and deterministic' (their statements: YtdjhjgfjhicbfaaTotals.lean).
  GIVEN WITH THE SEED: the statements are not yours to turn. If you find one false, say at which input.
  Laid BY PROGRAM, IN A SANDBOX (cutbox-rows.mjs): the forced cells as the released guide's own fill.sh prints them over the translation 5abd5a75398bc4d1… (all of the seat's roots in one cut). By AI agents, Wed Nov 11 2026. No macro, syntax, notation, axiom, sorry.
-/
import Derived.Test.YtdjhjgfjhicbfaaChecked
import GoSem.Claim
import GoSem.ClaimJoined
import GoSem.ClaimMapViews
import Derived.JoinedTies
import Derived.KernelRfl
namespace Go.Proofs.Ytdjhjgfjhicbfaa
/- THE CELL 'sum', in the pinned program and in every row, IS THE sha256 OF THE DUMP (.gsa) THAT YtdjhjgfjhicbfaaProg.lean LOADS. Nothing in Lean hashes anything: it is a label: what it is worth is what the hold of that sum in a sandbox is worth. -/
noncomputable def Try.pinned : Pinned := { name := "ytdjhjgfjhicbfaa", sum := "5abd5a75398bc4d1c5bfbb12535bc397b1a4a19e5b4b7916b5a5e762463c6717", checked := Try.checked }
namespace Rows
def none {H : Type} : Left H := { results := [], args := [] }

/-- 'inquestlaw27.WalkRuns': WHATEVER THE INPUT: true; the input reads as it did. -/
def walkRunsSpec : ChangeSpec := { name := "walkRuns", fn := fun _ => fun
  | [d1, d2] => { results := [.lit (.bool true)], args := [d1, d2] }
  | _ => none }
def walkRunsRow : OpenClaim := { program := "ytdjhjgfjhicbfaa", sum := "5abd5a75398bc4d1c5bfbb12535bc397b1a4a19e5b4b7916b5a5e762463c6717", func := "inquest/inquestlaw27.WalkRuns", spec := "walkRuns", unfollowed := true, recurses := true, apart := false }
def WalkRunsSaid : Prop := walkRunsRow.holds Try.pinned (OpenSpec.ofChange walkRunsSpec)

/-- ITS FALSE NEIGHBOUR: 'it returns false'. Refute it at one input. -/
def walkRunsWrong : ChangeSpec := { name := "walkRuns", fn := fun _ => fun
  | [d1, d2] => { results := [.lit (.bool false)], args := [d1, d2] }
  | _ => none }
def WalkRunsWrongFalsely : Prop := walkRunsRow.holds Try.pinned (OpenSpec.ofChange walkRunsWrong)

/-- 'inquestlaw27.WalkClosed': WHATEVER THE INPUT: true; the input reads as it did. -/
def walkClosedSpec : ChangeSpec := { name := "walkClosed", fn := fun _ => fun
  | [d1, d2, d3] => { results := [.lit (.bool true)], args := [d1, d2, d3] }
  | _ => none }
def walkClosedRow : OpenClaim := { program := "ytdjhjgfjhicbfaa", sum := "5abd5a75398bc4d1c5bfbb12535bc397b1a4a19e5b4b7916b5a5e762463c6717", func := "inquest/inquestlaw27.WalkClosed", spec := "walkClosed", unfollowed := true, recurses := true, apart := false }
def WalkClosedSaid : Prop := walkClosedRow.holds Try.pinned (OpenSpec.ofChange walkClosedSpec)

/-- ITS FALSE NEIGHBOUR: 'it returns false'. Refute it at one input. -/
def walkClosedWrong : ChangeSpec := { name := "walkClosed", fn := fun _ => fun
  | [d1, d2, d3] => { results := [.lit (.bool false)], args := [d1, d2, d3] }
  | _ => none }
def WalkClosedWrongFalsely : Prop := walkClosedRow.holds Try.pinned (OpenSpec.ofChange walkClosedWrong)

/-- 'inquestlaw27.WalkTells': WHATEVER THE INPUT: true; the input reads as it did. -/
def walkTellsSpec : ChangeSpec := { name := "walkTells", fn := fun _ => fun
  | [d1, d2, d3, d4, d5] => { results := [.lit (.bool true)], args := [d1, d2, d3, d4, d5] }
  | _ => none }
def walkTellsRow : OpenClaim := { program := "ytdjhjgfjhicbfaa", sum := "5abd5a75398bc4d1c5bfbb12535bc397b1a4a19e5b4b7916b5a5e762463c6717", func := "inquest/inquestlaw27.WalkTells", spec := "walkTells", unfollowed := true, recurses := true, apart := false }
def WalkTellsSaid : Prop := walkTellsRow.holds Try.pinned (OpenSpec.ofChange walkTellsSpec)

/-- ITS FALSE NEIGHBOUR: 'it returns false'. Refute it at one input. -/
def walkTellsWrong : ChangeSpec := { name := "walkTells", fn := fun _ => fun
  | [d1, d2, d3, d4, d5] => { results := [.lit (.bool false)], args := [d1, d2, d3, d4, d5] }
  | _ => none }
def WalkTellsWrongFalsely : Prop := walkTellsRow.holds Try.pinned (OpenSpec.ofChange walkTellsWrong)

/-- 'inquestlaw27.WalkLeads': WHATEVER THE INPUT: true; the input reads as it did. -/
def walkLeadsSpec : ChangeSpec := { name := "walkLeads", fn := fun _ => fun
  | [d1, d2, d3] => { results := [.lit (.bool true)], args := [d1, d2, d3] }
  | _ => none }
def walkLeadsRow : OpenClaim := { program := "ytdjhjgfjhicbfaa", sum := "5abd5a75398bc4d1c5bfbb12535bc397b1a4a19e5b4b7916b5a5e762463c6717", func := "inquest/inquestlaw27.WalkLeads", spec := "walkLeads", unfollowed := true, recurses := true, apart := false }
def WalkLeadsSaid : Prop := walkLeadsRow.holds Try.pinned (OpenSpec.ofChange walkLeadsSpec)

/-- ITS FALSE NEIGHBOUR: 'it returns false'. Refute it at one input. -/
def walkLeadsWrong : ChangeSpec := { name := "walkLeads", fn := fun _ => fun
  | [d1, d2, d3] => { results := [.lit (.bool false)], args := [d1, d2, d3] }
  | _ => none }
def WalkLeadsWrongFalsely : Prop := walkLeadsRow.holds Try.pinned (OpenSpec.ofChange walkLeadsWrong)

/- THE SECOND FORM. 'bulk': how many values and letters a reading holds, each counted each time it is reached (what is shared counts as often as it is met; a slice's spare places count too). A statement '..UptoSaid' is the law's where the arguments, and the package variables that the reading takes, are together of bulk at most 1048576: NARROWER than '..Said'. Prove '..Said' where nothing that the law and all that it calls make is longer than what came in: it says more and counts as full. Else prove '..UptoSaid'. A law counts once. -/
mutual
def uptoBulk {H : Type} : DataW H → Nat
  | .lit (.string bytes) => bytes.length + 1
  | .lit _ => 1
  | .nil => 1
  | .ptr d => uptoBulk d + 1
  | .slice elems spare => uptoBulkAll elems + uptoBulkAll spare + 1
  | .agg parts => uptoBulkAll parts + 1
  | .iface _ d => uptoBulk d + 1
  | .map entries => uptoBulkEntries entries + 1
  | .held _ => 1
def uptoBulkAll {H : Type} : List (DataW H) → Nat
  | [] => 0
  | d :: r => uptoBulk d + uptoBulkAll r
def uptoBulkEntries {H : Type} : List (Lit × DataW H) → Nat
  | [] => 0
  | x :: r => uptoBulkEntry x + uptoBulkEntries r
def uptoBulkEntry {H : Type} : Lit × DataW H → Nat
  | (.string bytes, d) => bytes.length + uptoBulk d + 1
  | (_, d) => uptoBulk d + 1
 end
def uptoSmall : (H : Type) → List (DataW H) → Bool := fun _ ds => decide (uptoBulkAll ds ≤ 1048576)
def OpenSpec.upto (s : _root_.Go.ChangeSpec) : _root_.Go.OpenSpec := { _root_.Go.OpenSpec.ofChange s with cond := some uptoSmall }

/-- 'inquestlaw27.WalkRuns', WHERE WHAT IT READS IS OF BULK AT MOST 1048576: true; the input reads as it did. -/
def walkRunsUptoRow : OpenClaim := { program := "ytdjhjgfjhicbfaa", sum := "5abd5a75398bc4d1c5bfbb12535bc397b1a4a19e5b4b7916b5a5e762463c6717", func := "inquest/inquestlaw27.WalkRuns", spec := "walkRuns", unfollowed := true, recurses := true, apart := false, narrowed := true }
def WalkRunsUptoSaid : Prop := walkRunsUptoRow.holds Try.pinned (OpenSpec.upto walkRunsSpec)

/-- 'inquestlaw27.WalkClosed', WHERE WHAT IT READS IS OF BULK AT MOST 1048576: true; the input reads as it did. -/
def walkClosedUptoRow : OpenClaim := { program := "ytdjhjgfjhicbfaa", sum := "5abd5a75398bc4d1c5bfbb12535bc397b1a4a19e5b4b7916b5a5e762463c6717", func := "inquest/inquestlaw27.WalkClosed", spec := "walkClosed", unfollowed := true, recurses := true, apart := false, narrowed := true }
def WalkClosedUptoSaid : Prop := walkClosedUptoRow.holds Try.pinned (OpenSpec.upto walkClosedSpec)

/-- 'inquestlaw27.WalkTells', WHERE WHAT IT READS IS OF BULK AT MOST 1048576: true; the input reads as it did. -/
def walkTellsUptoRow : OpenClaim := { program := "ytdjhjgfjhicbfaa", sum := "5abd5a75398bc4d1c5bfbb12535bc397b1a4a19e5b4b7916b5a5e762463c6717", func := "inquest/inquestlaw27.WalkTells", spec := "walkTells", unfollowed := true, recurses := true, apart := false, narrowed := true }
def WalkTellsUptoSaid : Prop := walkTellsUptoRow.holds Try.pinned (OpenSpec.upto walkTellsSpec)

/-- 'inquestlaw27.WalkLeads', WHERE WHAT IT READS IS OF BULK AT MOST 1048576: true; the input reads as it did. -/
def walkLeadsUptoRow : OpenClaim := { program := "ytdjhjgfjhicbfaa", sum := "5abd5a75398bc4d1c5bfbb12535bc397b1a4a19e5b4b7916b5a5e762463c6717", func := "inquest/inquestlaw27.WalkLeads", spec := "walkLeads", unfollowed := true, recurses := true, apart := false, narrowed := true }
def WalkLeadsUptoSaid : Prop := walkLeadsUptoRow.holds Try.pinned (OpenSpec.upto walkLeadsSpec)

end Rows
end Go.Proofs.Ytdjhjgfjhicbfaa
