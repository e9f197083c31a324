/-
  No cell of these rows narrows 'for every input' (looked for: loops, veiled, ifaces, maps, wideKeys, modest, calm, conditions, laid).
  DERIVED. THE GIVEN ROWS OF THIS SEAT. 11 by the template 'for every input the law returns true; each argument reads behind the call as it read before'; 0 by the template 'total and deterministic' (their statements: YtnhmpmibkpoipaaTotals.lean).
  GIVEN WITH THE SEED: the statements are not yours to turn. If you find one false, say at which input.
  Laid BY PROGRAM, IN A SANDBOX (cutbox-rows.mjs): the forced cells as the released guide's own fill.sh prints them over the translation 6f50df8597317638… (all of the seat's roots in one cut). By AI agents, Wed Nov 11 2026. No macro, syntax, notation, axiom, sorry.
-/
import Derived.Test.YtnhmpmibkpoipaaChecked
import GoSem.Claim
import GoSem.ClaimJoined
import GoSem.ClaimMapViews
import Derived.JoinedTies
import Derived.KernelRfl
namespace Go.Proofs.Ytnhmpmibkpoipaa
/- THE CELL 'sum', in the pinned program and in every row, IS THE sha256 OF THE DUMP (.gsa) THAT YtnhmpmibkpoipaaProg.lean LOADS. Nothing in Lean hashes anything: it is a label: what it is worth is what the hold of that sum in a sandbox is worth. -/
noncomputable def Try.pinned : Pinned := { name := "ytnhmpmibkpoipaa", sum := "6f50df8597317638f0db2505af77c57225762ebf64c0361af9dba348ffd2626a", checked := Try.checked }
namespace Rows
def none {H : Type} : Left H := { results := [], args := [] }

/-- 'tetherlaw22.CcpFrames': WHATEVER THE INPUT: true; the input reads as it did. -/
def ccpFramesSpec : ChangeSpec := { name := "ccpFrames", fn := fun _ => fun
  | [d1, d2] => { results := [.lit (.bool true)], args := [d1, d2] }
  | _ => none }
def ccpFramesRow : OpenClaim := { program := "ytnhmpmibkpoipaa", sum := "6f50df8597317638f0db2505af77c57225762ebf64c0361af9dba348ffd2626a", func := "tether/tetherlaw22.CcpFrames", spec := "ccpFrames", plainKeys := false, apart := false }
def CcpFramesSaid : Prop := ccpFramesRow.holds Try.pinned (OpenSpec.ofChange ccpFramesSpec)

/-- ITS FALSE NEIGHBOUR: 'it returns false'. Refute it at one input. -/
def ccpFramesWrong : ChangeSpec := { name := "ccpFrames", fn := fun _ => fun
  | [d1, d2] => { results := [.lit (.bool false)], args := [d1, d2] }
  | _ => none }
def CcpFramesWrongFalsely : Prop := ccpFramesRow.holds Try.pinned (OpenSpec.ofChange ccpFramesWrong)

/-- 'tetherlaw22.CcpOptions': WHATEVER THE INPUT: true; the input reads as it did. -/
def ccpOptionsSpec : ChangeSpec := { name := "ccpOptions", fn := fun _ => fun
  | [d1, d2, d3] => { results := [.lit (.bool true)], args := [d1, d2, d3] }
  | _ => none }
def ccpOptionsRow : OpenClaim := { program := "ytnhmpmibkpoipaa", sum := "6f50df8597317638f0db2505af77c57225762ebf64c0361af9dba348ffd2626a", func := "tether/tetherlaw22.CcpOptions", spec := "ccpOptions", plainKeys := false, apart := false }
def CcpOptionsSaid : Prop := ccpOptionsRow.holds Try.pinned (OpenSpec.ofChange ccpOptionsSpec)

/-- ITS FALSE NEIGHBOUR: 'it returns false'. Refute it at one input. -/
def ccpOptionsWrong : ChangeSpec := { name := "ccpOptions", fn := fun _ => fun
  | [d1, d2, d3] => { results := [.lit (.bool false)], args := [d1, d2, d3] }
  | _ => none }
def CcpOptionsWrongFalsely : Prop := ccpOptionsRow.holds Try.pinned (OpenSpec.ofChange ccpOptionsWrong)

/-- 'tetherlaw22.CcpJudges': WHATEVER THE INPUT: true; the input reads as it did. -/
def ccpJudgesSpec : ChangeSpec := { name := "ccpJudges", fn := fun _ => fun
  | [d1, d2, d3, d4] => { results := [.lit (.bool true)], args := [d1, d2, d3, d4] }
  | _ => none }
def ccpJudgesRow : OpenClaim := { program := "ytnhmpmibkpoipaa", sum := "6f50df8597317638f0db2505af77c57225762ebf64c0361af9dba348ffd2626a", func := "tether/tetherlaw22.CcpJudges", spec := "ccpJudges", plainKeys := false, apart := false }
def CcpJudgesSaid : Prop := ccpJudgesRow.holds Try.pinned (OpenSpec.ofChange ccpJudgesSpec)

/-- ITS FALSE NEIGHBOUR: 'it returns false'. Refute it at one input. -/
def ccpJudgesWrong : ChangeSpec := { name := "ccpJudges", fn := fun _ => fun
  | [d1, d2, d3, d4] => { results := [.lit (.bool false)], args := [d1, d2, d3, d4] }
  | _ => none }
def CcpJudgesWrongFalsely : Prop := ccpJudgesRow.holds Try.pinned (OpenSpec.ofChange ccpJudgesWrong)

/-- 'tetherlaw22.CcpEnds': WHATEVER THE INPUT: true; the input reads as it did. -/
def ccpEndsSpec : ChangeSpec := { name := "ccpEnds", fn := fun _ => fun
  | [d1, d2] => { results := [.lit (.bool true)], args := [d1, d2] }
  | _ => none }
def ccpEndsRow : OpenClaim := { program := "ytnhmpmibkpoipaa", sum := "6f50df8597317638f0db2505af77c57225762ebf64c0361af9dba348ffd2626a", func := "tether/tetherlaw22.CcpEnds", spec := "ccpEnds", plainKeys := false, apart := false }
def CcpEndsSaid : Prop := ccpEndsRow.holds Try.pinned (OpenSpec.ofChange ccpEndsSpec)

/-- ITS FALSE NEIGHBOUR: 'it returns false'. Refute it at one input. -/
def ccpEndsWrong : ChangeSpec := { name := "ccpEnds", fn := fun _ => fun
  | [d1, d2] => { results := [.lit (.bool false)], args := [d1, d2] }
  | _ => none }
def CcpEndsWrongFalsely : Prop := ccpEndsRow.holds Try.pinned (OpenSpec.ofChange ccpEndsWrong)

/-- 'tetherlaw20.InflateCut': WHATEVER THE INPUT: true; the input reads as it did. -/
def inflateCutSpec : ChangeSpec := { name := "inflateCut", fn := fun _ => fun
  | [d1, d2, d3] => { results := [.lit (.bool true)], args := [d1, d2, d3] }
  | _ => none }
def inflateCutRow : OpenClaim := { program := "ytnhmpmibkpoipaa", sum := "6f50df8597317638f0db2505af77c57225762ebf64c0361af9dba348ffd2626a", func := "tether/tetherlaw20.InflateCut", spec := "inflateCut", plainKeys := false, apart := false }
def InflateCutSaid : Prop := inflateCutRow.holds Try.pinned (OpenSpec.ofChange inflateCutSpec)

/-- ITS FALSE NEIGHBOUR: 'it returns false'. Refute it at one input. -/
def inflateCutWrong : ChangeSpec := { name := "inflateCut", fn := fun _ => fun
  | [d1, d2, d3] => { results := [.lit (.bool false)], args := [d1, d2, d3] }
  | _ => none }
def InflateCutWrongFalsely : Prop := inflateCutRow.holds Try.pinned (OpenSpec.ofChange inflateCutWrong)

/-- 'tetherlaw20.InflateBack': WHATEVER THE INPUT: true; the input reads as it did. -/
def inflateBackSpec : ChangeSpec := { name := "inflateBack", fn := fun _ => fun
  | [d1, d2, d3, d4] => { results := [.lit (.bool true)], args := [d1, d2, d3, d4] }
  | _ => none }
def inflateBackRow : OpenClaim := { program := "ytnhmpmibkpoipaa", sum := "6f50df8597317638f0db2505af77c57225762ebf64c0361af9dba348ffd2626a", func := "tether/tetherlaw20.InflateBack", spec := "inflateBack", plainKeys := false, apart := false }
def InflateBackSaid : Prop := inflateBackRow.holds Try.pinned (OpenSpec.ofChange inflateBackSpec)

/-- ITS FALSE NEIGHBOUR: 'it returns false'. Refute it at one input. -/
def inflateBackWrong : ChangeSpec := { name := "inflateBack", fn := fun _ => fun
  | [d1, d2, d3, d4] => { results := [.lit (.bool false)], args := [d1, d2, d3, d4] }
  | _ => none }
def InflateBackWrongFalsely : Prop := inflateBackRow.holds Try.pinned (OpenSpec.ofChange inflateBackWrong)

/-- 'tetherlaw20.InflateRuns': WHATEVER THE INPUT: true; the input reads as it did. -/
def inflateRunsSpec : ChangeSpec := { name := "inflateRuns", fn := fun _ => fun
  | [d1, d2] => { results := [.lit (.bool true)], args := [d1, d2] }
  | _ => none }
def inflateRunsRow : OpenClaim := { program := "ytnhmpmibkpoipaa", sum := "6f50df8597317638f0db2505af77c57225762ebf64c0361af9dba348ffd2626a", func := "tether/tetherlaw20.InflateRuns", spec := "inflateRuns", plainKeys := false, apart := false }
def InflateRunsSaid : Prop := inflateRunsRow.holds Try.pinned (OpenSpec.ofChange inflateRunsSpec)

/-- ITS FALSE NEIGHBOUR: 'it returns false'. Refute it at one input. -/
def inflateRunsWrong : ChangeSpec := { name := "inflateRuns", fn := fun _ => fun
  | [d1, d2] => { results := [.lit (.bool false)], args := [d1, d2] }
  | _ => none }
def InflateRunsWrongFalsely : Prop := inflateRunsRow.holds Try.pinned (OpenSpec.ofChange inflateRunsWrong)

/-- 'tetherlaw20.InflateSteps': WHATEVER THE INPUT: true; the input reads as it did. -/
def inflateStepsSpec : ChangeSpec := { name := "inflateSteps", fn := fun _ => fun
  | [d1, d2, d3] => { results := [.lit (.bool true)], args := [d1, d2, d3] }
  | _ => none }
def inflateStepsRow : OpenClaim := { program := "ytnhmpmibkpoipaa", sum := "6f50df8597317638f0db2505af77c57225762ebf64c0361af9dba348ffd2626a", func := "tether/tetherlaw20.InflateSteps", spec := "inflateSteps", plainKeys := false, apart := false }
def InflateStepsSaid : Prop := inflateStepsRow.holds Try.pinned (OpenSpec.ofChange inflateStepsSpec)

/-- ITS FALSE NEIGHBOUR: 'it returns false'. Refute it at one input. -/
def inflateStepsWrong : ChangeSpec := { name := "inflateSteps", fn := fun _ => fun
  | [d1, d2, d3] => { results := [.lit (.bool false)], args := [d1, d2, d3] }
  | _ => none }
def InflateStepsWrongFalsely : Prop := inflateStepsRow.holds Try.pinned (OpenSpec.ofChange inflateStepsWrong)

/-- 'tetherlaw20.InflateNil': WHATEVER THE INPUT: true; the input reads as it did. -/
def inflateNilSpec : ChangeSpec := { name := "inflateNil", fn := fun _ => fun
  | [d1, d2] => { results := [.lit (.bool true)], args := [d1, d2] }
  | _ => none }
def inflateNilRow : OpenClaim := { program := "ytnhmpmibkpoipaa", sum := "6f50df8597317638f0db2505af77c57225762ebf64c0361af9dba348ffd2626a", func := "tether/tetherlaw20.InflateNil", spec := "inflateNil", plainKeys := false, apart := false }
def InflateNilSaid : Prop := inflateNilRow.holds Try.pinned (OpenSpec.ofChange inflateNilSpec)

/-- ITS FALSE NEIGHBOUR: 'it returns false'. Refute it at one input. -/
def inflateNilWrong : ChangeSpec := { name := "inflateNil", fn := fun _ => fun
  | [d1, d2] => { results := [.lit (.bool false)], args := [d1, d2] }
  | _ => none }
def InflateNilWrongFalsely : Prop := inflateNilRow.holds Try.pinned (OpenSpec.ofChange inflateNilWrong)

/-- 'tetherlaw22.CcpNil': WHATEVER THE INPUT: true; the input reads as it did. -/
def ccpNilSpec : ChangeSpec := { name := "ccpNil", fn := fun _ => fun
  | [d1, d2, d3] => { results := [.lit (.bool true)], args := [d1, d2, d3] }
  | _ => none }
def ccpNilRow : OpenClaim := { program := "ytnhmpmibkpoipaa", sum := "6f50df8597317638f0db2505af77c57225762ebf64c0361af9dba348ffd2626a", func := "tether/tetherlaw22.CcpNil", spec := "ccpNil", plainKeys := false, apart := false }
def CcpNilSaid : Prop := ccpNilRow.holds Try.pinned (OpenSpec.ofChange ccpNilSpec)

/-- ITS FALSE NEIGHBOUR: 'it returns false'. Refute it at one input. -/
def ccpNilWrong : ChangeSpec := { name := "ccpNil", fn := fun _ => fun
  | [d1, d2, d3] => { results := [.lit (.bool false)], args := [d1, d2, d3] }
  | _ => none }
def CcpNilWrongFalsely : Prop := ccpNilRow.holds Try.pinned (OpenSpec.ofChange ccpNilWrong)

/-- 'tetherlaw22.CcpSteps': WHATEVER THE INPUT: true; the input reads as it did. -/
def ccpStepsSpec : ChangeSpec := { name := "ccpSteps", fn := fun _ => fun
  | [d1, d2] => { results := [.lit (.bool true)], args := [d1, d2] }
  | _ => none }
def ccpStepsRow : OpenClaim := { program := "ytnhmpmibkpoipaa", sum := "6f50df8597317638f0db2505af77c57225762ebf64c0361af9dba348ffd2626a", func := "tether/tetherlaw22.CcpSteps", spec := "ccpSteps", plainKeys := false, apart := false }
def CcpStepsSaid : Prop := ccpStepsRow.holds Try.pinned (OpenSpec.ofChange ccpStepsSpec)

/-- ITS FALSE NEIGHBOUR: 'it returns false'. Refute it at one input. -/
def ccpStepsWrong : ChangeSpec := { name := "ccpSteps", fn := fun _ => fun
  | [d1, d2] => { results := [.lit (.bool false)], args := [d1, d2] }
  | _ => none }
def CcpStepsWrongFalsely : Prop := ccpStepsRow.holds Try.pinned (OpenSpec.ofChange ccpStepsWrong)

/- THE SECOND FORM. 'bulk': how many values and letters a reading holds, each counted each time it is reached (what is shared counts as often as it is met; a slice's spare places count too). A statement '..UptoSaid' is the law's where the arguments, and the package variables that the reading takes, are together of bulk at most 1048576: NARROWER than '..Said'. Prove '..Said' where nothing that the law and all that it calls make is longer than what came in: it says more and counts as full. Else prove '..UptoSaid'. A law counts once. -/
mutual
def uptoBulk {H : Type} : DataW H → Nat
  | .lit (.string bytes) => bytes.length + 1
  | .lit _ => 1
  | .nil => 1
  | .ptr d => uptoBulk d + 1
  | .slice elems spare => uptoBulkAll elems + uptoBulkAll spare + 1
  | .agg parts => uptoBulkAll parts + 1
  | .iface _ d => uptoBulk d + 1
  | .map entries => uptoBulkEntries entries + 1
  | .held _ => 1
def uptoBulkAll {H : Type} : List (DataW H) → Nat
  | [] => 0
  | d :: r => uptoBulk d + uptoBulkAll r
def uptoBulkEntries {H : Type} : List (Lit × DataW H) → Nat
  | [] => 0
  | x :: r => uptoBulkEntry x + uptoBulkEntries r
def uptoBulkEntry {H : Type} : Lit × DataW H → Nat
  | (.string bytes, d) => bytes.length + uptoBulk d + 1
  | (_, d) => uptoBulk d + 1
 end
def uptoSmall : (H : Type) → List (DataW H) → Bool := fun _ ds => decide (uptoBulkAll ds ≤ 1048576)
def OpenSpec.upto (s : _root_.Go.ChangeSpec) : _root_.Go.OpenSpec := { _root_.Go.OpenSpec.ofChange s with cond := some uptoSmall }

/-- 'tetherlaw22.CcpFrames', WHERE WHAT IT READS IS OF BULK AT MOST 1048576: true; the input reads as it did. -/
def ccpFramesUptoRow : OpenClaim := { program := "ytnhmpmibkpoipaa", sum := "6f50df8597317638f0db2505af77c57225762ebf64c0361af9dba348ffd2626a", func := "tether/tetherlaw22.CcpFrames", spec := "ccpFrames", plainKeys := false, apart := false, narrowed := true }
def CcpFramesUptoSaid : Prop := ccpFramesUptoRow.holds Try.pinned (OpenSpec.upto ccpFramesSpec)

/-- 'tetherlaw22.CcpOptions', WHERE WHAT IT READS IS OF BULK AT MOST 1048576: true; the input reads as it did. -/
def ccpOptionsUptoRow : OpenClaim := { program := "ytnhmpmibkpoipaa", sum := "6f50df8597317638f0db2505af77c57225762ebf64c0361af9dba348ffd2626a", func := "tether/tetherlaw22.CcpOptions", spec := "ccpOptions", plainKeys := false, apart := false, narrowed := true }
def CcpOptionsUptoSaid : Prop := ccpOptionsUptoRow.holds Try.pinned (OpenSpec.upto ccpOptionsSpec)

/-- 'tetherlaw22.CcpJudges', WHERE WHAT IT READS IS OF BULK AT MOST 1048576: true; the input reads as it did. -/
def ccpJudgesUptoRow : OpenClaim := { program := "ytnhmpmibkpoipaa", sum := "6f50df8597317638f0db2505af77c57225762ebf64c0361af9dba348ffd2626a", func := "tether/tetherlaw22.CcpJudges", spec := "ccpJudges", plainKeys := false, apart := false, narrowed := true }
def CcpJudgesUptoSaid : Prop := ccpJudgesUptoRow.holds Try.pinned (OpenSpec.upto ccpJudgesSpec)

/-- 'tetherlaw22.CcpEnds', WHERE WHAT IT READS IS OF BULK AT MOST 1048576: true; the input reads as it did. -/
def ccpEndsUptoRow : OpenClaim := { program := "ytnhmpmibkpoipaa", sum := "6f50df8597317638f0db2505af77c57225762ebf64c0361af9dba348ffd2626a", func := "tether/tetherlaw22.CcpEnds", spec := "ccpEnds", plainKeys := false, apart := false, narrowed := true }
def CcpEndsUptoSaid : Prop := ccpEndsUptoRow.holds Try.pinned (OpenSpec.upto ccpEndsSpec)

/-- 'tetherlaw20.InflateCut', WHERE WHAT IT READS IS OF BULK AT MOST 1048576: true; the input reads as it did. -/
def inflateCutUptoRow : OpenClaim := { program := "ytnhmpmibkpoipaa", sum := "6f50df8597317638f0db2505af77c57225762ebf64c0361af9dba348ffd2626a", func := "tether/tetherlaw20.InflateCut", spec := "inflateCut", plainKeys := false, apart := false, narrowed := true }
def InflateCutUptoSaid : Prop := inflateCutUptoRow.holds Try.pinned (OpenSpec.upto inflateCutSpec)

/-- 'tetherlaw20.InflateBack', WHERE WHAT IT READS IS OF BULK AT MOST 1048576: true; the input reads as it did. -/
def inflateBackUptoRow : OpenClaim := { program := "ytnhmpmibkpoipaa", sum := "6f50df8597317638f0db2505af77c57225762ebf64c0361af9dba348ffd2626a", func := "tether/tetherlaw20.InflateBack", spec := "inflateBack", plainKeys := false, apart := false, narrowed := true }
def InflateBackUptoSaid : Prop := inflateBackUptoRow.holds Try.pinned (OpenSpec.upto inflateBackSpec)

/-- 'tetherlaw20.InflateRuns', WHERE WHAT IT READS IS OF BULK AT MOST 1048576: true; the input reads as it did. -/
def inflateRunsUptoRow : OpenClaim := { program := "ytnhmpmibkpoipaa", sum := "6f50df8597317638f0db2505af77c57225762ebf64c0361af9dba348ffd2626a", func := "tether/tetherlaw20.InflateRuns", spec := "inflateRuns", plainKeys := false, apart := false, narrowed := true }
def InflateRunsUptoSaid : Prop := inflateRunsUptoRow.holds Try.pinned (OpenSpec.upto inflateRunsSpec)

/-- 'tetherlaw20.InflateSteps', WHERE WHAT IT READS IS OF BULK AT MOST 1048576: true; the input reads as it did. -/
def inflateStepsUptoRow : OpenClaim := { program := "ytnhmpmibkpoipaa", sum := "6f50df8597317638f0db2505af77c57225762ebf64c0361af9dba348ffd2626a", func := "tether/tetherlaw20.InflateSteps", spec := "inflateSteps", plainKeys := false, apart := false, narrowed := true }
def InflateStepsUptoSaid : Prop := inflateStepsUptoRow.holds Try.pinned (OpenSpec.upto inflateStepsSpec)

/-- 'tetherlaw20.InflateNil', WHERE WHAT IT READS IS OF BULK AT MOST 1048576: true; the input reads as it did. -/
def inflateNilUptoRow : OpenClaim := { program := "ytnhmpmibkpoipaa", sum := "6f50df8597317638f0db2505af77c57225762ebf64c0361af9dba348ffd2626a", func := "tether/tetherlaw20.InflateNil", spec := "inflateNil", plainKeys := false, apart := false, narrowed := true }
def InflateNilUptoSaid : Prop := inflateNilUptoRow.holds Try.pinned (OpenSpec.upto inflateNilSpec)

/-- 'tetherlaw22.CcpNil', WHERE WHAT IT READS IS OF BULK AT MOST 1048576: true; the input reads as it did. -/
def ccpNilUptoRow : OpenClaim := { program := "ytnhmpmibkpoipaa", sum := "6f50df8597317638f0db2505af77c57225762ebf64c0361af9dba348ffd2626a", func := "tether/tetherlaw22.CcpNil", spec := "ccpNil", plainKeys := false, apart := false, narrowed := true }
def CcpNilUptoSaid : Prop := ccpNilUptoRow.holds Try.pinned (OpenSpec.upto ccpNilSpec)

/-- 'tetherlaw22.CcpSteps', WHERE WHAT IT READS IS OF BULK AT MOST 1048576: true; the input reads as it did. -/
def ccpStepsUptoRow : OpenClaim := { program := "ytnhmpmibkpoipaa", sum := "6f50df8597317638f0db2505af77c57225762ebf64c0361af9dba348ffd2626a", func := "tether/tetherlaw22.CcpSteps", spec := "ccpSteps", plainKeys := false, apart := false, narrowed := true }
def CcpStepsUptoSaid : Prop := ccpStepsUptoRow.holds Try.pinned (OpenSpec.upto ccpStepsSpec)

end Rows
end Go.Proofs.Ytnhmpmibkpoipaa
