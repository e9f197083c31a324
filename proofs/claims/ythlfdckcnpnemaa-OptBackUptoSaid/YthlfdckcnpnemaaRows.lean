/-
  No cell of these rows narrows 'for every input' (looked for: loops, veiled, ifaces, maps, wideKeys, modest, calm, conditions, laid).
  DERIVED. THE GIVEN ROWS OF THIS SEAT. 8 by the template 'for every input the law returns true; each argument reads behind the call as it read before'; 0 by the template 'total and deterministic' (their statements: YthlfdckcnpnemaaTotals.lean).
  GIVEN WITH THE SEED: the statements are not yours to turn. If you find one false, say at which input.
  Laid BY PROGRAM, IN A SANDBOX (cutbox-rows.mjs): the forced cells as the released guide's own fill.sh prints them over the translation 077a11a96eda201d… (all of the seat's roots in one cut). By AI agents, Wed Nov 11 2026. No macro, syntax, notation, axiom, sorry.
-/
import Derived.Test.YthlfdckcnpnemaaChecked
import GoSem.Claim
import GoSem.ClaimJoined
import GoSem.ClaimMapViews
import Derived.JoinedTies
import Derived.KernelRfl
namespace Go.Proofs.Ythlfdckcnpnemaa
/- THE CELL 'sum', in the pinned program and in every row, IS THE sha256 OF THE DUMP (.gsa) THAT YthlfdckcnpnemaaProg.lean LOADS. Nothing in Lean hashes anything: it is a label: what it is worth is what the hold of that sum in a sandbox is worth. -/
noncomputable def Try.pinned : Pinned := { name := "ythlfdckcnpnemaa", sum := "077a11a96eda201d14dddd8aecd24ff5d6cf135809d787ac3b5d5310bd8966b1", checked := Try.checked }
namespace Rows
def none {H : Type} : Left H := { results := [], args := [] }

/-- 'tetherlaw01.OctetNumbers': WHATEVER THE INPUT: true; the input reads as it did. -/
def octetNumbersSpec : ChangeSpec := { name := "octetNumbers", fn := fun _ => fun
  | [d1, d2, d3, d4] => { results := [.lit (.bool true)], args := [d1, d2, d3, d4] }
  | _ => none }
def octetNumbersRow : OpenClaim := { program := "ythlfdckcnpnemaa", sum := "077a11a96eda201d14dddd8aecd24ff5d6cf135809d787ac3b5d5310bd8966b1", func := "tether/tetherlaw01.OctetNumbers", spec := "octetNumbers", apart := false }
def OctetNumbersSaid : Prop := octetNumbersRow.holds Try.pinned (OpenSpec.ofChange octetNumbersSpec)

/-- ITS FALSE NEIGHBOUR: 'it returns false'. Refute it at one input. -/
def octetNumbersWrong : ChangeSpec := { name := "octetNumbers", fn := fun _ => fun
  | [d1, d2, d3, d4] => { results := [.lit (.bool false)], args := [d1, d2, d3, d4] }
  | _ => none }
def OctetNumbersWrongFalsely : Prop := octetNumbersRow.holds Try.pinned (OpenSpec.ofChange octetNumbersWrong)

/-- 'tetherlaw01.OctetBack': WHATEVER THE INPUT: true; the input reads as it did. -/
def octetBackSpec : ChangeSpec := { name := "octetBack", fn := fun _ => fun
  | [d1, d2, d3, d4] => { results := [.lit (.bool true)], args := [d1, d2, d3, d4] }
  | _ => none }
def octetBackRow : OpenClaim := { program := "ythlfdckcnpnemaa", sum := "077a11a96eda201d14dddd8aecd24ff5d6cf135809d787ac3b5d5310bd8966b1", func := "tether/tetherlaw01.OctetBack", spec := "octetBack", apart := false }
def OctetBackSaid : Prop := octetBackRow.holds Try.pinned (OpenSpec.ofChange octetBackSpec)

/-- ITS FALSE NEIGHBOUR: 'it returns false'. Refute it at one input. -/
def octetBackWrong : ChangeSpec := { name := "octetBack", fn := fun _ => fun
  | [d1, d2, d3, d4] => { results := [.lit (.bool false)], args := [d1, d2, d3, d4] }
  | _ => none }
def OctetBackWrongFalsely : Prop := octetBackRow.holds Try.pinned (OpenSpec.ofChange octetBackWrong)

/-- 'tetherlaw09.OptPackets': WHATEVER THE INPUT: true; the input reads as it did. -/
def optPacketsSpec : ChangeSpec := { name := "optPackets", fn := fun _ => fun
  | [d1, d2] => { results := [.lit (.bool true)], args := [d1, d2] }
  | _ => none }
def optPacketsRow : OpenClaim := { program := "ythlfdckcnpnemaa", sum := "077a11a96eda201d14dddd8aecd24ff5d6cf135809d787ac3b5d5310bd8966b1", func := "tether/tetherlaw09.OptPackets", spec := "optPackets", apart := false }
def OptPacketsSaid : Prop := optPacketsRow.holds Try.pinned (OpenSpec.ofChange optPacketsSpec)

/-- ITS FALSE NEIGHBOUR: 'it returns false'. Refute it at one input. -/
def optPacketsWrong : ChangeSpec := { name := "optPackets", fn := fun _ => fun
  | [d1, d2] => { results := [.lit (.bool false)], args := [d1, d2] }
  | _ => none }
def OptPacketsWrongFalsely : Prop := optPacketsRow.holds Try.pinned (OpenSpec.ofChange optPacketsWrong)

/-- 'tetherlaw01.OctetReads': WHATEVER THE INPUT: true; the input reads as it did. -/
def octetReadsSpec : ChangeSpec := { name := "octetReads", fn := fun _ => fun
  | [d1, d2] => { results := [.lit (.bool true)], args := [d1, d2] }
  | _ => none }
def octetReadsRow : OpenClaim := { program := "ythlfdckcnpnemaa", sum := "077a11a96eda201d14dddd8aecd24ff5d6cf135809d787ac3b5d5310bd8966b1", func := "tether/tetherlaw01.OctetReads", spec := "octetReads", apart := false }
def OctetReadsSaid : Prop := octetReadsRow.holds Try.pinned (OpenSpec.ofChange octetReadsSpec)

/-- ITS FALSE NEIGHBOUR: 'it returns false'. Refute it at one input. -/
def octetReadsWrong : ChangeSpec := { name := "octetReads", fn := fun _ => fun
  | [d1, d2] => { results := [.lit (.bool false)], args := [d1, d2] }
  | _ => none }
def OctetReadsWrongFalsely : Prop := octetReadsRow.holds Try.pinned (OpenSpec.ofChange octetReadsWrong)

/-- 'tetherlaw01.OctetRings': WHATEVER THE INPUT: true; the input reads as it did. -/
def octetRingsSpec : ChangeSpec := { name := "octetRings", fn := fun _ => fun
  | [d1, d2] => { results := [.lit (.bool true)], args := [d1, d2] }
  | _ => none }
def octetRingsRow : OpenClaim := { program := "ythlfdckcnpnemaa", sum := "077a11a96eda201d14dddd8aecd24ff5d6cf135809d787ac3b5d5310bd8966b1", func := "tether/tetherlaw01.OctetRings", spec := "octetRings", apart := false }
def OctetRingsSaid : Prop := octetRingsRow.holds Try.pinned (OpenSpec.ofChange octetRingsSpec)

/-- ITS FALSE NEIGHBOUR: 'it returns false'. Refute it at one input. -/
def octetRingsWrong : ChangeSpec := { name := "octetRings", fn := fun _ => fun
  | [d1, d2] => { results := [.lit (.bool false)], args := [d1, d2] }
  | _ => none }
def OctetRingsWrongFalsely : Prop := octetRingsRow.holds Try.pinned (OpenSpec.ofChange octetRingsWrong)

/-- 'tetherlaw09.OptBack': WHATEVER THE INPUT: true; the input reads as it did. -/
def optBackSpec : ChangeSpec := { name := "optBack", fn := fun _ => fun
  | [d1, d2, d3, d4] => { results := [.lit (.bool true)], args := [d1, d2, d3, d4] }
  | _ => none }
def optBackRow : OpenClaim := { program := "ythlfdckcnpnemaa", sum := "077a11a96eda201d14dddd8aecd24ff5d6cf135809d787ac3b5d5310bd8966b1", func := "tether/tetherlaw09.OptBack", spec := "optBack", apart := false }
def OptBackSaid : Prop := optBackRow.holds Try.pinned (OpenSpec.ofChange optBackSpec)

/-- ITS FALSE NEIGHBOUR: 'it returns false'. Refute it at one input. -/
def optBackWrong : ChangeSpec := { name := "optBack", fn := fun _ => fun
  | [d1, d2, d3, d4] => { results := [.lit (.bool false)], args := [d1, d2, d3, d4] }
  | _ => none }
def OptBackWrongFalsely : Prop := optBackRow.holds Try.pinned (OpenSpec.ofChange optBackWrong)

/-- 'tetherlaw09.OptSubsets': WHATEVER THE INPUT: true; the input reads as it did. -/
def optSubsetsSpec : ChangeSpec := { name := "optSubsets", fn := fun _ => fun
  | [d1, d2, d3] => { results := [.lit (.bool true)], args := [d1, d2, d3] }
  | _ => none }
def optSubsetsRow : OpenClaim := { program := "ythlfdckcnpnemaa", sum := "077a11a96eda201d14dddd8aecd24ff5d6cf135809d787ac3b5d5310bd8966b1", func := "tether/tetherlaw09.OptSubsets", spec := "optSubsets", apart := false }
def OptSubsetsSaid : Prop := optSubsetsRow.holds Try.pinned (OpenSpec.ofChange optSubsetsSpec)

/-- ITS FALSE NEIGHBOUR: 'it returns false'. Refute it at one input. -/
def optSubsetsWrong : ChangeSpec := { name := "optSubsets", fn := fun _ => fun
  | [d1, d2, d3] => { results := [.lit (.bool false)], args := [d1, d2, d3] }
  | _ => none }
def OptSubsetsWrongFalsely : Prop := optSubsetsRow.holds Try.pinned (OpenSpec.ofChange optSubsetsWrong)

/-- 'tetherlaw01.OctetNil': WHATEVER THE INPUT: true; the input reads as it did. -/
def octetNilSpec : ChangeSpec := { name := "octetNil", fn := fun _ => fun
  | [d1, d2] => { results := [.lit (.bool true)], args := [d1, d2] }
  | _ => none }
def octetNilRow : OpenClaim := { program := "ythlfdckcnpnemaa", sum := "077a11a96eda201d14dddd8aecd24ff5d6cf135809d787ac3b5d5310bd8966b1", func := "tether/tetherlaw01.OctetNil", spec := "octetNil", apart := false }
def OctetNilSaid : Prop := octetNilRow.holds Try.pinned (OpenSpec.ofChange octetNilSpec)

/-- ITS FALSE NEIGHBOUR: 'it returns false'. Refute it at one input. -/
def octetNilWrong : ChangeSpec := { name := "octetNil", fn := fun _ => fun
  | [d1, d2] => { results := [.lit (.bool false)], args := [d1, d2] }
  | _ => none }
def OctetNilWrongFalsely : Prop := octetNilRow.holds Try.pinned (OpenSpec.ofChange octetNilWrong)

/- THE SECOND FORM. 'bulk': how many values and letters a reading holds, each counted each time it is reached (what is shared counts as often as it is met; a slice's spare places count too). A statement '..UptoSaid' is the law's where the arguments, and the package variables that the reading takes, are together of bulk at most 1048576: NARROWER than '..Said'. Prove '..Said' where nothing that the law and all that it calls make is longer than what came in: it says more and counts as full. Else prove '..UptoSaid'. A law counts once. -/
mutual
def uptoBulk {H : Type} : DataW H → Nat
  | .lit (.string bytes) => bytes.length + 1
  | .lit _ => 1
  | .nil => 1
  | .ptr d => uptoBulk d + 1
  | .slice elems spare => uptoBulkAll elems + uptoBulkAll spare + 1
  | .agg parts => uptoBulkAll parts + 1
  | .iface _ d => uptoBulk d + 1
  | .map entries => uptoBulkEntries entries + 1
  | .held _ => 1
def uptoBulkAll {H : Type} : List (DataW H) → Nat
  | [] => 0
  | d :: r => uptoBulk d + uptoBulkAll r
def uptoBulkEntries {H : Type} : List (Lit × DataW H) → Nat
  | [] => 0
  | x :: r => uptoBulkEntry x + uptoBulkEntries r
def uptoBulkEntry {H : Type} : Lit × DataW H → Nat
  | (.string bytes, d) => bytes.length + uptoBulk d + 1
  | (_, d) => uptoBulk d + 1
 end
def uptoSmall : (H : Type) → List (DataW H) → Bool := fun _ ds => decide (uptoBulkAll ds ≤ 1048576)
def OpenSpec.upto (s : _root_.Go.ChangeSpec) : _root_.Go.OpenSpec := { _root_.Go.OpenSpec.ofChange s with cond := some uptoSmall }

/-- 'tetherlaw01.OctetNumbers', WHERE WHAT IT READS IS OF BULK AT MOST 1048576: true; the input reads as it did. -/
def octetNumbersUptoRow : OpenClaim := { program := "ythlfdckcnpnemaa", sum := "077a11a96eda201d14dddd8aecd24ff5d6cf135809d787ac3b5d5310bd8966b1", func := "tether/tetherlaw01.OctetNumbers", spec := "octetNumbers", apart := false, narrowed := true }
def OctetNumbersUptoSaid : Prop := octetNumbersUptoRow.holds Try.pinned (OpenSpec.upto octetNumbersSpec)

/-- 'tetherlaw01.OctetBack', WHERE WHAT IT READS IS OF BULK AT MOST 1048576: true; the input reads as it did. -/
def octetBackUptoRow : OpenClaim := { program := "ythlfdckcnpnemaa", sum := "077a11a96eda201d14dddd8aecd24ff5d6cf135809d787ac3b5d5310bd8966b1", func := "tether/tetherlaw01.OctetBack", spec := "octetBack", apart := false, narrowed := true }
def OctetBackUptoSaid : Prop := octetBackUptoRow.holds Try.pinned (OpenSpec.upto octetBackSpec)

/-- 'tetherlaw09.OptPackets', WHERE WHAT IT READS IS OF BULK AT MOST 1048576: true; the input reads as it did. -/
def optPacketsUptoRow : OpenClaim := { program := "ythlfdckcnpnemaa", sum := "077a11a96eda201d14dddd8aecd24ff5d6cf135809d787ac3b5d5310bd8966b1", func := "tether/tetherlaw09.OptPackets", spec := "optPackets", apart := false, narrowed := true }
def OptPacketsUptoSaid : Prop := optPacketsUptoRow.holds Try.pinned (OpenSpec.upto optPacketsSpec)

/-- 'tetherlaw01.OctetReads', WHERE WHAT IT READS IS OF BULK AT MOST 1048576: true; the input reads as it did. -/
def octetReadsUptoRow : OpenClaim := { program := "ythlfdckcnpnemaa", sum := "077a11a96eda201d14dddd8aecd24ff5d6cf135809d787ac3b5d5310bd8966b1", func := "tether/tetherlaw01.OctetReads", spec := "octetReads", apart := false, narrowed := true }
def OctetReadsUptoSaid : Prop := octetReadsUptoRow.holds Try.pinned (OpenSpec.upto octetReadsSpec)

/-- 'tetherlaw01.OctetRings', WHERE WHAT IT READS IS OF BULK AT MOST 1048576: true; the input reads as it did. -/
def octetRingsUptoRow : OpenClaim := { program := "ythlfdckcnpnemaa", sum := "077a11a96eda201d14dddd8aecd24ff5d6cf135809d787ac3b5d5310bd8966b1", func := "tether/tetherlaw01.OctetRings", spec := "octetRings", apart := false, narrowed := true }
def OctetRingsUptoSaid : Prop := octetRingsUptoRow.holds Try.pinned (OpenSpec.upto octetRingsSpec)

/-- 'tetherlaw09.OptBack', WHERE WHAT IT READS IS OF BULK AT MOST 1048576: true; the input reads as it did. -/
def optBackUptoRow : OpenClaim := { program := "ythlfdckcnpnemaa", sum := "077a11a96eda201d14dddd8aecd24ff5d6cf135809d787ac3b5d5310bd8966b1", func := "tether/tetherlaw09.OptBack", spec := "optBack", apart := false, narrowed := true }
def OptBackUptoSaid : Prop := optBackUptoRow.holds Try.pinned (OpenSpec.upto optBackSpec)

/-- 'tetherlaw09.OptSubsets', WHERE WHAT IT READS IS OF BULK AT MOST 1048576: true; the input reads as it did. -/
def optSubsetsUptoRow : OpenClaim := { program := "ythlfdckcnpnemaa", sum := "077a11a96eda201d14dddd8aecd24ff5d6cf135809d787ac3b5d5310bd8966b1", func := "tether/tetherlaw09.OptSubsets", spec := "optSubsets", apart := false, narrowed := true }
def OptSubsetsUptoSaid : Prop := optSubsetsUptoRow.holds Try.pinned (OpenSpec.upto optSubsetsSpec)

/-- 'tetherlaw01.OctetNil', WHERE WHAT IT READS IS OF BULK AT MOST 1048576: true; the input reads as it did. -/
def octetNilUptoRow : OpenClaim := { program := "ythlfdckcnpnemaa", sum := "077a11a96eda201d14dddd8aecd24ff5d6cf135809d787ac3b5d5310bd8966b1", func := "tether/tetherlaw01.OctetNil", spec := "octetNil", apart := false, narrowed := true }
def OctetNilUptoSaid : Prop := octetNilUptoRow.holds Try.pinned (OpenSpec.upto octetNilSpec)

end Rows
end Go.Proofs.Ythlfdckcnpnemaa
