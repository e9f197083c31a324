/-
  No cell of these rows narrows 'for every input' (looked for: loops, veiled, ifaces, maps, wideKeys, modest, calm, conditions, laid).
  DERIVED. THE GIVEN ROWS OF THIS SEAT. 10 by the template 'for every input the law returns true; each argument reads behind the call as it read before'; 0 by the template 'total and deterministic' (their statements: YtodibldfolognaaTotals.lean).
  GIVEN WITH THE SEED: the statements are not yours to turn. If you find one false, say at which input.
  Laid BY PROGRAM, IN A SANDBOX (cutbox-rows.mjs): the forced cells as the released guide's own fill.sh prints them over the translation 33c8263403321b0f… (all of the seat's roots in one cut). By AI agents, Wed Nov 11 2026. No macro, syntax, notation, axiom, sorry.
-/
import Derived.Test.YtodibldfolognaaChecked
import GoSem.Claim
import GoSem.ClaimJoined
import GoSem.ClaimMapViews
import Derived.JoinedTies
import Derived.KernelRfl
namespace Go.Proofs.Ytodibldfolognaa
/- THE CELL 'sum', in the pinned program and in every row, IS THE sha256 OF THE DUMP (.gsa) THAT YtodibldfolognaaProg.lean LOADS. Nothing in Lean hashes anything: it is a label: what it is worth is what the hold of that sum in a sandbox is worth. -/
noncomputable def Try.pinned : Pinned := { name := "ytodibldfolognaa", sum := "33c8263403321b0f8160e7f61810e267d551d0a0e8820453f2ba5b4241fed91a", checked := Try.checked }
namespace Rows
def none {H : Type} : Left H := { results := [], args := [] }

/-- 'tetherlaw11.LcpFits': WHATEVER THE INPUT: true; the input reads as it did. -/
def lcpFitsSpec : ChangeSpec := { name := "lcpFits", fn := fun _ => fun
  | [d1, d2, d3, d4, d5] => { results := [.lit (.bool true)], args := [d1, d2, d3, d4, d5] }
  | _ => none }
def lcpFitsRow : OpenClaim := { program := "ytodibldfolognaa", sum := "33c8263403321b0f8160e7f61810e267d551d0a0e8820453f2ba5b4241fed91a", func := "tether/tetherlaw11.LcpFits", spec := "lcpFits", unfollowed := true, recurses := true, apart := false }
def LcpFitsSaid : Prop := lcpFitsRow.holds Try.pinned (OpenSpec.ofChange lcpFitsSpec)

/-- ITS FALSE NEIGHBOUR: 'it returns false'. Refute it at one input. -/
def lcpFitsWrong : ChangeSpec := { name := "lcpFits", fn := fun _ => fun
  | [d1, d2, d3, d4, d5] => { results := [.lit (.bool false)], args := [d1, d2, d3, d4, d5] }
  | _ => none }
def LcpFitsWrongFalsely : Prop := lcpFitsRow.holds Try.pinned (OpenSpec.ofChange lcpFitsWrong)

/-- 'tetherlaw11.LcpEchoes': WHATEVER THE INPUT: true; the input reads as it did. -/
def lcpEchoesSpec : ChangeSpec := { name := "lcpEchoes", fn := fun _ => fun
  | [d1, d2, d3, d4] => { results := [.lit (.bool true)], args := [d1, d2, d3, d4] }
  | _ => none }
def lcpEchoesRow : OpenClaim := { program := "ytodibldfolognaa", sum := "33c8263403321b0f8160e7f61810e267d551d0a0e8820453f2ba5b4241fed91a", func := "tether/tetherlaw11.LcpEchoes", spec := "lcpEchoes", unfollowed := true, recurses := true, apart := false }
def LcpEchoesSaid : Prop := lcpEchoesRow.holds Try.pinned (OpenSpec.ofChange lcpEchoesSpec)

/-- ITS FALSE NEIGHBOUR: 'it returns false'. Refute it at one input. -/
def lcpEchoesWrong : ChangeSpec := { name := "lcpEchoes", fn := fun _ => fun
  | [d1, d2, d3, d4] => { results := [.lit (.bool false)], args := [d1, d2, d3, d4] }
  | _ => none }
def LcpEchoesWrongFalsely : Prop := lcpEchoesRow.holds Try.pinned (OpenSpec.ofChange lcpEchoesWrong)

/-- 'tetherlaw11.LcpOptions': WHATEVER THE INPUT: true; the input reads as it did. -/
def lcpOptionsSpec : ChangeSpec := { name := "lcpOptions", fn := fun _ => fun
  | [d1, d2, d3, d4] => { results := [.lit (.bool true)], args := [d1, d2, d3, d4] }
  | _ => none }
def lcpOptionsRow : OpenClaim := { program := "ytodibldfolognaa", sum := "33c8263403321b0f8160e7f61810e267d551d0a0e8820453f2ba5b4241fed91a", func := "tether/tetherlaw11.LcpOptions", spec := "lcpOptions", unfollowed := true, recurses := true, apart := false }
def LcpOptionsSaid : Prop := lcpOptionsRow.holds Try.pinned (OpenSpec.ofChange lcpOptionsSpec)

/-- ITS FALSE NEIGHBOUR: 'it returns false'. Refute it at one input. -/
def lcpOptionsWrong : ChangeSpec := { name := "lcpOptions", fn := fun _ => fun
  | [d1, d2, d3, d4] => { results := [.lit (.bool false)], args := [d1, d2, d3, d4] }
  | _ => none }
def LcpOptionsWrongFalsely : Prop := lcpOptionsRow.holds Try.pinned (OpenSpec.ofChange lcpOptionsWrong)

/-- 'tetherlaw11.LcpBack': WHATEVER THE INPUT: true; the input reads as it did. -/
def lcpBackSpec : ChangeSpec := { name := "lcpBack", fn := fun _ => fun
  | [d] => { results := [.lit (.bool true)], args := [d] }
  | _ => none }
def lcpBackRow : OpenClaim := { program := "ytodibldfolognaa", sum := "33c8263403321b0f8160e7f61810e267d551d0a0e8820453f2ba5b4241fed91a", func := "tether/tetherlaw11.LcpBack", spec := "lcpBack", unfollowed := true, recurses := true, apart := false }
def LcpBackSaid : Prop := lcpBackRow.holds Try.pinned (OpenSpec.ofChange lcpBackSpec)

/-- ITS FALSE NEIGHBOUR: 'it returns false'. Refute it at one input. -/
def lcpBackWrong : ChangeSpec := { name := "lcpBack", fn := fun _ => fun
  | [d] => { results := [.lit (.bool false)], args := [d] }
  | _ => none }
def LcpBackWrongFalsely : Prop := lcpBackRow.holds Try.pinned (OpenSpec.ofChange lcpBackWrong)

/-- 'tetherlaw11.LcpEnds': WHATEVER THE INPUT: true; the input reads as it did. -/
def lcpEndsSpec : ChangeSpec := { name := "lcpEnds", fn := fun _ => fun
  | [d1, d2, d3, d4] => { results := [.lit (.bool true)], args := [d1, d2, d3, d4] }
  | _ => none }
def lcpEndsRow : OpenClaim := { program := "ytodibldfolognaa", sum := "33c8263403321b0f8160e7f61810e267d551d0a0e8820453f2ba5b4241fed91a", func := "tether/tetherlaw11.LcpEnds", spec := "lcpEnds", unfollowed := true, recurses := true, apart := false }
def LcpEndsSaid : Prop := lcpEndsRow.holds Try.pinned (OpenSpec.ofChange lcpEndsSpec)

/-- ITS FALSE NEIGHBOUR: 'it returns false'. Refute it at one input. -/
def lcpEndsWrong : ChangeSpec := { name := "lcpEnds", fn := fun _ => fun
  | [d1, d2, d3, d4] => { results := [.lit (.bool false)], args := [d1, d2, d3, d4] }
  | _ => none }
def LcpEndsWrongFalsely : Prop := lcpEndsRow.holds Try.pinned (OpenSpec.ofChange lcpEndsWrong)

/-- 'tetherlaw12.PapServes': WHATEVER THE INPUT: true; the input reads as it did. -/
def papServesSpec : ChangeSpec := { name := "papServes", fn := fun _ => fun
  | [d1, d2, d3] => { results := [.lit (.bool true)], args := [d1, d2, d3] }
  | _ => none }
def papServesRow : OpenClaim := { program := "ytodibldfolognaa", sum := "33c8263403321b0f8160e7f61810e267d551d0a0e8820453f2ba5b4241fed91a", func := "tether/tetherlaw12.PapServes", spec := "papServes", unfollowed := true, recurses := true, apart := false }
def PapServesSaid : Prop := papServesRow.holds Try.pinned (OpenSpec.ofChange papServesSpec)

/-- ITS FALSE NEIGHBOUR: 'it returns false'. Refute it at one input. -/
def papServesWrong : ChangeSpec := { name := "papServes", fn := fun _ => fun
  | [d1, d2, d3] => { results := [.lit (.bool false)], args := [d1, d2, d3] }
  | _ => none }
def PapServesWrongFalsely : Prop := papServesRow.holds Try.pinned (OpenSpec.ofChange papServesWrong)

/-- 'tetherlaw12.PapPackets': WHATEVER THE INPUT: true; the input reads as it did. -/
def papPacketsSpec : ChangeSpec := { name := "papPackets", fn := fun _ => fun
  | [d1, d2, d3, d4, d5] => { results := [.lit (.bool true)], args := [d1, d2, d3, d4, d5] }
  | _ => none }
def papPacketsRow : OpenClaim := { program := "ytodibldfolognaa", sum := "33c8263403321b0f8160e7f61810e267d551d0a0e8820453f2ba5b4241fed91a", func := "tether/tetherlaw12.PapPackets", spec := "papPackets", unfollowed := true, recurses := true, apart := false }
def PapPacketsSaid : Prop := papPacketsRow.holds Try.pinned (OpenSpec.ofChange papPacketsSpec)

/-- ITS FALSE NEIGHBOUR: 'it returns false'. Refute it at one input. -/
def papPacketsWrong : ChangeSpec := { name := "papPackets", fn := fun _ => fun
  | [d1, d2, d3, d4, d5] => { results := [.lit (.bool false)], args := [d1, d2, d3, d4, d5] }
  | _ => none }
def PapPacketsWrongFalsely : Prop := papPacketsRow.holds Try.pinned (OpenSpec.ofChange papPacketsWrong)

/-- 'tetherlaw12.PapMeet': WHATEVER THE INPUT: true; the input reads as it did. -/
def papMeetSpec : ChangeSpec := { name := "papMeet", fn := fun _ => fun
  | [d1, d2, d3, d4, d5] => { results := [.lit (.bool true)], args := [d1, d2, d3, d4, d5] }
  | _ => none }
def papMeetRow : OpenClaim := { program := "ytodibldfolognaa", sum := "33c8263403321b0f8160e7f61810e267d551d0a0e8820453f2ba5b4241fed91a", func := "tether/tetherlaw12.PapMeet", spec := "papMeet", unfollowed := true, recurses := true, apart := false }
def PapMeetSaid : Prop := papMeetRow.holds Try.pinned (OpenSpec.ofChange papMeetSpec)

/-- ITS FALSE NEIGHBOUR: 'it returns false'. Refute it at one input. -/
def papMeetWrong : ChangeSpec := { name := "papMeet", fn := fun _ => fun
  | [d1, d2, d3, d4, d5] => { results := [.lit (.bool false)], args := [d1, d2, d3, d4, d5] }
  | _ => none }
def PapMeetWrongFalsely : Prop := papMeetRow.holds Try.pinned (OpenSpec.ofChange papMeetWrong)

/-- 'tetherlaw12.PapAsks': WHATEVER THE INPUT: true; the input reads as it did. -/
def papAsksSpec : ChangeSpec := { name := "papAsks", fn := fun _ => fun
  | [d1, d2, d3, d4] => { results := [.lit (.bool true)], args := [d1, d2, d3, d4] }
  | _ => none }
def papAsksRow : OpenClaim := { program := "ytodibldfolognaa", sum := "33c8263403321b0f8160e7f61810e267d551d0a0e8820453f2ba5b4241fed91a", func := "tether/tetherlaw12.PapAsks", spec := "papAsks", unfollowed := true, recurses := true, apart := false }
def PapAsksSaid : Prop := papAsksRow.holds Try.pinned (OpenSpec.ofChange papAsksSpec)

/-- ITS FALSE NEIGHBOUR: 'it returns false'. Refute it at one input. -/
def papAsksWrong : ChangeSpec := { name := "papAsks", fn := fun _ => fun
  | [d1, d2, d3, d4] => { results := [.lit (.bool false)], args := [d1, d2, d3, d4] }
  | _ => none }
def PapAsksWrongFalsely : Prop := papAsksRow.holds Try.pinned (OpenSpec.ofChange papAsksWrong)

/-- 'tetherlaw12.PapNil': WHATEVER THE INPUT: true; the input reads as it did. -/
def papNilSpec : ChangeSpec := { name := "papNil", fn := fun _ => fun
  | [d] => { results := [.lit (.bool true)], args := [d] }
  | _ => none }
def papNilRow : OpenClaim := { program := "ytodibldfolognaa", sum := "33c8263403321b0f8160e7f61810e267d551d0a0e8820453f2ba5b4241fed91a", func := "tether/tetherlaw12.PapNil", spec := "papNil", unfollowed := true, recurses := true, apart := false }
def PapNilSaid : Prop := papNilRow.holds Try.pinned (OpenSpec.ofChange papNilSpec)

/-- ITS FALSE NEIGHBOUR: 'it returns false'. Refute it at one input. -/
def papNilWrong : ChangeSpec := { name := "papNil", fn := fun _ => fun
  | [d] => { results := [.lit (.bool false)], args := [d] }
  | _ => none }
def PapNilWrongFalsely : Prop := papNilRow.holds Try.pinned (OpenSpec.ofChange papNilWrong)

/- THE SECOND FORM. 'bulk': how many values and letters a reading holds, each counted each time it is reached (what is shared counts as often as it is met; a slice's spare places count too). A statement '..UptoSaid' is the law's where the arguments, and the package variables that the reading takes, are together of bulk at most 1048576: NARROWER than '..Said'. Prove '..Said' where nothing that the law and all that it calls make is longer than what came in: it says more and counts as full. Else prove '..UptoSaid'. A law counts once. -/
mutual
def uptoBulk {H : Type} : DataW H → Nat
  | .lit (.string bytes) => bytes.length + 1
  | .lit _ => 1
  | .nil => 1
  | .ptr d => uptoBulk d + 1
  | .slice elems spare => uptoBulkAll elems + uptoBulkAll spare + 1
  | .agg parts => uptoBulkAll parts + 1
  | .iface _ d => uptoBulk d + 1
  | .map entries => uptoBulkEntries entries + 1
  | .held _ => 1
def uptoBulkAll {H : Type} : List (DataW H) → Nat
  | [] => 0
  | d :: r => uptoBulk d + uptoBulkAll r
def uptoBulkEntries {H : Type} : List (Lit × DataW H) → Nat
  | [] => 0
  | x :: r => uptoBulkEntry x + uptoBulkEntries r
def uptoBulkEntry {H : Type} : Lit × DataW H → Nat
  | (.string bytes, d) => bytes.length + uptoBulk d + 1
  | (_, d) => uptoBulk d + 1
 end
def uptoSmall : (H : Type) → List (DataW H) → Bool := fun _ ds => decide (uptoBulkAll ds ≤ 1048576)
def OpenSpec.upto (s : _root_.Go.ChangeSpec) : _root_.Go.OpenSpec := { _root_.Go.OpenSpec.ofChange s with cond := some uptoSmall }

/-- 'tetherlaw11.LcpFits', WHERE WHAT IT READS IS OF BULK AT MOST 1048576: true; the input reads as it did. -/
def lcpFitsUptoRow : OpenClaim := { program := "ytodibldfolognaa", sum := "33c8263403321b0f8160e7f61810e267d551d0a0e8820453f2ba5b4241fed91a", func := "tether/tetherlaw11.LcpFits", spec := "lcpFits", unfollowed := true, recurses := true, apart := false, narrowed := true }
def LcpFitsUptoSaid : Prop := lcpFitsUptoRow.holds Try.pinned (OpenSpec.upto lcpFitsSpec)

/-- 'tetherlaw11.LcpEchoes', WHERE WHAT IT READS IS OF BULK AT MOST 1048576: true; the input reads as it did. -/
def lcpEchoesUptoRow : OpenClaim := { program := "ytodibldfolognaa", sum := "33c8263403321b0f8160e7f61810e267d551d0a0e8820453f2ba5b4241fed91a", func := "tether/tetherlaw11.LcpEchoes", spec := "lcpEchoes", unfollowed := true, recurses := true, apart := false, narrowed := true }
def LcpEchoesUptoSaid : Prop := lcpEchoesUptoRow.holds Try.pinned (OpenSpec.upto lcpEchoesSpec)

/-- 'tetherlaw11.LcpOptions', WHERE WHAT IT READS IS OF BULK AT MOST 1048576: true; the input reads as it did. -/
def lcpOptionsUptoRow : OpenClaim := { program := "ytodibldfolognaa", sum := "33c8263403321b0f8160e7f61810e267d551d0a0e8820453f2ba5b4241fed91a", func := "tether/tetherlaw11.LcpOptions", spec := "lcpOptions", unfollowed := true, recurses := true, apart := false, narrowed := true }
def LcpOptionsUptoSaid : Prop := lcpOptionsUptoRow.holds Try.pinned (OpenSpec.upto lcpOptionsSpec)

/-- 'tetherlaw11.LcpBack', WHERE WHAT IT READS IS OF BULK AT MOST 1048576: true; the input reads as it did. -/
def lcpBackUptoRow : OpenClaim := { program := "ytodibldfolognaa", sum := "33c8263403321b0f8160e7f61810e267d551d0a0e8820453f2ba5b4241fed91a", func := "tether/tetherlaw11.LcpBack", spec := "lcpBack", unfollowed := true, recurses := true, apart := false, narrowed := true }
def LcpBackUptoSaid : Prop := lcpBackUptoRow.holds Try.pinned (OpenSpec.upto lcpBackSpec)

/-- 'tetherlaw11.LcpEnds', WHERE WHAT IT READS IS OF BULK AT MOST 1048576: true; the input reads as it did. -/
def lcpEndsUptoRow : OpenClaim := { program := "ytodibldfolognaa", sum := "33c8263403321b0f8160e7f61810e267d551d0a0e8820453f2ba5b4241fed91a", func := "tether/tetherlaw11.LcpEnds", spec := "lcpEnds", unfollowed := true, recurses := true, apart := false, narrowed := true }
def LcpEndsUptoSaid : Prop := lcpEndsUptoRow.holds Try.pinned (OpenSpec.upto lcpEndsSpec)

/-- 'tetherlaw12.PapServes', WHERE WHAT IT READS IS OF BULK AT MOST 1048576: true; the input reads as it did. -/
def papServesUptoRow : OpenClaim := { program := "ytodibldfolognaa", sum := "33c8263403321b0f8160e7f61810e267d551d0a0e8820453f2ba5b4241fed91a", func := "tether/tetherlaw12.PapServes", spec := "papServes", unfollowed := true, recurses := true, apart := false, narrowed := true }
def PapServesUptoSaid : Prop := papServesUptoRow.holds Try.pinned (OpenSpec.upto papServesSpec)

/-- 'tetherlaw12.PapPackets', WHERE WHAT IT READS IS OF BULK AT MOST 1048576: true; the input reads as it did. -/
def papPacketsUptoRow : OpenClaim := { program := "ytodibldfolognaa", sum := "33c8263403321b0f8160e7f61810e267d551d0a0e8820453f2ba5b4241fed91a", func := "tether/tetherlaw12.PapPackets", spec := "papPackets", unfollowed := true, recurses := true, apart := false, narrowed := true }
def PapPacketsUptoSaid : Prop := papPacketsUptoRow.holds Try.pinned (OpenSpec.upto papPacketsSpec)

/-- 'tetherlaw12.PapMeet', WHERE WHAT IT READS IS OF BULK AT MOST 1048576: true; the input reads as it did. -/
def papMeetUptoRow : OpenClaim := { program := "ytodibldfolognaa", sum := "33c8263403321b0f8160e7f61810e267d551d0a0e8820453f2ba5b4241fed91a", func := "tether/tetherlaw12.PapMeet", spec := "papMeet", unfollowed := true, recurses := true, apart := false, narrowed := true }
def PapMeetUptoSaid : Prop := papMeetUptoRow.holds Try.pinned (OpenSpec.upto papMeetSpec)

/-- 'tetherlaw12.PapAsks', WHERE WHAT IT READS IS OF BULK AT MOST 1048576: true; the input reads as it did. -/
def papAsksUptoRow : OpenClaim := { program := "ytodibldfolognaa", sum := "33c8263403321b0f8160e7f61810e267d551d0a0e8820453f2ba5b4241fed91a", func := "tether/tetherlaw12.PapAsks", spec := "papAsks", unfollowed := true, recurses := true, apart := false, narrowed := true }
def PapAsksUptoSaid : Prop := papAsksUptoRow.holds Try.pinned (OpenSpec.upto papAsksSpec)

/-- 'tetherlaw12.PapNil', WHERE WHAT IT READS IS OF BULK AT MOST 1048576: true; the input reads as it did. -/
def papNilUptoRow : OpenClaim := { program := "ytodibldfolognaa", sum := "33c8263403321b0f8160e7f61810e267d551d0a0e8820453f2ba5b4241fed91a", func := "tether/tetherlaw12.PapNil", spec := "papNil", unfollowed := true, recurses := true, apart := false, narrowed := true }
def PapNilUptoSaid : Prop := papNilUptoRow.holds Try.pinned (OpenSpec.upto papNilSpec)

end Rows
end Go.Proofs.Ytodibldfolognaa
