/-
  No cell of these rows narrows 'for every input' (looked for: loops, veiled, ifaces, maps, wideKeys, modest, calm, conditions, laid).
  DERIVED. THE GIVEN ROWS OF THIS SEAT. 10 by the template 'for every input the law returns true; each argument reads behind the call as it read before'; 0 by the template 'total and deterministic' (their statements: YtobddmpiljknpaaTotals.lean).
  GIVEN WITH THE SEED: the statements are not yours to turn. If you find one false, say at which input.
  Laid BY PROGRAM, IN A SANDBOX (cutbox-rows.mjs): the forced cells as the released guide's own fill.sh prints them over the translation f7c4431c719f83f2… (all of the seat's roots in one cut). By AI agents, Wed Nov 11 2026. No macro, syntax, notation, axiom, sorry.
-/
import Derived.Test.YtobddmpiljknpaaChecked
import GoSem.Claim
import GoSem.ClaimJoined
import GoSem.ClaimMapViews
import Derived.JoinedTies
import Derived.KernelRfl
namespace Go.Proofs.Ytobddmpiljknpaa
/- THE CELL 'sum', in the pinned program and in every row, IS THE sha256 OF THE DUMP (.gsa) THAT YtobddmpiljknpaaProg.lean LOADS. Nothing in Lean hashes anything: it is a label: what it is worth is what the hold of that sum in a sandbox is worth. -/
noncomputable def Try.pinned : Pinned := { name := "ytobddmpiljknpaa", sum := "f7c4431c719f83f29292f0b221930d647aa393b863e8923501b63f34b2c6daec", checked := Try.checked }
namespace Rows
def none {H : Type} : Left H := { results := [], args := [] }

/-- 'tetherlaw13.ChapPackets': WHATEVER THE INPUT: true; the input reads as it did. -/
def chapPacketsSpec : ChangeSpec := { name := "chapPackets", fn := fun _ => fun
  | [d1, d2, d3, d4, d5] => { results := [.lit (.bool true)], args := [d1, d2, d3, d4, d5] }
  | _ => none }
def chapPacketsRow : OpenClaim := { program := "ytobddmpiljknpaa", sum := "f7c4431c719f83f29292f0b221930d647aa393b863e8923501b63f34b2c6daec", func := "tether/tetherlaw13.ChapPackets", spec := "chapPackets", unfollowed := true, recurses := true, apart := false }
def ChapPacketsSaid : Prop := chapPacketsRow.holds Try.pinned (OpenSpec.ofChange chapPacketsSpec)

/-- ITS FALSE NEIGHBOUR: 'it returns false'. Refute it at one input. -/
def chapPacketsWrong : ChangeSpec := { name := "chapPackets", fn := fun _ => fun
  | [d1, d2, d3, d4, d5] => { results := [.lit (.bool false)], args := [d1, d2, d3, d4, d5] }
  | _ => none }
def ChapPacketsWrongFalsely : Prop := chapPacketsRow.holds Try.pinned (OpenSpec.ofChange chapPacketsWrong)

/-- 'tetherlaw13.ChapAnswers': WHATEVER THE INPUT: true; the input reads as it did. -/
def chapAnswersSpec : ChangeSpec := { name := "chapAnswers", fn := fun _ => fun
  | [d1, d2, d3, d4] => { results := [.lit (.bool true)], args := [d1, d2, d3, d4] }
  | _ => none }
def chapAnswersRow : OpenClaim := { program := "ytobddmpiljknpaa", sum := "f7c4431c719f83f29292f0b221930d647aa393b863e8923501b63f34b2c6daec", func := "tether/tetherlaw13.ChapAnswers", spec := "chapAnswers", unfollowed := true, recurses := true, apart := false }
def ChapAnswersSaid : Prop := chapAnswersRow.holds Try.pinned (OpenSpec.ofChange chapAnswersSpec)

/-- ITS FALSE NEIGHBOUR: 'it returns false'. Refute it at one input. -/
def chapAnswersWrong : ChangeSpec := { name := "chapAnswers", fn := fun _ => fun
  | [d1, d2, d3, d4] => { results := [.lit (.bool false)], args := [d1, d2, d3, d4] }
  | _ => none }
def ChapAnswersWrongFalsely : Prop := chapAnswersRow.holds Try.pinned (OpenSpec.ofChange chapAnswersWrong)

/-- 'tetherlaw13.ChapHolds': WHATEVER THE INPUT: true; the input reads as it did. -/
def chapHoldsSpec : ChangeSpec := { name := "chapHolds", fn := fun _ => fun
  | [d1, d2, d3, d4] => { results := [.lit (.bool true)], args := [d1, d2, d3, d4] }
  | _ => none }
def chapHoldsRow : OpenClaim := { program := "ytobddmpiljknpaa", sum := "f7c4431c719f83f29292f0b221930d647aa393b863e8923501b63f34b2c6daec", func := "tether/tetherlaw13.ChapHolds", spec := "chapHolds", unfollowed := true, recurses := true, apart := false }
def ChapHoldsSaid : Prop := chapHoldsRow.holds Try.pinned (OpenSpec.ofChange chapHoldsSpec)

/-- ITS FALSE NEIGHBOUR: 'it returns false'. Refute it at one input. -/
def chapHoldsWrong : ChangeSpec := { name := "chapHolds", fn := fun _ => fun
  | [d1, d2, d3, d4] => { results := [.lit (.bool false)], args := [d1, d2, d3, d4] }
  | _ => none }
def ChapHoldsWrongFalsely : Prop := chapHoldsRow.holds Try.pinned (OpenSpec.ofChange chapHoldsWrong)

/-- 'tetherlaw14.EapMessages': WHATEVER THE INPUT: true; the input reads as it did. -/
def eapMessagesSpec : ChangeSpec := { name := "eapMessages", fn := fun _ => fun
  | [d1, d2] => { results := [.lit (.bool true)], args := [d1, d2] }
  | _ => none }
def eapMessagesRow : OpenClaim := { program := "ytobddmpiljknpaa", sum := "f7c4431c719f83f29292f0b221930d647aa393b863e8923501b63f34b2c6daec", func := "tether/tetherlaw14.EapMessages", spec := "eapMessages", unfollowed := true, recurses := true, apart := false }
def EapMessagesSaid : Prop := eapMessagesRow.holds Try.pinned (OpenSpec.ofChange eapMessagesSpec)

/-- ITS FALSE NEIGHBOUR: 'it returns false'. Refute it at one input. -/
def eapMessagesWrong : ChangeSpec := { name := "eapMessages", fn := fun _ => fun
  | [d1, d2] => { results := [.lit (.bool false)], args := [d1, d2] }
  | _ => none }
def EapMessagesWrongFalsely : Prop := eapMessagesRow.holds Try.pinned (OpenSpec.ofChange eapMessagesWrong)

/-- 'tetherlaw14.EapProves': WHATEVER THE INPUT: true; the input reads as it did. -/
def eapProvesSpec : ChangeSpec := { name := "eapProves", fn := fun _ => fun
  | [d1, d2, d3, d4, d5, d6] => { results := [.lit (.bool true)], args := [d1, d2, d3, d4, d5, d6] }
  | _ => none }
def eapProvesRow : OpenClaim := { program := "ytobddmpiljknpaa", sum := "f7c4431c719f83f29292f0b221930d647aa393b863e8923501b63f34b2c6daec", func := "tether/tetherlaw14.EapProves", spec := "eapProves", unfollowed := true, recurses := true, apart := false }
def EapProvesSaid : Prop := eapProvesRow.holds Try.pinned (OpenSpec.ofChange eapProvesSpec)

/-- ITS FALSE NEIGHBOUR: 'it returns false'. Refute it at one input. -/
def eapProvesWrong : ChangeSpec := { name := "eapProves", fn := fun _ => fun
  | [d1, d2, d3, d4, d5, d6] => { results := [.lit (.bool false)], args := [d1, d2, d3, d4, d5, d6] }
  | _ => none }
def EapProvesWrongFalsely : Prop := eapProvesRow.holds Try.pinned (OpenSpec.ofChange eapProvesWrong)

/-- 'tetherlaw13.ChapNil': WHATEVER THE INPUT: true; the input reads as it did. -/
def chapNilSpec : ChangeSpec := { name := "chapNil", fn := fun _ => fun
  | [d1, d2, d3] => { results := [.lit (.bool true)], args := [d1, d2, d3] }
  | _ => none }
def chapNilRow : OpenClaim := { program := "ytobddmpiljknpaa", sum := "f7c4431c719f83f29292f0b221930d647aa393b863e8923501b63f34b2c6daec", func := "tether/tetherlaw13.ChapNil", spec := "chapNil", unfollowed := true, recurses := true, apart := false }
def ChapNilSaid : Prop := chapNilRow.holds Try.pinned (OpenSpec.ofChange chapNilSpec)

/-- ITS FALSE NEIGHBOUR: 'it returns false'. Refute it at one input. -/
def chapNilWrong : ChangeSpec := { name := "chapNil", fn := fun _ => fun
  | [d1, d2, d3] => { results := [.lit (.bool false)], args := [d1, d2, d3] }
  | _ => none }
def ChapNilWrongFalsely : Prop := chapNilRow.holds Try.pinned (OpenSpec.ofChange chapNilWrong)

/-- 'tetherlaw14.EapAnswers': WHATEVER THE INPUT: true; the input reads as it did. -/
def eapAnswersSpec : ChangeSpec := { name := "eapAnswers", fn := fun _ => fun
  | [d1, d2, d3] => { results := [.lit (.bool true)], args := [d1, d2, d3] }
  | _ => none }
def eapAnswersRow : OpenClaim := { program := "ytobddmpiljknpaa", sum := "f7c4431c719f83f29292f0b221930d647aa393b863e8923501b63f34b2c6daec", func := "tether/tetherlaw14.EapAnswers", spec := "eapAnswers", unfollowed := true, recurses := true, apart := false }
def EapAnswersSaid : Prop := eapAnswersRow.holds Try.pinned (OpenSpec.ofChange eapAnswersSpec)

/-- ITS FALSE NEIGHBOUR: 'it returns false'. Refute it at one input. -/
def eapAnswersWrong : ChangeSpec := { name := "eapAnswers", fn := fun _ => fun
  | [d1, d2, d3] => { results := [.lit (.bool false)], args := [d1, d2, d3] }
  | _ => none }
def EapAnswersWrongFalsely : Prop := eapAnswersRow.holds Try.pinned (OpenSpec.ofChange eapAnswersWrong)

/-- 'tetherlaw14.EapMeet': WHATEVER THE INPUT: true; the input reads as it did. -/
def eapMeetSpec : ChangeSpec := { name := "eapMeet", fn := fun _ => fun
  | [d1, d2, d3, d4, d5, d6] => { results := [.lit (.bool true)], args := [d1, d2, d3, d4, d5, d6] }
  | _ => none }
def eapMeetRow : OpenClaim := { program := "ytobddmpiljknpaa", sum := "f7c4431c719f83f29292f0b221930d647aa393b863e8923501b63f34b2c6daec", func := "tether/tetherlaw14.EapMeet", spec := "eapMeet", unfollowed := true, recurses := true, apart := false }
def EapMeetSaid : Prop := eapMeetRow.holds Try.pinned (OpenSpec.ofChange eapMeetSpec)

/-- ITS FALSE NEIGHBOUR: 'it returns false'. Refute it at one input. -/
def eapMeetWrong : ChangeSpec := { name := "eapMeet", fn := fun _ => fun
  | [d1, d2, d3, d4, d5, d6] => { results := [.lit (.bool false)], args := [d1, d2, d3, d4, d5, d6] }
  | _ => none }
def EapMeetWrongFalsely : Prop := eapMeetRow.holds Try.pinned (OpenSpec.ofChange eapMeetWrong)

/-- 'tetherlaw14.EapServes': WHATEVER THE INPUT: true; the input reads as it did. -/
def eapServesSpec : ChangeSpec := { name := "eapServes", fn := fun _ => fun
  | [d1, d2, d3, d4] => { results := [.lit (.bool true)], args := [d1, d2, d3, d4] }
  | _ => none }
def eapServesRow : OpenClaim := { program := "ytobddmpiljknpaa", sum := "f7c4431c719f83f29292f0b221930d647aa393b863e8923501b63f34b2c6daec", func := "tether/tetherlaw14.EapServes", spec := "eapServes", unfollowed := true, recurses := true, apart := false }
def EapServesSaid : Prop := eapServesRow.holds Try.pinned (OpenSpec.ofChange eapServesSpec)

/-- ITS FALSE NEIGHBOUR: 'it returns false'. Refute it at one input. -/
def eapServesWrong : ChangeSpec := { name := "eapServes", fn := fun _ => fun
  | [d1, d2, d3, d4] => { results := [.lit (.bool false)], args := [d1, d2, d3, d4] }
  | _ => none }
def EapServesWrongFalsely : Prop := eapServesRow.holds Try.pinned (OpenSpec.ofChange eapServesWrong)

/-- 'tetherlaw14.EapNil': WHATEVER THE INPUT: true; the input reads as it did. -/
def eapNilSpec : ChangeSpec := { name := "eapNil", fn := fun _ => fun
  | [d1, d2] => { results := [.lit (.bool true)], args := [d1, d2] }
  | _ => none }
def eapNilRow : OpenClaim := { program := "ytobddmpiljknpaa", sum := "f7c4431c719f83f29292f0b221930d647aa393b863e8923501b63f34b2c6daec", func := "tether/tetherlaw14.EapNil", spec := "eapNil", unfollowed := true, recurses := true, apart := false }
def EapNilSaid : Prop := eapNilRow.holds Try.pinned (OpenSpec.ofChange eapNilSpec)

/-- ITS FALSE NEIGHBOUR: 'it returns false'. Refute it at one input. -/
def eapNilWrong : ChangeSpec := { name := "eapNil", fn := fun _ => fun
  | [d1, d2] => { results := [.lit (.bool false)], args := [d1, d2] }
  | _ => none }
def EapNilWrongFalsely : Prop := eapNilRow.holds Try.pinned (OpenSpec.ofChange eapNilWrong)

/- THE SECOND FORM. 'bulk': how many values and letters a reading holds, each counted each time it is reached (what is shared counts as often as it is met; a slice's spare places count too). A statement '..UptoSaid' is the law's where the arguments, and the package variables that the reading takes, are together of bulk at most 1048576: NARROWER than '..Said'. Prove '..Said' where nothing that the law and all that it calls make is longer than what came in: it says more and counts as full. Else prove '..UptoSaid'. A law counts once. -/
mutual
def uptoBulk {H : Type} : DataW H → Nat
  | .lit (.string bytes) => bytes.length + 1
  | .lit _ => 1
  | .nil => 1
  | .ptr d => uptoBulk d + 1
  | .slice elems spare => uptoBulkAll elems + uptoBulkAll spare + 1
  | .agg parts => uptoBulkAll parts + 1
  | .iface _ d => uptoBulk d + 1
  | .map entries => uptoBulkEntries entries + 1
  | .held _ => 1
def uptoBulkAll {H : Type} : List (DataW H) → Nat
  | [] => 0
  | d :: r => uptoBulk d + uptoBulkAll r
def uptoBulkEntries {H : Type} : List (Lit × DataW H) → Nat
  | [] => 0
  | x :: r => uptoBulkEntry x + uptoBulkEntries r
def uptoBulkEntry {H : Type} : Lit × DataW H → Nat
  | (.string bytes, d) => bytes.length + uptoBulk d + 1
  | (_, d) => uptoBulk d + 1
 end
def uptoSmall : (H : Type) → List (DataW H) → Bool := fun _ ds => decide (uptoBulkAll ds ≤ 1048576)
def OpenSpec.upto (s : _root_.Go.ChangeSpec) : _root_.Go.OpenSpec := { _root_.Go.OpenSpec.ofChange s with cond := some uptoSmall }

/-- 'tetherlaw13.ChapPackets', WHERE WHAT IT READS IS OF BULK AT MOST 1048576: true; the input reads as it did. -/
def chapPacketsUptoRow : OpenClaim := { program := "ytobddmpiljknpaa", sum := "f7c4431c719f83f29292f0b221930d647aa393b863e8923501b63f34b2c6daec", func := "tether/tetherlaw13.ChapPackets", spec := "chapPackets", unfollowed := true, recurses := true, apart := false, narrowed := true }
def ChapPacketsUptoSaid : Prop := chapPacketsUptoRow.holds Try.pinned (OpenSpec.upto chapPacketsSpec)

/-- 'tetherlaw13.ChapAnswers', WHERE WHAT IT READS IS OF BULK AT MOST 1048576: true; the input reads as it did. -/
def chapAnswersUptoRow : OpenClaim := { program := "ytobddmpiljknpaa", sum := "f7c4431c719f83f29292f0b221930d647aa393b863e8923501b63f34b2c6daec", func := "tether/tetherlaw13.ChapAnswers", spec := "chapAnswers", unfollowed := true, recurses := true, apart := false, narrowed := true }
def ChapAnswersUptoSaid : Prop := chapAnswersUptoRow.holds Try.pinned (OpenSpec.upto chapAnswersSpec)

/-- 'tetherlaw13.ChapHolds', WHERE WHAT IT READS IS OF BULK AT MOST 1048576: true; the input reads as it did. -/
def chapHoldsUptoRow : OpenClaim := { program := "ytobddmpiljknpaa", sum := "f7c4431c719f83f29292f0b221930d647aa393b863e8923501b63f34b2c6daec", func := "tether/tetherlaw13.ChapHolds", spec := "chapHolds", unfollowed := true, recurses := true, apart := false, narrowed := true }
def ChapHoldsUptoSaid : Prop := chapHoldsUptoRow.holds Try.pinned (OpenSpec.upto chapHoldsSpec)

/-- 'tetherlaw14.EapMessages', WHERE WHAT IT READS IS OF BULK AT MOST 1048576: true; the input reads as it did. -/
def eapMessagesUptoRow : OpenClaim := { program := "ytobddmpiljknpaa", sum := "f7c4431c719f83f29292f0b221930d647aa393b863e8923501b63f34b2c6daec", func := "tether/tetherlaw14.EapMessages", spec := "eapMessages", unfollowed := true, recurses := true, apart := false, narrowed := true }
def EapMessagesUptoSaid : Prop := eapMessagesUptoRow.holds Try.pinned (OpenSpec.upto eapMessagesSpec)

/-- 'tetherlaw14.EapProves', WHERE WHAT IT READS IS OF BULK AT MOST 1048576: true; the input reads as it did. -/
def eapProvesUptoRow : OpenClaim := { program := "ytobddmpiljknpaa", sum := "f7c4431c719f83f29292f0b221930d647aa393b863e8923501b63f34b2c6daec", func := "tether/tetherlaw14.EapProves", spec := "eapProves", unfollowed := true, recurses := true, apart := false, narrowed := true }
def EapProvesUptoSaid : Prop := eapProvesUptoRow.holds Try.pinned (OpenSpec.upto eapProvesSpec)

/-- 'tetherlaw13.ChapNil', WHERE WHAT IT READS IS OF BULK AT MOST 1048576: true; the input reads as it did. -/
def chapNilUptoRow : OpenClaim := { program := "ytobddmpiljknpaa", sum := "f7c4431c719f83f29292f0b221930d647aa393b863e8923501b63f34b2c6daec", func := "tether/tetherlaw13.ChapNil", spec := "chapNil", unfollowed := true, recurses := true, apart := false, narrowed := true }
def ChapNilUptoSaid : Prop := chapNilUptoRow.holds Try.pinned (OpenSpec.upto chapNilSpec)

/-- 'tetherlaw14.EapAnswers', WHERE WHAT IT READS IS OF BULK AT MOST 1048576: true; the input reads as it did. -/
def eapAnswersUptoRow : OpenClaim := { program := "ytobddmpiljknpaa", sum := "f7c4431c719f83f29292f0b221930d647aa393b863e8923501b63f34b2c6daec", func := "tether/tetherlaw14.EapAnswers", spec := "eapAnswers", unfollowed := true, recurses := true, apart := false, narrowed := true }
def EapAnswersUptoSaid : Prop := eapAnswersUptoRow.holds Try.pinned (OpenSpec.upto eapAnswersSpec)

/-- 'tetherlaw14.EapMeet', WHERE WHAT IT READS IS OF BULK AT MOST 1048576: true; the input reads as it did. -/
def eapMeetUptoRow : OpenClaim := { program := "ytobddmpiljknpaa", sum := "f7c4431c719f83f29292f0b221930d647aa393b863e8923501b63f34b2c6daec", func := "tether/tetherlaw14.EapMeet", spec := "eapMeet", unfollowed := true, recurses := true, apart := false, narrowed := true }
def EapMeetUptoSaid : Prop := eapMeetUptoRow.holds Try.pinned (OpenSpec.upto eapMeetSpec)

/-- 'tetherlaw14.EapServes', WHERE WHAT IT READS IS OF BULK AT MOST 1048576: true; the input reads as it did. -/
def eapServesUptoRow : OpenClaim := { program := "ytobddmpiljknpaa", sum := "f7c4431c719f83f29292f0b221930d647aa393b863e8923501b63f34b2c6daec", func := "tether/tetherlaw14.EapServes", spec := "eapServes", unfollowed := true, recurses := true, apart := false, narrowed := true }
def EapServesUptoSaid : Prop := eapServesUptoRow.holds Try.pinned (OpenSpec.upto eapServesSpec)

/-- 'tetherlaw14.EapNil', WHERE WHAT IT READS IS OF BULK AT MOST 1048576: true; the input reads as it did. -/
def eapNilUptoRow : OpenClaim := { program := "ytobddmpiljknpaa", sum := "f7c4431c719f83f29292f0b221930d647aa393b863e8923501b63f34b2c6daec", func := "tether/tetherlaw14.EapNil", spec := "eapNil", unfollowed := true, recurses := true, apart := false, narrowed := true }
def EapNilUptoSaid : Prop := eapNilUptoRow.holds Try.pinned (OpenSpec.upto eapNilSpec)

end Rows
end Go.Proofs.Ytobddmpiljknpaa
