/-
  No cell of these rows narrows 'for every input' (looked for: loops, veiled, ifaces, maps, wideKeys, modest, calm, conditions, laid).
  DERIVED. THE GIVEN ROWS OF THIS SEAT. 10 by the template 'for every input the law returns true; each argument reads behind the call as it read before'; 0 by the template 'total and deterministic' (their statements: YtmopdimokoogmaaTotals.lean).
  GIVEN WITH THE SEED: the statements are not yours to turn. If you find one false, say at which input.
  Laid BY PROGRAM, IN A SANDBOX (cutbox-rows.mjs): the forced cells as the released guide's own fill.sh prints them over the translation 2e6f5df9a7466a5e… (all of the seat's roots in one cut). By AI agents, Wed Nov 11 2026. No macro, syntax, notation, axiom, sorry.
-/
import Derived.Test.YtmopdimokoogmaaChecked
import GoSem.Claim
import GoSem.ClaimJoined
import GoSem.ClaimMapViews
import Derived.JoinedTies
import Derived.KernelRfl
namespace Go.Proofs.Ytmopdimokoogmaa
/- THE CELL 'sum', in the pinned program and in every row, IS THE sha256 OF THE DUMP (.gsa) THAT YtmopdimokoogmaaProg.lean LOADS. Nothing in Lean hashes anything: it is a label: what it is worth is what the hold of that sum in a sandbox is worth. -/
noncomputable def Try.pinned : Pinned := { name := "ytmopdimokoogmaa", sum := "2e6f5df9a7466a5ebd523e82fb4ad228e65aa6ff157d9caf148ce9ba84c42abf", checked := Try.checked }
namespace Rows
def none {H : Type} : Left H := { results := [], args := [] }

/-- 'tetherlaw17.Ipv6cpJudges': WHATEVER THE INPUT: true; the input reads as it did. -/
def ipv6cpJudgesSpec : ChangeSpec := { name := "ipv6cpJudges", fn := fun _ => fun
  | [d1, d2, d3, d4, d5] => { results := [.lit (.bool true)], args := [d1, d2, d3, d4, d5] }
  | _ => none }
def ipv6cpJudgesRow : OpenClaim := { program := "ytmopdimokoogmaa", sum := "2e6f5df9a7466a5ebd523e82fb4ad228e65aa6ff157d9caf148ce9ba84c42abf", func := "tether/tetherlaw17.Ipv6cpJudges", spec := "ipv6cpJudges", apart := false }
def Ipv6cpJudgesSaid : Prop := ipv6cpJudgesRow.holds Try.pinned (OpenSpec.ofChange ipv6cpJudgesSpec)

/-- ITS FALSE NEIGHBOUR: 'it returns false'. Refute it at one input. -/
def ipv6cpJudgesWrong : ChangeSpec := { name := "ipv6cpJudges", fn := fun _ => fun
  | [d1, d2, d3, d4, d5] => { results := [.lit (.bool false)], args := [d1, d2, d3, d4, d5] }
  | _ => none }
def Ipv6cpJudgesWrongFalsely : Prop := ipv6cpJudgesRow.holds Try.pinned (OpenSpec.ofChange ipv6cpJudgesWrong)

/-- 'tetherlaw17.Ipv6cpOptions': WHATEVER THE INPUT: true; the input reads as it did. -/
def ipv6cpOptionsSpec : ChangeSpec := { name := "ipv6cpOptions", fn := fun _ => fun
  | [d1, d2, d3, d4] => { results := [.lit (.bool true)], args := [d1, d2, d3, d4] }
  | _ => none }
def ipv6cpOptionsRow : OpenClaim := { program := "ytmopdimokoogmaa", sum := "2e6f5df9a7466a5ebd523e82fb4ad228e65aa6ff157d9caf148ce9ba84c42abf", func := "tether/tetherlaw17.Ipv6cpOptions", spec := "ipv6cpOptions", unfollowed := true, recurses := true, apart := false }
def Ipv6cpOptionsSaid : Prop := ipv6cpOptionsRow.holds Try.pinned (OpenSpec.ofChange ipv6cpOptionsSpec)

/-- ITS FALSE NEIGHBOUR: 'it returns false'. Refute it at one input. -/
def ipv6cpOptionsWrong : ChangeSpec := { name := "ipv6cpOptions", fn := fun _ => fun
  | [d1, d2, d3, d4] => { results := [.lit (.bool false)], args := [d1, d2, d3, d4] }
  | _ => none }
def Ipv6cpOptionsWrongFalsely : Prop := ipv6cpOptionsRow.holds Try.pinned (OpenSpec.ofChange ipv6cpOptionsWrong)

/-- 'tetherlaw04.Md5Sums': WHATEVER THE INPUT: true; the input reads as it did. -/
def md5SumsSpec : ChangeSpec := { name := "md5Sums", fn := fun _ => fun
  | [d] => { results := [.lit (.bool true)], args := [d] }
  | _ => none }
def md5SumsRow : OpenClaim := { program := "ytmopdimokoogmaa", sum := "2e6f5df9a7466a5ebd523e82fb4ad228e65aa6ff157d9caf148ce9ba84c42abf", func := "tether/tetherlaw04.Md5Sums", spec := "md5Sums", apart := false }
def Md5SumsSaid : Prop := md5SumsRow.holds Try.pinned (OpenSpec.ofChange md5SumsSpec)

/-- ITS FALSE NEIGHBOUR: 'it returns false'. Refute it at one input. -/
def md5SumsWrong : ChangeSpec := { name := "md5Sums", fn := fun _ => fun
  | [d] => { results := [.lit (.bool false)], args := [d] }
  | _ => none }
def Md5SumsWrongFalsely : Prop := md5SumsRow.holds Try.pinned (OpenSpec.ofChange md5SumsWrong)

/-- 'tetherlaw17.Ipv6cpEnds': WHATEVER THE INPUT: true; the input reads as it did. -/
def ipv6cpEndsSpec : ChangeSpec := { name := "ipv6cpEnds", fn := fun _ => fun
  | [d1, d2, d3, d4, d5] => { results := [.lit (.bool true)], args := [d1, d2, d3, d4, d5] }
  | _ => none }
def ipv6cpEndsRow : OpenClaim := { program := "ytmopdimokoogmaa", sum := "2e6f5df9a7466a5ebd523e82fb4ad228e65aa6ff157d9caf148ce9ba84c42abf", func := "tether/tetherlaw17.Ipv6cpEnds", spec := "ipv6cpEnds", apart := false }
def Ipv6cpEndsSaid : Prop := ipv6cpEndsRow.holds Try.pinned (OpenSpec.ofChange ipv6cpEndsSpec)

/-- ITS FALSE NEIGHBOUR: 'it returns false'. Refute it at one input. -/
def ipv6cpEndsWrong : ChangeSpec := { name := "ipv6cpEnds", fn := fun _ => fun
  | [d1, d2, d3, d4, d5] => { results := [.lit (.bool false)], args := [d1, d2, d3, d4, d5] }
  | _ => none }
def Ipv6cpEndsWrongFalsely : Prop := ipv6cpEndsRow.holds Try.pinned (OpenSpec.ofChange ipv6cpEndsWrong)

/-- 'tetherlaw04.Md5Responses': WHATEVER THE INPUT: true; the input reads as it did. -/
def md5ResponsesSpec : ChangeSpec := { name := "md5Responses", fn := fun _ => fun
  | [d1, d2, d3] => { results := [.lit (.bool true)], args := [d1, d2, d3] }
  | _ => none }
def md5ResponsesRow : OpenClaim := { program := "ytmopdimokoogmaa", sum := "2e6f5df9a7466a5ebd523e82fb4ad228e65aa6ff157d9caf148ce9ba84c42abf", func := "tether/tetherlaw04.Md5Responses", spec := "md5Responses", apart := false }
def Md5ResponsesSaid : Prop := md5ResponsesRow.holds Try.pinned (OpenSpec.ofChange md5ResponsesSpec)

/-- ITS FALSE NEIGHBOUR: 'it returns false'. Refute it at one input. -/
def md5ResponsesWrong : ChangeSpec := { name := "md5Responses", fn := fun _ => fun
  | [d1, d2, d3] => { results := [.lit (.bool false)], args := [d1, d2, d3] }
  | _ => none }
def Md5ResponsesWrongFalsely : Prop := md5ResponsesRow.holds Try.pinned (OpenSpec.ofChange md5ResponsesWrong)

/-- 'tetherlaw17.Ipv6cpAsks': WHATEVER THE INPUT: true; the input reads as it did. -/
def ipv6cpAsksSpec : ChangeSpec := { name := "ipv6cpAsks", fn := fun _ => fun
  | [d1, d2, d3, d4] => { results := [.lit (.bool true)], args := [d1, d2, d3, d4] }
  | _ => none }
def ipv6cpAsksRow : OpenClaim := { program := "ytmopdimokoogmaa", sum := "2e6f5df9a7466a5ebd523e82fb4ad228e65aa6ff157d9caf148ce9ba84c42abf", func := "tether/tetherlaw17.Ipv6cpAsks", spec := "ipv6cpAsks", apart := false }
def Ipv6cpAsksSaid : Prop := ipv6cpAsksRow.holds Try.pinned (OpenSpec.ofChange ipv6cpAsksSpec)

/-- ITS FALSE NEIGHBOUR: 'it returns false'. Refute it at one input. -/
def ipv6cpAsksWrong : ChangeSpec := { name := "ipv6cpAsks", fn := fun _ => fun
  | [d1, d2, d3, d4] => { results := [.lit (.bool false)], args := [d1, d2, d3, d4] }
  | _ => none }
def Ipv6cpAsksWrongFalsely : Prop := ipv6cpAsksRow.holds Try.pinned (OpenSpec.ofChange ipv6cpAsksWrong)

/-- 'tetherlaw04.Md5Copies': WHATEVER THE INPUT: true; the input reads as it did. -/
def md5CopiesSpec : ChangeSpec := { name := "md5Copies", fn := fun _ => fun
  | [d1, d2, d3] => { results := [.lit (.bool true)], args := [d1, d2, d3] }
  | _ => none }
def md5CopiesRow : OpenClaim := { program := "ytmopdimokoogmaa", sum := "2e6f5df9a7466a5ebd523e82fb4ad228e65aa6ff157d9caf148ce9ba84c42abf", func := "tether/tetherlaw04.Md5Copies", spec := "md5Copies", unfollowed := true, recurses := true, apart := false }
def Md5CopiesSaid : Prop := md5CopiesRow.holds Try.pinned (OpenSpec.ofChange md5CopiesSpec)

/-- ITS FALSE NEIGHBOUR: 'it returns false'. Refute it at one input. -/
def md5CopiesWrong : ChangeSpec := { name := "md5Copies", fn := fun _ => fun
  | [d1, d2, d3] => { results := [.lit (.bool false)], args := [d1, d2, d3] }
  | _ => none }
def Md5CopiesWrongFalsely : Prop := md5CopiesRow.holds Try.pinned (OpenSpec.ofChange md5CopiesWrong)

/-- 'tetherlaw04.Md5Streams': WHATEVER THE INPUT: true; the input reads as it did. -/
def md5StreamsSpec : ChangeSpec := { name := "md5Streams", fn := fun _ => fun
  | [d1, d2] => { results := [.lit (.bool true)], args := [d1, d2] }
  | _ => none }
def md5StreamsRow : OpenClaim := { program := "ytmopdimokoogmaa", sum := "2e6f5df9a7466a5ebd523e82fb4ad228e65aa6ff157d9caf148ce9ba84c42abf", func := "tether/tetherlaw04.Md5Streams", spec := "md5Streams", unfollowed := true, recurses := true, apart := false }
def Md5StreamsSaid : Prop := md5StreamsRow.holds Try.pinned (OpenSpec.ofChange md5StreamsSpec)

/-- ITS FALSE NEIGHBOUR: 'it returns false'. Refute it at one input. -/
def md5StreamsWrong : ChangeSpec := { name := "md5Streams", fn := fun _ => fun
  | [d1, d2] => { results := [.lit (.bool false)], args := [d1, d2] }
  | _ => none }
def Md5StreamsWrongFalsely : Prop := md5StreamsRow.holds Try.pinned (OpenSpec.ofChange md5StreamsWrong)

/-- 'tetherlaw04.Md5Texts': WHATEVER THE INPUT: true; the input reads as it did. -/
def md5TextsSpec : ChangeSpec := { name := "md5Texts", fn := fun _ => fun
  | [d1, d2, d3] => { results := [.lit (.bool true)], args := [d1, d2, d3] }
  | _ => none }
def md5TextsRow : OpenClaim := { program := "ytmopdimokoogmaa", sum := "2e6f5df9a7466a5ebd523e82fb4ad228e65aa6ff157d9caf148ce9ba84c42abf", func := "tether/tetherlaw04.Md5Texts", spec := "md5Texts", apart := false }
def Md5TextsSaid : Prop := md5TextsRow.holds Try.pinned (OpenSpec.ofChange md5TextsSpec)

/-- ITS FALSE NEIGHBOUR: 'it returns false'. Refute it at one input. -/
def md5TextsWrong : ChangeSpec := { name := "md5Texts", fn := fun _ => fun
  | [d1, d2, d3] => { results := [.lit (.bool false)], args := [d1, d2, d3] }
  | _ => none }
def Md5TextsWrongFalsely : Prop := md5TextsRow.holds Try.pinned (OpenSpec.ofChange md5TextsWrong)

/-- 'tetherlaw04.Md5Nil': WHATEVER THE INPUT: true; the input reads as it did. -/
def md5NilSpec : ChangeSpec := { name := "md5Nil", fn := fun _ => fun
  | [d] => { results := [.lit (.bool true)], args := [d] }
  | _ => none }
def md5NilRow : OpenClaim := { program := "ytmopdimokoogmaa", sum := "2e6f5df9a7466a5ebd523e82fb4ad228e65aa6ff157d9caf148ce9ba84c42abf", func := "tether/tetherlaw04.Md5Nil", spec := "md5Nil", unfollowed := true, recurses := true, apart := false }
def Md5NilSaid : Prop := md5NilRow.holds Try.pinned (OpenSpec.ofChange md5NilSpec)

/-- ITS FALSE NEIGHBOUR: 'it returns false'. Refute it at one input. -/
def md5NilWrong : ChangeSpec := { name := "md5Nil", fn := fun _ => fun
  | [d] => { results := [.lit (.bool false)], args := [d] }
  | _ => none }
def Md5NilWrongFalsely : Prop := md5NilRow.holds Try.pinned (OpenSpec.ofChange md5NilWrong)

/- THE SECOND FORM. 'bulk': how many values and letters a reading holds, each counted each time it is reached (what is shared counts as often as it is met; a slice's spare places count too). A statement '..UptoSaid' is the law's where the arguments, and the package variables that the reading takes, are together of bulk at most 1048576: NARROWER than '..Said'. Prove '..Said' where nothing that the law and all that it calls make is longer than what came in: it says more and counts as full. Else prove '..UptoSaid'. A law counts once. -/
mutual
def uptoBulk {H : Type} : DataW H → Nat
  | .lit (.string bytes) => bytes.length + 1
  | .lit _ => 1
  | .nil => 1
  | .ptr d => uptoBulk d + 1
  | .slice elems spare => uptoBulkAll elems + uptoBulkAll spare + 1
  | .agg parts => uptoBulkAll parts + 1
  | .iface _ d => uptoBulk d + 1
  | .map entries => uptoBulkEntries entries + 1
  | .held _ => 1
def uptoBulkAll {H : Type} : List (DataW H) → Nat
  | [] => 0
  | d :: r => uptoBulk d + uptoBulkAll r
def uptoBulkEntries {H : Type} : List (Lit × DataW H) → Nat
  | [] => 0
  | x :: r => uptoBulkEntry x + uptoBulkEntries r
def uptoBulkEntry {H : Type} : Lit × DataW H → Nat
  | (.string bytes, d) => bytes.length + uptoBulk d + 1
  | (_, d) => uptoBulk d + 1
 end
def uptoSmall : (H : Type) → List (DataW H) → Bool := fun _ ds => decide (uptoBulkAll ds ≤ 1048576)
def OpenSpec.upto (s : _root_.Go.ChangeSpec) : _root_.Go.OpenSpec := { _root_.Go.OpenSpec.ofChange s with cond := some uptoSmall }

/-- 'tetherlaw17.Ipv6cpJudges', WHERE WHAT IT READS IS OF BULK AT MOST 1048576: true; the input reads as it did. -/
def ipv6cpJudgesUptoRow : OpenClaim := { program := "ytmopdimokoogmaa", sum := "2e6f5df9a7466a5ebd523e82fb4ad228e65aa6ff157d9caf148ce9ba84c42abf", func := "tether/tetherlaw17.Ipv6cpJudges", spec := "ipv6cpJudges", apart := false, narrowed := true }
def Ipv6cpJudgesUptoSaid : Prop := ipv6cpJudgesUptoRow.holds Try.pinned (OpenSpec.upto ipv6cpJudgesSpec)

/-- 'tetherlaw17.Ipv6cpOptions', WHERE WHAT IT READS IS OF BULK AT MOST 1048576: true; the input reads as it did. -/
def ipv6cpOptionsUptoRow : OpenClaim := { program := "ytmopdimokoogmaa", sum := "2e6f5df9a7466a5ebd523e82fb4ad228e65aa6ff157d9caf148ce9ba84c42abf", func := "tether/tetherlaw17.Ipv6cpOptions", spec := "ipv6cpOptions", unfollowed := true, recurses := true, apart := false, narrowed := true }
def Ipv6cpOptionsUptoSaid : Prop := ipv6cpOptionsUptoRow.holds Try.pinned (OpenSpec.upto ipv6cpOptionsSpec)

/-- 'tetherlaw04.Md5Sums', WHERE WHAT IT READS IS OF BULK AT MOST 1048576: true; the input reads as it did. -/
def md5SumsUptoRow : OpenClaim := { program := "ytmopdimokoogmaa", sum := "2e6f5df9a7466a5ebd523e82fb4ad228e65aa6ff157d9caf148ce9ba84c42abf", func := "tether/tetherlaw04.Md5Sums", spec := "md5Sums", apart := false, narrowed := true }
def Md5SumsUptoSaid : Prop := md5SumsUptoRow.holds Try.pinned (OpenSpec.upto md5SumsSpec)

/-- 'tetherlaw17.Ipv6cpEnds', WHERE WHAT IT READS IS OF BULK AT MOST 1048576: true; the input reads as it did. -/
def ipv6cpEndsUptoRow : OpenClaim := { program := "ytmopdimokoogmaa", sum := "2e6f5df9a7466a5ebd523e82fb4ad228e65aa6ff157d9caf148ce9ba84c42abf", func := "tether/tetherlaw17.Ipv6cpEnds", spec := "ipv6cpEnds", apart := false, narrowed := true }
def Ipv6cpEndsUptoSaid : Prop := ipv6cpEndsUptoRow.holds Try.pinned (OpenSpec.upto ipv6cpEndsSpec)

/-- 'tetherlaw04.Md5Responses', WHERE WHAT IT READS IS OF BULK AT MOST 1048576: true; the input reads as it did. -/
def md5ResponsesUptoRow : OpenClaim := { program := "ytmopdimokoogmaa", sum := "2e6f5df9a7466a5ebd523e82fb4ad228e65aa6ff157d9caf148ce9ba84c42abf", func := "tether/tetherlaw04.Md5Responses", spec := "md5Responses", apart := false, narrowed := true }
def Md5ResponsesUptoSaid : Prop := md5ResponsesUptoRow.holds Try.pinned (OpenSpec.upto md5ResponsesSpec)

/-- 'tetherlaw17.Ipv6cpAsks', WHERE WHAT IT READS IS OF BULK AT MOST 1048576: true; the input reads as it did. -/
def ipv6cpAsksUptoRow : OpenClaim := { program := "ytmopdimokoogmaa", sum := "2e6f5df9a7466a5ebd523e82fb4ad228e65aa6ff157d9caf148ce9ba84c42abf", func := "tether/tetherlaw17.Ipv6cpAsks", spec := "ipv6cpAsks", apart := false, narrowed := true }
def Ipv6cpAsksUptoSaid : Prop := ipv6cpAsksUptoRow.holds Try.pinned (OpenSpec.upto ipv6cpAsksSpec)

/-- 'tetherlaw04.Md5Copies', WHERE WHAT IT READS IS OF BULK AT MOST 1048576: true; the input reads as it did. -/
def md5CopiesUptoRow : OpenClaim := { program := "ytmopdimokoogmaa", sum := "2e6f5df9a7466a5ebd523e82fb4ad228e65aa6ff157d9caf148ce9ba84c42abf", func := "tether/tetherlaw04.Md5Copies", spec := "md5Copies", unfollowed := true, recurses := true, apart := false, narrowed := true }
def Md5CopiesUptoSaid : Prop := md5CopiesUptoRow.holds Try.pinned (OpenSpec.upto md5CopiesSpec)

/-- 'tetherlaw04.Md5Streams', WHERE WHAT IT READS IS OF BULK AT MOST 1048576: true; the input reads as it did. -/
def md5StreamsUptoRow : OpenClaim := { program := "ytmopdimokoogmaa", sum := "2e6f5df9a7466a5ebd523e82fb4ad228e65aa6ff157d9caf148ce9ba84c42abf", func := "tether/tetherlaw04.Md5Streams", spec := "md5Streams", unfollowed := true, recurses := true, apart := false, narrowed := true }
def Md5StreamsUptoSaid : Prop := md5StreamsUptoRow.holds Try.pinned (OpenSpec.upto md5StreamsSpec)

/-- 'tetherlaw04.Md5Texts', WHERE WHAT IT READS IS OF BULK AT MOST 1048576: true; the input reads as it did. -/
def md5TextsUptoRow : OpenClaim := { program := "ytmopdimokoogmaa", sum := "2e6f5df9a7466a5ebd523e82fb4ad228e65aa6ff157d9caf148ce9ba84c42abf", func := "tether/tetherlaw04.Md5Texts", spec := "md5Texts", apart := false, narrowed := true }
def Md5TextsUptoSaid : Prop := md5TextsUptoRow.holds Try.pinned (OpenSpec.upto md5TextsSpec)

/-- 'tetherlaw04.Md5Nil', WHERE WHAT IT READS IS OF BULK AT MOST 1048576: true; the input reads as it did. -/
def md5NilUptoRow : OpenClaim := { program := "ytmopdimokoogmaa", sum := "2e6f5df9a7466a5ebd523e82fb4ad228e65aa6ff157d9caf148ce9ba84c42abf", func := "tether/tetherlaw04.Md5Nil", spec := "md5Nil", unfollowed := true, recurses := true, apart := false, narrowed := true }
def Md5NilUptoSaid : Prop := md5NilUptoRow.holds Try.pinned (OpenSpec.upto md5NilSpec)

end Rows
end Go.Proofs.Ytmopdimokoogmaa
