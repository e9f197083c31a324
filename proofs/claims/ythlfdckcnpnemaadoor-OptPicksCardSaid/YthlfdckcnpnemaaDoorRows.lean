/-
  NARROWER THAN 'FOR EVERY INPUT', by the rows' own cells (each row's printed sentence says how): OctetDigits: laid · OptPicks: laid.
  DERIVED. THE GIVEN ROWS OF THIS SEAT. 2 by the template 'for every input the law returns true; each argument reads behind the call as it read before'; 0 by the template 'total and deterministic' (their statements: YthlfdckcnpnemaaDoorTotals.lean).
  GIVEN WITH THE SEED: the statements are not yours to turn. If you find one false, say at which input.
  Laid BY PROGRAM, IN A SANDBOX (cutbox-rows.mjs): the forced cells as the released guide's own fill.sh prints them over the translation 639a7c9ea246751b… (all of the seat's roots in one cut). By AI agents, Wed Nov 11 2026. No macro, syntax, notation, axiom, sorry.
-/
import Derived.Test.YthlfdckcnpnemaaDoorChecked
import GoSem.Claim
import GoSem.ClaimJoined
import GoSem.ClaimMapViews
import Derived.JoinedTies
import Derived.KernelRfl
namespace Go.Proofs.YthlfdckcnpnemaaDoor
/- THE CELL 'sum', in the pinned program and in every row, IS THE sha256 OF THE DUMP (.gsa) THAT YthlfdckcnpnemaaDoorProg.lean LOADS. Nothing in Lean hashes anything: it is a label: what it is worth is what the hold of that sum in a sandbox is worth. -/
noncomputable def Tryd.pinned : Pinned := { name := "ythlfdckcnpnemaadoor", sum := "639a7c9ea246751b6986ebc5d31c0416783761dc30b5766d5ad055caa7552e0e", checked := Tryd.checked }
namespace Rows
def none {H : Type} : Left H := { results := [], args := [] }

/- WHAT THE LISTED PACKAGE-LEVEL VARIABLES READ AS WHEN THE CALL BEGINS. Each datum BY PROGRAM (the guide's laid-datum.mjs) off the statement by which the dump's own 'gosem.cut.vars' lays the variable. In a bare row this is a premise. The card (YthlfdckcnpnemaaDoorCards.lean) ties it to the program's text. -/
def laid_tether_octet_digits {H : Type} : DataW H := .agg [.lit (.int .u8 48), .lit (.int .u8 49), .lit (.int .u8 50), .lit (.int .u8 51), .lit (.int .u8 52), .lit (.int .u8 53), .lit (.int .u8 54), .lit (.int .u8 55), .lit (.int .u8 56), .lit (.int .u8 57), .lit (.int .u8 97), .lit (.int .u8 98), .lit (.int .u8 99), .lit (.int .u8 100), .lit (.int .u8 101), .lit (.int .u8 102)]
def laid_tether_opt_names {H : Type} : DataW H := .agg [.lit (.string []), .lit (.string [99, 111, 110, 102, 45, 114, 101, 113]), .lit (.string [99, 111, 110, 102, 45, 97, 99, 107]), .lit (.string [99, 111, 110, 102, 45, 110, 97, 107]), .lit (.string [99, 111, 110, 102, 45, 114, 101, 106]), .lit (.string [116, 101, 114, 109, 45, 114, 101, 113]), .lit (.string [116, 101, 114, 109, 45, 97, 99, 107]), .lit (.string [99, 111, 100, 101, 45, 114, 101, 106]), .lit (.string [112, 114, 111, 116, 45, 114, 101, 106]), .lit (.string [101, 99, 104, 111, 45, 114, 101, 113]), .lit (.string [101, 99, 104, 111, 45, 114, 101, 112]), .lit (.string [100, 105, 115, 99, 97, 114, 100]), .lit (.string [105, 100, 101, 110, 116]), .lit (.string []), .lit (.string [114, 101, 115, 101, 116, 45, 114, 101, 113]), .lit (.string [114, 101, 115, 101, 116, 45, 97, 99, 107])]

/-- 'tetherlaw01.OctetDigits': WHATEVER THE INPUT: true; the input reads as it did. -/
def octetDigitsSpec : ChangeSpec := { name := "octetDigits", fn := fun _ => fun
  | [d1, d2] => { results := [.lit (.bool true)], args := [d1, d2] }
  | _ => none }
def octetDigitsRow : OpenClaim := { program := "ythlfdckcnpnemaadoor", sum := "639a7c9ea246751b6986ebc5d31c0416783761dc30b5766d5ad055caa7552e0e", func := "tether/tetherlaw01.OctetDigits", spec := "octetDigits", named := ["tether/octet.digits"], apart := false, laid := [("tether/octet.digits", laid_tether_octet_digits)] }
def OctetDigitsSaid : Prop := octetDigitsRow.holds Tryd.pinned (OpenSpec.ofChange octetDigitsSpec)

/-- ITS FALSE NEIGHBOUR: 'it returns false'. Refute it at one input. -/
def octetDigitsWrong : ChangeSpec := { name := "octetDigits", fn := fun _ => fun
  | [d1, d2] => { results := [.lit (.bool false)], args := [d1, d2] }
  | _ => none }
def OctetDigitsWrongFalsely : Prop := octetDigitsRow.holds Tryd.pinned (OpenSpec.ofChange octetDigitsWrong)

/-- 'tetherlaw09.OptPicks': WHATEVER THE INPUT: true; the input reads as it did. -/
def optPicksSpec : ChangeSpec := { name := "optPicks", fn := fun _ => fun
  | [d1, d2, d3, d4] => { results := [.lit (.bool true)], args := [d1, d2, d3, d4] }
  | _ => none }
def optPicksRow : OpenClaim := { program := "ythlfdckcnpnemaadoor", sum := "639a7c9ea246751b6986ebc5d31c0416783761dc30b5766d5ad055caa7552e0e", func := "tether/tetherlaw09.OptPicks", spec := "optPicks", unfollowed := true, recurses := true, named := ["tether/opt.names"], apart := false, laid := [("tether/opt.names", laid_tether_opt_names)] }
def OptPicksSaid : Prop := optPicksRow.holds Tryd.pinned (OpenSpec.ofChange optPicksSpec)

/-- ITS FALSE NEIGHBOUR: 'it returns false'. Refute it at one input. -/
def optPicksWrong : ChangeSpec := { name := "optPicks", fn := fun _ => fun
  | [d1, d2, d3, d4] => { results := [.lit (.bool false)], args := [d1, d2, d3, d4] }
  | _ => none }
def OptPicksWrongFalsely : Prop := optPicksRow.holds Tryd.pinned (OpenSpec.ofChange optPicksWrong)

/- THE SECOND FORM. 'bulk': how many values and letters a reading holds, each counted each time it is reached (what is shared counts as often as it is met; a slice's spare places count too). A statement '..UptoSaid' is the law's where the arguments, and the package variables that the reading takes, are together of bulk at most 1048576: NARROWER than '..Said'. Prove '..Said' where nothing that the law and all that it calls make is longer than what came in: it says more and counts as full. Else prove '..UptoSaid'. A law counts once. -/
mutual
def uptoBulk {H : Type} : DataW H → Nat
  | .lit (.string bytes) => bytes.length + 1
  | .lit _ => 1
  | .nil => 1
  | .ptr d => uptoBulk d + 1
  | .slice elems spare => uptoBulkAll elems + uptoBulkAll spare + 1
  | .agg parts => uptoBulkAll parts + 1
  | .iface _ d => uptoBulk d + 1
  | .map entries => uptoBulkEntries entries + 1
  | .held _ => 1
def uptoBulkAll {H : Type} : List (DataW H) → Nat
  | [] => 0
  | d :: r => uptoBulk d + uptoBulkAll r
def uptoBulkEntries {H : Type} : List (Lit × DataW H) → Nat
  | [] => 0
  | x :: r => uptoBulkEntry x + uptoBulkEntries r
def uptoBulkEntry {H : Type} : Lit × DataW H → Nat
  | (.string bytes, d) => bytes.length + uptoBulk d + 1
  | (_, d) => uptoBulk d + 1
 end
def uptoSmall : (H : Type) → List (DataW H) → Bool := fun _ ds => decide (uptoBulkAll ds ≤ 1048576)
def OpenSpec.upto (s : _root_.Go.ChangeSpec) : _root_.Go.OpenSpec := { _root_.Go.OpenSpec.ofChange s with cond := some uptoSmall }

/-- 'tetherlaw01.OctetDigits', WHERE WHAT IT READS IS OF BULK AT MOST 1048576: true; the input reads as it did. -/
def octetDigitsUptoRow : OpenClaim := { program := "ythlfdckcnpnemaadoor", sum := "639a7c9ea246751b6986ebc5d31c0416783761dc30b5766d5ad055caa7552e0e", func := "tether/tetherlaw01.OctetDigits", spec := "octetDigits", named := ["tether/octet.digits"], apart := false, laid := [("tether/octet.digits", laid_tether_octet_digits)], narrowed := true }
def OctetDigitsUptoSaid : Prop := octetDigitsUptoRow.holds Tryd.pinned (OpenSpec.upto octetDigitsSpec)

/-- 'tetherlaw09.OptPicks', WHERE WHAT IT READS IS OF BULK AT MOST 1048576: true; the input reads as it did. -/
def optPicksUptoRow : OpenClaim := { program := "ythlfdckcnpnemaadoor", sum := "639a7c9ea246751b6986ebc5d31c0416783761dc30b5766d5ad055caa7552e0e", func := "tether/tetherlaw09.OptPicks", spec := "optPicks", unfollowed := true, recurses := true, named := ["tether/opt.names"], apart := false, laid := [("tether/opt.names", laid_tether_opt_names)], narrowed := true }
def OptPicksUptoSaid : Prop := optPicksUptoRow.holds Tryd.pinned (OpenSpec.upto optPicksSpec)

end Rows
end Go.Proofs.YthlfdckcnpnemaaDoor
