/-
  DERIVED. GIVEN WITH THE SEED: THE CARDS: each row of YthlfdckcnpnemaaDoorRows.lean that lists a variable, with what it lists TIED to the program's text (the seventh form; the later family's looks); each row that meets fmt, with fmt's text TOLD by the authors' own Lean function (tested against real Go, not proved from fmt's source: count such statements apart). THE CARD IS WHAT COUNTS. Prove the row's statement (the work); the ties are given (YthlfdckcnpnemaaDoorTie.lean); close each card by the builder's one call (the guide's Derived/Test/ToyasCard.lean, 'card_holds'). Laid BY PROGRAM, IN A SANDBOX (cutbox-door.mjs). By AI agents, Wed Nov 11 2026. No macro, syntax, notation, axiom, sorry.
-/
import Derived.Test.YthlfdckcnpnemaaDoorRows
import GoSem.ClaimSeven
namespace Go.Proofs.YthlfdckcnpnemaaDoor
namespace Rows

/-- THE TIED CARD OF 'tetherlaw01.OctetDigits'. -/
def octetDigitsCard : Claim7 := { stood := { row := octetDigitsRow, standIns := [], harness := (true, "999fa9a9482ddb1192e5f5aafba4e7a0fb5eb770dc4c77ecf085ff780e411da6"), looks := false }, kinds := [], alts := [], laidByText := true, laidKinds := [.data], laidTests := true, laidLooks := .later }
def OctetDigitsCardSaid : Prop := Claim7.holds Tryd.pinned (.plain (OpenSpec.ofChange octetDigitsSpec)) octetDigitsCard

/-- THE TIED CARD OF 'tetherlaw09.OptPicks'. -/
def optPicksCard : Claim7 := { stood := { row := optPicksRow, standIns := [], harness := (true, "999fa9a9482ddb1192e5f5aafba4e7a0fb5eb770dc4c77ecf085ff780e411da6"), looks := false }, kinds := [], alts := [], laidByText := true, laidKinds := [.data], laidTests := true, laidLooks := .later }
def OptPicksCardSaid : Prop := Claim7.holds Tryd.pinned (.plain (OpenSpec.ofChange optPicksSpec)) optPicksCard

/-- THE SECOND FORM's CARD OF 'tetherlaw01.OctetDigits'. -/
def octetDigitsUptoCard : Claim7 := { stood := { row := octetDigitsUptoRow, standIns := [], harness := (true, "999fa9a9482ddb1192e5f5aafba4e7a0fb5eb770dc4c77ecf085ff780e411da6"), looks := false }, kinds := [], alts := [], laidByText := true, laidKinds := [.data], laidTests := true, laidLooks := .later }
def OctetDigitsUptoCardSaid : Prop := Claim7.holds Tryd.pinned (.plain (OpenSpec.upto octetDigitsSpec)) octetDigitsUptoCard

/-- THE SECOND FORM's CARD OF 'tetherlaw09.OptPicks'. -/
def optPicksUptoCard : Claim7 := { stood := { row := optPicksUptoRow, standIns := [], harness := (true, "999fa9a9482ddb1192e5f5aafba4e7a0fb5eb770dc4c77ecf085ff780e411da6"), looks := false }, kinds := [], alts := [], laidByText := true, laidKinds := [.data], laidTests := true, laidLooks := .later }
def OptPicksUptoCardSaid : Prop := Claim7.holds Tryd.pinned (.plain (OpenSpec.upto optPicksSpec)) optPicksUptoCard
end Rows
end Go.Proofs.YthlfdckcnpnemaaDoor
