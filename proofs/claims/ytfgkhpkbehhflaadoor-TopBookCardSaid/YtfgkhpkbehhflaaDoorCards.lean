/-
  DERIVED. GIVEN WITH THE SEED: THE CARDS: each row of YtfgkhpkbehhflaaDoorRows.lean that lists a variable, with what it lists TIED to the program's text (the seventh form; the later family's looks); each row that meets fmt, with fmt's text TOLD by the authors' own Lean function (tested against real Go, not proved from fmt's source: count such statements apart). THE CARD IS WHAT COUNTS. Prove the row's statement (the work); the ties are given (YtfgkhpkbehhflaaDoorTie.lean); close each card by the builder's one call (the guide's Derived/Test/ToyasCard.lean, 'card_holds'). Laid BY PROGRAM, IN A SANDBOX (cutbox-door.mjs). By AI agents, Wed Nov 11 2026. No macro, syntax, notation, axiom, sorry.
-/
import Derived.Test.YtfgkhpkbehhflaaDoorRows
import GoSem.ClaimSeven
namespace Go.Proofs.YtfgkhpkbehhflaaDoor
namespace Rows

/-- THE TIED CARD OF 'campanilelaw.BookOpens'. -/
def bookOpensCard : Claim7 := { stood := { row := bookOpensRow, standIns := [], harness := (true, "c1f2f2133e552eae65894b66d04f881001f44a7095947d167c82e2a3373f2cc3"), looks := true }, kinds := [], alts := [], laidByText := true, laidKinds := [.data, .data, .data, .data, .sentinel, .sentinel, .pinned], laidTests := true, laidLooks := .later }
def BookOpensCardSaid : Prop := Claim7.holds Tryd.pinned (.plain (OpenSpec.ofChange bookOpensSpec)) bookOpensCard

/-- THE TIED CARD OF 'campaniletop.TopBook'. -/
def topBookCard : Claim7 := { stood := { row := topBookRow, standIns := [], harness := (true, "c1f2f2133e552eae65894b66d04f881001f44a7095947d167c82e2a3373f2cc3"), looks := true }, kinds := [], alts := [], laidByText := true, laidKinds := [.data, .data, .data, .data, .sentinel, .sentinel, .pinned], laidTests := true, laidLooks := .later }
def TopBookCardSaid : Prop := Claim7.holds Tryd.pinned (.plain (OpenSpec.ofChange topBookSpec)) topBookCard

/-- THE SECOND FORM's CARD OF 'campanilelaw.BookOpens'. -/
def bookOpensUptoCard : Claim7 := { stood := { row := bookOpensUptoRow, standIns := [], harness := (true, "c1f2f2133e552eae65894b66d04f881001f44a7095947d167c82e2a3373f2cc3"), looks := true }, kinds := [], alts := [], laidByText := true, laidKinds := [.data, .data, .data, .data, .sentinel, .sentinel, .pinned], laidTests := true, laidLooks := .later }
def BookOpensUptoCardSaid : Prop := Claim7.holds Tryd.pinned (.plain (OpenSpec.upto bookOpensSpec)) bookOpensUptoCard

/-- THE SECOND FORM's CARD OF 'campaniletop.TopBook'. -/
def topBookUptoCard : Claim7 := { stood := { row := topBookUptoRow, standIns := [], harness := (true, "c1f2f2133e552eae65894b66d04f881001f44a7095947d167c82e2a3373f2cc3"), looks := true }, kinds := [], alts := [], laidByText := true, laidKinds := [.data, .data, .data, .data, .sentinel, .sentinel, .pinned], laidTests := true, laidLooks := .later }
def TopBookUptoCardSaid : Prop := Claim7.holds Tryd.pinned (.plain (OpenSpec.upto topBookSpec)) topBookUptoCard
end Rows
end Go.Proofs.YtfgkhpkbehhflaaDoor
