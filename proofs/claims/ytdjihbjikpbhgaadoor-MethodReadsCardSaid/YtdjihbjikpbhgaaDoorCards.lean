/-
  DERIVED. GIVEN WITH THE SEED: THE CARDS: each row of YtdjihbjikpbhgaaDoorRows.lean that lists a variable, with what it lists TIED to the program's text (the seventh form; the later family's looks); each row that meets fmt, with fmt's text TOLD by the authors' own Lean function (tested against real Go, not proved from fmt's source: count such statements apart). THE CARD IS WHAT COUNTS. Prove the row's statement (the work); the ties are given (YtdjihbjikpbhgaaDoorTie.lean); close each card by the builder's one call (the guide's Derived/Test/ToyasCard.lean, 'card_holds'). Laid BY PROGRAM, IN A SANDBOX (cutbox-door.mjs). By AI agents, Wed Nov 11 2026. No macro, syntax, notation, axiom, sorry.
-/
import Derived.Test.YtdjihbjikpbhgaaDoorRows
import GoSem.ClaimSeven
namespace Go.Proofs.YtdjihbjikpbhgaaDoor
namespace Rows

/-- THE TIED CARD OF 'campanilelaw.BookOpens'. -/
def bookOpensCard : Claim7 := { stood := { row := bookOpensRow, standIns := [], harness := (true, "8e29f49855bda970b89bffe94b92f0f165c3e6a84b5137d413222ee2c8c252a2"), looks := true }, kinds := [], alts := [], laidByText := true, laidKinds := [.data, .data, .data, .data, .sentinel, .sentinel, .pinned], laidTests := true, laidLooks := .later }
def BookOpensCardSaid : Prop := Claim7.holds Tryd.pinned (.plain (OpenSpec.ofChange bookOpensSpec)) bookOpensCard

/-- THE TIED CARD OF 'campanilelaw.MethodReads'. -/
def methodReadsCard : Claim7 := { stood := { row := methodReadsRow, standIns := [], harness := (true, "8e29f49855bda970b89bffe94b92f0f165c3e6a84b5137d413222ee2c8c252a2"), looks := true }, kinds := [], alts := [], laidByText := true, laidKinds := [.data, .data, .data, .data, .sentinel, .sentinel, .pinned], laidTests := true, laidLooks := .later }
def MethodReadsCardSaid : Prop := Claim7.holds Tryd.pinned (.plain (OpenSpec.ofChange methodReadsSpec)) methodReadsCard

/-- THE TIED CARD OF 'campaniletop.TopBook'. -/
def topBookCard : Claim7 := { stood := { row := topBookRow, standIns := [], harness := (true, "8e29f49855bda970b89bffe94b92f0f165c3e6a84b5137d413222ee2c8c252a2"), looks := true }, kinds := [], alts := [], laidByText := true, laidKinds := [.data, .data, .data, .data, .sentinel, .sentinel, .pinned], laidTests := true, laidLooks := .later }
def TopBookCardSaid : Prop := Claim7.holds Tryd.pinned (.plain (OpenSpec.ofChange topBookSpec)) topBookCard

/-- THE SECOND FORM's CARD OF 'campanilelaw.BookOpens'. -/
def bookOpensUptoCard : Claim7 := { stood := { row := bookOpensUptoRow, standIns := [], harness := (true, "8e29f49855bda970b89bffe94b92f0f165c3e6a84b5137d413222ee2c8c252a2"), looks := true }, kinds := [], alts := [], laidByText := true, laidKinds := [.data, .data, .data, .data, .sentinel, .sentinel, .pinned], laidTests := true, laidLooks := .later }
def BookOpensUptoCardSaid : Prop := Claim7.holds Tryd.pinned (.plain (OpenSpec.upto bookOpensSpec)) bookOpensUptoCard

/-- THE SECOND FORM's CARD OF 'campanilelaw.MethodReads'. -/
def methodReadsUptoCard : Claim7 := { stood := { row := methodReadsUptoRow, standIns := [], harness := (true, "8e29f49855bda970b89bffe94b92f0f165c3e6a84b5137d413222ee2c8c252a2"), looks := true }, kinds := [], alts := [], laidByText := true, laidKinds := [.data, .data, .data, .data, .sentinel, .sentinel, .pinned], laidTests := true, laidLooks := .later }
def MethodReadsUptoCardSaid : Prop := Claim7.holds Tryd.pinned (.plain (OpenSpec.upto methodReadsSpec)) methodReadsUptoCard

/-- THE SECOND FORM's CARD OF 'campaniletop.TopBook'. -/
def topBookUptoCard : Claim7 := { stood := { row := topBookUptoRow, standIns := [], harness := (true, "8e29f49855bda970b89bffe94b92f0f165c3e6a84b5137d413222ee2c8c252a2"), looks := true }, kinds := [], alts := [], laidByText := true, laidKinds := [.data, .data, .data, .data, .sentinel, .sentinel, .pinned], laidTests := true, laidLooks := .later }
def TopBookUptoCardSaid : Prop := Claim7.holds Tryd.pinned (.plain (OpenSpec.upto topBookSpec)) topBookUptoCard
end Rows
end Go.Proofs.YtdjihbjikpbhgaaDoor
