/-
  DERIVED. GIVEN WITH THE SEED: THE CARDS: each row of YtdjihbjikpbhgaaGreatDoorRows.lean that lists a variable, with what it lists TIED to the program's text (the seventh form; the later family's looks); each row that meets fmt, with fmt's text TOLD by the authors' own Lean function (tested against real Go, not proved from fmt's source: count such statements apart). THE CARD IS WHAT COUNTS. Prove the row's statement (the work); the ties are given (YtdjihbjikpbhgaaGreatDoorTie.lean); close each card by the builder's one call (the guide's Derived/Test/ToyasCard.lean, 'card_holds'). Laid BY PROGRAM, IN A SANDBOX (cutbox-door.mjs). By AI agents, Wed Nov 11 2026. No macro, syntax, notation, axiom, sorry.
-/
import Derived.Test.YtdjihbjikpbhgaaGreatDoorRows
import GoSem.ClaimSeven
namespace Go.Proofs.YtdjihbjikpbhgaaGreatDoor
namespace Rows

/-- THE TIED CARD OF 'campanilelaw.MethodSays'. -/
def methodSaysCard : Claim7 := { stood := { row := methodSaysRow, standIns := [], harness := (true, "e8d80397573ab254d3a89e12c4dadbd6ae047d0a71c26407b0e0a495f6342bc6"), looks := true }, kinds := [], alts := [], laidByText := true, laidKinds := [.data, .data, .data, .data, .sentinel, .sentinel, .pinned], laidTests := true, laidLooks := .later }
def MethodSaysCardSaid : Prop := Claim7.holds Tryz.pinned (.plain (OpenSpec.ofChange methodSaysSpec)) methodSaysCard

/-- THE TIED CARD OF 'campanilelaw.MethodMade'. -/
def methodMadeCard : Claim7 := { stood := { row := methodMadeRow, standIns := [], harness := (true, "e8d80397573ab254d3a89e12c4dadbd6ae047d0a71c26407b0e0a495f6342bc6"), looks := true }, kinds := [], alts := [], laidByText := true, laidKinds := [.data, .data, .data, .data, .sentinel, .sentinel, .pinned], laidTests := true, laidLooks := .later }
def MethodMadeCardSaid : Prop := Claim7.holds Tryz.pinned (.plain (OpenSpec.ofChange methodMadeSpec)) methodMadeCard

/-- THE SECOND FORM's CARD OF 'campanilelaw.MethodSays'. -/
def methodSaysUptoCard : Claim7 := { stood := { row := methodSaysUptoRow, standIns := [], harness := (true, "e8d80397573ab254d3a89e12c4dadbd6ae047d0a71c26407b0e0a495f6342bc6"), looks := true }, kinds := [], alts := [], laidByText := true, laidKinds := [.data, .data, .data, .data, .sentinel, .sentinel, .pinned], laidTests := true, laidLooks := .later }
def MethodSaysUptoCardSaid : Prop := Claim7.holds Tryz.pinned (.plain (OpenSpec.upto methodSaysSpec)) methodSaysUptoCard

/-- THE SECOND FORM's CARD OF 'campanilelaw.MethodMade'. -/
def methodMadeUptoCard : Claim7 := { stood := { row := methodMadeUptoRow, standIns := [], harness := (true, "e8d80397573ab254d3a89e12c4dadbd6ae047d0a71c26407b0e0a495f6342bc6"), looks := true }, kinds := [], alts := [], laidByText := true, laidKinds := [.data, .data, .data, .data, .sentinel, .sentinel, .pinned], laidTests := true, laidLooks := .later }
def MethodMadeUptoCardSaid : Prop := Claim7.holds Tryz.pinned (.plain (OpenSpec.upto methodMadeSpec)) methodMadeUptoCard
end Rows
end Go.Proofs.YtdjihbjikpbhgaaGreatDoor
