/-
  DERIVED. GIVEN WITH THE SEED: THE CARDS: each row of YtbilebfnanlgfaaDoorRows.lean that lists a variable, with what it lists TIED to the program's text (the seventh form; the later family's looks); each row that meets fmt, with fmt's text TOLD by the authors' own Lean function (tested against real Go, not proved from fmt's source: count such statements apart). THE CARD IS WHAT COUNTS. Prove the row's statement (the work); the ties are given (YtbilebfnanlgfaaDoorTie.lean); close each card by the builder's one call (the guide's Derived/Test/ToyasCard.lean, 'card_holds'). Laid BY PROGRAM, IN A SANDBOX (cutbox-door.mjs). By AI agents, Wed Nov 11 2026. No macro, syntax, notation, axiom, sorry.
-/
import Derived.Test.YtbilebfnanlgfaaDoorRows
import GoSem.ClaimSeven
namespace Go.Proofs.YtbilebfnanlgfaaDoor
namespace Rows

/-- THE TIED CARD OF 'campanilelaw.CallSays'. -/
def callSaysCard : Claim7 := { stood := { row := callSaysRow, standIns := [], harness := (true, "ee1ab2d7c9224950a2e69e5c4f5ab6603dbbf3108aa57821f0cf768ce96f265c"), looks := false }, kinds := [], alts := [], laidByText := true, laidKinds := [.data, .data, .data], laidTests := true, laidLooks := .later }
def CallSaysCardSaid : Prop := Claim7.holds Tryd.pinned (.plain (OpenSpec.ofChange callSaysSpec)) callSaysCard

/-- THE TIED CARD OF 'campanilelaw.CallMade'. -/
def callMadeCard : Claim7 := { stood := { row := callMadeRow, standIns := [], harness := (true, "ee1ab2d7c9224950a2e69e5c4f5ab6603dbbf3108aa57821f0cf768ce96f265c"), looks := false }, kinds := [], alts := [], laidByText := true, laidKinds := [.data, .data, .data], laidTests := true, laidLooks := .later }
def CallMadeCardSaid : Prop := Claim7.holds Tryd.pinned (.plain (OpenSpec.ofChange callMadeSpec)) callMadeCard

/-- THE TIED CARD OF 'campaniletop.TopTouch'. -/
def topTouchCard : Claim7 := { stood := { row := topTouchRow, standIns := [], harness := (true, "ee1ab2d7c9224950a2e69e5c4f5ab6603dbbf3108aa57821f0cf768ce96f265c"), looks := false }, kinds := [], alts := [], laidByText := true, laidKinds := [.data, .data, .data], laidTests := true, laidLooks := .later }
def TopTouchCardSaid : Prop := Claim7.holds Tryd.pinned (.plain (OpenSpec.ofChange topTouchSpec)) topTouchCard

/-- THE SECOND FORM's CARD OF 'campanilelaw.CallSays'. -/
def callSaysUptoCard : Claim7 := { stood := { row := callSaysUptoRow, standIns := [], harness := (true, "ee1ab2d7c9224950a2e69e5c4f5ab6603dbbf3108aa57821f0cf768ce96f265c"), looks := false }, kinds := [], alts := [], laidByText := true, laidKinds := [.data, .data, .data], laidTests := true, laidLooks := .later }
def CallSaysUptoCardSaid : Prop := Claim7.holds Tryd.pinned (.plain (OpenSpec.upto callSaysSpec)) callSaysUptoCard

/-- THE SECOND FORM's CARD OF 'campanilelaw.CallMade'. -/
def callMadeUptoCard : Claim7 := { stood := { row := callMadeUptoRow, standIns := [], harness := (true, "ee1ab2d7c9224950a2e69e5c4f5ab6603dbbf3108aa57821f0cf768ce96f265c"), looks := false }, kinds := [], alts := [], laidByText := true, laidKinds := [.data, .data, .data], laidTests := true, laidLooks := .later }
def CallMadeUptoCardSaid : Prop := Claim7.holds Tryd.pinned (.plain (OpenSpec.upto callMadeSpec)) callMadeUptoCard

/-- THE SECOND FORM's CARD OF 'campaniletop.TopTouch'. -/
def topTouchUptoCard : Claim7 := { stood := { row := topTouchUptoRow, standIns := [], harness := (true, "ee1ab2d7c9224950a2e69e5c4f5ab6603dbbf3108aa57821f0cf768ce96f265c"), looks := false }, kinds := [], alts := [], laidByText := true, laidKinds := [.data, .data, .data], laidTests := true, laidLooks := .later }
def TopTouchUptoCardSaid : Prop := Claim7.holds Tryd.pinned (.plain (OpenSpec.upto topTouchSpec)) topTouchUptoCard
end Rows
end Go.Proofs.YtbilebfnanlgfaaDoor
