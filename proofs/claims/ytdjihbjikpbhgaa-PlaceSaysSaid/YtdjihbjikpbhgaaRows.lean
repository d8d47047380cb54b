/-
  No cell of these rows narrows 'for every input' (looked for: loops, veiled, ifaces, maps, wideKeys, modest, calm, conditions, laid).
  DERIVED. THE GIVEN ROWS OF THIS SEAT. 4 by the template 'for every input the law returns true; each argument reads behind the call as it read before'; 0 by the template 'total and deterministic' (their statements: YtdjihbjikpbhgaaTotals.lean).
  GIVEN WITH THE SEED: the statements are not yours to turn. If you find one false, say at which input.
  Laid BY PROGRAM, IN A SANDBOX (cutbox-rows.mjs): the forced cells as the released guide's own fill.sh prints them over the translation 84c6f4de100e99f5… (all of the seat's roots in one cut). By AI agents, Wed Nov 11 2026. No macro, syntax, notation, axiom, sorry.
-/
import Derived.Test.YtdjihbjikpbhgaaChecked
import GoSem.Claim
import GoSem.ClaimJoined
import GoSem.ClaimMapViews
import Derived.JoinedTies
import Derived.KernelRfl
namespace Go.Proofs.Ytdjihbjikpbhgaa
/- THE CELL 'sum', in the pinned program and in every row, IS THE sha256 OF THE DUMP (.gsa) THAT YtdjihbjikpbhgaaProg.lean LOADS. Nothing in Lean hashes anything: it is a label: what it is worth is what the hold of that sum in a sandbox is worth. -/
noncomputable def Try.pinned : Pinned := { name := "ytdjihbjikpbhgaa", sum := "84c6f4de100e99f526cb2e89660068c61ceb7df5823c7660c03bc6d8cab7bb70", checked := Try.checked }
namespace Rows
def none {H : Type} : Left H := { results := [], args := [] }

/-- 'campanilelaw.PlaceParses': WHATEVER THE INPUT: true; the input reads as it did. -/
def placeParsesSpec : ChangeSpec := { name := "placeParses", fn := fun _ => fun
  | [d1, d2] => { results := [.lit (.bool true)], args := [d1, d2] }
  | _ => none }
def placeParsesRow : OpenClaim := { program := "ytdjihbjikpbhgaa", sum := "84c6f4de100e99f526cb2e89660068c61ceb7df5823c7660c03bc6d8cab7bb70", func := "campanile/campanilelaw.PlaceParses", spec := "placeParses", inPlace := ["slices.overlaps[int]", "internal/bytealg.IndexByteString", "internal/bytealg.IndexString"], unfollowed := true, recurses := true, named := ["internal/bytealg.MaxLen"], apart := false }
def PlaceParsesSaid : Prop := placeParsesRow.holds Try.pinned (OpenSpec.ofChange placeParsesSpec)

/-- ITS FALSE NEIGHBOUR: 'it returns false'. Refute it at one input. -/
def placeParsesWrong : ChangeSpec := { name := "placeParses", fn := fun _ => fun
  | [d1, d2] => { results := [.lit (.bool false)], args := [d1, d2] }
  | _ => none }
def PlaceParsesWrongFalsely : Prop := placeParsesRow.holds Try.pinned (OpenSpec.ofChange placeParsesWrong)

/-- 'campanilelaw.PlaceSays': WHATEVER THE INPUT: true; the input reads as it did. -/
def placeSaysSpec : ChangeSpec := { name := "placeSays", fn := fun _ => fun
  | [d1, d2] => { results := [.lit (.bool true)], args := [d1, d2] }
  | _ => none }
def placeSaysRow : OpenClaim := { program := "ytdjihbjikpbhgaa", sum := "84c6f4de100e99f526cb2e89660068c61ceb7df5823c7660c03bc6d8cab7bb70", func := "campanile/campanilelaw.PlaceSays", spec := "placeSays", inPlace := ["internal/abi.NoEscape", "slices.overlaps[int]", "internal/bytealg.IndexByteString", "internal/bytealg.IndexString"], unfollowed := true, recurses := true, named := ["internal/bytealg.MaxLen"], apart := false }
def PlaceSaysSaid : Prop := placeSaysRow.holds Try.pinned (OpenSpec.ofChange placeSaysSpec)

/-- ITS FALSE NEIGHBOUR: 'it returns false'. Refute it at one input. -/
def placeSaysWrong : ChangeSpec := { name := "placeSays", fn := fun _ => fun
  | [d1, d2] => { results := [.lit (.bool false)], args := [d1, d2] }
  | _ => none }
def PlaceSaysWrongFalsely : Prop := placeSaysRow.holds Try.pinned (OpenSpec.ofChange placeSaysWrong)

/-- 'campanilelaw.BookSays': WHATEVER THE INPUT: true; the input reads as it did. -/
def bookSaysSpec : ChangeSpec := { name := "bookSays", fn := fun _ => fun
  | [d1, d2] => { results := [.lit (.bool true)], args := [d1, d2] }
  | _ => none }
def bookSaysRow : OpenClaim := { program := "ytdjihbjikpbhgaa", sum := "84c6f4de100e99f526cb2e89660068c61ceb7df5823c7660c03bc6d8cab7bb70", func := "campanile/campanilelaw.BookSays", spec := "bookSays", inPlace := ["internal/abi.NoEscape"], unfollowed := true, recurses := true, apart := false }
def BookSaysSaid : Prop := bookSaysRow.holds Try.pinned (OpenSpec.ofChange bookSaysSpec)

/-- ITS FALSE NEIGHBOUR: 'it returns false'. Refute it at one input. -/
def bookSaysWrong : ChangeSpec := { name := "bookSays", fn := fun _ => fun
  | [d1, d2] => { results := [.lit (.bool false)], args := [d1, d2] }
  | _ => none }
def BookSaysWrongFalsely : Prop := bookSaysRow.holds Try.pinned (OpenSpec.ofChange bookSaysWrong)

/-- 'campanilelaw.BookMade': WHATEVER THE INPUT: true; the input reads as it did. -/
def bookMadeSpec : ChangeSpec := { name := "bookMade", fn := fun _ => fun
  | [d1, d2] => { results := [.lit (.bool true)], args := [d1, d2] }
  | _ => none }
def bookMadeRow : OpenClaim := { program := "ytdjihbjikpbhgaa", sum := "84c6f4de100e99f526cb2e89660068c61ceb7df5823c7660c03bc6d8cab7bb70", func := "campanile/campanilelaw.BookMade", spec := "bookMade", inPlace := ["internal/abi.NoEscape"], unfollowed := true, recurses := true, apart := false }
def BookMadeSaid : Prop := bookMadeRow.holds Try.pinned (OpenSpec.ofChange bookMadeSpec)

/-- ITS FALSE NEIGHBOUR: 'it returns false'. Refute it at one input. -/
def bookMadeWrong : ChangeSpec := { name := "bookMade", fn := fun _ => fun
  | [d1, d2] => { results := [.lit (.bool false)], args := [d1, d2] }
  | _ => none }
def BookMadeWrongFalsely : Prop := bookMadeRow.holds Try.pinned (OpenSpec.ofChange bookMadeWrong)

/- THE SECOND FORM. 'bulk': how many values and letters a reading holds, each counted each time it is reached (what is shared counts as often as it is met; a slice's spare places count too). A statement '..UptoSaid' is the law's where the arguments, and the package variables that the reading takes, are together of bulk at most 1048576: NARROWER than '..Said'. Prove '..Said' where nothing that the law and all that it calls make is longer than what came in: it says more and counts as full. Else prove '..UptoSaid'. A law counts once. -/
mutual
def uptoBulk {H : Type} : DataW H → Nat
  | .lit (.string bytes) => bytes.length + 1
  | .lit _ => 1
  | .nil => 1
  | .ptr d => uptoBulk d + 1
  | .slice elems spare => uptoBulkAll elems + uptoBulkAll spare + 1
  | .agg parts => uptoBulkAll parts + 1
  | .iface _ d => uptoBulk d + 1
  | .map entries => uptoBulkEntries entries + 1
  | .held _ => 1
def uptoBulkAll {H : Type} : List (DataW H) → Nat
  | [] => 0
  | d :: r => uptoBulk d + uptoBulkAll r
def uptoBulkEntries {H : Type} : List (Lit × DataW H) → Nat
  | [] => 0
  | x :: r => uptoBulkEntry x + uptoBulkEntries r
def uptoBulkEntry {H : Type} : Lit × DataW H → Nat
  | (.string bytes, d) => bytes.length + uptoBulk d + 1
  | (_, d) => uptoBulk d + 1
 end
def uptoSmall : (H : Type) → List (DataW H) → Bool := fun _ ds => decide (uptoBulkAll ds ≤ 1048576)
def OpenSpec.upto (s : _root_.Go.ChangeSpec) : _root_.Go.OpenSpec := { _root_.Go.OpenSpec.ofChange s with cond := some uptoSmall }

/-- 'campanilelaw.PlaceParses', WHERE WHAT IT READS IS OF BULK AT MOST 1048576: true; the input reads as it did. -/
def placeParsesUptoRow : OpenClaim := { program := "ytdjihbjikpbhgaa", sum := "84c6f4de100e99f526cb2e89660068c61ceb7df5823c7660c03bc6d8cab7bb70", func := "campanile/campanilelaw.PlaceParses", spec := "placeParses", inPlace := ["slices.overlaps[int]", "internal/bytealg.IndexByteString", "internal/bytealg.IndexString"], unfollowed := true, recurses := true, named := ["internal/bytealg.MaxLen"], apart := false, narrowed := true }
def PlaceParsesUptoSaid : Prop := placeParsesUptoRow.holds Try.pinned (OpenSpec.upto placeParsesSpec)

/-- 'campanilelaw.PlaceSays', WHERE WHAT IT READS IS OF BULK AT MOST 1048576: true; the input reads as it did. -/
def placeSaysUptoRow : OpenClaim := { program := "ytdjihbjikpbhgaa", sum := "84c6f4de100e99f526cb2e89660068c61ceb7df5823c7660c03bc6d8cab7bb70", func := "campanile/campanilelaw.PlaceSays", spec := "placeSays", inPlace := ["internal/abi.NoEscape", "slices.overlaps[int]", "internal/bytealg.IndexByteString", "internal/bytealg.IndexString"], unfollowed := true, recurses := true, named := ["internal/bytealg.MaxLen"], apart := false, narrowed := true }
def PlaceSaysUptoSaid : Prop := placeSaysUptoRow.holds Try.pinned (OpenSpec.upto placeSaysSpec)

/-- 'campanilelaw.BookSays', WHERE WHAT IT READS IS OF BULK AT MOST 1048576: true; the input reads as it did. -/
def bookSaysUptoRow : OpenClaim := { program := "ytdjihbjikpbhgaa", sum := "84c6f4de100e99f526cb2e89660068c61ceb7df5823c7660c03bc6d8cab7bb70", func := "campanile/campanilelaw.BookSays", spec := "bookSays", inPlace := ["internal/abi.NoEscape"], unfollowed := true, recurses := true, apart := false, narrowed := true }
def BookSaysUptoSaid : Prop := bookSaysUptoRow.holds Try.pinned (OpenSpec.upto bookSaysSpec)

/-- 'campanilelaw.BookMade', WHERE WHAT IT READS IS OF BULK AT MOST 1048576: true; the input reads as it did. -/
def bookMadeUptoRow : OpenClaim := { program := "ytdjihbjikpbhgaa", sum := "84c6f4de100e99f526cb2e89660068c61ceb7df5823c7660c03bc6d8cab7bb70", func := "campanile/campanilelaw.BookMade", spec := "bookMade", inPlace := ["internal/abi.NoEscape"], unfollowed := true, recurses := true, apart := false, narrowed := true }
def BookMadeUptoSaid : Prop := bookMadeUptoRow.holds Try.pinned (OpenSpec.upto bookMadeSpec)

end Rows
end Go.Proofs.Ytdjihbjikpbhgaa
