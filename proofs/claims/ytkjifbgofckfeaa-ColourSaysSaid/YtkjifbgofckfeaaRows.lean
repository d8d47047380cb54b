/-
  No cell of these rows narrows 'for every input' (looked for: loops, veiled, ifaces, maps, wideKeys, modest, calm, conditions, laid).
  DERIVED. THE GIVEN ROWS OF THIS SEAT. 12 by the template 'for every input the law returns true; each argument reads behind the call as it read before'; 0 by the template 'total and deterministic' (their statements: YtkjifbgofckfeaaTotals.lean).
  GIVEN WITH THE SEED: the statements are not yours to turn. If you find one false, say at which input.
  Laid BY PROGRAM, IN A SANDBOX (cutbox-rows.mjs): the forced cells as the released guide's own fill.sh prints them over the translation a196e34ddf9d222f… (all of the seat's roots in one cut). By AI agents, Wed Nov 11 2026. No macro, syntax, notation, axiom, sorry.
-/
import Derived.Test.YtkjifbgofckfeaaChecked
import GoSem.Claim
import GoSem.ClaimJoined
import GoSem.ClaimMapViews
import Derived.JoinedTies
import Derived.KernelRfl
namespace Go.Proofs.Ytkjifbgofckfeaa
/- THE CELL 'sum', in the pinned program and in every row, IS THE sha256 OF THE DUMP (.gsa) THAT YtkjifbgofckfeaaProg.lean LOADS. Nothing in Lean hashes anything: it is a label: what it is worth is what the hold of that sum in a sandbox is worth. -/
noncomputable def Try.pinned : Pinned := { name := "ytkjifbgofckfeaa", sum := "a196e34ddf9d222fb270316c857fc9695222e35537e1432aca329597d4a3d2d7", checked := Try.checked }
namespace Rows
def none {H : Type} : Left H := { results := [], args := [] }

/-- 'campanilelaw.GroupNormal': WHATEVER THE INPUT: true; the input reads as it did. -/
def groupNormalSpec : ChangeSpec := { name := "groupNormal", fn := fun _ => fun
  | [d1, d2, d3, d4, d5] => { results := [.lit (.bool true)], args := [d1, d2, d3, d4, d5] }
  | _ => none }
def groupNormalRow : OpenClaim := { program := "ytkjifbgofckfeaa", sum := "a196e34ddf9d222fb270316c857fc9695222e35537e1432aca329597d4a3d2d7", func := "campanile/campanilelaw.GroupNormal", spec := "groupNormal", unfollowed := true, recurses := true, apart := false }
def GroupNormalSaid : Prop := groupNormalRow.holds Try.pinned (OpenSpec.ofChange groupNormalSpec)

/-- ITS FALSE NEIGHBOUR: 'it returns false'. Refute it at one input. -/
def groupNormalWrong : ChangeSpec := { name := "groupNormal", fn := fun _ => fun
  | [d1, d2, d3, d4, d5] => { results := [.lit (.bool false)], args := [d1, d2, d3, d4, d5] }
  | _ => none }
def GroupNormalWrongFalsely : Prop := groupNormalRow.holds Try.pinned (OpenSpec.ofChange groupNormalWrong)

/-- 'campanilelaw.ExtentSays': WHATEVER THE INPUT: true; the input reads as it did. -/
def extentSaysSpec : ChangeSpec := { name := "extentSays", fn := fun _ => fun
  | [d1, d2, d3] => { results := [.lit (.bool true)], args := [d1, d2, d3] }
  | _ => none }
def extentSaysRow : OpenClaim := { program := "ytkjifbgofckfeaa", sum := "a196e34ddf9d222fb270316c857fc9695222e35537e1432aca329597d4a3d2d7", func := "campanile/campanilelaw.ExtentSays", spec := "extentSays", unfollowed := true, recurses := true, apart := false }
def ExtentSaysSaid : Prop := extentSaysRow.holds Try.pinned (OpenSpec.ofChange extentSaysSpec)

/-- ITS FALSE NEIGHBOUR: 'it returns false'. Refute it at one input. -/
def extentSaysWrong : ChangeSpec := { name := "extentSays", fn := fun _ => fun
  | [d1, d2, d3] => { results := [.lit (.bool false)], args := [d1, d2, d3] }
  | _ => none }
def ExtentSaysWrongFalsely : Prop := extentSaysRow.holds Try.pinned (OpenSpec.ofChange extentSaysWrong)

/-- 'campanilelaw.ExtentMade': WHATEVER THE INPUT: true; the input reads as it did. -/
def extentMadeSpec : ChangeSpec := { name := "extentMade", fn := fun _ => fun
  | [d1, d2, d3, d4] => { results := [.lit (.bool true)], args := [d1, d2, d3, d4] }
  | _ => none }
def extentMadeRow : OpenClaim := { program := "ytkjifbgofckfeaa", sum := "a196e34ddf9d222fb270316c857fc9695222e35537e1432aca329597d4a3d2d7", func := "campanile/campanilelaw.ExtentMade", spec := "extentMade", unfollowed := true, recurses := true, apart := false }
def ExtentMadeSaid : Prop := extentMadeRow.holds Try.pinned (OpenSpec.ofChange extentMadeSpec)

/-- ITS FALSE NEIGHBOUR: 'it returns false'. Refute it at one input. -/
def extentMadeWrong : ChangeSpec := { name := "extentMade", fn := fun _ => fun
  | [d1, d2, d3, d4] => { results := [.lit (.bool false)], args := [d1, d2, d3, d4] }
  | _ => none }
def ExtentMadeWrongFalsely : Prop := extentMadeRow.holds Try.pinned (OpenSpec.ofChange extentMadeWrong)

/-- 'campanilelaw.CosetSays': WHATEVER THE INPUT: true; the input reads as it did. -/
def cosetSaysSpec : ChangeSpec := { name := "cosetSays", fn := fun _ => fun
  | [d1, d2, d3, d4] => { results := [.lit (.bool true)], args := [d1, d2, d3, d4] }
  | _ => none }
def cosetSaysRow : OpenClaim := { program := "ytkjifbgofckfeaa", sum := "a196e34ddf9d222fb270316c857fc9695222e35537e1432aca329597d4a3d2d7", func := "campanile/campanilelaw.CosetSays", spec := "cosetSays", unfollowed := true, recurses := true, apart := false }
def CosetSaysSaid : Prop := cosetSaysRow.holds Try.pinned (OpenSpec.ofChange cosetSaysSpec)

/-- ITS FALSE NEIGHBOUR: 'it returns false'. Refute it at one input. -/
def cosetSaysWrong : ChangeSpec := { name := "cosetSays", fn := fun _ => fun
  | [d1, d2, d3, d4] => { results := [.lit (.bool false)], args := [d1, d2, d3, d4] }
  | _ => none }
def CosetSaysWrongFalsely : Prop := cosetSaysRow.holds Try.pinned (OpenSpec.ofChange cosetSaysWrong)

/-- 'campanilelaw.CosetMade': WHATEVER THE INPUT: true; the input reads as it did. -/
def cosetMadeSpec : ChangeSpec := { name := "cosetMade", fn := fun _ => fun
  | [d1, d2, d3, d4, d5, d6] => { results := [.lit (.bool true)], args := [d1, d2, d3, d4, d5, d6] }
  | _ => none }
def cosetMadeRow : OpenClaim := { program := "ytkjifbgofckfeaa", sum := "a196e34ddf9d222fb270316c857fc9695222e35537e1432aca329597d4a3d2d7", func := "campanile/campanilelaw.CosetMade", spec := "cosetMade", unfollowed := true, recurses := true, apart := false }
def CosetMadeSaid : Prop := cosetMadeRow.holds Try.pinned (OpenSpec.ofChange cosetMadeSpec)

/-- ITS FALSE NEIGHBOUR: 'it returns false'. Refute it at one input. -/
def cosetMadeWrong : ChangeSpec := { name := "cosetMade", fn := fun _ => fun
  | [d1, d2, d3, d4, d5, d6] => { results := [.lit (.bool false)], args := [d1, d2, d3, d4, d5, d6] }
  | _ => none }
def CosetMadeWrongFalsely : Prop := cosetMadeRow.holds Try.pinned (OpenSpec.ofChange cosetMadeWrong)

/-- 'campanilelaw.GroupSays': WHATEVER THE INPUT: true; the input reads as it did. -/
def groupSaysSpec : ChangeSpec := { name := "groupSays", fn := fun _ => fun
  | [d1, d2, d3, d4, d5] => { results := [.lit (.bool true)], args := [d1, d2, d3, d4, d5] }
  | _ => none }
def groupSaysRow : OpenClaim := { program := "ytkjifbgofckfeaa", sum := "a196e34ddf9d222fb270316c857fc9695222e35537e1432aca329597d4a3d2d7", func := "campanile/campanilelaw.GroupSays", spec := "groupSays", unfollowed := true, recurses := true, apart := false }
def GroupSaysSaid : Prop := groupSaysRow.holds Try.pinned (OpenSpec.ofChange groupSaysSpec)

/-- ITS FALSE NEIGHBOUR: 'it returns false'. Refute it at one input. -/
def groupSaysWrong : ChangeSpec := { name := "groupSays", fn := fun _ => fun
  | [d1, d2, d3, d4, d5] => { results := [.lit (.bool false)], args := [d1, d2, d3, d4, d5] }
  | _ => none }
def GroupSaysWrongFalsely : Prop := groupSaysRow.holds Try.pinned (OpenSpec.ofChange groupSaysWrong)

/-- 'campanilelaw.GroupMade': WHATEVER THE INPUT: true; the input reads as it did. -/
def groupMadeSpec : ChangeSpec := { name := "groupMade", fn := fun _ => fun
  | [d1, d2, d3, d4] => { results := [.lit (.bool true)], args := [d1, d2, d3, d4] }
  | _ => none }
def groupMadeRow : OpenClaim := { program := "ytkjifbgofckfeaa", sum := "a196e34ddf9d222fb270316c857fc9695222e35537e1432aca329597d4a3d2d7", func := "campanile/campanilelaw.GroupMade", spec := "groupMade", unfollowed := true, recurses := true, apart := false }
def GroupMadeSaid : Prop := groupMadeRow.holds Try.pinned (OpenSpec.ofChange groupMadeSpec)

/-- ITS FALSE NEIGHBOUR: 'it returns false'. Refute it at one input. -/
def groupMadeWrong : ChangeSpec := { name := "groupMade", fn := fun _ => fun
  | [d1, d2, d3, d4] => { results := [.lit (.bool false)], args := [d1, d2, d3, d4] }
  | _ => none }
def GroupMadeWrongFalsely : Prop := groupMadeRow.holds Try.pinned (OpenSpec.ofChange groupMadeWrong)

/-- 'campanilelaw.ColourSays': WHATEVER THE INPUT: true; the input reads as it did. -/
def colourSaysSpec : ChangeSpec := { name := "colourSays", fn := fun _ => fun
  | [d1, d2, d3, d4] => { results := [.lit (.bool true)], args := [d1, d2, d3, d4] }
  | _ => none }
def colourSaysRow : OpenClaim := { program := "ytkjifbgofckfeaa", sum := "a196e34ddf9d222fb270316c857fc9695222e35537e1432aca329597d4a3d2d7", func := "campanile/campanilelaw.ColourSays", spec := "colourSays", inPlace := ["slices.overlaps[campanile/api.Kind]"], unfollowed := true, recurses := true, apart := false }
def ColourSaysSaid : Prop := colourSaysRow.holds Try.pinned (OpenSpec.ofChange colourSaysSpec)

/-- ITS FALSE NEIGHBOUR: 'it returns false'. Refute it at one input. -/
def colourSaysWrong : ChangeSpec := { name := "colourSays", fn := fun _ => fun
  | [d1, d2, d3, d4] => { results := [.lit (.bool false)], args := [d1, d2, d3, d4] }
  | _ => none }
def ColourSaysWrongFalsely : Prop := colourSaysRow.holds Try.pinned (OpenSpec.ofChange colourSaysWrong)

/-- 'campaniletop.TopRankin': WHATEVER THE INPUT: true; the input reads as it did. -/
def topRankinSpec : ChangeSpec := { name := "topRankin", fn := fun _ => fun
  | [d1, d2, d3, d4] => { results := [.lit (.bool true)], args := [d1, d2, d3, d4] }
  | _ => none }
def topRankinRow : OpenClaim := { program := "ytkjifbgofckfeaa", sum := "a196e34ddf9d222fb270316c857fc9695222e35537e1432aca329597d4a3d2d7", func := "campanile/campaniletop.TopRankin", spec := "topRankin", unfollowed := true, recurses := true, apart := false }
def TopRankinSaid : Prop := topRankinRow.holds Try.pinned (OpenSpec.ofChange topRankinSpec)

/-- ITS FALSE NEIGHBOUR: 'it returns false'. Refute it at one input. -/
def topRankinWrong : ChangeSpec := { name := "topRankin", fn := fun _ => fun
  | [d1, d2, d3, d4] => { results := [.lit (.bool false)], args := [d1, d2, d3, d4] }
  | _ => none }
def TopRankinWrongFalsely : Prop := topRankinRow.holds Try.pinned (OpenSpec.ofChange topRankinWrong)

/-- 'campaniletop.TopCoset': WHATEVER THE INPUT: true; the input reads as it did. -/
def topCosetSpec : ChangeSpec := { name := "topCoset", fn := fun _ => fun
  | [d1, d2, d3, d4] => { results := [.lit (.bool true)], args := [d1, d2, d3, d4] }
  | _ => none }
def topCosetRow : OpenClaim := { program := "ytkjifbgofckfeaa", sum := "a196e34ddf9d222fb270316c857fc9695222e35537e1432aca329597d4a3d2d7", func := "campanile/campaniletop.TopCoset", spec := "topCoset", unfollowed := true, recurses := true, apart := false }
def TopCosetSaid : Prop := topCosetRow.holds Try.pinned (OpenSpec.ofChange topCosetSpec)

/-- ITS FALSE NEIGHBOUR: 'it returns false'. Refute it at one input. -/
def topCosetWrong : ChangeSpec := { name := "topCoset", fn := fun _ => fun
  | [d1, d2, d3, d4] => { results := [.lit (.bool false)], args := [d1, d2, d3, d4] }
  | _ => none }
def TopCosetWrongFalsely : Prop := topCosetRow.holds Try.pinned (OpenSpec.ofChange topCosetWrong)

/-- 'campaniletop.TopGroup': WHATEVER THE INPUT: true; the input reads as it did. -/
def topGroupSpec : ChangeSpec := { name := "topGroup", fn := fun _ => fun
  | [d1, d2, d3, d4, d5, d6] => { results := [.lit (.bool true)], args := [d1, d2, d3, d4, d5, d6] }
  | _ => none }
def topGroupRow : OpenClaim := { program := "ytkjifbgofckfeaa", sum := "a196e34ddf9d222fb270316c857fc9695222e35537e1432aca329597d4a3d2d7", func := "campanile/campaniletop.TopGroup", spec := "topGroup", unfollowed := true, recurses := true, apart := false }
def TopGroupSaid : Prop := topGroupRow.holds Try.pinned (OpenSpec.ofChange topGroupSpec)

/-- ITS FALSE NEIGHBOUR: 'it returns false'. Refute it at one input. -/
def topGroupWrong : ChangeSpec := { name := "topGroup", fn := fun _ => fun
  | [d1, d2, d3, d4, d5, d6] => { results := [.lit (.bool false)], args := [d1, d2, d3, d4, d5, d6] }
  | _ => none }
def TopGroupWrongFalsely : Prop := topGroupRow.holds Try.pinned (OpenSpec.ofChange topGroupWrong)

/-- 'campaniletop.TopBurnside': WHATEVER THE INPUT: true; the input reads as it did. -/
def topBurnsideSpec : ChangeSpec := { name := "topBurnside", fn := fun _ => fun
  | [d1, d2, d3] => { results := [.lit (.bool true)], args := [d1, d2, d3] }
  | _ => none }
def topBurnsideRow : OpenClaim := { program := "ytkjifbgofckfeaa", sum := "a196e34ddf9d222fb270316c857fc9695222e35537e1432aca329597d4a3d2d7", func := "campanile/campaniletop.TopBurnside", spec := "topBurnside", inPlace := ["slices.overlaps[campanile/api.Kind]"], unfollowed := true, recurses := true, apart := false }
def TopBurnsideSaid : Prop := topBurnsideRow.holds Try.pinned (OpenSpec.ofChange topBurnsideSpec)

/-- ITS FALSE NEIGHBOUR: 'it returns false'. Refute it at one input. -/
def topBurnsideWrong : ChangeSpec := { name := "topBurnside", fn := fun _ => fun
  | [d1, d2, d3] => { results := [.lit (.bool false)], args := [d1, d2, d3] }
  | _ => none }
def TopBurnsideWrongFalsely : Prop := topBurnsideRow.holds Try.pinned (OpenSpec.ofChange topBurnsideWrong)

/- THE SECOND FORM. 'bulk': how many values and letters a reading holds, each counted each time it is reached (what is shared counts as often as it is met; a slice's spare places count too). A statement '..UptoSaid' is the law's where the arguments, and the package variables that the reading takes, are together of bulk at most 1048576: NARROWER than '..Said'. Prove '..Said' where nothing that the law and all that it calls make is longer than what came in: it says more and counts as full. Else prove '..UptoSaid'. A law counts once. -/
mutual
def uptoBulk {H : Type} : DataW H → Nat
  | .lit (.string bytes) => bytes.length + 1
  | .lit _ => 1
  | .nil => 1
  | .ptr d => uptoBulk d + 1
  | .slice elems spare => uptoBulkAll elems + uptoBulkAll spare + 1
  | .agg parts => uptoBulkAll parts + 1
  | .iface _ d => uptoBulk d + 1
  | .map entries => uptoBulkEntries entries + 1
  | .held _ => 1
def uptoBulkAll {H : Type} : List (DataW H) → Nat
  | [] => 0
  | d :: r => uptoBulk d + uptoBulkAll r
def uptoBulkEntries {H : Type} : List (Lit × DataW H) → Nat
  | [] => 0
  | x :: r => uptoBulkEntry x + uptoBulkEntries r
def uptoBulkEntry {H : Type} : Lit × DataW H → Nat
  | (.string bytes, d) => bytes.length + uptoBulk d + 1
  | (_, d) => uptoBulk d + 1
 end
def uptoSmall : (H : Type) → List (DataW H) → Bool := fun _ ds => decide (uptoBulkAll ds ≤ 1048576)
def OpenSpec.upto (s : _root_.Go.ChangeSpec) : _root_.Go.OpenSpec := { _root_.Go.OpenSpec.ofChange s with cond := some uptoSmall }

/-- 'campanilelaw.GroupNormal', WHERE WHAT IT READS IS OF BULK AT MOST 1048576: true; the input reads as it did. -/
def groupNormalUptoRow : OpenClaim := { program := "ytkjifbgofckfeaa", sum := "a196e34ddf9d222fb270316c857fc9695222e35537e1432aca329597d4a3d2d7", func := "campanile/campanilelaw.GroupNormal", spec := "groupNormal", unfollowed := true, recurses := true, apart := false, narrowed := true }
def GroupNormalUptoSaid : Prop := groupNormalUptoRow.holds Try.pinned (OpenSpec.upto groupNormalSpec)

/-- 'campanilelaw.ExtentSays', WHERE WHAT IT READS IS OF BULK AT MOST 1048576: true; the input reads as it did. -/
def extentSaysUptoRow : OpenClaim := { program := "ytkjifbgofckfeaa", sum := "a196e34ddf9d222fb270316c857fc9695222e35537e1432aca329597d4a3d2d7", func := "campanile/campanilelaw.ExtentSays", spec := "extentSays", unfollowed := true, recurses := true, apart := false, narrowed := true }
def ExtentSaysUptoSaid : Prop := extentSaysUptoRow.holds Try.pinned (OpenSpec.upto extentSaysSpec)

/-- 'campanilelaw.ExtentMade', WHERE WHAT IT READS IS OF BULK AT MOST 1048576: true; the input reads as it did. -/
def extentMadeUptoRow : OpenClaim := { program := "ytkjifbgofckfeaa", sum := "a196e34ddf9d222fb270316c857fc9695222e35537e1432aca329597d4a3d2d7", func := "campanile/campanilelaw.ExtentMade", spec := "extentMade", unfollowed := true, recurses := true, apart := false, narrowed := true }
def ExtentMadeUptoSaid : Prop := extentMadeUptoRow.holds Try.pinned (OpenSpec.upto extentMadeSpec)

/-- 'campanilelaw.CosetSays', WHERE WHAT IT READS IS OF BULK AT MOST 1048576: true; the input reads as it did. -/
def cosetSaysUptoRow : OpenClaim := { program := "ytkjifbgofckfeaa", sum := "a196e34ddf9d222fb270316c857fc9695222e35537e1432aca329597d4a3d2d7", func := "campanile/campanilelaw.CosetSays", spec := "cosetSays", unfollowed := true, recurses := true, apart := false, narrowed := true }
def CosetSaysUptoSaid : Prop := cosetSaysUptoRow.holds Try.pinned (OpenSpec.upto cosetSaysSpec)

/-- 'campanilelaw.CosetMade', WHERE WHAT IT READS IS OF BULK AT MOST 1048576: true; the input reads as it did. -/
def cosetMadeUptoRow : OpenClaim := { program := "ytkjifbgofckfeaa", sum := "a196e34ddf9d222fb270316c857fc9695222e35537e1432aca329597d4a3d2d7", func := "campanile/campanilelaw.CosetMade", spec := "cosetMade", unfollowed := true, recurses := true, apart := false, narrowed := true }
def CosetMadeUptoSaid : Prop := cosetMadeUptoRow.holds Try.pinned (OpenSpec.upto cosetMadeSpec)

/-- 'campanilelaw.GroupSays', WHERE WHAT IT READS IS OF BULK AT MOST 1048576: true; the input reads as it did. -/
def groupSaysUptoRow : OpenClaim := { program := "ytkjifbgofckfeaa", sum := "a196e34ddf9d222fb270316c857fc9695222e35537e1432aca329597d4a3d2d7", func := "campanile/campanilelaw.GroupSays", spec := "groupSays", unfollowed := true, recurses := true, apart := false, narrowed := true }
def GroupSaysUptoSaid : Prop := groupSaysUptoRow.holds Try.pinned (OpenSpec.upto groupSaysSpec)

/-- 'campanilelaw.GroupMade', WHERE WHAT IT READS IS OF BULK AT MOST 1048576: true; the input reads as it did. -/
def groupMadeUptoRow : OpenClaim := { program := "ytkjifbgofckfeaa", sum := "a196e34ddf9d222fb270316c857fc9695222e35537e1432aca329597d4a3d2d7", func := "campanile/campanilelaw.GroupMade", spec := "groupMade", unfollowed := true, recurses := true, apart := false, narrowed := true }
def GroupMadeUptoSaid : Prop := groupMadeUptoRow.holds Try.pinned (OpenSpec.upto groupMadeSpec)

/-- 'campanilelaw.ColourSays', WHERE WHAT IT READS IS OF BULK AT MOST 1048576: true; the input reads as it did. -/
def colourSaysUptoRow : OpenClaim := { program := "ytkjifbgofckfeaa", sum := "a196e34ddf9d222fb270316c857fc9695222e35537e1432aca329597d4a3d2d7", func := "campanile/campanilelaw.ColourSays", spec := "colourSays", inPlace := ["slices.overlaps[campanile/api.Kind]"], unfollowed := true, recurses := true, apart := false, narrowed := true }
def ColourSaysUptoSaid : Prop := colourSaysUptoRow.holds Try.pinned (OpenSpec.upto colourSaysSpec)

/-- 'campaniletop.TopRankin', WHERE WHAT IT READS IS OF BULK AT MOST 1048576: true; the input reads as it did. -/
def topRankinUptoRow : OpenClaim := { program := "ytkjifbgofckfeaa", sum := "a196e34ddf9d222fb270316c857fc9695222e35537e1432aca329597d4a3d2d7", func := "campanile/campaniletop.TopRankin", spec := "topRankin", unfollowed := true, recurses := true, apart := false, narrowed := true }
def TopRankinUptoSaid : Prop := topRankinUptoRow.holds Try.pinned (OpenSpec.upto topRankinSpec)

/-- 'campaniletop.TopCoset', WHERE WHAT IT READS IS OF BULK AT MOST 1048576: true; the input reads as it did. -/
def topCosetUptoRow : OpenClaim := { program := "ytkjifbgofckfeaa", sum := "a196e34ddf9d222fb270316c857fc9695222e35537e1432aca329597d4a3d2d7", func := "campanile/campaniletop.TopCoset", spec := "topCoset", unfollowed := true, recurses := true, apart := false, narrowed := true }
def TopCosetUptoSaid : Prop := topCosetUptoRow.holds Try.pinned (OpenSpec.upto topCosetSpec)

/-- 'campaniletop.TopGroup', WHERE WHAT IT READS IS OF BULK AT MOST 1048576: true; the input reads as it did. -/
def topGroupUptoRow : OpenClaim := { program := "ytkjifbgofckfeaa", sum := "a196e34ddf9d222fb270316c857fc9695222e35537e1432aca329597d4a3d2d7", func := "campanile/campaniletop.TopGroup", spec := "topGroup", unfollowed := true, recurses := true, apart := false, narrowed := true }
def TopGroupUptoSaid : Prop := topGroupUptoRow.holds Try.pinned (OpenSpec.upto topGroupSpec)

/-- 'campaniletop.TopBurnside', WHERE WHAT IT READS IS OF BULK AT MOST 1048576: true; the input reads as it did. -/
def topBurnsideUptoRow : OpenClaim := { program := "ytkjifbgofckfeaa", sum := "a196e34ddf9d222fb270316c857fc9695222e35537e1432aca329597d4a3d2d7", func := "campanile/campaniletop.TopBurnside", spec := "topBurnside", inPlace := ["slices.overlaps[campanile/api.Kind]"], unfollowed := true, recurses := true, apart := false, narrowed := true }
def TopBurnsideUptoSaid : Prop := topBurnsideUptoRow.holds Try.pinned (OpenSpec.upto topBurnsideSpec)

end Rows
end Go.Proofs.Ytkjifbgofckfeaa
