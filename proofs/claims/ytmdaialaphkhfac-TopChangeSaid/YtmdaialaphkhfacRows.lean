/-
  No cell of these rows narrows 'for every input' (looked for: loops, veiled, ifaces, maps, wideKeys, modest, calm, conditions, laid).
  DERIVED. THE GIVEN ROWS OF THIS SEAT. 4 by the template 'for every input the law returns true; each argument reads behind the call as it read before'; 0 by the template 'total and deterministic' (their statements: YtmdaialaphkhfacTotals.lean).
  GIVEN WITH THE SEED: the statements are not yours to turn. If you find one false, say at which input.
  Laid BY PROGRAM, IN A SANDBOX (cutbox-rows.mjs): the forced cells as the released guide's own fill.sh prints them over the translation 73b267a79dd1b35e… (all of the seat's roots in one cut). By AI agents, Wed Nov 11 2026. No macro, syntax, notation, axiom, sorry.
-/
import Derived.Test.YtmdaialaphkhfacChecked
import GoSem.Claim
import GoSem.ClaimJoined
import GoSem.ClaimMapViews
import Derived.JoinedTies
import Derived.KernelRfl
namespace Go.Proofs.Ytmdaialaphkhfac
/- THE CELL 'sum', in the pinned program and in every row, IS THE sha256 OF THE DUMP (.gsa) THAT YtmdaialaphkhfacProg.lean LOADS. Nothing in Lean hashes anything: it is a label: what it is worth is what the hold of that sum in a sandbox is worth. -/
noncomputable def Try.pinned : Pinned := { name := "ytmdaialaphkhfac", sum := "73b267a79dd1b35e2c91c56e8e91e211be5aab908db120547c06fc5702b02776", checked := Try.checked }
namespace Rows
def none {H : Type} : Left H := { results := [], args := [] }

/-- 'campanilelaw.BandMade': WHATEVER THE INPUT: true; the input reads as it did. -/
def bandMadeSpec : ChangeSpec := { name := "bandMade", fn := fun _ => fun
  | [d1, d2, d3, d4, d5, d6] => { results := [.lit (.bool true)], args := [d1, d2, d3, d4, d5, d6] }
  | _ => none }
def bandMadeRow : OpenClaim := { program := "ytmdaialaphkhfac", sum := "73b267a79dd1b35e2c91c56e8e91e211be5aab908db120547c06fc5702b02776", func := "campanile/campanilelaw.BandMade", spec := "bandMade", inPlace := ["(*sync.WaitGroup).Add", "internal/race.ReleaseMerge", "internal/race.Disable", "internal/race.Enable", "internal/synctest.IsInBubble", "internal/synctest.Associate[sync.WaitGroup]", "sync.fatal", "sync/atomic.OrUint64", "sync/atomic.AddUint64", "internal/race.Read", "sync/atomic.LoadUint64", "sync/atomic.StoreUint64", "internal/synctest.Disassociate[sync.WaitGroup]", "sync.runtime_Semrelease", "(*sync.WaitGroup).Done", "sync/atomic.AddInt64", "(*sync.WaitGroup).Wait", "internal/race.Acquire", "internal/synctest.IsAssociated[sync.WaitGroup]", "sync/atomic.CompareAndSwapUint64", "internal/race.Write", "sync.runtime_SemacquireWaitGroup"], unfollowed := true, recurses := true, leaving := true, apart := false }
def BandMadeSaid : Prop := bandMadeRow.holds Try.pinned (OpenSpec.ofChange bandMadeSpec)

/-- ITS FALSE NEIGHBOUR: 'it returns false'. Refute it at one input. -/
def bandMadeWrong : ChangeSpec := { name := "bandMade", fn := fun _ => fun
  | [d1, d2, d3, d4, d5, d6] => { results := [.lit (.bool false)], args := [d1, d2, d3, d4, d5, d6] }
  | _ => none }
def BandMadeWrongFalsely : Prop := bandMadeRow.holds Try.pinned (OpenSpec.ofChange bandMadeWrong)

/-- 'campaniletop.TopChange': WHATEVER THE INPUT: true; the input reads as it did. -/
def topChangeSpec : ChangeSpec := { name := "topChange", fn := fun _ => fun
  | [d1, d2] => { results := [.lit (.bool true)], args := [d1, d2] }
  | _ => none }
def topChangeRow : OpenClaim := { program := "ytmdaialaphkhfac", sum := "73b267a79dd1b35e2c91c56e8e91e211be5aab908db120547c06fc5702b02776", func := "campanile/campaniletop.TopChange", spec := "topChange", apart := false }
def TopChangeSaid : Prop := topChangeRow.holds Try.pinned (OpenSpec.ofChange topChangeSpec)

/-- ITS FALSE NEIGHBOUR: 'it returns false'. Refute it at one input. -/
def topChangeWrong : ChangeSpec := { name := "topChange", fn := fun _ => fun
  | [d1, d2] => { results := [.lit (.bool false)], args := [d1, d2] }
  | _ => none }
def TopChangeWrongFalsely : Prop := topChangeRow.holds Try.pinned (OpenSpec.ofChange topChangeWrong)

/-- 'campanilelaw.PlaceSays': WHATEVER THE INPUT: true; the input reads as it did. -/
def placeSaysSpec : ChangeSpec := { name := "placeSays", fn := fun _ => fun
  | [d1, d2] => { results := [.lit (.bool true)], args := [d1, d2] }
  | _ => none }
def placeSaysRow : OpenClaim := { program := "ytmdaialaphkhfac", sum := "73b267a79dd1b35e2c91c56e8e91e211be5aab908db120547c06fc5702b02776", func := "campanile/campanilelaw.PlaceSays", spec := "placeSays", inPlace := ["internal/abi.NoEscape", "slices.overlaps[int]", "internal/bytealg.IndexByteString", "internal/bytealg.IndexString"], unfollowed := true, recurses := true, named := ["internal/bytealg.MaxLen"], leaving := true, apart := false }
def PlaceSaysSaid : Prop := placeSaysRow.holds Try.pinned (OpenSpec.ofChange placeSaysSpec)

/-- ITS FALSE NEIGHBOUR: 'it returns false'. Refute it at one input. -/
def placeSaysWrong : ChangeSpec := { name := "placeSays", fn := fun _ => fun
  | [d1, d2] => { results := [.lit (.bool false)], args := [d1, d2] }
  | _ => none }
def PlaceSaysWrongFalsely : Prop := placeSaysRow.holds Try.pinned (OpenSpec.ofChange placeSaysWrong)

/-- 'campanilelaw.GroupNormal': WHATEVER THE INPUT: true; the input reads as it did. -/
def groupNormalSpec : ChangeSpec := { name := "groupNormal", fn := fun _ => fun
  | [d1, d2, d3, d4, d5] => { results := [.lit (.bool true)], args := [d1, d2, d3, d4, d5] }
  | _ => none }
def groupNormalRow : OpenClaim := { program := "ytmdaialaphkhfac", sum := "73b267a79dd1b35e2c91c56e8e91e211be5aab908db120547c06fc5702b02776", func := "campanile/campanilelaw.GroupNormal", spec := "groupNormal", unfollowed := true, recurses := true, leaving := true, apart := false }
def GroupNormalSaid : Prop := groupNormalRow.holds Try.pinned (OpenSpec.ofChange groupNormalSpec)

/-- ITS FALSE NEIGHBOUR: 'it returns false'. Refute it at one input. -/
def groupNormalWrong : ChangeSpec := { name := "groupNormal", fn := fun _ => fun
  | [d1, d2, d3, d4, d5] => { results := [.lit (.bool false)], args := [d1, d2, d3, d4, d5] }
  | _ => none }
def GroupNormalWrongFalsely : Prop := groupNormalRow.holds Try.pinned (OpenSpec.ofChange groupNormalWrong)

/- THE SECOND FORM. 'bulk': how many values and letters a reading holds, each counted each time it is reached (what is shared counts as often as it is met; a slice's spare places count too). A statement '..UptoSaid' is the law's where the arguments, and the package variables that the reading takes, are together of bulk at most 1048576: NARROWER than '..Said'. Prove '..Said' where nothing that the law and all that it calls make is longer than what came in: it says more and counts as full. Else prove '..UptoSaid'. A law counts once. -/
mutual
def uptoBulk {H : Type} : DataW H → Nat
  | .lit (.string bytes) => bytes.length + 1
  | .lit _ => 1
  | .nil => 1
  | .ptr d => uptoBulk d + 1
  | .slice elems spare => uptoBulkAll elems + uptoBulkAll spare + 1
  | .agg parts => uptoBulkAll parts + 1
  | .iface _ d => uptoBulk d + 1
  | .map entries => uptoBulkEntries entries + 1
  | .held _ => 1
def uptoBulkAll {H : Type} : List (DataW H) → Nat
  | [] => 0
  | d :: r => uptoBulk d + uptoBulkAll r
def uptoBulkEntries {H : Type} : List (Lit × DataW H) → Nat
  | [] => 0
  | x :: r => uptoBulkEntry x + uptoBulkEntries r
def uptoBulkEntry {H : Type} : Lit × DataW H → Nat
  | (.string bytes, d) => bytes.length + uptoBulk d + 1
  | (_, d) => uptoBulk d + 1
 end
def uptoSmall : (H : Type) → List (DataW H) → Bool := fun _ ds => decide (uptoBulkAll ds ≤ 1048576)
def OpenSpec.upto (s : _root_.Go.ChangeSpec) : _root_.Go.OpenSpec := { _root_.Go.OpenSpec.ofChange s with cond := some uptoSmall }

/-- 'campanilelaw.BandMade', WHERE WHAT IT READS IS OF BULK AT MOST 1048576: true; the input reads as it did. -/
def bandMadeUptoRow : OpenClaim := { program := "ytmdaialaphkhfac", sum := "73b267a79dd1b35e2c91c56e8e91e211be5aab908db120547c06fc5702b02776", func := "campanile/campanilelaw.BandMade", spec := "bandMade", inPlace := ["(*sync.WaitGroup).Add", "internal/race.ReleaseMerge", "internal/race.Disable", "internal/race.Enable", "internal/synctest.IsInBubble", "internal/synctest.Associate[sync.WaitGroup]", "sync.fatal", "sync/atomic.OrUint64", "sync/atomic.AddUint64", "internal/race.Read", "sync/atomic.LoadUint64", "sync/atomic.StoreUint64", "internal/synctest.Disassociate[sync.WaitGroup]", "sync.runtime_Semrelease", "(*sync.WaitGroup).Done", "sync/atomic.AddInt64", "(*sync.WaitGroup).Wait", "internal/race.Acquire", "internal/synctest.IsAssociated[sync.WaitGroup]", "sync/atomic.CompareAndSwapUint64", "internal/race.Write", "sync.runtime_SemacquireWaitGroup"], unfollowed := true, recurses := true, leaving := true, apart := false, narrowed := true }
def BandMadeUptoSaid : Prop := bandMadeUptoRow.holds Try.pinned (OpenSpec.upto bandMadeSpec)

/-- 'campaniletop.TopChange', WHERE WHAT IT READS IS OF BULK AT MOST 1048576: true; the input reads as it did. -/
def topChangeUptoRow : OpenClaim := { program := "ytmdaialaphkhfac", sum := "73b267a79dd1b35e2c91c56e8e91e211be5aab908db120547c06fc5702b02776", func := "campanile/campaniletop.TopChange", spec := "topChange", apart := false, narrowed := true }
def TopChangeUptoSaid : Prop := topChangeUptoRow.holds Try.pinned (OpenSpec.upto topChangeSpec)

/-- 'campanilelaw.PlaceSays', WHERE WHAT IT READS IS OF BULK AT MOST 1048576: true; the input reads as it did. -/
def placeSaysUptoRow : OpenClaim := { program := "ytmdaialaphkhfac", sum := "73b267a79dd1b35e2c91c56e8e91e211be5aab908db120547c06fc5702b02776", func := "campanile/campanilelaw.PlaceSays", spec := "placeSays", inPlace := ["internal/abi.NoEscape", "slices.overlaps[int]", "internal/bytealg.IndexByteString", "internal/bytealg.IndexString"], unfollowed := true, recurses := true, named := ["internal/bytealg.MaxLen"], leaving := true, apart := false, narrowed := true }
def PlaceSaysUptoSaid : Prop := placeSaysUptoRow.holds Try.pinned (OpenSpec.upto placeSaysSpec)

/-- 'campanilelaw.GroupNormal', WHERE WHAT IT READS IS OF BULK AT MOST 1048576: true; the input reads as it did. -/
def groupNormalUptoRow : OpenClaim := { program := "ytmdaialaphkhfac", sum := "73b267a79dd1b35e2c91c56e8e91e211be5aab908db120547c06fc5702b02776", func := "campanile/campanilelaw.GroupNormal", spec := "groupNormal", unfollowed := true, recurses := true, leaving := true, apart := false, narrowed := true }
def GroupNormalUptoSaid : Prop := groupNormalUptoRow.holds Try.pinned (OpenSpec.upto groupNormalSpec)

end Rows
end Go.Proofs.Ytmdaialaphkhfac
