/-
  No cell of these rows narrows 'for every input' (looked for: loops, veiled, ifaces, maps, wideKeys, modest, calm, conditions, laid).
  DERIVED. THE GIVEN ROWS OF THIS SEAT. 5 by the template 'for every input the law returns true; each argument reads behind the call as it read before'; 0 by the template 'total and deterministic' (their statements: YtmdaialaphkhfagTotals.lean).
  GIVEN WITH THE SEED: the statements are not yours to turn. If you find one false, say at which input.
  Laid BY PROGRAM, IN A SANDBOX (cutbox-rows.mjs): the forced cells as the released guide's own fill.sh prints them over the translation 0227947fb2ef6959… (all of the seat's roots in one cut). By AI agents, Wed Nov 11 2026. No macro, syntax, notation, axiom, sorry.
-/
import Derived.Test.YtmdaialaphkhfagChecked
import GoSem.Claim
import GoSem.ClaimJoined
import GoSem.ClaimMapViews
import Derived.JoinedTies
import Derived.KernelRfl
namespace Go.Proofs.Ytmdaialaphkhfag
/- THE CELL 'sum', in the pinned program and in every row, IS THE sha256 OF THE DUMP (.gsa) THAT YtmdaialaphkhfagProg.lean LOADS. Nothing in Lean hashes anything: it is a label: what it is worth is what the hold of that sum in a sandbox is worth. -/
noncomputable def Try.pinned : Pinned := { name := "ytmdaialaphkhfag", sum := "0227947fb2ef695987ab3ec4395ae2e1979d039002b054a6e37c87bbc3e0c05f", checked := Try.checked }
namespace Rows
def none {H : Type} : Left H := { results := [], args := [] }

/-- 'campaniletop.TopHalf': WHATEVER THE INPUT: true; the input reads as it did. -/
def topHalfSpec : ChangeSpec := { name := "topHalf", fn := fun _ => fun
  | [d1, d2, d3, d4] => { results := [.lit (.bool true)], args := [d1, d2, d3, d4] }
  | _ => none }
def topHalfRow : OpenClaim := { program := "ytmdaialaphkhfag", sum := "0227947fb2ef695987ab3ec4395ae2e1979d039002b054a6e37c87bbc3e0c05f", func := "campanile/campaniletop.TopHalf", spec := "topHalf", apart := false }
def TopHalfSaid : Prop := topHalfRow.holds Try.pinned (OpenSpec.ofChange topHalfSpec)

/-- ITS FALSE NEIGHBOUR: 'it returns false'. Refute it at one input. -/
def topHalfWrong : ChangeSpec := { name := "topHalf", fn := fun _ => fun
  | [d1, d2, d3, d4] => { results := [.lit (.bool false)], args := [d1, d2, d3, d4] }
  | _ => none }
def TopHalfWrongFalsely : Prop := topHalfRow.holds Try.pinned (OpenSpec.ofChange topHalfWrong)

/-- 'campaniletop.TopMirror': WHATEVER THE INPUT: true; the input reads as it did. -/
def topMirrorSpec : ChangeSpec := { name := "topMirror", fn := fun _ => fun
  | [d1, d2, d3, d4] => { results := [.lit (.bool true)], args := [d1, d2, d3, d4] }
  | _ => none }
def topMirrorRow : OpenClaim := { program := "ytmdaialaphkhfag", sum := "0227947fb2ef695987ab3ec4395ae2e1979d039002b054a6e37c87bbc3e0c05f", func := "campanile/campaniletop.TopMirror", spec := "topMirror", apart := false }
def TopMirrorSaid : Prop := topMirrorRow.holds Try.pinned (OpenSpec.ofChange topMirrorSpec)

/-- ITS FALSE NEIGHBOUR: 'it returns false'. Refute it at one input. -/
def topMirrorWrong : ChangeSpec := { name := "topMirror", fn := fun _ => fun
  | [d1, d2, d3, d4] => { results := [.lit (.bool false)], args := [d1, d2, d3, d4] }
  | _ => none }
def TopMirrorWrongFalsely : Prop := topMirrorRow.holds Try.pinned (OpenSpec.ofChange topMirrorWrong)

/-- 'campaniletop.TopCourse': WHATEVER THE INPUT: true; the input reads as it did. -/
def topCourseSpec : ChangeSpec := { name := "topCourse", fn := fun _ => fun
  | [d1, d2, d3, d4] => { results := [.lit (.bool true)], args := [d1, d2, d3, d4] }
  | _ => none }
def topCourseRow : OpenClaim := { program := "ytmdaialaphkhfag", sum := "0227947fb2ef695987ab3ec4395ae2e1979d039002b054a6e37c87bbc3e0c05f", func := "campanile/campaniletop.TopCourse", spec := "topCourse", apart := false }
def TopCourseSaid : Prop := topCourseRow.holds Try.pinned (OpenSpec.ofChange topCourseSpec)

/-- ITS FALSE NEIGHBOUR: 'it returns false'. Refute it at one input. -/
def topCourseWrong : ChangeSpec := { name := "topCourse", fn := fun _ => fun
  | [d1, d2, d3, d4] => { results := [.lit (.bool false)], args := [d1, d2, d3, d4] }
  | _ => none }
def TopCourseWrongFalsely : Prop := topCourseRow.holds Try.pinned (OpenSpec.ofChange topCourseWrong)

/-- 'campaniletop.TopSum': WHATEVER THE INPUT: true; the input reads as it did. -/
def topSumSpec : ChangeSpec := { name := "topSum", fn := fun _ => fun
  | [d1, d2, d3, d4] => { results := [.lit (.bool true)], args := [d1, d2, d3, d4] }
  | _ => none }
def topSumRow : OpenClaim := { program := "ytmdaialaphkhfag", sum := "0227947fb2ef695987ab3ec4395ae2e1979d039002b054a6e37c87bbc3e0c05f", func := "campanile/campaniletop.TopSum", spec := "topSum", inPlace := ["math.sqrt", "sync/atomic.LoadUint32", "(*internal/sync.Mutex).Lock", "internal/race.Disable", "sync/atomic.CompareAndSwapInt32", "internal/race.Enable", "internal/race.Acquire", "(*internal/sync.Mutex).lockSlow", "internal/sync.runtime_canSpin", "internal/sync.runtime_doSpin", "internal/sync.throw", "internal/sync.runtime_nanotime", "internal/sync.runtime_SemacquireMutex", "sync/atomic.AddInt32", "(*internal/sync.Mutex).Unlock", "internal/race.ReleaseMerge", "(*internal/sync.Mutex).unlockSlow", "internal/sync.fatal", "internal/sync.runtime_Semrelease", "sync/atomic.StoreUint32", "math.Float64bits", "math.Float64frombits"], unfollowed := true, recurses := true, apart := false }
def TopSumSaid : Prop := topSumRow.holds Try.pinned (OpenSpec.ofChange topSumSpec)

/-- ITS FALSE NEIGHBOUR: 'it returns false'. Refute it at one input. -/
def topSumWrong : ChangeSpec := { name := "topSum", fn := fun _ => fun
  | [d1, d2, d3, d4] => { results := [.lit (.bool false)], args := [d1, d2, d3, d4] }
  | _ => none }
def TopSumWrongFalsely : Prop := topSumRow.holds Try.pinned (OpenSpec.ofChange topSumWrong)

/-- 'campaniletop.TopMusic': WHATEVER THE INPUT: true; the input reads as it did. -/
def topMusicSpec : ChangeSpec := { name := "topMusic", fn := fun _ => fun
  | [d1, d2, d3] => { results := [.lit (.bool true)], args := [d1, d2, d3] }
  | _ => none }
def topMusicRow : OpenClaim := { program := "ytmdaialaphkhfag", sum := "0227947fb2ef695987ab3ec4395ae2e1979d039002b054a6e37c87bbc3e0c05f", func := "campanile/campaniletop.TopMusic", spec := "topMusic", inPlace := ["internal/bytealg.IndexByteString", "internal/bytealg.IndexString"], recurses := true, named := ["internal/bytealg.MaxLen"], apart := false }
def TopMusicSaid : Prop := topMusicRow.holds Try.pinned (OpenSpec.ofChange topMusicSpec)

/-- ITS FALSE NEIGHBOUR: 'it returns false'. Refute it at one input. -/
def topMusicWrong : ChangeSpec := { name := "topMusic", fn := fun _ => fun
  | [d1, d2, d3] => { results := [.lit (.bool false)], args := [d1, d2, d3] }
  | _ => none }
def TopMusicWrongFalsely : Prop := topMusicRow.holds Try.pinned (OpenSpec.ofChange topMusicWrong)

/- THE SECOND FORM. 'bulk': how many values and letters a reading holds, each counted each time it is reached (what is shared counts as often as it is met; a slice's spare places count too). A statement '..UptoSaid' is the law's where the arguments, and the package variables that the reading takes, are together of bulk at most 1048576: NARROWER than '..Said'. Prove '..Said' where nothing that the law and all that it calls make is longer than what came in: it says more and counts as full. Else prove '..UptoSaid'. A law counts once. -/
mutual
def uptoBulk {H : Type} : DataW H → Nat
  | .lit (.string bytes) => bytes.length + 1
  | .lit _ => 1
  | .nil => 1
  | .ptr d => uptoBulk d + 1
  | .slice elems spare => uptoBulkAll elems + uptoBulkAll spare + 1
  | .agg parts => uptoBulkAll parts + 1
  | .iface _ d => uptoBulk d + 1
  | .map entries => uptoBulkEntries entries + 1
  | .held _ => 1
def uptoBulkAll {H : Type} : List (DataW H) → Nat
  | [] => 0
  | d :: r => uptoBulk d + uptoBulkAll r
def uptoBulkEntries {H : Type} : List (Lit × DataW H) → Nat
  | [] => 0
  | x :: r => uptoBulkEntry x + uptoBulkEntries r
def uptoBulkEntry {H : Type} : Lit × DataW H → Nat
  | (.string bytes, d) => bytes.length + uptoBulk d + 1
  | (_, d) => uptoBulk d + 1
 end
def uptoSmall : (H : Type) → List (DataW H) → Bool := fun _ ds => decide (uptoBulkAll ds ≤ 1048576)
def OpenSpec.upto (s : _root_.Go.ChangeSpec) : _root_.Go.OpenSpec := { _root_.Go.OpenSpec.ofChange s with cond := some uptoSmall }

/-- 'campaniletop.TopHalf', WHERE WHAT IT READS IS OF BULK AT MOST 1048576: true; the input reads as it did. -/
def topHalfUptoRow : OpenClaim := { program := "ytmdaialaphkhfag", sum := "0227947fb2ef695987ab3ec4395ae2e1979d039002b054a6e37c87bbc3e0c05f", func := "campanile/campaniletop.TopHalf", spec := "topHalf", apart := false, narrowed := true }
def TopHalfUptoSaid : Prop := topHalfUptoRow.holds Try.pinned (OpenSpec.upto topHalfSpec)

/-- 'campaniletop.TopMirror', WHERE WHAT IT READS IS OF BULK AT MOST 1048576: true; the input reads as it did. -/
def topMirrorUptoRow : OpenClaim := { program := "ytmdaialaphkhfag", sum := "0227947fb2ef695987ab3ec4395ae2e1979d039002b054a6e37c87bbc3e0c05f", func := "campanile/campaniletop.TopMirror", spec := "topMirror", apart := false, narrowed := true }
def TopMirrorUptoSaid : Prop := topMirrorUptoRow.holds Try.pinned (OpenSpec.upto topMirrorSpec)

/-- 'campaniletop.TopCourse', WHERE WHAT IT READS IS OF BULK AT MOST 1048576: true; the input reads as it did. -/
def topCourseUptoRow : OpenClaim := { program := "ytmdaialaphkhfag", sum := "0227947fb2ef695987ab3ec4395ae2e1979d039002b054a6e37c87bbc3e0c05f", func := "campanile/campaniletop.TopCourse", spec := "topCourse", apart := false, narrowed := true }
def TopCourseUptoSaid : Prop := topCourseUptoRow.holds Try.pinned (OpenSpec.upto topCourseSpec)

/-- 'campaniletop.TopSum', WHERE WHAT IT READS IS OF BULK AT MOST 1048576: true; the input reads as it did. -/
def topSumUptoRow : OpenClaim := { program := "ytmdaialaphkhfag", sum := "0227947fb2ef695987ab3ec4395ae2e1979d039002b054a6e37c87bbc3e0c05f", func := "campanile/campaniletop.TopSum", spec := "topSum", inPlace := ["math.sqrt", "sync/atomic.LoadUint32", "(*internal/sync.Mutex).Lock", "internal/race.Disable", "sync/atomic.CompareAndSwapInt32", "internal/race.Enable", "internal/race.Acquire", "(*internal/sync.Mutex).lockSlow", "internal/sync.runtime_canSpin", "internal/sync.runtime_doSpin", "internal/sync.throw", "internal/sync.runtime_nanotime", "internal/sync.runtime_SemacquireMutex", "sync/atomic.AddInt32", "(*internal/sync.Mutex).Unlock", "internal/race.ReleaseMerge", "(*internal/sync.Mutex).unlockSlow", "internal/sync.fatal", "internal/sync.runtime_Semrelease", "sync/atomic.StoreUint32", "math.Float64bits", "math.Float64frombits"], unfollowed := true, recurses := true, apart := false, narrowed := true }
def TopSumUptoSaid : Prop := topSumUptoRow.holds Try.pinned (OpenSpec.upto topSumSpec)

/-- 'campaniletop.TopMusic', WHERE WHAT IT READS IS OF BULK AT MOST 1048576: true; the input reads as it did. -/
def topMusicUptoRow : OpenClaim := { program := "ytmdaialaphkhfag", sum := "0227947fb2ef695987ab3ec4395ae2e1979d039002b054a6e37c87bbc3e0c05f", func := "campanile/campaniletop.TopMusic", spec := "topMusic", inPlace := ["internal/bytealg.IndexByteString", "internal/bytealg.IndexString"], recurses := true, named := ["internal/bytealg.MaxLen"], apart := false, narrowed := true }
def TopMusicUptoSaid : Prop := topMusicUptoRow.holds Try.pinned (OpenSpec.upto topMusicSpec)

end Rows
end Go.Proofs.Ytmdaialaphkhfag
