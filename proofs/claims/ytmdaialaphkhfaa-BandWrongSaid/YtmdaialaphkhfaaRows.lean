/-
  No cell of these rows narrows 'for every input' (looked for: loops, veiled, ifaces, maps, wideKeys, modest, calm, conditions, laid).
  DERIVED. THE GIVEN ROWS OF THIS SEAT. 6 by the template 'for every input the law returns true; each argument reads behind the call as it read before'; 0 by the template 'total and deterministic' (their statements: YtmdaialaphkhfaaTotals.lean).
  GIVEN WITH THE SEED: the statements are not yours to turn. If you find one false, say at which input.
  Laid BY PROGRAM, IN A SANDBOX (cutbox-rows.mjs): the forced cells as the released guide's own fill.sh prints them over the translation c640ddddc562d687… (all of the seat's roots in one cut). By AI agents, Wed Nov 11 2026. No macro, syntax, notation, axiom, sorry.
-/
import Derived.Test.YtmdaialaphkhfaaChecked
import GoSem.Claim
import GoSem.ClaimJoined
import GoSem.ClaimMapViews
import Derived.JoinedTies
import Derived.KernelRfl
namespace Go.Proofs.Ytmdaialaphkhfaa
/- THE CELL 'sum', in the pinned program and in every row, IS THE sha256 OF THE DUMP (.gsa) THAT YtmdaialaphkhfaaProg.lean LOADS. Nothing in Lean hashes anything: it is a label: what it is worth is what the hold of that sum in a sandbox is worth. -/
noncomputable def Try.pinned : Pinned := { name := "ytmdaialaphkhfaa", sum := "c640ddddc562d6874cb40a8dff365963f53f98d7424b46ff6c7e5052af5eb995", checked := Try.checked }
namespace Rows
def none {H : Type} : Left H := { results := [], args := [] }

/-- 'campanilelaw.Names': WHATEVER THE INPUT: true; the input reads as it did. -/
def namesSpec : ChangeSpec := { name := "names", fn := fun _ => fun
  | [] => { results := [.lit (.bool true)], args := [] }
  | _ => none }
def namesRow : OpenClaim := { program := "ytmdaialaphkhfaa", sum := "c640ddddc562d6874cb40a8dff365963f53f98d7424b46ff6c7e5052af5eb995", func := "campanile/campanilelaw.Names", spec := "names", apart := false }
def NamesSaid : Prop := namesRow.holds Try.pinned (OpenSpec.ofChange namesSpec)

/-- ITS FALSE NEIGHBOUR: 'it returns false'. Refute it at one input. -/
def namesWrong : ChangeSpec := { name := "names", fn := fun _ => fun
  | [] => { results := [.lit (.bool false)], args := [] }
  | _ => none }
def NamesWrongFalsely : Prop := namesRow.holds Try.pinned (OpenSpec.ofChange namesWrong)

/-- 'campanilelaw.BandWrong': WHATEVER THE INPUT: true; the input reads as it did. -/
def bandWrongSpec : ChangeSpec := { name := "bandWrong", fn := fun _ => fun
  | [d1, d2] => { results := [.lit (.bool true)], args := [d1, d2] }
  | _ => none }
def bandWrongRow : OpenClaim := { program := "ytmdaialaphkhfaa", sum := "c640ddddc562d6874cb40a8dff365963f53f98d7424b46ff6c7e5052af5eb995", func := "campanile/campanilelaw.BandWrong", spec := "bandWrong", apart := false }
def BandWrongSaid : Prop := bandWrongRow.holds Try.pinned (OpenSpec.ofChange bandWrongSpec)

/-- ITS FALSE NEIGHBOUR: 'it returns false'. Refute it at one input. -/
def bandWrongWrong : ChangeSpec := { name := "bandWrong", fn := fun _ => fun
  | [d1, d2] => { results := [.lit (.bool false)], args := [d1, d2] }
  | _ => none }
def BandWrongWrongFalsely : Prop := bandWrongRow.holds Try.pinned (OpenSpec.ofChange bandWrongWrong)

/-- 'campanilelaw.StrikeJudges': WHATEVER THE INPUT: true; the input reads as it did. -/
def strikeJudgesSpec : ChangeSpec := { name := "strikeJudges", fn := fun _ => fun
  | [d1, d2] => { results := [.lit (.bool true)], args := [d1, d2] }
  | _ => none }
def strikeJudgesRow : OpenClaim := { program := "ytmdaialaphkhfaa", sum := "c640ddddc562d6874cb40a8dff365963f53f98d7424b46ff6c7e5052af5eb995", func := "campanile/campanilelaw.StrikeJudges", spec := "strikeJudges", inPlace := ["math.Float64bits", "math.Float64frombits", "math.sqrt"], apart := false }
def StrikeJudgesSaid : Prop := strikeJudgesRow.holds Try.pinned (OpenSpec.ofChange strikeJudgesSpec)

/-- ITS FALSE NEIGHBOUR: 'it returns false'. Refute it at one input. -/
def strikeJudgesWrong : ChangeSpec := { name := "strikeJudges", fn := fun _ => fun
  | [d1, d2] => { results := [.lit (.bool false)], args := [d1, d2] }
  | _ => none }
def StrikeJudgesWrongFalsely : Prop := strikeJudgesRow.holds Try.pinned (OpenSpec.ofChange strikeJudgesWrong)

/-- 'campanilelaw.ExtentCircuits': WHATEVER THE INPUT: true; the input reads as it did. -/
def extentCircuitsSpec : ChangeSpec := { name := "extentCircuits", fn := fun _ => fun
  | [d1, d2] => { results := [.lit (.bool true)], args := [d1, d2] }
  | _ => none }
def extentCircuitsRow : OpenClaim := { program := "ytmdaialaphkhfaa", sum := "c640ddddc562d6874cb40a8dff365963f53f98d7424b46ff6c7e5052af5eb995", func := "campanile/campanilelaw.ExtentCircuits", spec := "extentCircuits", recurses := true, apart := false }
def ExtentCircuitsSaid : Prop := extentCircuitsRow.holds Try.pinned (OpenSpec.ofChange extentCircuitsSpec)

/-- ITS FALSE NEIGHBOUR: 'it returns false'. Refute it at one input. -/
def extentCircuitsWrong : ChangeSpec := { name := "extentCircuits", fn := fun _ => fun
  | [d1, d2] => { results := [.lit (.bool false)], args := [d1, d2] }
  | _ => none }
def ExtentCircuitsWrongFalsely : Prop := extentCircuitsRow.holds Try.pinned (OpenSpec.ofChange extentCircuitsWrong)

/-- 'campanilelaw.CallParses': WHATEVER THE INPUT: true; the input reads as it did. -/
def callParsesSpec : ChangeSpec := { name := "callParses", fn := fun _ => fun
  | [d1, d2] => { results := [.lit (.bool true)], args := [d1, d2] }
  | _ => none }
def callParsesRow : OpenClaim := { program := "ytmdaialaphkhfaa", sum := "c640ddddc562d6874cb40a8dff365963f53f98d7424b46ff6c7e5052af5eb995", func := "campanile/campanilelaw.CallParses", spec := "callParses", unfollowed := true, recurses := true, apart := false }
def CallParsesSaid : Prop := callParsesRow.holds Try.pinned (OpenSpec.ofChange callParsesSpec)

/-- ITS FALSE NEIGHBOUR: 'it returns false'. Refute it at one input. -/
def callParsesWrong : ChangeSpec := { name := "callParses", fn := fun _ => fun
  | [d1, d2] => { results := [.lit (.bool false)], args := [d1, d2] }
  | _ => none }
def CallParsesWrongFalsely : Prop := callParsesRow.holds Try.pinned (OpenSpec.ofChange callParsesWrong)

/-- 'campanilelaw.StrikeSums': WHATEVER THE INPUT: true; the input reads as it did. -/
def strikeSumsSpec : ChangeSpec := { name := "strikeSums", fn := fun _ => fun
  | [d] => { results := [.lit (.bool true)], args := [d] }
  | _ => none }
def strikeSumsRow : OpenClaim := { program := "ytmdaialaphkhfaa", sum := "c640ddddc562d6874cb40a8dff365963f53f98d7424b46ff6c7e5052af5eb995", func := "campanile/campanilelaw.StrikeSums", spec := "strikeSums", inPlace := ["math.Float64bits", "math.Float64frombits", "math.sqrt", "sync/atomic.LoadUint32", "(*internal/sync.Mutex).Lock", "internal/race.Disable", "sync/atomic.CompareAndSwapInt32", "internal/race.Enable", "internal/race.Acquire", "(*internal/sync.Mutex).lockSlow", "internal/sync.runtime_canSpin", "internal/sync.runtime_doSpin", "internal/sync.throw", "internal/sync.runtime_nanotime", "internal/sync.runtime_SemacquireMutex", "sync/atomic.AddInt32", "(*internal/sync.Mutex).Unlock", "internal/race.ReleaseMerge", "(*internal/sync.Mutex).unlockSlow", "internal/sync.fatal", "internal/sync.runtime_Semrelease", "sync/atomic.StoreUint32"], unfollowed := true, recurses := true, apart := false }
def StrikeSumsSaid : Prop := strikeSumsRow.holds Try.pinned (OpenSpec.ofChange strikeSumsSpec)

/-- ITS FALSE NEIGHBOUR: 'it returns false'. Refute it at one input. -/
def strikeSumsWrong : ChangeSpec := { name := "strikeSums", fn := fun _ => fun
  | [d] => { results := [.lit (.bool false)], args := [d] }
  | _ => none }
def StrikeSumsWrongFalsely : Prop := strikeSumsRow.holds Try.pinned (OpenSpec.ofChange strikeSumsWrong)

/- THE SECOND FORM. 'bulk': how many values and letters a reading holds, each counted each time it is reached (what is shared counts as often as it is met; a slice's spare places count too). A statement '..UptoSaid' is the law's where the arguments, and the package variables that the reading takes, are together of bulk at most 1048576: NARROWER than '..Said'. Prove '..Said' where nothing that the law and all that it calls make is longer than what came in: it says more and counts as full. Else prove '..UptoSaid'. A law counts once. -/
mutual
def uptoBulk {H : Type} : DataW H → Nat
  | .lit (.string bytes) => bytes.length + 1
  | .lit _ => 1
  | .nil => 1
  | .ptr d => uptoBulk d + 1
  | .slice elems spare => uptoBulkAll elems + uptoBulkAll spare + 1
  | .agg parts => uptoBulkAll parts + 1
  | .iface _ d => uptoBulk d + 1
  | .map entries => uptoBulkEntries entries + 1
  | .held _ => 1
def uptoBulkAll {H : Type} : List (DataW H) → Nat
  | [] => 0
  | d :: r => uptoBulk d + uptoBulkAll r
def uptoBulkEntries {H : Type} : List (Lit × DataW H) → Nat
  | [] => 0
  | x :: r => uptoBulkEntry x + uptoBulkEntries r
def uptoBulkEntry {H : Type} : Lit × DataW H → Nat
  | (.string bytes, d) => bytes.length + uptoBulk d + 1
  | (_, d) => uptoBulk d + 1
 end
def uptoSmall : (H : Type) → List (DataW H) → Bool := fun _ ds => decide (uptoBulkAll ds ≤ 1048576)
def OpenSpec.upto (s : _root_.Go.ChangeSpec) : _root_.Go.OpenSpec := { _root_.Go.OpenSpec.ofChange s with cond := some uptoSmall }

/-- 'campanilelaw.Names', WHERE WHAT IT READS IS OF BULK AT MOST 1048576: true; the input reads as it did. -/
def namesUptoRow : OpenClaim := { program := "ytmdaialaphkhfaa", sum := "c640ddddc562d6874cb40a8dff365963f53f98d7424b46ff6c7e5052af5eb995", func := "campanile/campanilelaw.Names", spec := "names", apart := false, narrowed := true }
def NamesUptoSaid : Prop := namesUptoRow.holds Try.pinned (OpenSpec.upto namesSpec)

/-- 'campanilelaw.BandWrong', WHERE WHAT IT READS IS OF BULK AT MOST 1048576: true; the input reads as it did. -/
def bandWrongUptoRow : OpenClaim := { program := "ytmdaialaphkhfaa", sum := "c640ddddc562d6874cb40a8dff365963f53f98d7424b46ff6c7e5052af5eb995", func := "campanile/campanilelaw.BandWrong", spec := "bandWrong", apart := false, narrowed := true }
def BandWrongUptoSaid : Prop := bandWrongUptoRow.holds Try.pinned (OpenSpec.upto bandWrongSpec)

/-- 'campanilelaw.StrikeJudges', WHERE WHAT IT READS IS OF BULK AT MOST 1048576: true; the input reads as it did. -/
def strikeJudgesUptoRow : OpenClaim := { program := "ytmdaialaphkhfaa", sum := "c640ddddc562d6874cb40a8dff365963f53f98d7424b46ff6c7e5052af5eb995", func := "campanile/campanilelaw.StrikeJudges", spec := "strikeJudges", inPlace := ["math.Float64bits", "math.Float64frombits", "math.sqrt"], apart := false, narrowed := true }
def StrikeJudgesUptoSaid : Prop := strikeJudgesUptoRow.holds Try.pinned (OpenSpec.upto strikeJudgesSpec)

/-- 'campanilelaw.ExtentCircuits', WHERE WHAT IT READS IS OF BULK AT MOST 1048576: true; the input reads as it did. -/
def extentCircuitsUptoRow : OpenClaim := { program := "ytmdaialaphkhfaa", sum := "c640ddddc562d6874cb40a8dff365963f53f98d7424b46ff6c7e5052af5eb995", func := "campanile/campanilelaw.ExtentCircuits", spec := "extentCircuits", recurses := true, apart := false, narrowed := true }
def ExtentCircuitsUptoSaid : Prop := extentCircuitsUptoRow.holds Try.pinned (OpenSpec.upto extentCircuitsSpec)

/-- 'campanilelaw.CallParses', WHERE WHAT IT READS IS OF BULK AT MOST 1048576: true; the input reads as it did. -/
def callParsesUptoRow : OpenClaim := { program := "ytmdaialaphkhfaa", sum := "c640ddddc562d6874cb40a8dff365963f53f98d7424b46ff6c7e5052af5eb995", func := "campanile/campanilelaw.CallParses", spec := "callParses", unfollowed := true, recurses := true, apart := false, narrowed := true }
def CallParsesUptoSaid : Prop := callParsesUptoRow.holds Try.pinned (OpenSpec.upto callParsesSpec)

/-- 'campanilelaw.StrikeSums', WHERE WHAT IT READS IS OF BULK AT MOST 1048576: true; the input reads as it did. -/
def strikeSumsUptoRow : OpenClaim := { program := "ytmdaialaphkhfaa", sum := "c640ddddc562d6874cb40a8dff365963f53f98d7424b46ff6c7e5052af5eb995", func := "campanile/campanilelaw.StrikeSums", spec := "strikeSums", inPlace := ["math.Float64bits", "math.Float64frombits", "math.sqrt", "sync/atomic.LoadUint32", "(*internal/sync.Mutex).Lock", "internal/race.Disable", "sync/atomic.CompareAndSwapInt32", "internal/race.Enable", "internal/race.Acquire", "(*internal/sync.Mutex).lockSlow", "internal/sync.runtime_canSpin", "internal/sync.runtime_doSpin", "internal/sync.throw", "internal/sync.runtime_nanotime", "internal/sync.runtime_SemacquireMutex", "sync/atomic.AddInt32", "(*internal/sync.Mutex).Unlock", "internal/race.ReleaseMerge", "(*internal/sync.Mutex).unlockSlow", "internal/sync.fatal", "internal/sync.runtime_Semrelease", "sync/atomic.StoreUint32"], unfollowed := true, recurses := true, apart := false, narrowed := true }
def StrikeSumsUptoSaid : Prop := strikeSumsUptoRow.holds Try.pinned (OpenSpec.upto strikeSumsSpec)

end Rows
end Go.Proofs.Ytmdaialaphkhfaa
