/-
  No cell of these rows narrows 'for every input' (looked for: loops, veiled, ifaces, maps, wideKeys, modest, calm, conditions, laid).
  DERIVED. THE GIVEN ROWS OF THIS SEAT. 4 by the template 'for every input the law returns true; each argument reads behind the call as it read before'; 0 by the template 'total and deterministic' (their statements: YtmeijdkjccfpmaaTotals.lean).
  GIVEN WITH THE SEED: the statements are not yours to turn. If you find one false, say at which input.
  Laid BY PROGRAM, IN A SANDBOX (cutbox-rows.mjs): the forced cells as the released guide's own fill.sh prints them over the translation 82d9b1b6ce2bd54b… (all of the seat's roots in one cut). By AI agents, Wed Nov 11 2026. No macro, syntax, notation, axiom, sorry.
-/
import Derived.Test.YtmeijdkjccfpmaaChecked
import GoSem.Claim
import GoSem.ClaimJoined
import GoSem.ClaimMapViews
import Derived.JoinedTies
import Derived.KernelRfl
namespace Go.Proofs.Ytmeijdkjccfpmaa
/- THE CELL 'sum', in the pinned program and in every row, IS THE sha256 OF THE DUMP (.gsa) THAT YtmeijdkjccfpmaaProg.lean LOADS. Nothing in Lean hashes anything: it is a label: what it is worth is what the hold of that sum in a sandbox is worth. -/
noncomputable def Try.pinned : Pinned := { name := "ytmeijdkjccfpmaa", sum := "82d9b1b6ce2bd54be9aafdaa34b2aac40403e7706af93bdf85f0b78e2d9243c6", checked := Try.checked }
namespace Rows
def none {H : Type} : Left H := { results := [], args := [] }

/-- 'campanilelaw.StrikeJudges': WHATEVER THE INPUT: true; the input reads as it did. -/
def strikeJudgesSpec : ChangeSpec := { name := "strikeJudges", fn := fun _ => fun
  | [d1, d2] => { results := [.lit (.bool true)], args := [d1, d2] }
  | _ => none }
def strikeJudgesRow : OpenClaim := { program := "ytmeijdkjccfpmaa", sum := "82d9b1b6ce2bd54be9aafdaa34b2aac40403e7706af93bdf85f0b78e2d9243c6", func := "campanile/campanilelaw.StrikeJudges", spec := "strikeJudges", inPlace := ["math.Float64bits", "math.Float64frombits", "math.sqrt"], apart := false }
def StrikeJudgesSaid : Prop := strikeJudgesRow.holds Try.pinned (OpenSpec.ofChange strikeJudgesSpec)

/-- ITS FALSE NEIGHBOUR: 'it returns false'. Refute it at one input. -/
def strikeJudgesWrong : ChangeSpec := { name := "strikeJudges", fn := fun _ => fun
  | [d1, d2] => { results := [.lit (.bool false)], args := [d1, d2] }
  | _ => none }
def StrikeJudgesWrongFalsely : Prop := strikeJudgesRow.holds Try.pinned (OpenSpec.ofChange strikeJudgesWrong)

/-- 'campanilelaw.StrikeSums': WHATEVER THE INPUT: true; the input reads as it did. -/
def strikeSumsSpec : ChangeSpec := { name := "strikeSums", fn := fun _ => fun
  | [d] => { results := [.lit (.bool true)], args := [d] }
  | _ => none }
def strikeSumsRow : OpenClaim := { program := "ytmeijdkjccfpmaa", sum := "82d9b1b6ce2bd54be9aafdaa34b2aac40403e7706af93bdf85f0b78e2d9243c6", func := "campanile/campanilelaw.StrikeSums", spec := "strikeSums", inPlace := ["math.Float64bits", "math.Float64frombits", "math.sqrt", "sync/atomic.LoadUint32", "(*internal/sync.Mutex).Lock", "internal/race.Disable", "sync/atomic.CompareAndSwapInt32", "internal/race.Enable", "internal/race.Acquire", "(*internal/sync.Mutex).lockSlow", "internal/sync.runtime_canSpin", "internal/sync.runtime_doSpin", "internal/sync.throw", "internal/sync.runtime_nanotime", "internal/sync.runtime_SemacquireMutex", "sync/atomic.AddInt32", "(*internal/sync.Mutex).Unlock", "internal/race.ReleaseMerge", "(*internal/sync.Mutex).unlockSlow", "internal/sync.fatal", "internal/sync.runtime_Semrelease", "sync/atomic.StoreUint32"], unfollowed := true, recurses := true, apart := false }
def StrikeSumsSaid : Prop := strikeSumsRow.holds Try.pinned (OpenSpec.ofChange strikeSumsSpec)

/-- ITS FALSE NEIGHBOUR: 'it returns false'. Refute it at one input. -/
def strikeSumsWrong : ChangeSpec := { name := "strikeSums", fn := fun _ => fun
  | [d] => { results := [.lit (.bool false)], args := [d] }
  | _ => none }
def StrikeSumsWrongFalsely : Prop := strikeSumsRow.holds Try.pinned (OpenSpec.ofChange strikeSumsWrong)

/-- 'campaniletop.TopStruck': WHATEVER THE INPUT: true; the input reads as it did. -/
def topStruckSpec : ChangeSpec := { name := "topStruck", fn := fun _ => fun
  | [d1, d2, d3, d4] => { results := [.lit (.bool true)], args := [d1, d2, d3, d4] }
  | _ => none }
def topStruckRow : OpenClaim := { program := "ytmeijdkjccfpmaa", sum := "82d9b1b6ce2bd54be9aafdaa34b2aac40403e7706af93bdf85f0b78e2d9243c6", func := "campanile/campaniletop.TopStruck", spec := "topStruck", inPlace := ["math.Float64bits", "math.Float64frombits", "math.sqrt"], apart := false }
def TopStruckSaid : Prop := topStruckRow.holds Try.pinned (OpenSpec.ofChange topStruckSpec)

/-- ITS FALSE NEIGHBOUR: 'it returns false'. Refute it at one input. -/
def topStruckWrong : ChangeSpec := { name := "topStruck", fn := fun _ => fun
  | [d1, d2, d3, d4] => { results := [.lit (.bool false)], args := [d1, d2, d3, d4] }
  | _ => none }
def TopStruckWrongFalsely : Prop := topStruckRow.holds Try.pinned (OpenSpec.ofChange topStruckWrong)

/-- 'campaniletop.TopSum': WHATEVER THE INPUT: true; the input reads as it did. -/
def topSumSpec : ChangeSpec := { name := "topSum", fn := fun _ => fun
  | [d1, d2, d3, d4] => { results := [.lit (.bool true)], args := [d1, d2, d3, d4] }
  | _ => none }
def topSumRow : OpenClaim := { program := "ytmeijdkjccfpmaa", sum := "82d9b1b6ce2bd54be9aafdaa34b2aac40403e7706af93bdf85f0b78e2d9243c6", func := "campanile/campaniletop.TopSum", spec := "topSum", inPlace := ["math.sqrt", "sync/atomic.LoadUint32", "(*internal/sync.Mutex).Lock", "internal/race.Disable", "sync/atomic.CompareAndSwapInt32", "internal/race.Enable", "internal/race.Acquire", "(*internal/sync.Mutex).lockSlow", "internal/sync.runtime_canSpin", "internal/sync.runtime_doSpin", "internal/sync.throw", "internal/sync.runtime_nanotime", "internal/sync.runtime_SemacquireMutex", "sync/atomic.AddInt32", "(*internal/sync.Mutex).Unlock", "internal/race.ReleaseMerge", "(*internal/sync.Mutex).unlockSlow", "internal/sync.fatal", "internal/sync.runtime_Semrelease", "sync/atomic.StoreUint32", "math.Float64bits", "math.Float64frombits"], unfollowed := true, recurses := true, apart := false }
def TopSumSaid : Prop := topSumRow.holds Try.pinned (OpenSpec.ofChange topSumSpec)

/-- ITS FALSE NEIGHBOUR: 'it returns false'. Refute it at one input. -/
def topSumWrong : ChangeSpec := { name := "topSum", fn := fun _ => fun
  | [d1, d2, d3, d4] => { results := [.lit (.bool false)], args := [d1, d2, d3, d4] }
  | _ => none }
def TopSumWrongFalsely : Prop := topSumRow.holds Try.pinned (OpenSpec.ofChange topSumWrong)

/- THE SECOND FORM. 'bulk': how many values and letters a reading holds, each counted each time it is reached (what is shared counts as often as it is met; a slice's spare places count too). A statement '..UptoSaid' is the law's where the arguments, and the package variables that the reading takes, are together of bulk at most 1048576: NARROWER than '..Said'. Prove '..Said' where nothing that the law and all that it calls make is longer than what came in: it says more and counts as full. Else prove '..UptoSaid'. A law counts once. -/
mutual
def uptoBulk {H : Type} : DataW H → Nat
  | .lit (.string bytes) => bytes.length + 1
  | .lit _ => 1
  | .nil => 1
  | .ptr d => uptoBulk d + 1
  | .slice elems spare => uptoBulkAll elems + uptoBulkAll spare + 1
  | .agg parts => uptoBulkAll parts + 1
  | .iface _ d => uptoBulk d + 1
  | .map entries => uptoBulkEntries entries + 1
  | .held _ => 1
def uptoBulkAll {H : Type} : List (DataW H) → Nat
  | [] => 0
  | d :: r => uptoBulk d + uptoBulkAll r
def uptoBulkEntries {H : Type} : List (Lit × DataW H) → Nat
  | [] => 0
  | x :: r => uptoBulkEntry x + uptoBulkEntries r
def uptoBulkEntry {H : Type} : Lit × DataW H → Nat
  | (.string bytes, d) => bytes.length + uptoBulk d + 1
  | (_, d) => uptoBulk d + 1
 end
def uptoSmall : (H : Type) → List (DataW H) → Bool := fun _ ds => decide (uptoBulkAll ds ≤ 1048576)
def OpenSpec.upto (s : _root_.Go.ChangeSpec) : _root_.Go.OpenSpec := { _root_.Go.OpenSpec.ofChange s with cond := some uptoSmall }

/-- 'campanilelaw.StrikeJudges', WHERE WHAT IT READS IS OF BULK AT MOST 1048576: true; the input reads as it did. -/
def strikeJudgesUptoRow : OpenClaim := { program := "ytmeijdkjccfpmaa", sum := "82d9b1b6ce2bd54be9aafdaa34b2aac40403e7706af93bdf85f0b78e2d9243c6", func := "campanile/campanilelaw.StrikeJudges", spec := "strikeJudges", inPlace := ["math.Float64bits", "math.Float64frombits", "math.sqrt"], apart := false, narrowed := true }
def StrikeJudgesUptoSaid : Prop := strikeJudgesUptoRow.holds Try.pinned (OpenSpec.upto strikeJudgesSpec)

/-- 'campanilelaw.StrikeSums', WHERE WHAT IT READS IS OF BULK AT MOST 1048576: true; the input reads as it did. -/
def strikeSumsUptoRow : OpenClaim := { program := "ytmeijdkjccfpmaa", sum := "82d9b1b6ce2bd54be9aafdaa34b2aac40403e7706af93bdf85f0b78e2d9243c6", func := "campanile/campanilelaw.StrikeSums", spec := "strikeSums", inPlace := ["math.Float64bits", "math.Float64frombits", "math.sqrt", "sync/atomic.LoadUint32", "(*internal/sync.Mutex).Lock", "internal/race.Disable", "sync/atomic.CompareAndSwapInt32", "internal/race.Enable", "internal/race.Acquire", "(*internal/sync.Mutex).lockSlow", "internal/sync.runtime_canSpin", "internal/sync.runtime_doSpin", "internal/sync.throw", "internal/sync.runtime_nanotime", "internal/sync.runtime_SemacquireMutex", "sync/atomic.AddInt32", "(*internal/sync.Mutex).Unlock", "internal/race.ReleaseMerge", "(*internal/sync.Mutex).unlockSlow", "internal/sync.fatal", "internal/sync.runtime_Semrelease", "sync/atomic.StoreUint32"], unfollowed := true, recurses := true, apart := false, narrowed := true }
def StrikeSumsUptoSaid : Prop := strikeSumsUptoRow.holds Try.pinned (OpenSpec.upto strikeSumsSpec)

/-- 'campaniletop.TopStruck', WHERE WHAT IT READS IS OF BULK AT MOST 1048576: true; the input reads as it did. -/
def topStruckUptoRow : OpenClaim := { program := "ytmeijdkjccfpmaa", sum := "82d9b1b6ce2bd54be9aafdaa34b2aac40403e7706af93bdf85f0b78e2d9243c6", func := "campanile/campaniletop.TopStruck", spec := "topStruck", inPlace := ["math.Float64bits", "math.Float64frombits", "math.sqrt"], apart := false, narrowed := true }
def TopStruckUptoSaid : Prop := topStruckUptoRow.holds Try.pinned (OpenSpec.upto topStruckSpec)

/-- 'campaniletop.TopSum', WHERE WHAT IT READS IS OF BULK AT MOST 1048576: true; the input reads as it did. -/
def topSumUptoRow : OpenClaim := { program := "ytmeijdkjccfpmaa", sum := "82d9b1b6ce2bd54be9aafdaa34b2aac40403e7706af93bdf85f0b78e2d9243c6", func := "campanile/campaniletop.TopSum", spec := "topSum", inPlace := ["math.sqrt", "sync/atomic.LoadUint32", "(*internal/sync.Mutex).Lock", "internal/race.Disable", "sync/atomic.CompareAndSwapInt32", "internal/race.Enable", "internal/race.Acquire", "(*internal/sync.Mutex).lockSlow", "internal/sync.runtime_canSpin", "internal/sync.runtime_doSpin", "internal/sync.throw", "internal/sync.runtime_nanotime", "internal/sync.runtime_SemacquireMutex", "sync/atomic.AddInt32", "(*internal/sync.Mutex).Unlock", "internal/race.ReleaseMerge", "(*internal/sync.Mutex).unlockSlow", "internal/sync.fatal", "internal/sync.runtime_Semrelease", "sync/atomic.StoreUint32", "math.Float64bits", "math.Float64frombits"], unfollowed := true, recurses := true, apart := false, narrowed := true }
def TopSumUptoSaid : Prop := topSumUptoRow.holds Try.pinned (OpenSpec.upto topSumSpec)

end Rows
end Go.Proofs.Ytmeijdkjccfpmaa
