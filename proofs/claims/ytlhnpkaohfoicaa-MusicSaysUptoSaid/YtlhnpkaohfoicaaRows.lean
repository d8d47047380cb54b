/-
  No cell of these rows narrows 'for every input' (looked for: loops, veiled, ifaces, maps, wideKeys, modest, calm, conditions, laid).
  DERIVED. THE GIVEN ROWS OF THIS SEAT. 12 by the template 'for every input the law returns true; each argument reads behind the call as it read before'; 0 by the template 'total and deterministic' (their statements: YtlhnpkaohfoicaaTotals.lean).
  GIVEN WITH THE SEED: the statements are not yours to turn. If you find one false, say at which input.
  Laid BY PROGRAM, IN A SANDBOX (cutbox-rows.mjs): the forced cells as the released guide's own fill.sh prints them over the translation 4f788d1ecf977bb6… (all of the seat's roots in one cut). By AI agents, Wed Nov 11 2026. No macro, syntax, notation, axiom, sorry.
-/
import Derived.Test.YtlhnpkaohfoicaaChecked
import GoSem.Claim
import GoSem.ClaimJoined
import GoSem.ClaimMapViews
import Derived.JoinedTies
import Derived.KernelRfl
namespace Go.Proofs.Ytlhnpkaohfoicaa
/- THE CELL 'sum', in the pinned program and in every row, IS THE sha256 OF THE DUMP (.gsa) THAT YtlhnpkaohfoicaaProg.lean LOADS. Nothing in Lean hashes anything: it is a label: what it is worth is what the hold of that sum in a sandbox is worth. -/
noncomputable def Try.pinned : Pinned := { name := "ytlhnpkaohfoicaa", sum := "4f788d1ecf977bb6053f9bdec48684d3b37620439131f8d41715f46f989d8263", checked := Try.checked }
namespace Rows
def none {H : Type} : Left H := { results := [], args := [] }

/-- 'campanilelaw.StrikeJudges': WHATEVER THE INPUT: true; the input reads as it did. -/
def strikeJudgesSpec : ChangeSpec := { name := "strikeJudges", fn := fun _ => fun
  | [d1, d2] => { results := [.lit (.bool true)], args := [d1, d2] }
  | _ => none }
def strikeJudgesRow : OpenClaim := { program := "ytlhnpkaohfoicaa", sum := "4f788d1ecf977bb6053f9bdec48684d3b37620439131f8d41715f46f989d8263", func := "campanile/campanilelaw.StrikeJudges", spec := "strikeJudges", inPlace := ["math.Float64bits", "math.Float64frombits", "math.sqrt"], apart := false }
def StrikeJudgesSaid : Prop := strikeJudgesRow.holds Try.pinned (OpenSpec.ofChange strikeJudgesSpec)

/-- ITS FALSE NEIGHBOUR: 'it returns false'. Refute it at one input. -/
def strikeJudgesWrong : ChangeSpec := { name := "strikeJudges", fn := fun _ => fun
  | [d1, d2] => { results := [.lit (.bool false)], args := [d1, d2] }
  | _ => none }
def StrikeJudgesWrongFalsely : Prop := strikeJudgesRow.holds Try.pinned (OpenSpec.ofChange strikeJudgesWrong)

/-- 'campanilelaw.ExtentCircuits': WHATEVER THE INPUT: true; the input reads as it did. -/
def extentCircuitsSpec : ChangeSpec := { name := "extentCircuits", fn := fun _ => fun
  | [d1, d2] => { results := [.lit (.bool true)], args := [d1, d2] }
  | _ => none }
def extentCircuitsRow : OpenClaim := { program := "ytlhnpkaohfoicaa", sum := "4f788d1ecf977bb6053f9bdec48684d3b37620439131f8d41715f46f989d8263", func := "campanile/campanilelaw.ExtentCircuits", spec := "extentCircuits", recurses := true, apart := false }
def ExtentCircuitsSaid : Prop := extentCircuitsRow.holds Try.pinned (OpenSpec.ofChange extentCircuitsSpec)

/-- ITS FALSE NEIGHBOUR: 'it returns false'. Refute it at one input. -/
def extentCircuitsWrong : ChangeSpec := { name := "extentCircuits", fn := fun _ => fun
  | [d1, d2] => { results := [.lit (.bool false)], args := [d1, d2] }
  | _ => none }
def ExtentCircuitsWrongFalsely : Prop := extentCircuitsRow.holds Try.pinned (OpenSpec.ofChange extentCircuitsWrong)

/-- 'campanilelaw.StrikeSums': WHATEVER THE INPUT: true; the input reads as it did. -/
def strikeSumsSpec : ChangeSpec := { name := "strikeSums", fn := fun _ => fun
  | [d] => { results := [.lit (.bool true)], args := [d] }
  | _ => none }
def strikeSumsRow : OpenClaim := { program := "ytlhnpkaohfoicaa", sum := "4f788d1ecf977bb6053f9bdec48684d3b37620439131f8d41715f46f989d8263", func := "campanile/campanilelaw.StrikeSums", spec := "strikeSums", inPlace := ["math.Float64bits", "math.Float64frombits", "math.sqrt", "sync/atomic.LoadUint32", "(*internal/sync.Mutex).Lock", "internal/race.Disable", "sync/atomic.CompareAndSwapInt32", "internal/race.Enable", "internal/race.Acquire", "(*internal/sync.Mutex).lockSlow", "internal/sync.runtime_canSpin", "internal/sync.runtime_doSpin", "internal/sync.throw", "internal/sync.runtime_nanotime", "internal/sync.runtime_SemacquireMutex", "sync/atomic.AddInt32", "(*internal/sync.Mutex).Unlock", "internal/race.ReleaseMerge", "(*internal/sync.Mutex).unlockSlow", "internal/sync.fatal", "internal/sync.runtime_Semrelease", "sync/atomic.StoreUint32"], unfollowed := true, recurses := true, apart := false }
def StrikeSumsSaid : Prop := strikeSumsRow.holds Try.pinned (OpenSpec.ofChange strikeSumsSpec)

/-- ITS FALSE NEIGHBOUR: 'it returns false'. Refute it at one input. -/
def strikeSumsWrong : ChangeSpec := { name := "strikeSums", fn := fun _ => fun
  | [d] => { results := [.lit (.bool false)], args := [d] }
  | _ => none }
def StrikeSumsWrongFalsely : Prop := strikeSumsRow.holds Try.pinned (OpenSpec.ofChange strikeSumsWrong)

/-- 'campanilelaw.MusicSays': WHATEVER THE INPUT: true; the input reads as it did. -/
def musicSaysSpec : ChangeSpec := { name := "musicSays", fn := fun _ => fun
  | [d1, d2, d3] => { results := [.lit (.bool true)], args := [d1, d2, d3] }
  | _ => none }
def musicSaysRow : OpenClaim := { program := "ytlhnpkaohfoicaa", sum := "4f788d1ecf977bb6053f9bdec48684d3b37620439131f8d41715f46f989d8263", func := "campanile/campanilelaw.MusicSays", spec := "musicSays", inPlace := ["internal/bytealg.IndexByteString", "internal/bytealg.IndexString"], recurses := true, named := ["internal/bytealg.MaxLen"], apart := false }
def MusicSaysSaid : Prop := musicSaysRow.holds Try.pinned (OpenSpec.ofChange musicSaysSpec)

/-- ITS FALSE NEIGHBOUR: 'it returns false'. Refute it at one input. -/
def musicSaysWrong : ChangeSpec := { name := "musicSays", fn := fun _ => fun
  | [d1, d2, d3] => { results := [.lit (.bool false)], args := [d1, d2, d3] }
  | _ => none }
def MusicSaysWrongFalsely : Prop := musicSaysRow.holds Try.pinned (OpenSpec.ofChange musicSaysWrong)

/-- 'campanilelaw.RowSays': WHATEVER THE INPUT: true; the input reads as it did. -/
def rowSaysSpec : ChangeSpec := { name := "rowSays", fn := fun _ => fun
  | [d1, d2, d3, d4, d5] => { results := [.lit (.bool true)], args := [d1, d2, d3, d4, d5] }
  | _ => none }
def rowSaysRow : OpenClaim := { program := "ytlhnpkaohfoicaa", sum := "4f788d1ecf977bb6053f9bdec48684d3b37620439131f8d41715f46f989d8263", func := "campanile/campanilelaw.RowSays", spec := "rowSays", inPlace := ["internal/abi.NoEscape", "internal/bytealg.IndexByteString", "internal/bytealg.IndexString"], recurses := true, named := ["internal/bytealg.MaxLen"], apart := false }
def RowSaysSaid : Prop := rowSaysRow.holds Try.pinned (OpenSpec.ofChange rowSaysSpec)

/-- ITS FALSE NEIGHBOUR: 'it returns false'. Refute it at one input. -/
def rowSaysWrong : ChangeSpec := { name := "rowSays", fn := fun _ => fun
  | [d1, d2, d3, d4, d5] => { results := [.lit (.bool false)], args := [d1, d2, d3, d4, d5] }
  | _ => none }
def RowSaysWrongFalsely : Prop := rowSaysRow.holds Try.pinned (OpenSpec.ofChange rowSaysWrong)

/-- 'campaniletop.TopStruck': WHATEVER THE INPUT: true; the input reads as it did. -/
def topStruckSpec : ChangeSpec := { name := "topStruck", fn := fun _ => fun
  | [d1, d2, d3, d4] => { results := [.lit (.bool true)], args := [d1, d2, d3, d4] }
  | _ => none }
def topStruckRow : OpenClaim := { program := "ytlhnpkaohfoicaa", sum := "4f788d1ecf977bb6053f9bdec48684d3b37620439131f8d41715f46f989d8263", func := "campanile/campaniletop.TopStruck", spec := "topStruck", inPlace := ["math.Float64bits", "math.Float64frombits", "math.sqrt"], apart := false }
def TopStruckSaid : Prop := topStruckRow.holds Try.pinned (OpenSpec.ofChange topStruckSpec)

/-- ITS FALSE NEIGHBOUR: 'it returns false'. Refute it at one input. -/
def topStruckWrong : ChangeSpec := { name := "topStruck", fn := fun _ => fun
  | [d1, d2, d3, d4] => { results := [.lit (.bool false)], args := [d1, d2, d3, d4] }
  | _ => none }
def TopStruckWrongFalsely : Prop := topStruckRow.holds Try.pinned (OpenSpec.ofChange topStruckWrong)

/-- 'campaniletop.TopExtent': WHATEVER THE INPUT: true; the input reads as it did. -/
def topExtentSpec : ChangeSpec := { name := "topExtent", fn := fun _ => fun
  | [d1, d2, d3, d4] => { results := [.lit (.bool true)], args := [d1, d2, d3, d4] }
  | _ => none }
def topExtentRow : OpenClaim := { program := "ytlhnpkaohfoicaa", sum := "4f788d1ecf977bb6053f9bdec48684d3b37620439131f8d41715f46f989d8263", func := "campanile/campaniletop.TopExtent", spec := "topExtent", recurses := true, apart := false }
def TopExtentSaid : Prop := topExtentRow.holds Try.pinned (OpenSpec.ofChange topExtentSpec)

/-- ITS FALSE NEIGHBOUR: 'it returns false'. Refute it at one input. -/
def topExtentWrong : ChangeSpec := { name := "topExtent", fn := fun _ => fun
  | [d1, d2, d3, d4] => { results := [.lit (.bool false)], args := [d1, d2, d3, d4] }
  | _ => none }
def TopExtentWrongFalsely : Prop := topExtentRow.holds Try.pinned (OpenSpec.ofChange topExtentWrong)

/-- 'campaniletop.TopMirror': WHATEVER THE INPUT: true; the input reads as it did. -/
def topMirrorSpec : ChangeSpec := { name := "topMirror", fn := fun _ => fun
  | [d1, d2, d3, d4] => { results := [.lit (.bool true)], args := [d1, d2, d3, d4] }
  | _ => none }
def topMirrorRow : OpenClaim := { program := "ytlhnpkaohfoicaa", sum := "4f788d1ecf977bb6053f9bdec48684d3b37620439131f8d41715f46f989d8263", func := "campanile/campaniletop.TopMirror", spec := "topMirror", apart := false }
def TopMirrorSaid : Prop := topMirrorRow.holds Try.pinned (OpenSpec.ofChange topMirrorSpec)

/-- ITS FALSE NEIGHBOUR: 'it returns false'. Refute it at one input. -/
def topMirrorWrong : ChangeSpec := { name := "topMirror", fn := fun _ => fun
  | [d1, d2, d3, d4] => { results := [.lit (.bool false)], args := [d1, d2, d3, d4] }
  | _ => none }
def TopMirrorWrongFalsely : Prop := topMirrorRow.holds Try.pinned (OpenSpec.ofChange topMirrorWrong)

/-- 'campaniletop.TopMusic': WHATEVER THE INPUT: true; the input reads as it did. -/
def topMusicSpec : ChangeSpec := { name := "topMusic", fn := fun _ => fun
  | [d1, d2, d3] => { results := [.lit (.bool true)], args := [d1, d2, d3] }
  | _ => none }
def topMusicRow : OpenClaim := { program := "ytlhnpkaohfoicaa", sum := "4f788d1ecf977bb6053f9bdec48684d3b37620439131f8d41715f46f989d8263", func := "campanile/campaniletop.TopMusic", spec := "topMusic", inPlace := ["internal/bytealg.IndexByteString", "internal/bytealg.IndexString"], recurses := true, named := ["internal/bytealg.MaxLen"], apart := false }
def TopMusicSaid : Prop := topMusicRow.holds Try.pinned (OpenSpec.ofChange topMusicSpec)

/-- ITS FALSE NEIGHBOUR: 'it returns false'. Refute it at one input. -/
def topMusicWrong : ChangeSpec := { name := "topMusic", fn := fun _ => fun
  | [d1, d2, d3] => { results := [.lit (.bool false)], args := [d1, d2, d3] }
  | _ => none }
def TopMusicWrongFalsely : Prop := topMusicRow.holds Try.pinned (OpenSpec.ofChange topMusicWrong)

/-- 'campaniletop.TopRow': WHATEVER THE INPUT: true; the input reads as it did. -/
def topRowSpec : ChangeSpec := { name := "topRow", fn := fun _ => fun
  | [d1, d2, d3, d4] => { results := [.lit (.bool true)], args := [d1, d2, d3, d4] }
  | _ => none }
def topRowRow : OpenClaim := { program := "ytlhnpkaohfoicaa", sum := "4f788d1ecf977bb6053f9bdec48684d3b37620439131f8d41715f46f989d8263", func := "campanile/campaniletop.TopRow", spec := "topRow", inPlace := ["internal/abi.NoEscape", "internal/bytealg.IndexByteString", "internal/bytealg.IndexString"], recurses := true, named := ["internal/bytealg.MaxLen"], apart := false }
def TopRowSaid : Prop := topRowRow.holds Try.pinned (OpenSpec.ofChange topRowSpec)

/-- ITS FALSE NEIGHBOUR: 'it returns false'. Refute it at one input. -/
def topRowWrong : ChangeSpec := { name := "topRow", fn := fun _ => fun
  | [d1, d2, d3, d4] => { results := [.lit (.bool false)], args := [d1, d2, d3, d4] }
  | _ => none }
def TopRowWrongFalsely : Prop := topRowRow.holds Try.pinned (OpenSpec.ofChange topRowWrong)

/-- 'campaniletop.TopFalse': WHATEVER THE INPUT: true; the input reads as it did. -/
def topFalseSpec : ChangeSpec := { name := "topFalse", fn := fun _ => fun
  | [d1, d2, d3] => { results := [.lit (.bool true)], args := [d1, d2, d3] }
  | _ => none }
def topFalseRow : OpenClaim := { program := "ytlhnpkaohfoicaa", sum := "4f788d1ecf977bb6053f9bdec48684d3b37620439131f8d41715f46f989d8263", func := "campanile/campaniletop.TopFalse", spec := "topFalse", unfollowed := true, recurses := true, apart := false }
def TopFalseSaid : Prop := topFalseRow.holds Try.pinned (OpenSpec.ofChange topFalseSpec)

/-- ITS FALSE NEIGHBOUR: 'it returns false'. Refute it at one input. -/
def topFalseWrong : ChangeSpec := { name := "topFalse", fn := fun _ => fun
  | [d1, d2, d3] => { results := [.lit (.bool false)], args := [d1, d2, d3] }
  | _ => none }
def TopFalseWrongFalsely : Prop := topFalseRow.holds Try.pinned (OpenSpec.ofChange topFalseWrong)

/-- 'campaniletop.TopTruth': WHATEVER THE INPUT: true; the input reads as it did. -/
def topTruthSpec : ChangeSpec := { name := "topTruth", fn := fun _ => fun
  | [d1, d2, d3, d4, d5] => { results := [.lit (.bool true)], args := [d1, d2, d3, d4, d5] }
  | _ => none }
def topTruthRow : OpenClaim := { program := "ytlhnpkaohfoicaa", sum := "4f788d1ecf977bb6053f9bdec48684d3b37620439131f8d41715f46f989d8263", func := "campanile/campaniletop.TopTruth", spec := "topTruth", unfollowed := true, recurses := true, apart := false }
def TopTruthSaid : Prop := topTruthRow.holds Try.pinned (OpenSpec.ofChange topTruthSpec)

/-- ITS FALSE NEIGHBOUR: 'it returns false'. Refute it at one input. -/
def topTruthWrong : ChangeSpec := { name := "topTruth", fn := fun _ => fun
  | [d1, d2, d3, d4, d5] => { results := [.lit (.bool false)], args := [d1, d2, d3, d4, d5] }
  | _ => none }
def TopTruthWrongFalsely : Prop := topTruthRow.holds Try.pinned (OpenSpec.ofChange topTruthWrong)

/- THE SECOND FORM. 'bulk': how many values and letters a reading holds, each counted each time it is reached (what is shared counts as often as it is met; a slice's spare places count too). A statement '..UptoSaid' is the law's where the arguments, and the package variables that the reading takes, are together of bulk at most 1048576: NARROWER than '..Said'. Prove '..Said' where nothing that the law and all that it calls make is longer than what came in: it says more and counts as full. Else prove '..UptoSaid'. A law counts once. -/
mutual
def uptoBulk {H : Type} : DataW H → Nat
  | .lit (.string bytes) => bytes.length + 1
  | .lit _ => 1
  | .nil => 1
  | .ptr d => uptoBulk d + 1
  | .slice elems spare => uptoBulkAll elems + uptoBulkAll spare + 1
  | .agg parts => uptoBulkAll parts + 1
  | .iface _ d => uptoBulk d + 1
  | .map entries => uptoBulkEntries entries + 1
  | .held _ => 1
def uptoBulkAll {H : Type} : List (DataW H) → Nat
  | [] => 0
  | d :: r => uptoBulk d + uptoBulkAll r
def uptoBulkEntries {H : Type} : List (Lit × DataW H) → Nat
  | [] => 0
  | x :: r => uptoBulkEntry x + uptoBulkEntries r
def uptoBulkEntry {H : Type} : Lit × DataW H → Nat
  | (.string bytes, d) => bytes.length + uptoBulk d + 1
  | (_, d) => uptoBulk d + 1
 end
def uptoSmall : (H : Type) → List (DataW H) → Bool := fun _ ds => decide (uptoBulkAll ds ≤ 1048576)
def OpenSpec.upto (s : _root_.Go.ChangeSpec) : _root_.Go.OpenSpec := { _root_.Go.OpenSpec.ofChange s with cond := some uptoSmall }

/-- 'campanilelaw.StrikeJudges', WHERE WHAT IT READS IS OF BULK AT MOST 1048576: true; the input reads as it did. -/
def strikeJudgesUptoRow : OpenClaim := { program := "ytlhnpkaohfoicaa", sum := "4f788d1ecf977bb6053f9bdec48684d3b37620439131f8d41715f46f989d8263", func := "campanile/campanilelaw.StrikeJudges", spec := "strikeJudges", inPlace := ["math.Float64bits", "math.Float64frombits", "math.sqrt"], apart := false, narrowed := true }
def StrikeJudgesUptoSaid : Prop := strikeJudgesUptoRow.holds Try.pinned (OpenSpec.upto strikeJudgesSpec)

/-- 'campanilelaw.ExtentCircuits', WHERE WHAT IT READS IS OF BULK AT MOST 1048576: true; the input reads as it did. -/
def extentCircuitsUptoRow : OpenClaim := { program := "ytlhnpkaohfoicaa", sum := "4f788d1ecf977bb6053f9bdec48684d3b37620439131f8d41715f46f989d8263", func := "campanile/campanilelaw.ExtentCircuits", spec := "extentCircuits", recurses := true, apart := false, narrowed := true }
def ExtentCircuitsUptoSaid : Prop := extentCircuitsUptoRow.holds Try.pinned (OpenSpec.upto extentCircuitsSpec)

/-- 'campanilelaw.StrikeSums', WHERE WHAT IT READS IS OF BULK AT MOST 1048576: true; the input reads as it did. -/
def strikeSumsUptoRow : OpenClaim := { program := "ytlhnpkaohfoicaa", sum := "4f788d1ecf977bb6053f9bdec48684d3b37620439131f8d41715f46f989d8263", func := "campanile/campanilelaw.StrikeSums", spec := "strikeSums", inPlace := ["math.Float64bits", "math.Float64frombits", "math.sqrt", "sync/atomic.LoadUint32", "(*internal/sync.Mutex).Lock", "internal/race.Disable", "sync/atomic.CompareAndSwapInt32", "internal/race.Enable", "internal/race.Acquire", "(*internal/sync.Mutex).lockSlow", "internal/sync.runtime_canSpin", "internal/sync.runtime_doSpin", "internal/sync.throw", "internal/sync.runtime_nanotime", "internal/sync.runtime_SemacquireMutex", "sync/atomic.AddInt32", "(*internal/sync.Mutex).Unlock", "internal/race.ReleaseMerge", "(*internal/sync.Mutex).unlockSlow", "internal/sync.fatal", "internal/sync.runtime_Semrelease", "sync/atomic.StoreUint32"], unfollowed := true, recurses := true, apart := false, narrowed := true }
def StrikeSumsUptoSaid : Prop := strikeSumsUptoRow.holds Try.pinned (OpenSpec.upto strikeSumsSpec)

/-- 'campanilelaw.MusicSays', WHERE WHAT IT READS IS OF BULK AT MOST 1048576: true; the input reads as it did. -/
def musicSaysUptoRow : OpenClaim := { program := "ytlhnpkaohfoicaa", sum := "4f788d1ecf977bb6053f9bdec48684d3b37620439131f8d41715f46f989d8263", func := "campanile/campanilelaw.MusicSays", spec := "musicSays", inPlace := ["internal/bytealg.IndexByteString", "internal/bytealg.IndexString"], recurses := true, named := ["internal/bytealg.MaxLen"], apart := false, narrowed := true }
def MusicSaysUptoSaid : Prop := musicSaysUptoRow.holds Try.pinned (OpenSpec.upto musicSaysSpec)

/-- 'campanilelaw.RowSays', WHERE WHAT IT READS IS OF BULK AT MOST 1048576: true; the input reads as it did. -/
def rowSaysUptoRow : OpenClaim := { program := "ytlhnpkaohfoicaa", sum := "4f788d1ecf977bb6053f9bdec48684d3b37620439131f8d41715f46f989d8263", func := "campanile/campanilelaw.RowSays", spec := "rowSays", inPlace := ["internal/abi.NoEscape", "internal/bytealg.IndexByteString", "internal/bytealg.IndexString"], recurses := true, named := ["internal/bytealg.MaxLen"], apart := false, narrowed := true }
def RowSaysUptoSaid : Prop := rowSaysUptoRow.holds Try.pinned (OpenSpec.upto rowSaysSpec)

/-- 'campaniletop.TopStruck', WHERE WHAT IT READS IS OF BULK AT MOST 1048576: true; the input reads as it did. -/
def topStruckUptoRow : OpenClaim := { program := "ytlhnpkaohfoicaa", sum := "4f788d1ecf977bb6053f9bdec48684d3b37620439131f8d41715f46f989d8263", func := "campanile/campaniletop.TopStruck", spec := "topStruck", inPlace := ["math.Float64bits", "math.Float64frombits", "math.sqrt"], apart := false, narrowed := true }
def TopStruckUptoSaid : Prop := topStruckUptoRow.holds Try.pinned (OpenSpec.upto topStruckSpec)

/-- 'campaniletop.TopExtent', WHERE WHAT IT READS IS OF BULK AT MOST 1048576: true; the input reads as it did. -/
def topExtentUptoRow : OpenClaim := { program := "ytlhnpkaohfoicaa", sum := "4f788d1ecf977bb6053f9bdec48684d3b37620439131f8d41715f46f989d8263", func := "campanile/campaniletop.TopExtent", spec := "topExtent", recurses := true, apart := false, narrowed := true }
def TopExtentUptoSaid : Prop := topExtentUptoRow.holds Try.pinned (OpenSpec.upto topExtentSpec)

/-- 'campaniletop.TopMirror', WHERE WHAT IT READS IS OF BULK AT MOST 1048576: true; the input reads as it did. -/
def topMirrorUptoRow : OpenClaim := { program := "ytlhnpkaohfoicaa", sum := "4f788d1ecf977bb6053f9bdec48684d3b37620439131f8d41715f46f989d8263", func := "campanile/campaniletop.TopMirror", spec := "topMirror", apart := false, narrowed := true }
def TopMirrorUptoSaid : Prop := topMirrorUptoRow.holds Try.pinned (OpenSpec.upto topMirrorSpec)

/-- 'campaniletop.TopMusic', WHERE WHAT IT READS IS OF BULK AT MOST 1048576: true; the input reads as it did. -/
def topMusicUptoRow : OpenClaim := { program := "ytlhnpkaohfoicaa", sum := "4f788d1ecf977bb6053f9bdec48684d3b37620439131f8d41715f46f989d8263", func := "campanile/campaniletop.TopMusic", spec := "topMusic", inPlace := ["internal/bytealg.IndexByteString", "internal/bytealg.IndexString"], recurses := true, named := ["internal/bytealg.MaxLen"], apart := false, narrowed := true }
def TopMusicUptoSaid : Prop := topMusicUptoRow.holds Try.pinned (OpenSpec.upto topMusicSpec)

/-- 'campaniletop.TopRow', WHERE WHAT IT READS IS OF BULK AT MOST 1048576: true; the input reads as it did. -/
def topRowUptoRow : OpenClaim := { program := "ytlhnpkaohfoicaa", sum := "4f788d1ecf977bb6053f9bdec48684d3b37620439131f8d41715f46f989d8263", func := "campanile/campaniletop.TopRow", spec := "topRow", inPlace := ["internal/abi.NoEscape", "internal/bytealg.IndexByteString", "internal/bytealg.IndexString"], recurses := true, named := ["internal/bytealg.MaxLen"], apart := false, narrowed := true }
def TopRowUptoSaid : Prop := topRowUptoRow.holds Try.pinned (OpenSpec.upto topRowSpec)

/-- 'campaniletop.TopFalse', WHERE WHAT IT READS IS OF BULK AT MOST 1048576: true; the input reads as it did. -/
def topFalseUptoRow : OpenClaim := { program := "ytlhnpkaohfoicaa", sum := "4f788d1ecf977bb6053f9bdec48684d3b37620439131f8d41715f46f989d8263", func := "campanile/campaniletop.TopFalse", spec := "topFalse", unfollowed := true, recurses := true, apart := false, narrowed := true }
def TopFalseUptoSaid : Prop := topFalseUptoRow.holds Try.pinned (OpenSpec.upto topFalseSpec)

/-- 'campaniletop.TopTruth', WHERE WHAT IT READS IS OF BULK AT MOST 1048576: true; the input reads as it did. -/
def topTruthUptoRow : OpenClaim := { program := "ytlhnpkaohfoicaa", sum := "4f788d1ecf977bb6053f9bdec48684d3b37620439131f8d41715f46f989d8263", func := "campanile/campaniletop.TopTruth", spec := "topTruth", unfollowed := true, recurses := true, apart := false, narrowed := true }
def TopTruthUptoSaid : Prop := topTruthUptoRow.holds Try.pinned (OpenSpec.upto topTruthSpec)

end Rows
end Go.Proofs.Ytlhnpkaohfoicaa
