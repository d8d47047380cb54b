/-
  No cell of these rows narrows 'for every input' (looked for: loops, veiled, ifaces, maps, wideKeys, modest, calm, conditions, laid).
  DERIVED. THE GIVEN ROWS OF THIS SEAT. 9 by the template 'for every input the law returns true; each argument reads behind the call as it read before'; 0 by the template 'total and deterministic' (their statements: YtbilebfnanlgfaaTotals.lean).
  GIVEN WITH THE SEED: the statements are not yours to turn. If you find one false, say at which input.
  Laid BY PROGRAM, IN A SANDBOX (cutbox-rows.mjs): the forced cells as the released guide's own fill.sh prints them over the translation 09aa23e3b8b863c4… (all of the seat's roots in one cut). By AI agents, Wed Nov 11 2026. No macro, syntax, notation, axiom, sorry.
-/
import Derived.Test.YtbilebfnanlgfaaChecked
import GoSem.Claim
import GoSem.ClaimJoined
import GoSem.ClaimMapViews
import Derived.JoinedTies
import Derived.KernelRfl
namespace Go.Proofs.Ytbilebfnanlgfaa
/- THE CELL 'sum', in the pinned program and in every row, IS THE sha256 OF THE DUMP (.gsa) THAT YtbilebfnanlgfaaProg.lean LOADS. Nothing in Lean hashes anything: it is a label: what it is worth is what the hold of that sum in a sandbox is worth. -/
noncomputable def Try.pinned : Pinned := { name := "ytbilebfnanlgfaa", sum := "09aa23e3b8b863c4e8f3e385224d8944f6bf67ac6b13bb1e5dac1f85cd91d2b5", checked := Try.checked }
namespace Rows
def none {H : Type} : Left H := { results := [], args := [] }

/-- 'campanilelaw.CallParses': WHATEVER THE INPUT: true; the input reads as it did. -/
def callParsesSpec : ChangeSpec := { name := "callParses", fn := fun _ => fun
  | [d1, d2] => { results := [.lit (.bool true)], args := [d1, d2] }
  | _ => none }
def callParsesRow : OpenClaim := { program := "ytbilebfnanlgfaa", sum := "09aa23e3b8b863c4e8f3e385224d8944f6bf67ac6b13bb1e5dac1f85cd91d2b5", func := "campanile/campanilelaw.CallParses", spec := "callParses", unfollowed := true, recurses := true, apart := false }
def CallParsesSaid : Prop := callParsesRow.holds Try.pinned (OpenSpec.ofChange callParsesSpec)

/-- ITS FALSE NEIGHBOUR: 'it returns false'. Refute it at one input. -/
def callParsesWrong : ChangeSpec := { name := "callParses", fn := fun _ => fun
  | [d1, d2] => { results := [.lit (.bool false)], args := [d1, d2] }
  | _ => none }
def CallParsesWrongFalsely : Prop := callParsesRow.holds Try.pinned (OpenSpec.ofChange callParsesWrong)

/-- 'campanilelaw.SearchSays': WHATEVER THE INPUT: true; the input reads as it did. -/
def searchSaysSpec : ChangeSpec := { name := "searchSays", fn := fun _ => fun
  | [d1, d2, d3, d4] => { results := [.lit (.bool true)], args := [d1, d2, d3, d4] }
  | _ => none }
def searchSaysRow : OpenClaim := { program := "ytbilebfnanlgfaa", sum := "09aa23e3b8b863c4e8f3e385224d8944f6bf67ac6b13bb1e5dac1f85cd91d2b5", func := "campanile/campanilelaw.SearchSays", spec := "searchSays", unfollowed := true, recurses := true, apart := false }
def SearchSaysSaid : Prop := searchSaysRow.holds Try.pinned (OpenSpec.ofChange searchSaysSpec)

/-- ITS FALSE NEIGHBOUR: 'it returns false'. Refute it at one input. -/
def searchSaysWrong : ChangeSpec := { name := "searchSays", fn := fun _ => fun
  | [d1, d2, d3, d4] => { results := [.lit (.bool false)], args := [d1, d2, d3, d4] }
  | _ => none }
def SearchSaysWrongFalsely : Prop := searchSaysRow.holds Try.pinned (OpenSpec.ofChange searchSaysWrong)

/-- 'campanilelaw.SearchMade': WHATEVER THE INPUT: true; the input reads as it did. -/
def searchMadeSpec : ChangeSpec := { name := "searchMade", fn := fun _ => fun
  | [d1, d2, d3, d4, d5, d6] => { results := [.lit (.bool true)], args := [d1, d2, d3, d4, d5, d6] }
  | _ => none }
def searchMadeRow : OpenClaim := { program := "ytbilebfnanlgfaa", sum := "09aa23e3b8b863c4e8f3e385224d8944f6bf67ac6b13bb1e5dac1f85cd91d2b5", func := "campanile/campanilelaw.SearchMade", spec := "searchMade", unfollowed := true, recurses := true, apart := false }
def SearchMadeSaid : Prop := searchMadeRow.holds Try.pinned (OpenSpec.ofChange searchMadeSpec)

/-- ITS FALSE NEIGHBOUR: 'it returns false'. Refute it at one input. -/
def searchMadeWrong : ChangeSpec := { name := "searchMade", fn := fun _ => fun
  | [d1, d2, d3, d4, d5, d6] => { results := [.lit (.bool false)], args := [d1, d2, d3, d4, d5, d6] }
  | _ => none }
def SearchMadeWrongFalsely : Prop := searchMadeRow.holds Try.pinned (OpenSpec.ofChange searchMadeWrong)

/-- 'campanilelaw.TruthSays': WHATEVER THE INPUT: true; the input reads as it did. -/
def truthSaysSpec : ChangeSpec := { name := "truthSays", fn := fun _ => fun
  | [d1, d2, d3] => { results := [.lit (.bool true)], args := [d1, d2, d3] }
  | _ => none }
def truthSaysRow : OpenClaim := { program := "ytbilebfnanlgfaa", sum := "09aa23e3b8b863c4e8f3e385224d8944f6bf67ac6b13bb1e5dac1f85cd91d2b5", func := "campanile/campanilelaw.TruthSays", spec := "truthSays", unfollowed := true, recurses := true, apart := false }
def TruthSaysSaid : Prop := truthSaysRow.holds Try.pinned (OpenSpec.ofChange truthSaysSpec)

/-- ITS FALSE NEIGHBOUR: 'it returns false'. Refute it at one input. -/
def truthSaysWrong : ChangeSpec := { name := "truthSays", fn := fun _ => fun
  | [d1, d2, d3] => { results := [.lit (.bool false)], args := [d1, d2, d3] }
  | _ => none }
def TruthSaysWrongFalsely : Prop := truthSaysRow.holds Try.pinned (OpenSpec.ofChange truthSaysWrong)

/-- 'campanilelaw.TruthMade': WHATEVER THE INPUT: true; the input reads as it did. -/
def truthMadeSpec : ChangeSpec := { name := "truthMade", fn := fun _ => fun
  | [d1, d2, d3, d4, d5] => { results := [.lit (.bool true)], args := [d1, d2, d3, d4, d5] }
  | _ => none }
def truthMadeRow : OpenClaim := { program := "ytbilebfnanlgfaa", sum := "09aa23e3b8b863c4e8f3e385224d8944f6bf67ac6b13bb1e5dac1f85cd91d2b5", func := "campanile/campanilelaw.TruthMade", spec := "truthMade", unfollowed := true, recurses := true, apart := false }
def TruthMadeSaid : Prop := truthMadeRow.holds Try.pinned (OpenSpec.ofChange truthMadeSpec)

/-- ITS FALSE NEIGHBOUR: 'it returns false'. Refute it at one input. -/
def truthMadeWrong : ChangeSpec := { name := "truthMade", fn := fun _ => fun
  | [d1, d2, d3, d4, d5] => { results := [.lit (.bool false)], args := [d1, d2, d3, d4, d5] }
  | _ => none }
def TruthMadeWrongFalsely : Prop := truthMadeRow.holds Try.pinned (OpenSpec.ofChange truthMadeWrong)

/-- 'campaniletop.TopMusic': WHATEVER THE INPUT: true; the input reads as it did. -/
def topMusicSpec : ChangeSpec := { name := "topMusic", fn := fun _ => fun
  | [d1, d2, d3] => { results := [.lit (.bool true)], args := [d1, d2, d3] }
  | _ => none }
def topMusicRow : OpenClaim := { program := "ytbilebfnanlgfaa", sum := "09aa23e3b8b863c4e8f3e385224d8944f6bf67ac6b13bb1e5dac1f85cd91d2b5", func := "campanile/campaniletop.TopMusic", spec := "topMusic", inPlace := ["internal/bytealg.IndexByteString", "internal/bytealg.IndexString"], recurses := true, named := ["internal/bytealg.MaxLen"], apart := false }
def TopMusicSaid : Prop := topMusicRow.holds Try.pinned (OpenSpec.ofChange topMusicSpec)

/-- ITS FALSE NEIGHBOUR: 'it returns false'. Refute it at one input. -/
def topMusicWrong : ChangeSpec := { name := "topMusic", fn := fun _ => fun
  | [d1, d2, d3] => { results := [.lit (.bool false)], args := [d1, d2, d3] }
  | _ => none }
def TopMusicWrongFalsely : Prop := topMusicRow.holds Try.pinned (OpenSpec.ofChange topMusicWrong)

/-- 'campaniletop.TopSearch': WHATEVER THE INPUT: true; the input reads as it did. -/
def topSearchSpec : ChangeSpec := { name := "topSearch", fn := fun _ => fun
  | [d1, d2, d3, d4, d5, d6, d7] => { results := [.lit (.bool true)], args := [d1, d2, d3, d4, d5, d6, d7] }
  | _ => none }
def topSearchRow : OpenClaim := { program := "ytbilebfnanlgfaa", sum := "09aa23e3b8b863c4e8f3e385224d8944f6bf67ac6b13bb1e5dac1f85cd91d2b5", func := "campanile/campaniletop.TopSearch", spec := "topSearch", unfollowed := true, recurses := true, apart := false }
def TopSearchSaid : Prop := topSearchRow.holds Try.pinned (OpenSpec.ofChange topSearchSpec)

/-- ITS FALSE NEIGHBOUR: 'it returns false'. Refute it at one input. -/
def topSearchWrong : ChangeSpec := { name := "topSearch", fn := fun _ => fun
  | [d1, d2, d3, d4, d5, d6, d7] => { results := [.lit (.bool false)], args := [d1, d2, d3, d4, d5, d6, d7] }
  | _ => none }
def TopSearchWrongFalsely : Prop := topSearchRow.holds Try.pinned (OpenSpec.ofChange topSearchWrong)

/-- 'campaniletop.TopFalse': WHATEVER THE INPUT: true; the input reads as it did. -/
def topFalseSpec : ChangeSpec := { name := "topFalse", fn := fun _ => fun
  | [d1, d2, d3] => { results := [.lit (.bool true)], args := [d1, d2, d3] }
  | _ => none }
def topFalseRow : OpenClaim := { program := "ytbilebfnanlgfaa", sum := "09aa23e3b8b863c4e8f3e385224d8944f6bf67ac6b13bb1e5dac1f85cd91d2b5", func := "campanile/campaniletop.TopFalse", spec := "topFalse", unfollowed := true, recurses := true, apart := false }
def TopFalseSaid : Prop := topFalseRow.holds Try.pinned (OpenSpec.ofChange topFalseSpec)

/-- ITS FALSE NEIGHBOUR: 'it returns false'. Refute it at one input. -/
def topFalseWrong : ChangeSpec := { name := "topFalse", fn := fun _ => fun
  | [d1, d2, d3] => { results := [.lit (.bool false)], args := [d1, d2, d3] }
  | _ => none }
def TopFalseWrongFalsely : Prop := topFalseRow.holds Try.pinned (OpenSpec.ofChange topFalseWrong)

/-- 'campaniletop.TopTruth': WHATEVER THE INPUT: true; the input reads as it did. -/
def topTruthSpec : ChangeSpec := { name := "topTruth", fn := fun _ => fun
  | [d1, d2, d3, d4, d5] => { results := [.lit (.bool true)], args := [d1, d2, d3, d4, d5] }
  | _ => none }
def topTruthRow : OpenClaim := { program := "ytbilebfnanlgfaa", sum := "09aa23e3b8b863c4e8f3e385224d8944f6bf67ac6b13bb1e5dac1f85cd91d2b5", func := "campanile/campaniletop.TopTruth", spec := "topTruth", unfollowed := true, recurses := true, apart := false }
def TopTruthSaid : Prop := topTruthRow.holds Try.pinned (OpenSpec.ofChange topTruthSpec)

/-- ITS FALSE NEIGHBOUR: 'it returns false'. Refute it at one input. -/
def topTruthWrong : ChangeSpec := { name := "topTruth", fn := fun _ => fun
  | [d1, d2, d3, d4, d5] => { results := [.lit (.bool false)], args := [d1, d2, d3, d4, d5] }
  | _ => none }
def TopTruthWrongFalsely : Prop := topTruthRow.holds Try.pinned (OpenSpec.ofChange topTruthWrong)

/- THE SECOND FORM. 'bulk': how many values and letters a reading holds, each counted each time it is reached (what is shared counts as often as it is met; a slice's spare places count too). A statement '..UptoSaid' is the law's where the arguments, and the package variables that the reading takes, are together of bulk at most 1048576: NARROWER than '..Said'. Prove '..Said' where nothing that the law and all that it calls make is longer than what came in: it says more and counts as full. Else prove '..UptoSaid'. A law counts once. -/
mutual
def uptoBulk {H : Type} : DataW H → Nat
  | .lit (.string bytes) => bytes.length + 1
  | .lit _ => 1
  | .nil => 1
  | .ptr d => uptoBulk d + 1
  | .slice elems spare => uptoBulkAll elems + uptoBulkAll spare + 1
  | .agg parts => uptoBulkAll parts + 1
  | .iface _ d => uptoBulk d + 1
  | .map entries => uptoBulkEntries entries + 1
  | .held _ => 1
def uptoBulkAll {H : Type} : List (DataW H) → Nat
  | [] => 0
  | d :: r => uptoBulk d + uptoBulkAll r
def uptoBulkEntries {H : Type} : List (Lit × DataW H) → Nat
  | [] => 0
  | x :: r => uptoBulkEntry x + uptoBulkEntries r
def uptoBulkEntry {H : Type} : Lit × DataW H → Nat
  | (.string bytes, d) => bytes.length + uptoBulk d + 1
  | (_, d) => uptoBulk d + 1
 end
def uptoSmall : (H : Type) → List (DataW H) → Bool := fun _ ds => decide (uptoBulkAll ds ≤ 1048576)
def OpenSpec.upto (s : _root_.Go.ChangeSpec) : _root_.Go.OpenSpec := { _root_.Go.OpenSpec.ofChange s with cond := some uptoSmall }

/-- 'campanilelaw.CallParses', WHERE WHAT IT READS IS OF BULK AT MOST 1048576: true; the input reads as it did. -/
def callParsesUptoRow : OpenClaim := { program := "ytbilebfnanlgfaa", sum := "09aa23e3b8b863c4e8f3e385224d8944f6bf67ac6b13bb1e5dac1f85cd91d2b5", func := "campanile/campanilelaw.CallParses", spec := "callParses", unfollowed := true, recurses := true, apart := false, narrowed := true }
def CallParsesUptoSaid : Prop := callParsesUptoRow.holds Try.pinned (OpenSpec.upto callParsesSpec)

/-- 'campanilelaw.SearchSays', WHERE WHAT IT READS IS OF BULK AT MOST 1048576: true; the input reads as it did. -/
def searchSaysUptoRow : OpenClaim := { program := "ytbilebfnanlgfaa", sum := "09aa23e3b8b863c4e8f3e385224d8944f6bf67ac6b13bb1e5dac1f85cd91d2b5", func := "campanile/campanilelaw.SearchSays", spec := "searchSays", unfollowed := true, recurses := true, apart := false, narrowed := true }
def SearchSaysUptoSaid : Prop := searchSaysUptoRow.holds Try.pinned (OpenSpec.upto searchSaysSpec)

/-- 'campanilelaw.SearchMade', WHERE WHAT IT READS IS OF BULK AT MOST 1048576: true; the input reads as it did. -/
def searchMadeUptoRow : OpenClaim := { program := "ytbilebfnanlgfaa", sum := "09aa23e3b8b863c4e8f3e385224d8944f6bf67ac6b13bb1e5dac1f85cd91d2b5", func := "campanile/campanilelaw.SearchMade", spec := "searchMade", unfollowed := true, recurses := true, apart := false, narrowed := true }
def SearchMadeUptoSaid : Prop := searchMadeUptoRow.holds Try.pinned (OpenSpec.upto searchMadeSpec)

/-- 'campanilelaw.TruthSays', WHERE WHAT IT READS IS OF BULK AT MOST 1048576: true; the input reads as it did. -/
def truthSaysUptoRow : OpenClaim := { program := "ytbilebfnanlgfaa", sum := "09aa23e3b8b863c4e8f3e385224d8944f6bf67ac6b13bb1e5dac1f85cd91d2b5", func := "campanile/campanilelaw.TruthSays", spec := "truthSays", unfollowed := true, recurses := true, apart := false, narrowed := true }
def TruthSaysUptoSaid : Prop := truthSaysUptoRow.holds Try.pinned (OpenSpec.upto truthSaysSpec)

/-- 'campanilelaw.TruthMade', WHERE WHAT IT READS IS OF BULK AT MOST 1048576: true; the input reads as it did. -/
def truthMadeUptoRow : OpenClaim := { program := "ytbilebfnanlgfaa", sum := "09aa23e3b8b863c4e8f3e385224d8944f6bf67ac6b13bb1e5dac1f85cd91d2b5", func := "campanile/campanilelaw.TruthMade", spec := "truthMade", unfollowed := true, recurses := true, apart := false, narrowed := true }
def TruthMadeUptoSaid : Prop := truthMadeUptoRow.holds Try.pinned (OpenSpec.upto truthMadeSpec)

/-- 'campaniletop.TopMusic', WHERE WHAT IT READS IS OF BULK AT MOST 1048576: true; the input reads as it did. -/
def topMusicUptoRow : OpenClaim := { program := "ytbilebfnanlgfaa", sum := "09aa23e3b8b863c4e8f3e385224d8944f6bf67ac6b13bb1e5dac1f85cd91d2b5", func := "campanile/campaniletop.TopMusic", spec := "topMusic", inPlace := ["internal/bytealg.IndexByteString", "internal/bytealg.IndexString"], recurses := true, named := ["internal/bytealg.MaxLen"], apart := false, narrowed := true }
def TopMusicUptoSaid : Prop := topMusicUptoRow.holds Try.pinned (OpenSpec.upto topMusicSpec)

/-- 'campaniletop.TopSearch', WHERE WHAT IT READS IS OF BULK AT MOST 1048576: true; the input reads as it did. -/
def topSearchUptoRow : OpenClaim := { program := "ytbilebfnanlgfaa", sum := "09aa23e3b8b863c4e8f3e385224d8944f6bf67ac6b13bb1e5dac1f85cd91d2b5", func := "campanile/campaniletop.TopSearch", spec := "topSearch", unfollowed := true, recurses := true, apart := false, narrowed := true }
def TopSearchUptoSaid : Prop := topSearchUptoRow.holds Try.pinned (OpenSpec.upto topSearchSpec)

/-- 'campaniletop.TopFalse', WHERE WHAT IT READS IS OF BULK AT MOST 1048576: true; the input reads as it did. -/
def topFalseUptoRow : OpenClaim := { program := "ytbilebfnanlgfaa", sum := "09aa23e3b8b863c4e8f3e385224d8944f6bf67ac6b13bb1e5dac1f85cd91d2b5", func := "campanile/campaniletop.TopFalse", spec := "topFalse", unfollowed := true, recurses := true, apart := false, narrowed := true }
def TopFalseUptoSaid : Prop := topFalseUptoRow.holds Try.pinned (OpenSpec.upto topFalseSpec)

/-- 'campaniletop.TopTruth', WHERE WHAT IT READS IS OF BULK AT MOST 1048576: true; the input reads as it did. -/
def topTruthUptoRow : OpenClaim := { program := "ytbilebfnanlgfaa", sum := "09aa23e3b8b863c4e8f3e385224d8944f6bf67ac6b13bb1e5dac1f85cd91d2b5", func := "campanile/campaniletop.TopTruth", spec := "topTruth", unfollowed := true, recurses := true, apart := false, narrowed := true }
def TopTruthUptoSaid : Prop := topTruthUptoRow.holds Try.pinned (OpenSpec.upto topTruthSpec)

end Rows
end Go.Proofs.Ytbilebfnanlgfaa
