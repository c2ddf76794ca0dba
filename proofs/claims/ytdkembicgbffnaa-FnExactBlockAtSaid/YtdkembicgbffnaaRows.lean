/-
  No cell of these rows narrows 'for every input' (looked for: loops, veiled, ifaces, maps, wideKeys, modest, calm, conditions, laid).
  DERIVED. THE GIVEN ROWS OF THIS SEAT. 9 by the template 'for every input the law returns true; each argument reads behind the call as it read before'; 0 by the template 'total and deterministic' (their statements: YtdkembicgbffnaaTotals.lean).
  GIVEN WITH THE SEED: the statements are not yours to turn. If you find one false, say at which input.
  Laid BY PROGRAM, IN A SANDBOX (cutbox-rows.mjs): the forced cells as the released guide's own fill.sh prints them over the translation dca663ec8f54d280… (all of the seat's roots in one cut). By AI agents, Wed Nov 11 2026. No macro, syntax, notation, axiom, sorry.
-/
import Derived.Test.YtdkembicgbffnaaChecked
import GoSem.Claim
import GoSem.ClaimJoined
import GoSem.ClaimMapViews
import Derived.JoinedTies
import Derived.KernelRfl
namespace Go.Proofs.Ytdkembicgbffnaa
/- THE CELL 'sum', in the pinned program and in every row, IS THE sha256 OF THE DUMP (.gsa) THAT YtdkembicgbffnaaProg.lean LOADS. Nothing in Lean hashes anything: it is a label: what it is worth is what the hold of that sum in a sandbox is worth. -/
noncomputable def Try.pinned : Pinned := { name := "ytdkembicgbffnaa", sum := "dca663ec8f54d28052f734098e3143d6f85a263c62540db3ef76994db042957a", checked := Try.checked }
namespace Rows
def none {H : Type} : Left H := { results := [], args := [] }

/-- 'laws.FnExactGoodBlocks': WHATEVER THE INPUT: true; the input reads as it did. -/
def fnExactGoodBlocksSpec : ChangeSpec := { name := "fnExactGoodBlocks", fn := fun _ => fun
  | [d] => { results := [.lit (.bool true)], args := [d] }
  | _ => none }
def fnExactGoodBlocksRow : OpenClaim := { program := "ytdkembicgbffnaa", sum := "dca663ec8f54d28052f734098e3143d6f85a263c62540db3ef76994db042957a", func := "loop.example/g00627/laws.FnExactGoodBlocks", spec := "fnExactGoodBlocks", unfollowed := true, recurses := true, apart := false }
def FnExactGoodBlocksSaid : Prop := fnExactGoodBlocksRow.holds Try.pinned (OpenSpec.ofChange fnExactGoodBlocksSpec)

/-- ITS FALSE NEIGHBOUR: 'it returns false'. Refute it at one input. -/
def fnExactGoodBlocksWrong : ChangeSpec := { name := "fnExactGoodBlocks", fn := fun _ => fun
  | [d] => { results := [.lit (.bool false)], args := [d] }
  | _ => none }
def FnExactGoodBlocksWrongFalsely : Prop := fnExactGoodBlocksRow.holds Try.pinned (OpenSpec.ofChange fnExactGoodBlocksWrong)

/-- 'laws.FnExactFollowName': WHATEVER THE INPUT: true; the input reads as it did. -/
def fnExactFollowNameSpec : ChangeSpec := { name := "fnExactFollowName", fn := fun _ => fun
  | [d1, d2, d3] => { results := [.lit (.bool true)], args := [d1, d2, d3] }
  | _ => none }
def fnExactFollowNameRow : OpenClaim := { program := "ytdkembicgbffnaa", sum := "dca663ec8f54d28052f734098e3143d6f85a263c62540db3ef76994db042957a", func := "loop.example/g00627/laws.FnExactFollowName", spec := "fnExactFollowName", unfollowed := true, recurses := true, apart := false }
def FnExactFollowNameSaid : Prop := fnExactFollowNameRow.holds Try.pinned (OpenSpec.ofChange fnExactFollowNameSpec)

/-- ITS FALSE NEIGHBOUR: 'it returns false'. Refute it at one input. -/
def fnExactFollowNameWrong : ChangeSpec := { name := "fnExactFollowName", fn := fun _ => fun
  | [d1, d2, d3] => { results := [.lit (.bool false)], args := [d1, d2, d3] }
  | _ => none }
def FnExactFollowNameWrongFalsely : Prop := fnExactFollowNameRow.holds Try.pinned (OpenSpec.ofChange fnExactFollowNameWrong)

/-- 'laws.FnExactBlockAt': WHATEVER THE INPUT: true; the input reads as it did. -/
def fnExactBlockAtSpec : ChangeSpec := { name := "fnExactBlockAt", fn := fun _ => fun
  | [d1, d2] => { results := [.lit (.bool true)], args := [d1, d2] }
  | _ => none }
def fnExactBlockAtRow : OpenClaim := { program := "ytdkembicgbffnaa", sum := "dca663ec8f54d28052f734098e3143d6f85a263c62540db3ef76994db042957a", func := "loop.example/g00627/laws.FnExactBlockAt", spec := "fnExactBlockAt", unfollowed := true, recurses := true, apart := false }
def FnExactBlockAtSaid : Prop := fnExactBlockAtRow.holds Try.pinned (OpenSpec.ofChange fnExactBlockAtSpec)

/-- ITS FALSE NEIGHBOUR: 'it returns false'. Refute it at one input. -/
def fnExactBlockAtWrong : ChangeSpec := { name := "fnExactBlockAt", fn := fun _ => fun
  | [d1, d2] => { results := [.lit (.bool false)], args := [d1, d2] }
  | _ => none }
def FnExactBlockAtWrongFalsely : Prop := fnExactBlockAtRow.holds Try.pinned (OpenSpec.ofChange fnExactBlockAtWrong)

/-- 'laws.FnExactTopOf': WHATEVER THE INPUT: true; the input reads as it did. -/
def fnExactTopOfSpec : ChangeSpec := { name := "fnExactTopOf", fn := fun _ => fun
  | [d] => { results := [.lit (.bool true)], args := [d] }
  | _ => none }
def fnExactTopOfRow : OpenClaim := { program := "ytdkembicgbffnaa", sum := "dca663ec8f54d28052f734098e3143d6f85a263c62540db3ef76994db042957a", func := "loop.example/g00627/laws.FnExactTopOf", spec := "fnExactTopOf", unfollowed := true, recurses := true, apart := false }
def FnExactTopOfSaid : Prop := fnExactTopOfRow.holds Try.pinned (OpenSpec.ofChange fnExactTopOfSpec)

/-- ITS FALSE NEIGHBOUR: 'it returns false'. Refute it at one input. -/
def fnExactTopOfWrong : ChangeSpec := { name := "fnExactTopOf", fn := fun _ => fun
  | [d] => { results := [.lit (.bool false)], args := [d] }
  | _ => none }
def FnExactTopOfWrongFalsely : Prop := fnExactTopOfRow.holds Try.pinned (OpenSpec.ofChange fnExactTopOfWrong)

/-- 'laws.FnExactGapsIn': WHATEVER THE INPUT: true; the input reads as it did. -/
def fnExactGapsInSpec : ChangeSpec := { name := "fnExactGapsIn", fn := fun _ => fun
  | [d] => { results := [.lit (.bool true)], args := [d] }
  | _ => none }
def fnExactGapsInRow : OpenClaim := { program := "ytdkembicgbffnaa", sum := "dca663ec8f54d28052f734098e3143d6f85a263c62540db3ef76994db042957a", func := "loop.example/g00627/laws.FnExactGapsIn", spec := "fnExactGapsIn", unfollowed := true, recurses := true, apart := false }
def FnExactGapsInSaid : Prop := fnExactGapsInRow.holds Try.pinned (OpenSpec.ofChange fnExactGapsInSpec)

/-- ITS FALSE NEIGHBOUR: 'it returns false'. Refute it at one input. -/
def fnExactGapsInWrong : ChangeSpec := { name := "fnExactGapsIn", fn := fun _ => fun
  | [d] => { results := [.lit (.bool false)], args := [d] }
  | _ => none }
def FnExactGapsInWrongFalsely : Prop := fnExactGapsInRow.holds Try.pinned (OpenSpec.ofChange fnExactGapsInWrong)

/-- 'laws.FnExactNewPlaces': WHATEVER THE INPUT: true; the input reads as it did. -/
def fnExactNewPlacesSpec : ChangeSpec := { name := "fnExactNewPlaces", fn := fun _ => fun
  | [d] => { results := [.lit (.bool true)], args := [d] }
  | _ => none }
def fnExactNewPlacesRow : OpenClaim := { program := "ytdkembicgbffnaa", sum := "dca663ec8f54d28052f734098e3143d6f85a263c62540db3ef76994db042957a", func := "loop.example/g00627/laws.FnExactNewPlaces", spec := "fnExactNewPlaces", unfollowed := true, recurses := true, apart := false }
def FnExactNewPlacesSaid : Prop := fnExactNewPlacesRow.holds Try.pinned (OpenSpec.ofChange fnExactNewPlacesSpec)

/-- ITS FALSE NEIGHBOUR: 'it returns false'. Refute it at one input. -/
def fnExactNewPlacesWrong : ChangeSpec := { name := "fnExactNewPlaces", fn := fun _ => fun
  | [d] => { results := [.lit (.bool false)], args := [d] }
  | _ => none }
def FnExactNewPlacesWrongFalsely : Prop := fnExactNewPlacesRow.holds Try.pinned (OpenSpec.ofChange fnExactNewPlacesWrong)

/-- 'laws.FnExactSlideBlocks': WHATEVER THE INPUT: true; the input reads as it did. -/
def fnExactSlideBlocksSpec : ChangeSpec := { name := "fnExactSlideBlocks", fn := fun _ => fun
  | [d] => { results := [.lit (.bool true)], args := [d] }
  | _ => none }
def fnExactSlideBlocksRow : OpenClaim := { program := "ytdkembicgbffnaa", sum := "dca663ec8f54d28052f734098e3143d6f85a263c62540db3ef76994db042957a", func := "loop.example/g00627/laws.FnExactSlideBlocks", spec := "fnExactSlideBlocks", unfollowed := true, recurses := true, apart := false }
def FnExactSlideBlocksSaid : Prop := fnExactSlideBlocksRow.holds Try.pinned (OpenSpec.ofChange fnExactSlideBlocksSpec)

/-- ITS FALSE NEIGHBOUR: 'it returns false'. Refute it at one input. -/
def fnExactSlideBlocksWrong : ChangeSpec := { name := "fnExactSlideBlocks", fn := fun _ => fun
  | [d] => { results := [.lit (.bool false)], args := [d] }
  | _ => none }
def FnExactSlideBlocksWrongFalsely : Prop := fnExactSlideBlocksRow.holds Try.pinned (OpenSpec.ofChange fnExactSlideBlocksWrong)

/-- 'laws.FnGaps': WHATEVER THE INPUT: true; the input reads as it did. -/
def fnGapsSpec : ChangeSpec := { name := "fnGaps", fn := fun _ => fun
  | [d1, d2] => { results := [.lit (.bool true)], args := [d1, d2] }
  | _ => none }
def fnGapsRow : OpenClaim := { program := "ytdkembicgbffnaa", sum := "dca663ec8f54d28052f734098e3143d6f85a263c62540db3ef76994db042957a", func := "loop.example/g00627/laws.FnGaps", spec := "fnGaps", unfollowed := true, recurses := true, apart := false }
def FnGapsSaid : Prop := fnGapsRow.holds Try.pinned (OpenSpec.ofChange fnGapsSpec)

/-- ITS FALSE NEIGHBOUR: 'it returns false'. Refute it at one input. -/
def fnGapsWrong : ChangeSpec := { name := "fnGaps", fn := fun _ => fun
  | [d1, d2] => { results := [.lit (.bool false)], args := [d1, d2] }
  | _ => none }
def FnGapsWrongFalsely : Prop := fnGapsRow.holds Try.pinned (OpenSpec.ofChange fnGapsWrong)

/-- 'laws.FnSlid': WHATEVER THE INPUT: true; the input reads as it did. -/
def fnSlidSpec : ChangeSpec := { name := "fnSlid", fn := fun _ => fun
  | [d1, d2] => { results := [.lit (.bool true)], args := [d1, d2] }
  | _ => none }
def fnSlidRow : OpenClaim := { program := "ytdkembicgbffnaa", sum := "dca663ec8f54d28052f734098e3143d6f85a263c62540db3ef76994db042957a", func := "loop.example/g00627/laws.FnSlid", spec := "fnSlid", unfollowed := true, recurses := true, apart := false }
def FnSlidSaid : Prop := fnSlidRow.holds Try.pinned (OpenSpec.ofChange fnSlidSpec)

/-- ITS FALSE NEIGHBOUR: 'it returns false'. Refute it at one input. -/
def fnSlidWrong : ChangeSpec := { name := "fnSlid", fn := fun _ => fun
  | [d1, d2] => { results := [.lit (.bool false)], args := [d1, d2] }
  | _ => none }
def FnSlidWrongFalsely : Prop := fnSlidRow.holds Try.pinned (OpenSpec.ofChange fnSlidWrong)

/- THE SECOND FORM. 'bulk': how many values and letters a reading holds, each counted each time it is reached (what is shared counts as often as it is met; a slice's spare places count too). A statement '..UptoSaid' is the law's where the arguments, and the package variables that the reading takes, are together of bulk at most 1048576: NARROWER than '..Said'. Prove '..Said' where nothing that the law and all that it calls make is longer than what came in: it says more and counts as full. Else prove '..UptoSaid'. A law counts once. -/
mutual
def uptoBulk {H : Type} : DataW H → Nat
  | .lit (.string bytes) => bytes.length + 1
  | .lit _ => 1
  | .nil => 1
  | .ptr d => uptoBulk d + 1
  | .slice elems spare => uptoBulkAll elems + uptoBulkAll spare + 1
  | .agg parts => uptoBulkAll parts + 1
  | .iface _ d => uptoBulk d + 1
  | .map entries => uptoBulkEntries entries + 1
  | .held _ => 1
def uptoBulkAll {H : Type} : List (DataW H) → Nat
  | [] => 0
  | d :: r => uptoBulk d + uptoBulkAll r
def uptoBulkEntries {H : Type} : List (Lit × DataW H) → Nat
  | [] => 0
  | x :: r => uptoBulkEntry x + uptoBulkEntries r
def uptoBulkEntry {H : Type} : Lit × DataW H → Nat
  | (.string bytes, d) => bytes.length + uptoBulk d + 1
  | (_, d) => uptoBulk d + 1
 end
def uptoSmall : (H : Type) → List (DataW H) → Bool := fun _ ds => decide (uptoBulkAll ds ≤ 1048576)
def OpenSpec.upto (s : _root_.Go.ChangeSpec) : _root_.Go.OpenSpec := { _root_.Go.OpenSpec.ofChange s with cond := some uptoSmall }

/-- 'laws.FnExactGoodBlocks', WHERE WHAT IT READS IS OF BULK AT MOST 1048576: true; the input reads as it did. -/
def fnExactGoodBlocksUptoRow : OpenClaim := { program := "ytdkembicgbffnaa", sum := "dca663ec8f54d28052f734098e3143d6f85a263c62540db3ef76994db042957a", func := "loop.example/g00627/laws.FnExactGoodBlocks", spec := "fnExactGoodBlocks", unfollowed := true, recurses := true, apart := false, narrowed := true }
def FnExactGoodBlocksUptoSaid : Prop := fnExactGoodBlocksUptoRow.holds Try.pinned (OpenSpec.upto fnExactGoodBlocksSpec)

/-- 'laws.FnExactFollowName', WHERE WHAT IT READS IS OF BULK AT MOST 1048576: true; the input reads as it did. -/
def fnExactFollowNameUptoRow : OpenClaim := { program := "ytdkembicgbffnaa", sum := "dca663ec8f54d28052f734098e3143d6f85a263c62540db3ef76994db042957a", func := "loop.example/g00627/laws.FnExactFollowName", spec := "fnExactFollowName", unfollowed := true, recurses := true, apart := false, narrowed := true }
def FnExactFollowNameUptoSaid : Prop := fnExactFollowNameUptoRow.holds Try.pinned (OpenSpec.upto fnExactFollowNameSpec)

/-- 'laws.FnExactBlockAt', WHERE WHAT IT READS IS OF BULK AT MOST 1048576: true; the input reads as it did. -/
def fnExactBlockAtUptoRow : OpenClaim := { program := "ytdkembicgbffnaa", sum := "dca663ec8f54d28052f734098e3143d6f85a263c62540db3ef76994db042957a", func := "loop.example/g00627/laws.FnExactBlockAt", spec := "fnExactBlockAt", unfollowed := true, recurses := true, apart := false, narrowed := true }
def FnExactBlockAtUptoSaid : Prop := fnExactBlockAtUptoRow.holds Try.pinned (OpenSpec.upto fnExactBlockAtSpec)

/-- 'laws.FnExactTopOf', WHERE WHAT IT READS IS OF BULK AT MOST 1048576: true; the input reads as it did. -/
def fnExactTopOfUptoRow : OpenClaim := { program := "ytdkembicgbffnaa", sum := "dca663ec8f54d28052f734098e3143d6f85a263c62540db3ef76994db042957a", func := "loop.example/g00627/laws.FnExactTopOf", spec := "fnExactTopOf", unfollowed := true, recurses := true, apart := false, narrowed := true }
def FnExactTopOfUptoSaid : Prop := fnExactTopOfUptoRow.holds Try.pinned (OpenSpec.upto fnExactTopOfSpec)

/-- 'laws.FnExactGapsIn', WHERE WHAT IT READS IS OF BULK AT MOST 1048576: true; the input reads as it did. -/
def fnExactGapsInUptoRow : OpenClaim := { program := "ytdkembicgbffnaa", sum := "dca663ec8f54d28052f734098e3143d6f85a263c62540db3ef76994db042957a", func := "loop.example/g00627/laws.FnExactGapsIn", spec := "fnExactGapsIn", unfollowed := true, recurses := true, apart := false, narrowed := true }
def FnExactGapsInUptoSaid : Prop := fnExactGapsInUptoRow.holds Try.pinned (OpenSpec.upto fnExactGapsInSpec)

/-- 'laws.FnExactNewPlaces', WHERE WHAT IT READS IS OF BULK AT MOST 1048576: true; the input reads as it did. -/
def fnExactNewPlacesUptoRow : OpenClaim := { program := "ytdkembicgbffnaa", sum := "dca663ec8f54d28052f734098e3143d6f85a263c62540db3ef76994db042957a", func := "loop.example/g00627/laws.FnExactNewPlaces", spec := "fnExactNewPlaces", unfollowed := true, recurses := true, apart := false, narrowed := true }
def FnExactNewPlacesUptoSaid : Prop := fnExactNewPlacesUptoRow.holds Try.pinned (OpenSpec.upto fnExactNewPlacesSpec)

/-- 'laws.FnExactSlideBlocks', WHERE WHAT IT READS IS OF BULK AT MOST 1048576: true; the input reads as it did. -/
def fnExactSlideBlocksUptoRow : OpenClaim := { program := "ytdkembicgbffnaa", sum := "dca663ec8f54d28052f734098e3143d6f85a263c62540db3ef76994db042957a", func := "loop.example/g00627/laws.FnExactSlideBlocks", spec := "fnExactSlideBlocks", unfollowed := true, recurses := true, apart := false, narrowed := true }
def FnExactSlideBlocksUptoSaid : Prop := fnExactSlideBlocksUptoRow.holds Try.pinned (OpenSpec.upto fnExactSlideBlocksSpec)

/-- 'laws.FnGaps', WHERE WHAT IT READS IS OF BULK AT MOST 1048576: true; the input reads as it did. -/
def fnGapsUptoRow : OpenClaim := { program := "ytdkembicgbffnaa", sum := "dca663ec8f54d28052f734098e3143d6f85a263c62540db3ef76994db042957a", func := "loop.example/g00627/laws.FnGaps", spec := "fnGaps", unfollowed := true, recurses := true, apart := false, narrowed := true }
def FnGapsUptoSaid : Prop := fnGapsUptoRow.holds Try.pinned (OpenSpec.upto fnGapsSpec)

/-- 'laws.FnSlid', WHERE WHAT IT READS IS OF BULK AT MOST 1048576: true; the input reads as it did. -/
def fnSlidUptoRow : OpenClaim := { program := "ytdkembicgbffnaa", sum := "dca663ec8f54d28052f734098e3143d6f85a263c62540db3ef76994db042957a", func := "loop.example/g00627/laws.FnSlid", spec := "fnSlid", unfollowed := true, recurses := true, apart := false, narrowed := true }
def FnSlidUptoSaid : Prop := fnSlidUptoRow.holds Try.pinned (OpenSpec.upto fnSlidSpec)

end Rows
end Go.Proofs.Ytdkembicgbffnaa
