/-
  No cell of these rows narrows 'for every input' (looked for: loops, veiled, ifaces, maps, wideKeys, modest, calm, conditions, laid).
  DERIVED. THE GIVEN ROWS OF THIS SEAT. 8 by the template 'for every input the law returns true; each argument reads behind the call as it read before'; 0 by the template 'total and deterministic' (their statements: YtdeefhfiamhjbaaTotals.lean).
  GIVEN WITH THE SEED: the statements are not yours to turn. If you find one false, say at which input.
  Laid BY PROGRAM, IN A SANDBOX (cutbox-rows.mjs): the forced cells as the released guide's own fill.sh prints them over the translation 7ad182e4a789d5be… (all of the seat's roots in one cut). By AI agents, Wed Nov 11 2026. No macro, syntax, notation, axiom, sorry.
-/
import Derived.Test.YtdeefhfiamhjbaaChecked
import GoSem.Claim
import GoSem.ClaimJoined
import GoSem.ClaimMapViews
import Derived.JoinedTies
import Derived.KernelRfl
namespace Go.Proofs.Ytdeefhfiamhjbaa
/- THE CELL 'sum', in the pinned program and in every row, IS THE sha256 OF THE DUMP (.gsa) THAT YtdeefhfiamhjbaaProg.lean LOADS. Nothing in Lean hashes anything: it is a label: what it is worth is what the hold of that sum in a sandbox is worth. -/
noncomputable def Try.pinned : Pinned := { name := "ytdeefhfiamhjbaa", sum := "7ad182e4a789d5befd84eddb130b3a4badf41b00ffa488ae4bc74b14724378da", checked := Try.checked }
namespace Rows
def none {H : Type} : Left H := { results := [], args := [] }

/-- 'laws.FnExactGoodPairs': WHATEVER THE INPUT: true; the input reads as it did. -/
def fnExactGoodPairsSpec : ChangeSpec := { name := "fnExactGoodPairs", fn := fun _ => fun
  | [d1, d2] => { results := [.lit (.bool true)], args := [d1, d2] }
  | _ => none }
def fnExactGoodPairsRow : OpenClaim := { program := "ytdeefhfiamhjbaa", sum := "7ad182e4a789d5befd84eddb130b3a4badf41b00ffa488ae4bc74b14724378da", func := "loop.example/g00627/laws.FnExactGoodPairs", spec := "fnExactGoodPairs", unfollowed := true, recurses := true, apart := false }
def FnExactGoodPairsSaid : Prop := fnExactGoodPairsRow.holds Try.pinned (OpenSpec.ofChange fnExactGoodPairsSpec)

/-- ITS FALSE NEIGHBOUR: 'it returns false'. Refute it at one input. -/
def fnExactGoodPairsWrong : ChangeSpec := { name := "fnExactGoodPairs", fn := fun _ => fun
  | [d1, d2] => { results := [.lit (.bool false)], args := [d1, d2] }
  | _ => none }
def FnExactGoodPairsWrongFalsely : Prop := fnExactGoodPairsRow.holds Try.pinned (OpenSpec.ofChange fnExactGoodPairsWrong)

/-- 'laws.FnExactIsClosed': WHATEVER THE INPUT: true; the input reads as it did. -/
def fnExactIsClosedSpec : ChangeSpec := { name := "fnExactIsClosed", fn := fun _ => fun
  | [d1, d2, d3] => { results := [.lit (.bool true)], args := [d1, d2, d3] }
  | _ => none }
def fnExactIsClosedRow : OpenClaim := { program := "ytdeefhfiamhjbaa", sum := "7ad182e4a789d5befd84eddb130b3a4badf41b00ffa488ae4bc74b14724378da", func := "loop.example/g00627/laws.FnExactIsClosed", spec := "fnExactIsClosed", unfollowed := true, recurses := true, apart := false }
def FnExactIsClosedSaid : Prop := fnExactIsClosedRow.holds Try.pinned (OpenSpec.ofChange fnExactIsClosedSpec)

/-- ITS FALSE NEIGHBOUR: 'it returns false'. Refute it at one input. -/
def fnExactIsClosedWrong : ChangeSpec := { name := "fnExactIsClosed", fn := fun _ => fun
  | [d1, d2, d3] => { results := [.lit (.bool false)], args := [d1, d2, d3] }
  | _ => none }
def FnExactIsClosedWrongFalsely : Prop := fnExactIsClosedRow.holds Try.pinned (OpenSpec.ofChange fnExactIsClosedWrong)

/-- 'laws.FnExactChainOf': WHATEVER THE INPUT: true; the input reads as it did. -/
def fnExactChainOfSpec : ChangeSpec := { name := "fnExactChainOf", fn := fun _ => fun
  | [d1, d2] => { results := [.lit (.bool true)], args := [d1, d2] }
  | _ => none }
def fnExactChainOfRow : OpenClaim := { program := "ytdeefhfiamhjbaa", sum := "7ad182e4a789d5befd84eddb130b3a4badf41b00ffa488ae4bc74b14724378da", func := "loop.example/g00627/laws.FnExactChainOf", spec := "fnExactChainOf", unfollowed := true, recurses := true, apart := false }
def FnExactChainOfSaid : Prop := fnExactChainOfRow.holds Try.pinned (OpenSpec.ofChange fnExactChainOfSpec)

/-- ITS FALSE NEIGHBOUR: 'it returns false'. Refute it at one input. -/
def fnExactChainOfWrong : ChangeSpec := { name := "fnExactChainOf", fn := fun _ => fun
  | [d1, d2] => { results := [.lit (.bool false)], args := [d1, d2] }
  | _ => none }
def FnExactChainOfWrongFalsely : Prop := fnExactChainOfRow.holds Try.pinned (OpenSpec.ofChange fnExactChainOfWrong)

/-- 'laws.FnExactHeldWith': WHATEVER THE INPUT: true; the input reads as it did. -/
def fnExactHeldWithSpec : ChangeSpec := { name := "fnExactHeldWith", fn := fun _ => fun
  | [d1, d2] => { results := [.lit (.bool true)], args := [d1, d2] }
  | _ => none }
def fnExactHeldWithRow : OpenClaim := { program := "ytdeefhfiamhjbaa", sum := "7ad182e4a789d5befd84eddb130b3a4badf41b00ffa488ae4bc74b14724378da", func := "loop.example/g00627/laws.FnExactHeldWith", spec := "fnExactHeldWith", unfollowed := true, recurses := true, apart := false }
def FnExactHeldWithSaid : Prop := fnExactHeldWithRow.holds Try.pinned (OpenSpec.ofChange fnExactHeldWithSpec)

/-- ITS FALSE NEIGHBOUR: 'it returns false'. Refute it at one input. -/
def fnExactHeldWithWrong : ChangeSpec := { name := "fnExactHeldWith", fn := fun _ => fun
  | [d1, d2] => { results := [.lit (.bool false)], args := [d1, d2] }
  | _ => none }
def FnExactHeldWithWrongFalsely : Prop := fnExactHeldWithRow.holds Try.pinned (OpenSpec.ofChange fnExactHeldWithWrong)

/-- 'laws.FnExactHeldBy': WHATEVER THE INPUT: true; the input reads as it did. -/
def fnExactHeldBySpec : ChangeSpec := { name := "fnExactHeldBy", fn := fun _ => fun
  | [d1, d2, d3] => { results := [.lit (.bool true)], args := [d1, d2, d3] }
  | _ => none }
def fnExactHeldByRow : OpenClaim := { program := "ytdeefhfiamhjbaa", sum := "7ad182e4a789d5befd84eddb130b3a4badf41b00ffa488ae4bc74b14724378da", func := "loop.example/g00627/laws.FnExactHeldBy", spec := "fnExactHeldBy", unfollowed := true, recurses := true, apart := false }
def FnExactHeldBySaid : Prop := fnExactHeldByRow.holds Try.pinned (OpenSpec.ofChange fnExactHeldBySpec)

/-- ITS FALSE NEIGHBOUR: 'it returns false'. Refute it at one input. -/
def fnExactHeldByWrong : ChangeSpec := { name := "fnExactHeldBy", fn := fun _ => fun
  | [d1, d2, d3] => { results := [.lit (.bool false)], args := [d1, d2, d3] }
  | _ => none }
def FnExactHeldByWrongFalsely : Prop := fnExactHeldByRow.holds Try.pinned (OpenSpec.ofChange fnExactHeldByWrong)

/-- 'laws.FnExactClearPairs': WHATEVER THE INPUT: true; the input reads as it did. -/
def fnExactClearPairsSpec : ChangeSpec := { name := "fnExactClearPairs", fn := fun _ => fun
  | [d1, d2] => { results := [.lit (.bool true)], args := [d1, d2] }
  | _ => none }
def fnExactClearPairsRow : OpenClaim := { program := "ytdeefhfiamhjbaa", sum := "7ad182e4a789d5befd84eddb130b3a4badf41b00ffa488ae4bc74b14724378da", func := "loop.example/g00627/laws.FnExactClearPairs", spec := "fnExactClearPairs", unfollowed := true, recurses := true, apart := false }
def FnExactClearPairsSaid : Prop := fnExactClearPairsRow.holds Try.pinned (OpenSpec.ofChange fnExactClearPairsSpec)

/-- ITS FALSE NEIGHBOUR: 'it returns false'. Refute it at one input. -/
def fnExactClearPairsWrong : ChangeSpec := { name := "fnExactClearPairs", fn := fun _ => fun
  | [d1, d2] => { results := [.lit (.bool false)], args := [d1, d2] }
  | _ => none }
def FnExactClearPairsWrongFalsely : Prop := fnExactClearPairsRow.holds Try.pinned (OpenSpec.ofChange fnExactClearPairsWrong)

/-- 'laws.FnHeld': WHATEVER THE INPUT: true; the input reads as it did. -/
def fnHeldSpec : ChangeSpec := { name := "fnHeld", fn := fun _ => fun
  | [d1, d2] => { results := [.lit (.bool true)], args := [d1, d2] }
  | _ => none }
def fnHeldRow : OpenClaim := { program := "ytdeefhfiamhjbaa", sum := "7ad182e4a789d5befd84eddb130b3a4badf41b00ffa488ae4bc74b14724378da", func := "loop.example/g00627/laws.FnHeld", spec := "fnHeld", unfollowed := true, recurses := true, apart := false }
def FnHeldSaid : Prop := fnHeldRow.holds Try.pinned (OpenSpec.ofChange fnHeldSpec)

/-- ITS FALSE NEIGHBOUR: 'it returns false'. Refute it at one input. -/
def fnHeldWrong : ChangeSpec := { name := "fnHeld", fn := fun _ => fun
  | [d1, d2] => { results := [.lit (.bool false)], args := [d1, d2] }
  | _ => none }
def FnHeldWrongFalsely : Prop := fnHeldRow.holds Try.pinned (OpenSpec.ofChange fnHeldWrong)

/-- 'laws.FnCleared': WHATEVER THE INPUT: true; the input reads as it did. -/
def fnClearedSpec : ChangeSpec := { name := "fnCleared", fn := fun _ => fun
  | [d1, d2] => { results := [.lit (.bool true)], args := [d1, d2] }
  | _ => none }
def fnClearedRow : OpenClaim := { program := "ytdeefhfiamhjbaa", sum := "7ad182e4a789d5befd84eddb130b3a4badf41b00ffa488ae4bc74b14724378da", func := "loop.example/g00627/laws.FnCleared", spec := "fnCleared", unfollowed := true, recurses := true, apart := false }
def FnClearedSaid : Prop := fnClearedRow.holds Try.pinned (OpenSpec.ofChange fnClearedSpec)

/-- ITS FALSE NEIGHBOUR: 'it returns false'. Refute it at one input. -/
def fnClearedWrong : ChangeSpec := { name := "fnCleared", fn := fun _ => fun
  | [d1, d2] => { results := [.lit (.bool false)], args := [d1, d2] }
  | _ => none }
def FnClearedWrongFalsely : Prop := fnClearedRow.holds Try.pinned (OpenSpec.ofChange fnClearedWrong)

/- THE SECOND FORM. 'bulk': how many values and letters a reading holds, each counted each time it is reached (what is shared counts as often as it is met; a slice's spare places count too). A statement '..UptoSaid' is the law's where the arguments, and the package variables that the reading takes, are together of bulk at most 1048576: NARROWER than '..Said'. Prove '..Said' where nothing that the law and all that it calls make is longer than what came in: it says more and counts as full. Else prove '..UptoSaid'. A law counts once. -/
mutual
def uptoBulk {H : Type} : DataW H → Nat
  | .lit (.string bytes) => bytes.length + 1
  | .lit _ => 1
  | .nil => 1
  | .ptr d => uptoBulk d + 1
  | .slice elems spare => uptoBulkAll elems + uptoBulkAll spare + 1
  | .agg parts => uptoBulkAll parts + 1
  | .iface _ d => uptoBulk d + 1
  | .map entries => uptoBulkEntries entries + 1
  | .held _ => 1
def uptoBulkAll {H : Type} : List (DataW H) → Nat
  | [] => 0
  | d :: r => uptoBulk d + uptoBulkAll r
def uptoBulkEntries {H : Type} : List (Lit × DataW H) → Nat
  | [] => 0
  | x :: r => uptoBulkEntry x + uptoBulkEntries r
def uptoBulkEntry {H : Type} : Lit × DataW H → Nat
  | (.string bytes, d) => bytes.length + uptoBulk d + 1
  | (_, d) => uptoBulk d + 1
 end
def uptoSmall : (H : Type) → List (DataW H) → Bool := fun _ ds => decide (uptoBulkAll ds ≤ 1048576)
def OpenSpec.upto (s : _root_.Go.ChangeSpec) : _root_.Go.OpenSpec := { _root_.Go.OpenSpec.ofChange s with cond := some uptoSmall }

/-- 'laws.FnExactGoodPairs', WHERE WHAT IT READS IS OF BULK AT MOST 1048576: true; the input reads as it did. -/
def fnExactGoodPairsUptoRow : OpenClaim := { program := "ytdeefhfiamhjbaa", sum := "7ad182e4a789d5befd84eddb130b3a4badf41b00ffa488ae4bc74b14724378da", func := "loop.example/g00627/laws.FnExactGoodPairs", spec := "fnExactGoodPairs", unfollowed := true, recurses := true, apart := false, narrowed := true }
def FnExactGoodPairsUptoSaid : Prop := fnExactGoodPairsUptoRow.holds Try.pinned (OpenSpec.upto fnExactGoodPairsSpec)

/-- 'laws.FnExactIsClosed', WHERE WHAT IT READS IS OF BULK AT MOST 1048576: true; the input reads as it did. -/
def fnExactIsClosedUptoRow : OpenClaim := { program := "ytdeefhfiamhjbaa", sum := "7ad182e4a789d5befd84eddb130b3a4badf41b00ffa488ae4bc74b14724378da", func := "loop.example/g00627/laws.FnExactIsClosed", spec := "fnExactIsClosed", unfollowed := true, recurses := true, apart := false, narrowed := true }
def FnExactIsClosedUptoSaid : Prop := fnExactIsClosedUptoRow.holds Try.pinned (OpenSpec.upto fnExactIsClosedSpec)

/-- 'laws.FnExactChainOf', WHERE WHAT IT READS IS OF BULK AT MOST 1048576: true; the input reads as it did. -/
def fnExactChainOfUptoRow : OpenClaim := { program := "ytdeefhfiamhjbaa", sum := "7ad182e4a789d5befd84eddb130b3a4badf41b00ffa488ae4bc74b14724378da", func := "loop.example/g00627/laws.FnExactChainOf", spec := "fnExactChainOf", unfollowed := true, recurses := true, apart := false, narrowed := true }
def FnExactChainOfUptoSaid : Prop := fnExactChainOfUptoRow.holds Try.pinned (OpenSpec.upto fnExactChainOfSpec)

/-- 'laws.FnExactHeldWith', WHERE WHAT IT READS IS OF BULK AT MOST 1048576: true; the input reads as it did. -/
def fnExactHeldWithUptoRow : OpenClaim := { program := "ytdeefhfiamhjbaa", sum := "7ad182e4a789d5befd84eddb130b3a4badf41b00ffa488ae4bc74b14724378da", func := "loop.example/g00627/laws.FnExactHeldWith", spec := "fnExactHeldWith", unfollowed := true, recurses := true, apart := false, narrowed := true }
def FnExactHeldWithUptoSaid : Prop := fnExactHeldWithUptoRow.holds Try.pinned (OpenSpec.upto fnExactHeldWithSpec)

/-- 'laws.FnExactHeldBy', WHERE WHAT IT READS IS OF BULK AT MOST 1048576: true; the input reads as it did. -/
def fnExactHeldByUptoRow : OpenClaim := { program := "ytdeefhfiamhjbaa", sum := "7ad182e4a789d5befd84eddb130b3a4badf41b00ffa488ae4bc74b14724378da", func := "loop.example/g00627/laws.FnExactHeldBy", spec := "fnExactHeldBy", unfollowed := true, recurses := true, apart := false, narrowed := true }
def FnExactHeldByUptoSaid : Prop := fnExactHeldByUptoRow.holds Try.pinned (OpenSpec.upto fnExactHeldBySpec)

/-- 'laws.FnExactClearPairs', WHERE WHAT IT READS IS OF BULK AT MOST 1048576: true; the input reads as it did. -/
def fnExactClearPairsUptoRow : OpenClaim := { program := "ytdeefhfiamhjbaa", sum := "7ad182e4a789d5befd84eddb130b3a4badf41b00ffa488ae4bc74b14724378da", func := "loop.example/g00627/laws.FnExactClearPairs", spec := "fnExactClearPairs", unfollowed := true, recurses := true, apart := false, narrowed := true }
def FnExactClearPairsUptoSaid : Prop := fnExactClearPairsUptoRow.holds Try.pinned (OpenSpec.upto fnExactClearPairsSpec)

/-- 'laws.FnHeld', WHERE WHAT IT READS IS OF BULK AT MOST 1048576: true; the input reads as it did. -/
def fnHeldUptoRow : OpenClaim := { program := "ytdeefhfiamhjbaa", sum := "7ad182e4a789d5befd84eddb130b3a4badf41b00ffa488ae4bc74b14724378da", func := "loop.example/g00627/laws.FnHeld", spec := "fnHeld", unfollowed := true, recurses := true, apart := false, narrowed := true }
def FnHeldUptoSaid : Prop := fnHeldUptoRow.holds Try.pinned (OpenSpec.upto fnHeldSpec)

/-- 'laws.FnCleared', WHERE WHAT IT READS IS OF BULK AT MOST 1048576: true; the input reads as it did. -/
def fnClearedUptoRow : OpenClaim := { program := "ytdeefhfiamhjbaa", sum := "7ad182e4a789d5befd84eddb130b3a4badf41b00ffa488ae4bc74b14724378da", func := "loop.example/g00627/laws.FnCleared", spec := "fnCleared", unfollowed := true, recurses := true, apart := false, narrowed := true }
def FnClearedUptoSaid : Prop := fnClearedUptoRow.holds Try.pinned (OpenSpec.upto fnClearedSpec)

end Rows
end Go.Proofs.Ytdeefhfiamhjbaa
