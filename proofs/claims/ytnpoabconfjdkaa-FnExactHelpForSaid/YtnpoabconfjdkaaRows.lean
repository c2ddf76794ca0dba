/-
  No cell of these rows narrows 'for every input' (looked for: loops, veiled, ifaces, maps, wideKeys, modest, calm, conditions, laid).
  DERIVED. THE GIVEN ROWS OF THIS SEAT. 9 by the template 'for every input the law returns true; each argument reads behind the call as it read before'; 0 by the template 'total and deterministic' (their statements: YtnpoabconfjdkaaTotals.lean).
  GIVEN WITH THE SEED: the statements are not yours to turn. If you find one false, say at which input.
  Laid BY PROGRAM, IN A SANDBOX (cutbox-rows.mjs): the forced cells as the released guide's own fill.sh prints them over the translation ddc878673bb8389f… (all of the seat's roots in one cut). By AI agents, Wed Nov 11 2026. No macro, syntax, notation, axiom, sorry.
-/
import Derived.Test.YtnpoabconfjdkaaChecked
import GoSem.Claim
import GoSem.ClaimJoined
import GoSem.ClaimMapViews
import Derived.JoinedTies
import Derived.KernelRfl
namespace Go.Proofs.Ytnpoabconfjdkaa
/- THE CELL 'sum', in the pinned program and in every row, IS THE sha256 OF THE DUMP (.gsa) THAT YtnpoabconfjdkaaProg.lean LOADS. Nothing in Lean hashes anything: it is a label: what it is worth is what the hold of that sum in a sandbox is worth. -/
noncomputable def Try.pinned : Pinned := { name := "ytnpoabconfjdkaa", sum := "ddc878673bb8389f22837fed4445cc00727b58c3348735bddcdc9c8b2a907c37", checked := Try.checked }
namespace Rows
def none {H : Type} : Left H := { results := [], args := [] }

/-- 'laws.FnExactStartAt': WHATEVER THE INPUT: true; the input reads as it did. -/
def fnExactStartAtSpec : ChangeSpec := { name := "fnExactStartAt", fn := fun _ => fun
  | [d1, d2, d3] => { results := [.lit (.bool true)], args := [d1, d2, d3] }
  | _ => none }
def fnExactStartAtRow : OpenClaim := { program := "ytnpoabconfjdkaa", sum := "ddc878673bb8389f22837fed4445cc00727b58c3348735bddcdc9c8b2a907c37", func := "loop.example/g00627/laws.FnExactStartAt", spec := "fnExactStartAt", apart := false }
def FnExactStartAtSaid : Prop := fnExactStartAtRow.holds Try.pinned (OpenSpec.ofChange fnExactStartAtSpec)

/-- ITS FALSE NEIGHBOUR: 'it returns false'. Refute it at one input. -/
def fnExactStartAtWrong : ChangeSpec := { name := "fnExactStartAt", fn := fun _ => fun
  | [d1, d2, d3] => { results := [.lit (.bool false)], args := [d1, d2, d3] }
  | _ => none }
def FnExactStartAtWrongFalsely : Prop := fnExactStartAtRow.holds Try.pinned (OpenSpec.ofChange fnExactStartAtWrong)

/-- 'laws.FnExactGoodPace': WHATEVER THE INPUT: true; the input reads as it did. -/
def fnExactGoodPaceSpec : ChangeSpec := { name := "fnExactGoodPace", fn := fun _ => fun
  | [d] => { results := [.lit (.bool true)], args := [d] }
  | _ => none }
def fnExactGoodPaceRow : OpenClaim := { program := "ytnpoabconfjdkaa", sum := "ddc878673bb8389f22837fed4445cc00727b58c3348735bddcdc9c8b2a907c37", func := "loop.example/g00627/laws.FnExactGoodPace", spec := "fnExactGoodPace", apart := false }
def FnExactGoodPaceSaid : Prop := fnExactGoodPaceRow.holds Try.pinned (OpenSpec.ofChange fnExactGoodPaceSpec)

/-- ITS FALSE NEIGHBOUR: 'it returns false'. Refute it at one input. -/
def fnExactGoodPaceWrong : ChangeSpec := { name := "fnExactGoodPace", fn := fun _ => fun
  | [d] => { results := [.lit (.bool false)], args := [d] }
  | _ => none }
def FnExactGoodPaceWrongFalsely : Prop := fnExactGoodPaceRow.holds Try.pinned (OpenSpec.ofChange fnExactGoodPaceWrong)

/-- 'laws.FnExactGoalFor': WHATEVER THE INPUT: true; the input reads as it did. -/
def fnExactGoalForSpec : ChangeSpec := { name := "fnExactGoalFor", fn := fun _ => fun
  | [d1, d2] => { results := [.lit (.bool true)], args := [d1, d2] }
  | _ => none }
def fnExactGoalForRow : OpenClaim := { program := "ytnpoabconfjdkaa", sum := "ddc878673bb8389f22837fed4445cc00727b58c3348735bddcdc9c8b2a907c37", func := "loop.example/g00627/laws.FnExactGoalFor", spec := "fnExactGoalFor", apart := false }
def FnExactGoalForSaid : Prop := fnExactGoalForRow.holds Try.pinned (OpenSpec.ofChange fnExactGoalForSpec)

/-- ITS FALSE NEIGHBOUR: 'it returns false'. Refute it at one input. -/
def fnExactGoalForWrong : ChangeSpec := { name := "fnExactGoalFor", fn := fun _ => fun
  | [d1, d2] => { results := [.lit (.bool false)], args := [d1, d2] }
  | _ => none }
def FnExactGoalForWrongFalsely : Prop := fnExactGoalForRow.holds Try.pinned (OpenSpec.ofChange fnExactGoalForWrong)

/-- 'laws.FnExactNewPace': WHATEVER THE INPUT: true; the input reads as it did. -/
def fnExactNewPaceSpec : ChangeSpec := { name := "fnExactNewPace", fn := fun _ => fun
  | [d1, d2, d3] => { results := [.lit (.bool true)], args := [d1, d2, d3] }
  | _ => none }
def fnExactNewPaceRow : OpenClaim := { program := "ytnpoabconfjdkaa", sum := "ddc878673bb8389f22837fed4445cc00727b58c3348735bddcdc9c8b2a907c37", func := "loop.example/g00627/laws.FnExactNewPace", spec := "fnExactNewPace", apart := false }
def FnExactNewPaceSaid : Prop := fnExactNewPaceRow.holds Try.pinned (OpenSpec.ofChange fnExactNewPaceSpec)

/-- ITS FALSE NEIGHBOUR: 'it returns false'. Refute it at one input. -/
def fnExactNewPaceWrong : ChangeSpec := { name := "fnExactNewPace", fn := fun _ => fun
  | [d1, d2, d3] => { results := [.lit (.bool false)], args := [d1, d2, d3] }
  | _ => none }
def FnExactNewPaceWrongFalsely : Prop := fnExactNewPaceRow.holds Try.pinned (OpenSpec.ofChange fnExactNewPaceWrong)

/-- 'laws.FnExactHelpFor': WHATEVER THE INPUT: true; the input reads as it did. -/
def fnExactHelpForSpec : ChangeSpec := { name := "fnExactHelpFor", fn := fun _ => fun
  | [d1, d2] => { results := [.lit (.bool true)], args := [d1, d2] }
  | _ => none }
def fnExactHelpForRow : OpenClaim := { program := "ytnpoabconfjdkaa", sum := "ddc878673bb8389f22837fed4445cc00727b58c3348735bddcdc9c8b2a907c37", func := "loop.example/g00627/laws.FnExactHelpFor", spec := "fnExactHelpFor", apart := false }
def FnExactHelpForSaid : Prop := fnExactHelpForRow.holds Try.pinned (OpenSpec.ofChange fnExactHelpForSpec)

/-- ITS FALSE NEIGHBOUR: 'it returns false'. Refute it at one input. -/
def fnExactHelpForWrong : ChangeSpec := { name := "fnExactHelpFor", fn := fun _ => fun
  | [d1, d2] => { results := [.lit (.bool false)], args := [d1, d2] }
  | _ => none }
def FnExactHelpForWrongFalsely : Prop := fnExactHelpForRow.holds Try.pinned (OpenSpec.ofChange fnExactHelpForWrong)

/-- 'laws.FnExactTakeWords': WHATEVER THE INPUT: true; the input reads as it did. -/
def fnExactTakeWordsSpec : ChangeSpec := { name := "fnExactTakeWords", fn := fun _ => fun
  | [d1, d2] => { results := [.lit (.bool true)], args := [d1, d2] }
  | _ => none }
def fnExactTakeWordsRow : OpenClaim := { program := "ytnpoabconfjdkaa", sum := "ddc878673bb8389f22837fed4445cc00727b58c3348735bddcdc9c8b2a907c37", func := "loop.example/g00627/laws.FnExactTakeWords", spec := "fnExactTakeWords", apart := false }
def FnExactTakeWordsSaid : Prop := fnExactTakeWordsRow.holds Try.pinned (OpenSpec.ofChange fnExactTakeWordsSpec)

/-- ITS FALSE NEIGHBOUR: 'it returns false'. Refute it at one input. -/
def fnExactTakeWordsWrong : ChangeSpec := { name := "fnExactTakeWords", fn := fun _ => fun
  | [d1, d2] => { results := [.lit (.bool false)], args := [d1, d2] }
  | _ => none }
def FnExactTakeWordsWrongFalsely : Prop := fnExactTakeWordsRow.holds Try.pinned (OpenSpec.ofChange fnExactTakeWordsWrong)

/-- 'laws.FnExactTakeAll': WHATEVER THE INPUT: true; the input reads as it did. -/
def fnExactTakeAllSpec : ChangeSpec := { name := "fnExactTakeAll", fn := fun _ => fun
  | [d1, d2] => { results := [.lit (.bool true)], args := [d1, d2] }
  | _ => none }
def fnExactTakeAllRow : OpenClaim := { program := "ytnpoabconfjdkaa", sum := "ddc878673bb8389f22837fed4445cc00727b58c3348735bddcdc9c8b2a907c37", func := "loop.example/g00627/laws.FnExactTakeAll", spec := "fnExactTakeAll", unfollowed := true, recurses := true, apart := false }
def FnExactTakeAllSaid : Prop := fnExactTakeAllRow.holds Try.pinned (OpenSpec.ofChange fnExactTakeAllSpec)

/-- ITS FALSE NEIGHBOUR: 'it returns false'. Refute it at one input. -/
def fnExactTakeAllWrong : ChangeSpec := { name := "fnExactTakeAll", fn := fun _ => fun
  | [d1, d2] => { results := [.lit (.bool false)], args := [d1, d2] }
  | _ => none }
def FnExactTakeAllWrongFalsely : Prop := fnExactTakeAllRow.holds Try.pinned (OpenSpec.ofChange fnExactTakeAllWrong)

/-- 'laws.FnGoals': WHATEVER THE INPUT: true; the input reads as it did. -/
def fnGoalsSpec : ChangeSpec := { name := "fnGoals", fn := fun _ => fun
  | [d1, d2] => { results := [.lit (.bool true)], args := [d1, d2] }
  | _ => none }
def fnGoalsRow : OpenClaim := { program := "ytnpoabconfjdkaa", sum := "ddc878673bb8389f22837fed4445cc00727b58c3348735bddcdc9c8b2a907c37", func := "loop.example/g00627/laws.FnGoals", spec := "fnGoals", apart := false }
def FnGoalsSaid : Prop := fnGoalsRow.holds Try.pinned (OpenSpec.ofChange fnGoalsSpec)

/-- ITS FALSE NEIGHBOUR: 'it returns false'. Refute it at one input. -/
def fnGoalsWrong : ChangeSpec := { name := "fnGoals", fn := fun _ => fun
  | [d1, d2] => { results := [.lit (.bool false)], args := [d1, d2] }
  | _ => none }
def FnGoalsWrongFalsely : Prop := fnGoalsRow.holds Try.pinned (OpenSpec.ofChange fnGoalsWrong)

/-- 'laws.FnPace': WHATEVER THE INPUT: true; the input reads as it did. -/
def fnPaceSpec : ChangeSpec := { name := "fnPace", fn := fun _ => fun
  | [d1, d2] => { results := [.lit (.bool true)], args := [d1, d2] }
  | _ => none }
def fnPaceRow : OpenClaim := { program := "ytnpoabconfjdkaa", sum := "ddc878673bb8389f22837fed4445cc00727b58c3348735bddcdc9c8b2a907c37", func := "loop.example/g00627/laws.FnPace", spec := "fnPace", unfollowed := true, recurses := true, apart := false }
def FnPaceSaid : Prop := fnPaceRow.holds Try.pinned (OpenSpec.ofChange fnPaceSpec)

/-- ITS FALSE NEIGHBOUR: 'it returns false'. Refute it at one input. -/
def fnPaceWrong : ChangeSpec := { name := "fnPace", fn := fun _ => fun
  | [d1, d2] => { results := [.lit (.bool false)], args := [d1, d2] }
  | _ => none }
def FnPaceWrongFalsely : Prop := fnPaceRow.holds Try.pinned (OpenSpec.ofChange fnPaceWrong)

/- THE SECOND FORM. 'bulk': how many values and letters a reading holds, each counted each time it is reached (what is shared counts as often as it is met; a slice's spare places count too). A statement '..UptoSaid' is the law's where the arguments, and the package variables that the reading takes, are together of bulk at most 1048576: NARROWER than '..Said'. Prove '..Said' where nothing that the law and all that it calls make is longer than what came in: it says more and counts as full. Else prove '..UptoSaid'. A law counts once. -/
mutual
def uptoBulk {H : Type} : DataW H → Nat
  | .lit (.string bytes) => bytes.length + 1
  | .lit _ => 1
  | .nil => 1
  | .ptr d => uptoBulk d + 1
  | .slice elems spare => uptoBulkAll elems + uptoBulkAll spare + 1
  | .agg parts => uptoBulkAll parts + 1
  | .iface _ d => uptoBulk d + 1
  | .map entries => uptoBulkEntries entries + 1
  | .held _ => 1
def uptoBulkAll {H : Type} : List (DataW H) → Nat
  | [] => 0
  | d :: r => uptoBulk d + uptoBulkAll r
def uptoBulkEntries {H : Type} : List (Lit × DataW H) → Nat
  | [] => 0
  | x :: r => uptoBulkEntry x + uptoBulkEntries r
def uptoBulkEntry {H : Type} : Lit × DataW H → Nat
  | (.string bytes, d) => bytes.length + uptoBulk d + 1
  | (_, d) => uptoBulk d + 1
 end
def uptoSmall : (H : Type) → List (DataW H) → Bool := fun _ ds => decide (uptoBulkAll ds ≤ 1048576)
def OpenSpec.upto (s : _root_.Go.ChangeSpec) : _root_.Go.OpenSpec := { _root_.Go.OpenSpec.ofChange s with cond := some uptoSmall }

/-- 'laws.FnExactStartAt', WHERE WHAT IT READS IS OF BULK AT MOST 1048576: true; the input reads as it did. -/
def fnExactStartAtUptoRow : OpenClaim := { program := "ytnpoabconfjdkaa", sum := "ddc878673bb8389f22837fed4445cc00727b58c3348735bddcdc9c8b2a907c37", func := "loop.example/g00627/laws.FnExactStartAt", spec := "fnExactStartAt", apart := false, narrowed := true }
def FnExactStartAtUptoSaid : Prop := fnExactStartAtUptoRow.holds Try.pinned (OpenSpec.upto fnExactStartAtSpec)

/-- 'laws.FnExactGoodPace', WHERE WHAT IT READS IS OF BULK AT MOST 1048576: true; the input reads as it did. -/
def fnExactGoodPaceUptoRow : OpenClaim := { program := "ytnpoabconfjdkaa", sum := "ddc878673bb8389f22837fed4445cc00727b58c3348735bddcdc9c8b2a907c37", func := "loop.example/g00627/laws.FnExactGoodPace", spec := "fnExactGoodPace", apart := false, narrowed := true }
def FnExactGoodPaceUptoSaid : Prop := fnExactGoodPaceUptoRow.holds Try.pinned (OpenSpec.upto fnExactGoodPaceSpec)

/-- 'laws.FnExactGoalFor', WHERE WHAT IT READS IS OF BULK AT MOST 1048576: true; the input reads as it did. -/
def fnExactGoalForUptoRow : OpenClaim := { program := "ytnpoabconfjdkaa", sum := "ddc878673bb8389f22837fed4445cc00727b58c3348735bddcdc9c8b2a907c37", func := "loop.example/g00627/laws.FnExactGoalFor", spec := "fnExactGoalFor", apart := false, narrowed := true }
def FnExactGoalForUptoSaid : Prop := fnExactGoalForUptoRow.holds Try.pinned (OpenSpec.upto fnExactGoalForSpec)

/-- 'laws.FnExactNewPace', WHERE WHAT IT READS IS OF BULK AT MOST 1048576: true; the input reads as it did. -/
def fnExactNewPaceUptoRow : OpenClaim := { program := "ytnpoabconfjdkaa", sum := "ddc878673bb8389f22837fed4445cc00727b58c3348735bddcdc9c8b2a907c37", func := "loop.example/g00627/laws.FnExactNewPace", spec := "fnExactNewPace", apart := false, narrowed := true }
def FnExactNewPaceUptoSaid : Prop := fnExactNewPaceUptoRow.holds Try.pinned (OpenSpec.upto fnExactNewPaceSpec)

/-- 'laws.FnExactHelpFor', WHERE WHAT IT READS IS OF BULK AT MOST 1048576: true; the input reads as it did. -/
def fnExactHelpForUptoRow : OpenClaim := { program := "ytnpoabconfjdkaa", sum := "ddc878673bb8389f22837fed4445cc00727b58c3348735bddcdc9c8b2a907c37", func := "loop.example/g00627/laws.FnExactHelpFor", spec := "fnExactHelpFor", apart := false, narrowed := true }
def FnExactHelpForUptoSaid : Prop := fnExactHelpForUptoRow.holds Try.pinned (OpenSpec.upto fnExactHelpForSpec)

/-- 'laws.FnExactTakeWords', WHERE WHAT IT READS IS OF BULK AT MOST 1048576: true; the input reads as it did. -/
def fnExactTakeWordsUptoRow : OpenClaim := { program := "ytnpoabconfjdkaa", sum := "ddc878673bb8389f22837fed4445cc00727b58c3348735bddcdc9c8b2a907c37", func := "loop.example/g00627/laws.FnExactTakeWords", spec := "fnExactTakeWords", apart := false, narrowed := true }
def FnExactTakeWordsUptoSaid : Prop := fnExactTakeWordsUptoRow.holds Try.pinned (OpenSpec.upto fnExactTakeWordsSpec)

/-- 'laws.FnExactTakeAll', WHERE WHAT IT READS IS OF BULK AT MOST 1048576: true; the input reads as it did. -/
def fnExactTakeAllUptoRow : OpenClaim := { program := "ytnpoabconfjdkaa", sum := "ddc878673bb8389f22837fed4445cc00727b58c3348735bddcdc9c8b2a907c37", func := "loop.example/g00627/laws.FnExactTakeAll", spec := "fnExactTakeAll", unfollowed := true, recurses := true, apart := false, narrowed := true }
def FnExactTakeAllUptoSaid : Prop := fnExactTakeAllUptoRow.holds Try.pinned (OpenSpec.upto fnExactTakeAllSpec)

/-- 'laws.FnGoals', WHERE WHAT IT READS IS OF BULK AT MOST 1048576: true; the input reads as it did. -/
def fnGoalsUptoRow : OpenClaim := { program := "ytnpoabconfjdkaa", sum := "ddc878673bb8389f22837fed4445cc00727b58c3348735bddcdc9c8b2a907c37", func := "loop.example/g00627/laws.FnGoals", spec := "fnGoals", apart := false, narrowed := true }
def FnGoalsUptoSaid : Prop := fnGoalsUptoRow.holds Try.pinned (OpenSpec.upto fnGoalsSpec)

/-- 'laws.FnPace', WHERE WHAT IT READS IS OF BULK AT MOST 1048576: true; the input reads as it did. -/
def fnPaceUptoRow : OpenClaim := { program := "ytnpoabconfjdkaa", sum := "ddc878673bb8389f22837fed4445cc00727b58c3348735bddcdc9c8b2a907c37", func := "loop.example/g00627/laws.FnPace", spec := "fnPace", unfollowed := true, recurses := true, apart := false, narrowed := true }
def FnPaceUptoSaid : Prop := fnPaceUptoRow.holds Try.pinned (OpenSpec.upto fnPaceSpec)

end Rows
end Go.Proofs.Ytnpoabconfjdkaa
