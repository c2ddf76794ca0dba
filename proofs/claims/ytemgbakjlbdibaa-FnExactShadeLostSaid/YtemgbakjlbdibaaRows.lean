/-
  No cell of these rows narrows 'for every input' (looked for: loops, veiled, ifaces, maps, wideKeys, modest, calm, conditions, laid).
  DERIVED. THE GIVEN ROWS OF THIS SEAT. 11 by the template 'for every input the law returns true; each argument reads behind the call as it read before'; 0 by the template 'total and deterministic' (their statements: YtemgbakjlbdibaaTotals.lean).
  GIVEN WITH THE SEED: the statements are not yours to turn. If you find one false, say at which input.
  Laid BY PROGRAM, IN A SANDBOX (cutbox-rows.mjs): the forced cells as the released guide's own fill.sh prints them over the translation 061ab7657da65bdf… (all of the seat's roots in one cut). By AI agents, Wed Nov 11 2026. No macro, syntax, notation, axiom, sorry.
-/
import Derived.Test.YtemgbakjlbdibaaChecked
import GoSem.Claim
import GoSem.ClaimJoined
import GoSem.ClaimMapViews
import Derived.JoinedTies
import Derived.KernelRfl
namespace Go.Proofs.Ytemgbakjlbdibaa
/- THE CELL 'sum', in the pinned program and in every row, IS THE sha256 OF THE DUMP (.gsa) THAT YtemgbakjlbdibaaProg.lean LOADS. Nothing in Lean hashes anything: it is a label: what it is worth is what the hold of that sum in a sandbox is worth. -/
noncomputable def Try.pinned : Pinned := { name := "ytemgbakjlbdibaa", sum := "061ab7657da65bdf5320f9c3d7acf9b7da67694713fb18416b082dfae8ef8c4c", checked := Try.checked }
namespace Rows
def none {H : Type} : Left H := { results := [], args := [] }

/-- 'laws.FnExactNamesTo': WHATEVER THE INPUT: true; the input reads as it did. -/
def fnExactNamesToSpec : ChangeSpec := { name := "fnExactNamesTo", fn := fun _ => fun
  | [d1, d2] => { results := [.lit (.bool true)], args := [d1, d2] }
  | _ => none }
def fnExactNamesToRow : OpenClaim := { program := "ytemgbakjlbdibaa", sum := "061ab7657da65bdf5320f9c3d7acf9b7da67694713fb18416b082dfae8ef8c4c", func := "loop.example/g00627/laws.FnExactNamesTo", spec := "fnExactNamesTo", unfollowed := true, recurses := true, apart := false }
def FnExactNamesToSaid : Prop := fnExactNamesToRow.holds Try.pinned (OpenSpec.ofChange fnExactNamesToSpec)

/-- ITS FALSE NEIGHBOUR: 'it returns false'. Refute it at one input. -/
def fnExactNamesToWrong : ChangeSpec := { name := "fnExactNamesTo", fn := fun _ => fun
  | [d1, d2] => { results := [.lit (.bool false)], args := [d1, d2] }
  | _ => none }
def FnExactNamesToWrongFalsely : Prop := fnExactNamesToRow.holds Try.pinned (OpenSpec.ofChange fnExactNamesToWrong)

/-- 'laws.FnExactCountsOf': WHATEVER THE INPUT: true; the input reads as it did. -/
def fnExactCountsOfSpec : ChangeSpec := { name := "fnExactCountsOf", fn := fun _ => fun
  | [d] => { results := [.lit (.bool true)], args := [d] }
  | _ => none }
def fnExactCountsOfRow : OpenClaim := { program := "ytemgbakjlbdibaa", sum := "061ab7657da65bdf5320f9c3d7acf9b7da67694713fb18416b082dfae8ef8c4c", func := "loop.example/g00627/laws.FnExactCountsOf", spec := "fnExactCountsOf", unfollowed := true, recurses := true, apart := false }
def FnExactCountsOfSaid : Prop := fnExactCountsOfRow.holds Try.pinned (OpenSpec.ofChange fnExactCountsOfSpec)

/-- ITS FALSE NEIGHBOUR: 'it returns false'. Refute it at one input. -/
def fnExactCountsOfWrong : ChangeSpec := { name := "fnExactCountsOf", fn := fun _ => fun
  | [d] => { results := [.lit (.bool false)], args := [d] }
  | _ => none }
def FnExactCountsOfWrongFalsely : Prop := fnExactCountsOfRow.holds Try.pinned (OpenSpec.ofChange fnExactCountsOfWrong)

/-- 'laws.FnExactStrikeOut': WHATEVER THE INPUT: true; the input reads as it did. -/
def fnExactStrikeOutSpec : ChangeSpec := { name := "fnExactStrikeOut", fn := fun _ => fun
  | [d1, d2] => { results := [.lit (.bool true)], args := [d1, d2] }
  | _ => none }
def fnExactStrikeOutRow : OpenClaim := { program := "ytemgbakjlbdibaa", sum := "061ab7657da65bdf5320f9c3d7acf9b7da67694713fb18416b082dfae8ef8c4c", func := "loop.example/g00627/laws.FnExactStrikeOut", spec := "fnExactStrikeOut", unfollowed := true, recurses := true, apart := false }
def FnExactStrikeOutSaid : Prop := fnExactStrikeOutRow.holds Try.pinned (OpenSpec.ofChange fnExactStrikeOutSpec)

/-- ITS FALSE NEIGHBOUR: 'it returns false'. Refute it at one input. -/
def fnExactStrikeOutWrong : ChangeSpec := { name := "fnExactStrikeOut", fn := fun _ => fun
  | [d1, d2] => { results := [.lit (.bool false)], args := [d1, d2] }
  | _ => none }
def FnExactStrikeOutWrongFalsely : Prop := fnExactStrikeOutRow.holds Try.pinned (OpenSpec.ofChange fnExactStrikeOutWrong)

/-- 'laws.FnExactOuterCounts': WHATEVER THE INPUT: true; the input reads as it did. -/
def fnExactOuterCountsSpec : ChangeSpec := { name := "fnExactOuterCounts", fn := fun _ => fun
  | [d1, d2] => { results := [.lit (.bool true)], args := [d1, d2] }
  | _ => none }
def fnExactOuterCountsRow : OpenClaim := { program := "ytemgbakjlbdibaa", sum := "061ab7657da65bdf5320f9c3d7acf9b7da67694713fb18416b082dfae8ef8c4c", func := "loop.example/g00627/laws.FnExactOuterCounts", spec := "fnExactOuterCounts", unfollowed := true, recurses := true, apart := false }
def FnExactOuterCountsSaid : Prop := fnExactOuterCountsRow.holds Try.pinned (OpenSpec.ofChange fnExactOuterCountsSpec)

/-- ITS FALSE NEIGHBOUR: 'it returns false'. Refute it at one input. -/
def fnExactOuterCountsWrong : ChangeSpec := { name := "fnExactOuterCounts", fn := fun _ => fun
  | [d1, d2] => { results := [.lit (.bool false)], args := [d1, d2] }
  | _ => none }
def FnExactOuterCountsWrongFalsely : Prop := fnExactOuterCountsRow.holds Try.pinned (OpenSpec.ofChange fnExactOuterCountsWrong)

/-- 'laws.FnExactTrialOf': WHATEVER THE INPUT: true; the input reads as it did. -/
def fnExactTrialOfSpec : ChangeSpec := { name := "fnExactTrialOf", fn := fun _ => fun
  | [d1, d2] => { results := [.lit (.bool true)], args := [d1, d2] }
  | _ => none }
def fnExactTrialOfRow : OpenClaim := { program := "ytemgbakjlbdibaa", sum := "061ab7657da65bdf5320f9c3d7acf9b7da67694713fb18416b082dfae8ef8c4c", func := "loop.example/g00627/laws.FnExactTrialOf", spec := "fnExactTrialOf", unfollowed := true, recurses := true, apart := false }
def FnExactTrialOfSaid : Prop := fnExactTrialOfRow.holds Try.pinned (OpenSpec.ofChange fnExactTrialOfSpec)

/-- ITS FALSE NEIGHBOUR: 'it returns false'. Refute it at one input. -/
def fnExactTrialOfWrong : ChangeSpec := { name := "fnExactTrialOf", fn := fun _ => fun
  | [d1, d2] => { results := [.lit (.bool false)], args := [d1, d2] }
  | _ => none }
def FnExactTrialOfWrongFalsely : Prop := fnExactTrialOfRow.holds Try.pinned (OpenSpec.ofChange fnExactTrialOfWrong)

/-- 'laws.FnExactDropByCounts': WHATEVER THE INPUT: true; the input reads as it did. -/
def fnExactDropByCountsSpec : ChangeSpec := { name := "fnExactDropByCounts", fn := fun _ => fun
  | [d] => { results := [.lit (.bool true)], args := [d] }
  | _ => none }
def fnExactDropByCountsRow : OpenClaim := { program := "ytemgbakjlbdibaa", sum := "061ab7657da65bdf5320f9c3d7acf9b7da67694713fb18416b082dfae8ef8c4c", func := "loop.example/g00627/laws.FnExactDropByCounts", spec := "fnExactDropByCounts", unfollowed := true, recurses := true, apart := false }
def FnExactDropByCountsSaid : Prop := fnExactDropByCountsRow.holds Try.pinned (OpenSpec.ofChange fnExactDropByCountsSpec)

/-- ITS FALSE NEIGHBOUR: 'it returns false'. Refute it at one input. -/
def fnExactDropByCountsWrong : ChangeSpec := { name := "fnExactDropByCounts", fn := fun _ => fun
  | [d] => { results := [.lit (.bool false)], args := [d] }
  | _ => none }
def FnExactDropByCountsWrongFalsely : Prop := fnExactDropByCountsRow.holds Try.pinned (OpenSpec.ofChange fnExactDropByCountsWrong)

/-- 'laws.FnExactRingsIn': WHATEVER THE INPUT: true; the input reads as it did. -/
def fnExactRingsInSpec : ChangeSpec := { name := "fnExactRingsIn", fn := fun _ => fun
  | [d] => { results := [.lit (.bool true)], args := [d] }
  | _ => none }
def fnExactRingsInRow : OpenClaim := { program := "ytemgbakjlbdibaa", sum := "061ab7657da65bdf5320f9c3d7acf9b7da67694713fb18416b082dfae8ef8c4c", func := "loop.example/g00627/laws.FnExactRingsIn", spec := "fnExactRingsIn", unfollowed := true, recurses := true, apart := false }
def FnExactRingsInSaid : Prop := fnExactRingsInRow.holds Try.pinned (OpenSpec.ofChange fnExactRingsInSpec)

/-- ITS FALSE NEIGHBOUR: 'it returns false'. Refute it at one input. -/
def fnExactRingsInWrong : ChangeSpec := { name := "fnExactRingsIn", fn := fun _ => fun
  | [d] => { results := [.lit (.bool false)], args := [d] }
  | _ => none }
def FnExactRingsInWrongFalsely : Prop := fnExactRingsInRow.holds Try.pinned (OpenSpec.ofChange fnExactRingsInWrong)

/-- 'laws.FnExactFreeRings': WHATEVER THE INPUT: true; the input reads as it did. -/
def fnExactFreeRingsSpec : ChangeSpec := { name := "fnExactFreeRings", fn := fun _ => fun
  | [d] => { results := [.lit (.bool true)], args := [d] }
  | _ => none }
def fnExactFreeRingsRow : OpenClaim := { program := "ytemgbakjlbdibaa", sum := "061ab7657da65bdf5320f9c3d7acf9b7da67694713fb18416b082dfae8ef8c4c", func := "loop.example/g00627/laws.FnExactFreeRings", spec := "fnExactFreeRings", unfollowed := true, recurses := true, apart := false }
def FnExactFreeRingsSaid : Prop := fnExactFreeRingsRow.holds Try.pinned (OpenSpec.ofChange fnExactFreeRingsSpec)

/-- ITS FALSE NEIGHBOUR: 'it returns false'. Refute it at one input. -/
def fnExactFreeRingsWrong : ChangeSpec := { name := "fnExactFreeRings", fn := fun _ => fun
  | [d] => { results := [.lit (.bool false)], args := [d] }
  | _ => none }
def FnExactFreeRingsWrongFalsely : Prop := fnExactFreeRingsRow.holds Try.pinned (OpenSpec.ofChange fnExactFreeRingsWrong)

/-- 'laws.FnExactGuardedBy': WHATEVER THE INPUT: true; the input reads as it did. -/
def fnExactGuardedBySpec : ChangeSpec := { name := "fnExactGuardedBy", fn := fun _ => fun
  | [d1, d2] => { results := [.lit (.bool true)], args := [d1, d2] }
  | _ => none }
def fnExactGuardedByRow : OpenClaim := { program := "ytemgbakjlbdibaa", sum := "061ab7657da65bdf5320f9c3d7acf9b7da67694713fb18416b082dfae8ef8c4c", func := "loop.example/g00627/laws.FnExactGuardedBy", spec := "fnExactGuardedBy", unfollowed := true, recurses := true, apart := false }
def FnExactGuardedBySaid : Prop := fnExactGuardedByRow.holds Try.pinned (OpenSpec.ofChange fnExactGuardedBySpec)

/-- ITS FALSE NEIGHBOUR: 'it returns false'. Refute it at one input. -/
def fnExactGuardedByWrong : ChangeSpec := { name := "fnExactGuardedBy", fn := fun _ => fun
  | [d1, d2] => { results := [.lit (.bool false)], args := [d1, d2] }
  | _ => none }
def FnExactGuardedByWrongFalsely : Prop := fnExactGuardedByRow.holds Try.pinned (OpenSpec.ofChange fnExactGuardedByWrong)

/-- 'laws.FnExactLostIn': WHATEVER THE INPUT: true; the input reads as it did. -/
def fnExactLostInSpec : ChangeSpec := { name := "fnExactLostIn", fn := fun _ => fun
  | [d1, d2] => { results := [.lit (.bool true)], args := [d1, d2] }
  | _ => none }
def fnExactLostInRow : OpenClaim := { program := "ytemgbakjlbdibaa", sum := "061ab7657da65bdf5320f9c3d7acf9b7da67694713fb18416b082dfae8ef8c4c", func := "loop.example/g00627/laws.FnExactLostIn", spec := "fnExactLostIn", unfollowed := true, recurses := true, apart := false }
def FnExactLostInSaid : Prop := fnExactLostInRow.holds Try.pinned (OpenSpec.ofChange fnExactLostInSpec)

/-- ITS FALSE NEIGHBOUR: 'it returns false'. Refute it at one input. -/
def fnExactLostInWrong : ChangeSpec := { name := "fnExactLostIn", fn := fun _ => fun
  | [d1, d2] => { results := [.lit (.bool false)], args := [d1, d2] }
  | _ => none }
def FnExactLostInWrongFalsely : Prop := fnExactLostInRow.holds Try.pinned (OpenSpec.ofChange fnExactLostInWrong)

/-- 'laws.FnExactShadeLost': WHATEVER THE INPUT: true; the input reads as it did. -/
def fnExactShadeLostSpec : ChangeSpec := { name := "fnExactShadeLost", fn := fun _ => fun
  | [d1, d2] => { results := [.lit (.bool true)], args := [d1, d2] }
  | _ => none }
def fnExactShadeLostRow : OpenClaim := { program := "ytemgbakjlbdibaa", sum := "061ab7657da65bdf5320f9c3d7acf9b7da67694713fb18416b082dfae8ef8c4c", func := "loop.example/g00627/laws.FnExactShadeLost", spec := "fnExactShadeLost", unfollowed := true, recurses := true, apart := false }
def FnExactShadeLostSaid : Prop := fnExactShadeLostRow.holds Try.pinned (OpenSpec.ofChange fnExactShadeLostSpec)

/-- ITS FALSE NEIGHBOUR: 'it returns false'. Refute it at one input. -/
def fnExactShadeLostWrong : ChangeSpec := { name := "fnExactShadeLost", fn := fun _ => fun
  | [d1, d2] => { results := [.lit (.bool false)], args := [d1, d2] }
  | _ => none }
def FnExactShadeLostWrongFalsely : Prop := fnExactShadeLostRow.holds Try.pinned (OpenSpec.ofChange fnExactShadeLostWrong)

/- THE SECOND FORM. 'bulk': how many values and letters a reading holds, each counted each time it is reached (what is shared counts as often as it is met; a slice's spare places count too). A statement '..UptoSaid' is the law's where the arguments, and the package variables that the reading takes, are together of bulk at most 1048576: NARROWER than '..Said'. Prove '..Said' where nothing that the law and all that it calls make is longer than what came in: it says more and counts as full. Else prove '..UptoSaid'. A law counts once. -/
mutual
def uptoBulk {H : Type} : DataW H → Nat
  | .lit (.string bytes) => bytes.length + 1
  | .lit _ => 1
  | .nil => 1
  | .ptr d => uptoBulk d + 1
  | .slice elems spare => uptoBulkAll elems + uptoBulkAll spare + 1
  | .agg parts => uptoBulkAll parts + 1
  | .iface _ d => uptoBulk d + 1
  | .map entries => uptoBulkEntries entries + 1
  | .held _ => 1
def uptoBulkAll {H : Type} : List (DataW H) → Nat
  | [] => 0
  | d :: r => uptoBulk d + uptoBulkAll r
def uptoBulkEntries {H : Type} : List (Lit × DataW H) → Nat
  | [] => 0
  | x :: r => uptoBulkEntry x + uptoBulkEntries r
def uptoBulkEntry {H : Type} : Lit × DataW H → Nat
  | (.string bytes, d) => bytes.length + uptoBulk d + 1
  | (_, d) => uptoBulk d + 1
 end
def uptoSmall : (H : Type) → List (DataW H) → Bool := fun _ ds => decide (uptoBulkAll ds ≤ 1048576)
def OpenSpec.upto (s : _root_.Go.ChangeSpec) : _root_.Go.OpenSpec := { _root_.Go.OpenSpec.ofChange s with cond := some uptoSmall }

/-- 'laws.FnExactNamesTo', WHERE WHAT IT READS IS OF BULK AT MOST 1048576: true; the input reads as it did. -/
def fnExactNamesToUptoRow : OpenClaim := { program := "ytemgbakjlbdibaa", sum := "061ab7657da65bdf5320f9c3d7acf9b7da67694713fb18416b082dfae8ef8c4c", func := "loop.example/g00627/laws.FnExactNamesTo", spec := "fnExactNamesTo", unfollowed := true, recurses := true, apart := false, narrowed := true }
def FnExactNamesToUptoSaid : Prop := fnExactNamesToUptoRow.holds Try.pinned (OpenSpec.upto fnExactNamesToSpec)

/-- 'laws.FnExactCountsOf', WHERE WHAT IT READS IS OF BULK AT MOST 1048576: true; the input reads as it did. -/
def fnExactCountsOfUptoRow : OpenClaim := { program := "ytemgbakjlbdibaa", sum := "061ab7657da65bdf5320f9c3d7acf9b7da67694713fb18416b082dfae8ef8c4c", func := "loop.example/g00627/laws.FnExactCountsOf", spec := "fnExactCountsOf", unfollowed := true, recurses := true, apart := false, narrowed := true }
def FnExactCountsOfUptoSaid : Prop := fnExactCountsOfUptoRow.holds Try.pinned (OpenSpec.upto fnExactCountsOfSpec)

/-- 'laws.FnExactStrikeOut', WHERE WHAT IT READS IS OF BULK AT MOST 1048576: true; the input reads as it did. -/
def fnExactStrikeOutUptoRow : OpenClaim := { program := "ytemgbakjlbdibaa", sum := "061ab7657da65bdf5320f9c3d7acf9b7da67694713fb18416b082dfae8ef8c4c", func := "loop.example/g00627/laws.FnExactStrikeOut", spec := "fnExactStrikeOut", unfollowed := true, recurses := true, apart := false, narrowed := true }
def FnExactStrikeOutUptoSaid : Prop := fnExactStrikeOutUptoRow.holds Try.pinned (OpenSpec.upto fnExactStrikeOutSpec)

/-- 'laws.FnExactOuterCounts', WHERE WHAT IT READS IS OF BULK AT MOST 1048576: true; the input reads as it did. -/
def fnExactOuterCountsUptoRow : OpenClaim := { program := "ytemgbakjlbdibaa", sum := "061ab7657da65bdf5320f9c3d7acf9b7da67694713fb18416b082dfae8ef8c4c", func := "loop.example/g00627/laws.FnExactOuterCounts", spec := "fnExactOuterCounts", unfollowed := true, recurses := true, apart := false, narrowed := true }
def FnExactOuterCountsUptoSaid : Prop := fnExactOuterCountsUptoRow.holds Try.pinned (OpenSpec.upto fnExactOuterCountsSpec)

/-- 'laws.FnExactTrialOf', WHERE WHAT IT READS IS OF BULK AT MOST 1048576: true; the input reads as it did. -/
def fnExactTrialOfUptoRow : OpenClaim := { program := "ytemgbakjlbdibaa", sum := "061ab7657da65bdf5320f9c3d7acf9b7da67694713fb18416b082dfae8ef8c4c", func := "loop.example/g00627/laws.FnExactTrialOf", spec := "fnExactTrialOf", unfollowed := true, recurses := true, apart := false, narrowed := true }
def FnExactTrialOfUptoSaid : Prop := fnExactTrialOfUptoRow.holds Try.pinned (OpenSpec.upto fnExactTrialOfSpec)

/-- 'laws.FnExactDropByCounts', WHERE WHAT IT READS IS OF BULK AT MOST 1048576: true; the input reads as it did. -/
def fnExactDropByCountsUptoRow : OpenClaim := { program := "ytemgbakjlbdibaa", sum := "061ab7657da65bdf5320f9c3d7acf9b7da67694713fb18416b082dfae8ef8c4c", func := "loop.example/g00627/laws.FnExactDropByCounts", spec := "fnExactDropByCounts", unfollowed := true, recurses := true, apart := false, narrowed := true }
def FnExactDropByCountsUptoSaid : Prop := fnExactDropByCountsUptoRow.holds Try.pinned (OpenSpec.upto fnExactDropByCountsSpec)

/-- 'laws.FnExactRingsIn', WHERE WHAT IT READS IS OF BULK AT MOST 1048576: true; the input reads as it did. -/
def fnExactRingsInUptoRow : OpenClaim := { program := "ytemgbakjlbdibaa", sum := "061ab7657da65bdf5320f9c3d7acf9b7da67694713fb18416b082dfae8ef8c4c", func := "loop.example/g00627/laws.FnExactRingsIn", spec := "fnExactRingsIn", unfollowed := true, recurses := true, apart := false, narrowed := true }
def FnExactRingsInUptoSaid : Prop := fnExactRingsInUptoRow.holds Try.pinned (OpenSpec.upto fnExactRingsInSpec)

/-- 'laws.FnExactFreeRings', WHERE WHAT IT READS IS OF BULK AT MOST 1048576: true; the input reads as it did. -/
def fnExactFreeRingsUptoRow : OpenClaim := { program := "ytemgbakjlbdibaa", sum := "061ab7657da65bdf5320f9c3d7acf9b7da67694713fb18416b082dfae8ef8c4c", func := "loop.example/g00627/laws.FnExactFreeRings", spec := "fnExactFreeRings", unfollowed := true, recurses := true, apart := false, narrowed := true }
def FnExactFreeRingsUptoSaid : Prop := fnExactFreeRingsUptoRow.holds Try.pinned (OpenSpec.upto fnExactFreeRingsSpec)

/-- 'laws.FnExactGuardedBy', WHERE WHAT IT READS IS OF BULK AT MOST 1048576: true; the input reads as it did. -/
def fnExactGuardedByUptoRow : OpenClaim := { program := "ytemgbakjlbdibaa", sum := "061ab7657da65bdf5320f9c3d7acf9b7da67694713fb18416b082dfae8ef8c4c", func := "loop.example/g00627/laws.FnExactGuardedBy", spec := "fnExactGuardedBy", unfollowed := true, recurses := true, apart := false, narrowed := true }
def FnExactGuardedByUptoSaid : Prop := fnExactGuardedByUptoRow.holds Try.pinned (OpenSpec.upto fnExactGuardedBySpec)

/-- 'laws.FnExactLostIn', WHERE WHAT IT READS IS OF BULK AT MOST 1048576: true; the input reads as it did. -/
def fnExactLostInUptoRow : OpenClaim := { program := "ytemgbakjlbdibaa", sum := "061ab7657da65bdf5320f9c3d7acf9b7da67694713fb18416b082dfae8ef8c4c", func := "loop.example/g00627/laws.FnExactLostIn", spec := "fnExactLostIn", unfollowed := true, recurses := true, apart := false, narrowed := true }
def FnExactLostInUptoSaid : Prop := fnExactLostInUptoRow.holds Try.pinned (OpenSpec.upto fnExactLostInSpec)

/-- 'laws.FnExactShadeLost', WHERE WHAT IT READS IS OF BULK AT MOST 1048576: true; the input reads as it did. -/
def fnExactShadeLostUptoRow : OpenClaim := { program := "ytemgbakjlbdibaa", sum := "061ab7657da65bdf5320f9c3d7acf9b7da67694713fb18416b082dfae8ef8c4c", func := "loop.example/g00627/laws.FnExactShadeLost", spec := "fnExactShadeLost", unfollowed := true, recurses := true, apart := false, narrowed := true }
def FnExactShadeLostUptoSaid : Prop := fnExactShadeLostUptoRow.holds Try.pinned (OpenSpec.upto fnExactShadeLostSpec)

end Rows
end Go.Proofs.Ytemgbakjlbdibaa
