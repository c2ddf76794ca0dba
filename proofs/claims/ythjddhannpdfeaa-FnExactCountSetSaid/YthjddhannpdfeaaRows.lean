/-
  No cell of these rows narrows 'for every input' (looked for: loops, veiled, ifaces, maps, wideKeys, modest, calm, conditions, laid).
  DERIVED. THE GIVEN ROWS OF THIS SEAT. 10 by the template 'for every input the law returns true; each argument reads behind the call as it read before'; 0 by the template 'total and deterministic' (their statements: YthjddhannpdfeaaTotals.lean).
  GIVEN WITH THE SEED: the statements are not yours to turn. If you find one false, say at which input.
  Laid BY PROGRAM, IN A SANDBOX (cutbox-rows.mjs): the forced cells as the released guide's own fill.sh prints them over the translation 4d3e368ca905a846… (all of the seat's roots in one cut). By AI agents, Wed Nov 11 2026. No macro, syntax, notation, axiom, sorry.
-/
import Derived.Test.YthjddhannpdfeaaChecked
import GoSem.Claim
import GoSem.ClaimJoined
import GoSem.ClaimMapViews
import Derived.JoinedTies
import Derived.KernelRfl
namespace Go.Proofs.Ythjddhannpdfeaa
/- THE CELL 'sum', in the pinned program and in every row, IS THE sha256 OF THE DUMP (.gsa) THAT YthjddhannpdfeaaProg.lean LOADS. Nothing in Lean hashes anything: it is a label: what it is worth is what the hold of that sum in a sandbox is worth. -/
noncomputable def Try.pinned : Pinned := { name := "ythjddhannpdfeaa", sum := "4d3e368ca905a846ce053ee4d3369d76a33ee83dc08483a1d12e800882d328c8", checked := Try.checked }
namespace Rows
def none {H : Type} : Left H := { results := [], args := [] }

/-- 'laws.FnExactEmptyTree': WHATEVER THE INPUT: true; the input reads as it did. -/
def fnExactEmptyTreeSpec : ChangeSpec := { name := "fnExactEmptyTree", fn := fun _ => fun
  | [] => { results := [.lit (.bool true)], args := [] }
  | _ => none }
def fnExactEmptyTreeRow : OpenClaim := { program := "ythjddhannpdfeaa", sum := "4d3e368ca905a846ce053ee4d3369d76a33ee83dc08483a1d12e800882d328c8", func := "loop.example/g00627/laws.FnExactEmptyTree", spec := "fnExactEmptyTree", apart := false }
def FnExactEmptyTreeSaid : Prop := fnExactEmptyTreeRow.holds Try.pinned (OpenSpec.ofChange fnExactEmptyTreeSpec)

/-- ITS FALSE NEIGHBOUR: 'it returns false'. Refute it at one input. -/
def fnExactEmptyTreeWrong : ChangeSpec := { name := "fnExactEmptyTree", fn := fun _ => fun
  | [] => { results := [.lit (.bool false)], args := [] }
  | _ => none }
def FnExactEmptyTreeWrongFalsely : Prop := fnExactEmptyTreeRow.holds Try.pinned (OpenSpec.ofChange fnExactEmptyTreeWrong)

/-- 'laws.FnExactSortBy': WHATEVER THE INPUT: true; the input reads as it did. -/
def fnExactSortBySpec : ChangeSpec := { name := "fnExactSortBy", fn := fun _ => fun
  | [d] => { results := [.lit (.bool true)], args := [d] }
  | _ => none }
def fnExactSortByRow : OpenClaim := { program := "ythjddhannpdfeaa", sum := "4d3e368ca905a846ce053ee4d3369d76a33ee83dc08483a1d12e800882d328c8", func := "loop.example/g00627/laws.FnExactSortBy", spec := "fnExactSortBy", unfollowed := true, recurses := true, apart := false }
def FnExactSortBySaid : Prop := fnExactSortByRow.holds Try.pinned (OpenSpec.ofChange fnExactSortBySpec)

/-- ITS FALSE NEIGHBOUR: 'it returns false'. Refute it at one input. -/
def fnExactSortByWrong : ChangeSpec := { name := "fnExactSortBy", fn := fun _ => fun
  | [d] => { results := [.lit (.bool false)], args := [d] }
  | _ => none }
def FnExactSortByWrongFalsely : Prop := fnExactSortByRow.holds Try.pinned (OpenSpec.ofChange fnExactSortByWrong)

/-- 'laws.FnExactEmptyBook': WHATEVER THE INPUT: true; the input reads as it did. -/
def fnExactEmptyBookSpec : ChangeSpec := { name := "fnExactEmptyBook", fn := fun _ => fun
  | [d] => { results := [.lit (.bool true)], args := [d] }
  | _ => none }
def fnExactEmptyBookRow : OpenClaim := { program := "ythjddhannpdfeaa", sum := "4d3e368ca905a846ce053ee4d3369d76a33ee83dc08483a1d12e800882d328c8", func := "loop.example/g00627/laws.FnExactEmptyBook", spec := "fnExactEmptyBook", apart := false }
def FnExactEmptyBookSaid : Prop := fnExactEmptyBookRow.holds Try.pinned (OpenSpec.ofChange fnExactEmptyBookSpec)

/-- ITS FALSE NEIGHBOUR: 'it returns false'. Refute it at one input. -/
def fnExactEmptyBookWrong : ChangeSpec := { name := "fnExactEmptyBook", fn := fun _ => fun
  | [d] => { results := [.lit (.bool false)], args := [d] }
  | _ => none }
def FnExactEmptyBookWrongFalsely : Prop := fnExactEmptyBookRow.holds Try.pinned (OpenSpec.ofChange fnExactEmptyBookWrong)

/-- 'laws.FnExactGoodBook': WHATEVER THE INPUT: true; the input reads as it did. -/
def fnExactGoodBookSpec : ChangeSpec := { name := "fnExactGoodBook", fn := fun _ => fun
  | [d] => { results := [.lit (.bool true)], args := [d] }
  | _ => none }
def fnExactGoodBookRow : OpenClaim := { program := "ythjddhannpdfeaa", sum := "4d3e368ca905a846ce053ee4d3369d76a33ee83dc08483a1d12e800882d328c8", func := "loop.example/g00627/laws.FnExactGoodBook", spec := "fnExactGoodBook", unfollowed := true, recurses := true, apart := false }
def FnExactGoodBookSaid : Prop := fnExactGoodBookRow.holds Try.pinned (OpenSpec.ofChange fnExactGoodBookSpec)

/-- ITS FALSE NEIGHBOUR: 'it returns false'. Refute it at one input. -/
def fnExactGoodBookWrong : ChangeSpec := { name := "fnExactGoodBook", fn := fun _ => fun
  | [d] => { results := [.lit (.bool false)], args := [d] }
  | _ => none }
def FnExactGoodBookWrongFalsely : Prop := fnExactGoodBookRow.holds Try.pinned (OpenSpec.ofChange fnExactGoodBookWrong)

/-- 'laws.FnExactIsSet': WHATEVER THE INPUT: true; the input reads as it did. -/
def fnExactIsSetSpec : ChangeSpec := { name := "fnExactIsSet", fn := fun _ => fun
  | [d1, d2] => { results := [.lit (.bool true)], args := [d1, d2] }
  | _ => none }
def fnExactIsSetRow : OpenClaim := { program := "ythjddhannpdfeaa", sum := "4d3e368ca905a846ce053ee4d3369d76a33ee83dc08483a1d12e800882d328c8", func := "loop.example/g00627/laws.FnExactIsSet", spec := "fnExactIsSet", apart := false }
def FnExactIsSetSaid : Prop := fnExactIsSetRow.holds Try.pinned (OpenSpec.ofChange fnExactIsSetSpec)

/-- ITS FALSE NEIGHBOUR: 'it returns false'. Refute it at one input. -/
def fnExactIsSetWrong : ChangeSpec := { name := "fnExactIsSet", fn := fun _ => fun
  | [d1, d2] => { results := [.lit (.bool false)], args := [d1, d2] }
  | _ => none }
def FnExactIsSetWrongFalsely : Prop := fnExactIsSetRow.holds Try.pinned (OpenSpec.ofChange fnExactIsSetWrong)

/-- 'laws.FnExactNextFree': WHATEVER THE INPUT: true; the input reads as it did. -/
def fnExactNextFreeSpec : ChangeSpec := { name := "fnExactNextFree", fn := fun _ => fun
  | [d1, d2] => { results := [.lit (.bool true)], args := [d1, d2] }
  | _ => none }
def fnExactNextFreeRow : OpenClaim := { program := "ythjddhannpdfeaa", sum := "4d3e368ca905a846ce053ee4d3369d76a33ee83dc08483a1d12e800882d328c8", func := "loop.example/g00627/laws.FnExactNextFree", spec := "fnExactNextFree", apart := false }
def FnExactNextFreeSaid : Prop := fnExactNextFreeRow.holds Try.pinned (OpenSpec.ofChange fnExactNextFreeSpec)

/-- ITS FALSE NEIGHBOUR: 'it returns false'. Refute it at one input. -/
def fnExactNextFreeWrong : ChangeSpec := { name := "fnExactNextFree", fn := fun _ => fun
  | [d1, d2] => { results := [.lit (.bool false)], args := [d1, d2] }
  | _ => none }
def FnExactNextFreeWrongFalsely : Prop := fnExactNextFreeRow.holds Try.pinned (OpenSpec.ofChange fnExactNextFreeWrong)

/-- 'laws.FnExactCountSet': WHATEVER THE INPUT: true; the input reads as it did. -/
def fnExactCountSetSpec : ChangeSpec := { name := "fnExactCountSet", fn := fun _ => fun
  | [d1, d2, d3] => { results := [.lit (.bool true)], args := [d1, d2, d3] }
  | _ => none }
def fnExactCountSetRow : OpenClaim := { program := "ythjddhannpdfeaa", sum := "4d3e368ca905a846ce053ee4d3369d76a33ee83dc08483a1d12e800882d328c8", func := "loop.example/g00627/laws.FnExactCountSet", spec := "fnExactCountSet", apart := false }
def FnExactCountSetSaid : Prop := fnExactCountSetRow.holds Try.pinned (OpenSpec.ofChange fnExactCountSetSpec)

/-- ITS FALSE NEIGHBOUR: 'it returns false'. Refute it at one input. -/
def fnExactCountSetWrong : ChangeSpec := { name := "fnExactCountSet", fn := fun _ => fun
  | [d1, d2, d3] => { results := [.lit (.bool false)], args := [d1, d2, d3] }
  | _ => none }
def FnExactCountSetWrongFalsely : Prop := fnExactCountSetRow.holds Try.pinned (OpenSpec.ofChange fnExactCountSetWrong)

/-- 'laws.FnExactNewWork': WHATEVER THE INPUT: true; the input reads as it did. -/
def fnExactNewWorkSpec : ChangeSpec := { name := "fnExactNewWork", fn := fun _ => fun
  | [d] => { results := [.lit (.bool true)], args := [d] }
  | _ => none }
def fnExactNewWorkRow : OpenClaim := { program := "ythjddhannpdfeaa", sum := "4d3e368ca905a846ce053ee4d3369d76a33ee83dc08483a1d12e800882d328c8", func := "loop.example/g00627/laws.FnExactNewWork", spec := "fnExactNewWork", apart := false }
def FnExactNewWorkSaid : Prop := fnExactNewWorkRow.holds Try.pinned (OpenSpec.ofChange fnExactNewWorkSpec)

/-- ITS FALSE NEIGHBOUR: 'it returns false'. Refute it at one input. -/
def fnExactNewWorkWrong : ChangeSpec := { name := "fnExactNewWork", fn := fun _ => fun
  | [d] => { results := [.lit (.bool false)], args := [d] }
  | _ => none }
def FnExactNewWorkWrongFalsely : Prop := fnExactNewWorkRow.holds Try.pinned (OpenSpec.ofChange fnExactNewWorkWrong)

/-- 'laws.FnExactLeftIn': WHATEVER THE INPUT: true; the input reads as it did. -/
def fnExactLeftInSpec : ChangeSpec := { name := "fnExactLeftIn", fn := fun _ => fun
  | [d] => { results := [.lit (.bool true)], args := [d] }
  | _ => none }
def fnExactLeftInRow : OpenClaim := { program := "ythjddhannpdfeaa", sum := "4d3e368ca905a846ce053ee4d3369d76a33ee83dc08483a1d12e800882d328c8", func := "loop.example/g00627/laws.FnExactLeftIn", spec := "fnExactLeftIn", unfollowed := true, recurses := true, apart := false }
def FnExactLeftInSaid : Prop := fnExactLeftInRow.holds Try.pinned (OpenSpec.ofChange fnExactLeftInSpec)

/-- ITS FALSE NEIGHBOUR: 'it returns false'. Refute it at one input. -/
def fnExactLeftInWrong : ChangeSpec := { name := "fnExactLeftIn", fn := fun _ => fun
  | [d] => { results := [.lit (.bool false)], args := [d] }
  | _ => none }
def FnExactLeftInWrongFalsely : Prop := fnExactLeftInRow.holds Try.pinned (OpenSpec.ofChange fnExactLeftInWrong)

/-- 'laws.FnExactGoodWork': WHATEVER THE INPUT: true; the input reads as it did. -/
def fnExactGoodWorkSpec : ChangeSpec := { name := "fnExactGoodWork", fn := fun _ => fun
  | [d] => { results := [.lit (.bool true)], args := [d] }
  | _ => none }
def fnExactGoodWorkRow : OpenClaim := { program := "ythjddhannpdfeaa", sum := "4d3e368ca905a846ce053ee4d3369d76a33ee83dc08483a1d12e800882d328c8", func := "loop.example/g00627/laws.FnExactGoodWork", spec := "fnExactGoodWork", unfollowed := true, recurses := true, apart := false }
def FnExactGoodWorkSaid : Prop := fnExactGoodWorkRow.holds Try.pinned (OpenSpec.ofChange fnExactGoodWorkSpec)

/-- ITS FALSE NEIGHBOUR: 'it returns false'. Refute it at one input. -/
def fnExactGoodWorkWrong : ChangeSpec := { name := "fnExactGoodWork", fn := fun _ => fun
  | [d] => { results := [.lit (.bool false)], args := [d] }
  | _ => none }
def FnExactGoodWorkWrongFalsely : Prop := fnExactGoodWorkRow.holds Try.pinned (OpenSpec.ofChange fnExactGoodWorkWrong)

/- THE SECOND FORM. 'bulk': how many values and letters a reading holds, each counted each time it is reached (what is shared counts as often as it is met; a slice's spare places count too). A statement '..UptoSaid' is the law's where the arguments, and the package variables that the reading takes, are together of bulk at most 1048576: NARROWER than '..Said'. Prove '..Said' where nothing that the law and all that it calls make is longer than what came in: it says more and counts as full. Else prove '..UptoSaid'. A law counts once. -/
mutual
def uptoBulk {H : Type} : DataW H → Nat
  | .lit (.string bytes) => bytes.length + 1
  | .lit _ => 1
  | .nil => 1
  | .ptr d => uptoBulk d + 1
  | .slice elems spare => uptoBulkAll elems + uptoBulkAll spare + 1
  | .agg parts => uptoBulkAll parts + 1
  | .iface _ d => uptoBulk d + 1
  | .map entries => uptoBulkEntries entries + 1
  | .held _ => 1
def uptoBulkAll {H : Type} : List (DataW H) → Nat
  | [] => 0
  | d :: r => uptoBulk d + uptoBulkAll r
def uptoBulkEntries {H : Type} : List (Lit × DataW H) → Nat
  | [] => 0
  | x :: r => uptoBulkEntry x + uptoBulkEntries r
def uptoBulkEntry {H : Type} : Lit × DataW H → Nat
  | (.string bytes, d) => bytes.length + uptoBulk d + 1
  | (_, d) => uptoBulk d + 1
 end
def uptoSmall : (H : Type) → List (DataW H) → Bool := fun _ ds => decide (uptoBulkAll ds ≤ 1048576)
def OpenSpec.upto (s : _root_.Go.ChangeSpec) : _root_.Go.OpenSpec := { _root_.Go.OpenSpec.ofChange s with cond := some uptoSmall }

/-- 'laws.FnExactEmptyTree', WHERE WHAT IT READS IS OF BULK AT MOST 1048576: true; the input reads as it did. -/
def fnExactEmptyTreeUptoRow : OpenClaim := { program := "ythjddhannpdfeaa", sum := "4d3e368ca905a846ce053ee4d3369d76a33ee83dc08483a1d12e800882d328c8", func := "loop.example/g00627/laws.FnExactEmptyTree", spec := "fnExactEmptyTree", apart := false, narrowed := true }
def FnExactEmptyTreeUptoSaid : Prop := fnExactEmptyTreeUptoRow.holds Try.pinned (OpenSpec.upto fnExactEmptyTreeSpec)

/-- 'laws.FnExactSortBy', WHERE WHAT IT READS IS OF BULK AT MOST 1048576: true; the input reads as it did. -/
def fnExactSortByUptoRow : OpenClaim := { program := "ythjddhannpdfeaa", sum := "4d3e368ca905a846ce053ee4d3369d76a33ee83dc08483a1d12e800882d328c8", func := "loop.example/g00627/laws.FnExactSortBy", spec := "fnExactSortBy", unfollowed := true, recurses := true, apart := false, narrowed := true }
def FnExactSortByUptoSaid : Prop := fnExactSortByUptoRow.holds Try.pinned (OpenSpec.upto fnExactSortBySpec)

/-- 'laws.FnExactEmptyBook', WHERE WHAT IT READS IS OF BULK AT MOST 1048576: true; the input reads as it did. -/
def fnExactEmptyBookUptoRow : OpenClaim := { program := "ythjddhannpdfeaa", sum := "4d3e368ca905a846ce053ee4d3369d76a33ee83dc08483a1d12e800882d328c8", func := "loop.example/g00627/laws.FnExactEmptyBook", spec := "fnExactEmptyBook", apart := false, narrowed := true }
def FnExactEmptyBookUptoSaid : Prop := fnExactEmptyBookUptoRow.holds Try.pinned (OpenSpec.upto fnExactEmptyBookSpec)

/-- 'laws.FnExactGoodBook', WHERE WHAT IT READS IS OF BULK AT MOST 1048576: true; the input reads as it did. -/
def fnExactGoodBookUptoRow : OpenClaim := { program := "ythjddhannpdfeaa", sum := "4d3e368ca905a846ce053ee4d3369d76a33ee83dc08483a1d12e800882d328c8", func := "loop.example/g00627/laws.FnExactGoodBook", spec := "fnExactGoodBook", unfollowed := true, recurses := true, apart := false, narrowed := true }
def FnExactGoodBookUptoSaid : Prop := fnExactGoodBookUptoRow.holds Try.pinned (OpenSpec.upto fnExactGoodBookSpec)

/-- 'laws.FnExactIsSet', WHERE WHAT IT READS IS OF BULK AT MOST 1048576: true; the input reads as it did. -/
def fnExactIsSetUptoRow : OpenClaim := { program := "ythjddhannpdfeaa", sum := "4d3e368ca905a846ce053ee4d3369d76a33ee83dc08483a1d12e800882d328c8", func := "loop.example/g00627/laws.FnExactIsSet", spec := "fnExactIsSet", apart := false, narrowed := true }
def FnExactIsSetUptoSaid : Prop := fnExactIsSetUptoRow.holds Try.pinned (OpenSpec.upto fnExactIsSetSpec)

/-- 'laws.FnExactNextFree', WHERE WHAT IT READS IS OF BULK AT MOST 1048576: true; the input reads as it did. -/
def fnExactNextFreeUptoRow : OpenClaim := { program := "ythjddhannpdfeaa", sum := "4d3e368ca905a846ce053ee4d3369d76a33ee83dc08483a1d12e800882d328c8", func := "loop.example/g00627/laws.FnExactNextFree", spec := "fnExactNextFree", apart := false, narrowed := true }
def FnExactNextFreeUptoSaid : Prop := fnExactNextFreeUptoRow.holds Try.pinned (OpenSpec.upto fnExactNextFreeSpec)

/-- 'laws.FnExactCountSet', WHERE WHAT IT READS IS OF BULK AT MOST 1048576: true; the input reads as it did. -/
def fnExactCountSetUptoRow : OpenClaim := { program := "ythjddhannpdfeaa", sum := "4d3e368ca905a846ce053ee4d3369d76a33ee83dc08483a1d12e800882d328c8", func := "loop.example/g00627/laws.FnExactCountSet", spec := "fnExactCountSet", apart := false, narrowed := true }
def FnExactCountSetUptoSaid : Prop := fnExactCountSetUptoRow.holds Try.pinned (OpenSpec.upto fnExactCountSetSpec)

/-- 'laws.FnExactNewWork', WHERE WHAT IT READS IS OF BULK AT MOST 1048576: true; the input reads as it did. -/
def fnExactNewWorkUptoRow : OpenClaim := { program := "ythjddhannpdfeaa", sum := "4d3e368ca905a846ce053ee4d3369d76a33ee83dc08483a1d12e800882d328c8", func := "loop.example/g00627/laws.FnExactNewWork", spec := "fnExactNewWork", apart := false, narrowed := true }
def FnExactNewWorkUptoSaid : Prop := fnExactNewWorkUptoRow.holds Try.pinned (OpenSpec.upto fnExactNewWorkSpec)

/-- 'laws.FnExactLeftIn', WHERE WHAT IT READS IS OF BULK AT MOST 1048576: true; the input reads as it did. -/
def fnExactLeftInUptoRow : OpenClaim := { program := "ythjddhannpdfeaa", sum := "4d3e368ca905a846ce053ee4d3369d76a33ee83dc08483a1d12e800882d328c8", func := "loop.example/g00627/laws.FnExactLeftIn", spec := "fnExactLeftIn", unfollowed := true, recurses := true, apart := false, narrowed := true }
def FnExactLeftInUptoSaid : Prop := fnExactLeftInUptoRow.holds Try.pinned (OpenSpec.upto fnExactLeftInSpec)

/-- 'laws.FnExactGoodWork', WHERE WHAT IT READS IS OF BULK AT MOST 1048576: true; the input reads as it did. -/
def fnExactGoodWorkUptoRow : OpenClaim := { program := "ythjddhannpdfeaa", sum := "4d3e368ca905a846ce053ee4d3369d76a33ee83dc08483a1d12e800882d328c8", func := "loop.example/g00627/laws.FnExactGoodWork", spec := "fnExactGoodWork", unfollowed := true, recurses := true, apart := false, narrowed := true }
def FnExactGoodWorkUptoSaid : Prop := fnExactGoodWorkUptoRow.holds Try.pinned (OpenSpec.upto fnExactGoodWorkSpec)

end Rows
end Go.Proofs.Ythjddhannpdfeaa
