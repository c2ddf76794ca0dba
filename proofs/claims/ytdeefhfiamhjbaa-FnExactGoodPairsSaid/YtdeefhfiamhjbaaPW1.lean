import Derived.Test.YtdeefhfiamhjbaaPH
import Derived.Test.YtdeefhfiamhjbaaQBx6
namespace Go.Proofs.Ytdeefhfiamhjbaa.QB
open Go.RowKit Go.Joins Go.ChangeShapes Go.WideShapes Go.Proofs.YtdeefhfiamhjbaaW.PrintWords
set_option linter.unusedVariables false
/-- The law's head: sizes and copies. -/
theorem GoodPairs_true (F : List (List Int)) (L : List Bool) (R : List Int) (l : List S79) (hok : OkH F L R) (hl : l.length ≤ 9223372036854775807) : laws_FnExactGoodPairs.f 2097180 F L R l = some true := by
  obtain ⟨r, hr, hb⟩ := szHeap_eq F L R hok 1048576 (by omega) (by omega) 2097180 (by omega)
  unfold laws_FnExactGoodPairs.f
  rw [hr]; simp only [Option.bind_some]
  by_cases h : r < 0
  · rw [if_pos h]
  · rw [if_neg h]
    obtain ⟨b0, b1⟩ := hb (by omega)
    rw [szPairS_eq l r (by omega) (by omega) hl]; simp only [Option.bind_some]
    by_cases h2 : (l.length : Int) ≤ r
    · rw [if_pos h2, if_neg (by omega)]
      have hln : (l.map convP).length ≤ 1048576 := by simp; omega
      simp only [toHeap_eq F L R b1 2097180 (by omega), toPairS_eq l (by omega) 2097180 (by omega), Option.bind_some, GoodPairs_eq F L R _ b1 hln 2097180 (by omega), impl_GoodPairs.f, impl_arePairs.f, eqHeap_eq F L R b1 2097180 (by omega), eqPairS_eq _ hln 2097180 (by omega)]
      simp
    · rw [if_neg h2, if_pos (by omega)]

end Go.Proofs.Ytdeefhfiamhjbaa.QB
