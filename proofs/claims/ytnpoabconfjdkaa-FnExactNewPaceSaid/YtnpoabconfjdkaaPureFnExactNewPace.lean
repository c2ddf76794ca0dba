/- The program's NewPace answers what the reference's answers, for all arguments. No condition. -/
import Derived.Test.YtnpoabconfjdkaaPFnExactNewPacex1
namespace Go.Proofs.Ytnpoabconfjdkaa.Pure
open Go.RowKit Go.Proofs.Ytnpoabconfjdkaa.PFnExactNewPace Go.Proofs.YtnpoabconfjdkaaW.PrintWords Go.Proofs.YtnpoabconfjdkaaW.PrintLast

/-- YOURS: ∀ (a0 : Int) (a1 : Int) (a2 : Int), (Lit.int .i64 a0).wf = true → (Lit.int .i64 a1).wf = true → (Lit.int .i64 a2).wf = true → laws_FnExactNewPace.f a0 a1 a2 = some true
What it reaches (each with k first where it has rounds; `.mono`: more rounds tell the same; `.l0`, ..: its loops, with `.mono_l`): spec_l1In.f, spec_l12Live.f, spec_l12Goal.f, spec_NewPace.f, impl_within.f, impl_goalFor.f, impl_NewPace.f, laws_eqPace.f, laws_FnExactNewPace.f -/
theorem FnExactNewPace : laws_FnExactNewPace.Pure := by
  intro a0 a1 a2 h0 h1 h2
  unfold laws_FnExactNewPace.f spec_NewPace.f impl_NewPace.f spec_l12Live.f spec_l1In.f impl_within.f spec_l12Goal.f impl_goalFor.f mx laws_eqPace.f
  generalize wrap64 ((wrap64 (a0 * a1)).tdiv 100) = q
  have e : (if (1 : Int) < q then q else 1) = if q < 1 then 1 else q := by
    by_cases c : q < 1
    · rw [if_pos c, if_neg (by omega)]
    · rw [if_neg c]
      by_cases d : 1 < q
      · rw [if_pos d]
      · rw [if_neg d]; omega
  rw [e]
  by_cases c0 : a0 ≥ 1 <;> by_cases c1 : a0 ≤ 100000 <;> by_cases c2 : a1 ≥ 1 <;> by_cases c3 : a1 ≤ 400 <;> by_cases c4 : a2 ≥ 0 <;> by_cases c5 : a2 ≤ 100000 <;> simp [c0, c1, c2, c3, c4, c5]
  by_cases c : q < 1 <;> simp [c]

end Go.Proofs.Ytnpoabconfjdkaa.Pure
