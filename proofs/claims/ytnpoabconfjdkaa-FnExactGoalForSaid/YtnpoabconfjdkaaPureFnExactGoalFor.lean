/- The program's GoalFor answers what the reference's answers, for all arguments. No condition. -/
import Derived.Test.YtnpoabconfjdkaaPFnExactGoalForx1
namespace Go.Proofs.Ytnpoabconfjdkaa.Pure
open Go.RowKit Go.Proofs.Ytnpoabconfjdkaa.PFnExactGoalFor Go.Proofs.YtnpoabconfjdkaaW.PrintWords Go.Proofs.YtnpoabconfjdkaaW.PrintLast

/-- YOURS: ∀ (a0 : Int) (a1 : Int), (Lit.int .i64 a0).wf = true → (Lit.int .i64 a1).wf = true → laws_FnExactGoalFor.f a0 a1 = some true
What it reaches (each with k first where it has rounds; `.mono`: more rounds tell the same; `.l0`, ..: its loops, with `.mono_l`): spec_l1In.f, spec_l12Live.f, spec_l12Goal.f, spec_GoalFor.f, impl_within.f, impl_goalFor.f, impl_GoalFor.f, laws_FnExactGoalFor.f -/
theorem FnExactGoalFor : laws_FnExactGoalFor.Pure := by
  intro a0 a1 h0 h1
  unfold laws_FnExactGoalFor.f spec_GoalFor.f impl_GoalFor.f spec_l12Live.f spec_l1In.f impl_within.f spec_l12Goal.f impl_goalFor.f mx
  generalize wrap64 ((wrap64 (a0 * a1)).tdiv 100) = q
  have e : (if (1 : Int) < q then q else 1) = if q < 1 then 1 else q := by
    by_cases c : q < 1
    · rw [if_pos c, if_neg (by omega)]
    · rw [if_neg c]
      by_cases d : 1 < q
      · rw [if_pos d]
      · rw [if_neg d]; omega
  rw [e]
  by_cases c0 : a0 ≥ 1 <;> by_cases c1 : a0 ≤ 100000 <;> by_cases c2 : a1 ≥ 1 <;> by_cases c3 : a1 ≤ 400 <;> simp [c0, c1, c2, c3]
  by_cases c : q < 1 <;> simp [c]

end Go.Proofs.Ytnpoabconfjdkaa.Pure
