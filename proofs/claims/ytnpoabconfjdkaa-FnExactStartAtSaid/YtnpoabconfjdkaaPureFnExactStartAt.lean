/- The program's StartAt answers what the reference's answers, for all arguments. No condition. -/
import Derived.Test.YtnpoabconfjdkaaPFnExactStartAtx1
namespace Go.Proofs.Ytnpoabconfjdkaa.Pure
open Go.RowKit Go.Proofs.Ytnpoabconfjdkaa.PFnExactStartAt Go.Proofs.YtnpoabconfjdkaaW.PrintWords Go.Proofs.YtnpoabconfjdkaaW.PrintLast

/-- YOURS: ∀ (a0 : Int) (a1 : Int) (a2 : Int), (Lit.int .i64 a0).wf = true → (Lit.int .i64 a1).wf = true → (Lit.int .i64 a2).wf = true → laws_FnExactStartAt.f a0 a1 a2 = some true
What it reaches (each with k first where it has rounds; `.mono`: more rounds tell the same; `.l0`, ..: its loops, with `.mono_l`): spec_l1In.f, spec_StartAt.f, impl_within.f, impl_StartAt.f, laws_FnExactStartAt.f -/
theorem FnExactStartAt : laws_FnExactStartAt.Pure := by
  intro a0 a1 a2 h0 h1 h2
  unfold laws_FnExactStartAt.f spec_StartAt.f impl_StartAt.f spec_l1In.f impl_within.f
  by_cases c0 : a0 ≥ 1 <;> by_cases c1 : a0 ≤ 100000 <;> by_cases c2 : a1 ≥ wrap64 (a0 + 1) <;> by_cases c3 : a1 ≤ 500000 <;> by_cases c4 : a2 ≥ 0 <;> by_cases c5 : a2 ≤ 100 <;> simp [c0, c1, c2, c3, c4, c5]

end Go.Proofs.Ytnpoabconfjdkaa.Pure
