/- The program's EmptyBook answers what the reference's answers, in new memory, for all arguments. No condition. -/
import Derived.Test.YthjddhannpdfeaaPFnExactEmptyBookx2
namespace Go.Proofs.Ythjddhannpdfeaa.Pure
open Go.RowKit Go.Proofs.Ythjddhannpdfeaa.PFnExactEmptyBook Go.Proofs.YthjddhannpdfeaaW.PrintWords Go.Proofs.YthjddhannpdfeaaW.PrintLast

/-- YOURS: ∀ (a0 : Int), (Lit.int .i64 a0).wf = true → ∃ k, laws_FnExactEmptyBook.f k a0 = some true
What it reaches (each with k first where it has rounds; `.mono`: more rounds tell the same; `.l0`, ..: its loops, with `.mono_l`): spec_l1In.f, spec_EmptyBook.f, impl_within.f, impl_EmptyBook.f, laws_eqSlot.f, laws_eqSlotS.f, laws_eqBook.f, laws_markSlotS.f, laws_markBook.f, laws_heldSlotS.f, laws_heldBook.f, laws_FnExactEmptyBook.f -/
theorem FnExactEmptyBook : laws_FnExactEmptyBook.Pure := by
  intro a0 _
  by_cases h : 1 ≤ a0 ∧ a0 ≤ 6
  · refine ⟨20, ?_⟩
    obtain rfl | rfl | rfl | rfl | rfl | rfl : a0 = 1 ∨ a0 = 2 ∨ a0 = 3 ∨ a0 = 4 ∨ a0 = 5 ∨ a0 = 6 := by omega
    all_goals decide +kernel
  · refine ⟨20, ?_⟩
    have e1 : spec_EmptyBook.f a0 = some ([], false) := by
      unfold spec_EmptyBook.f spec_l1In.f
      by_cases h1 : a0 ≥ 1
      · rw [if_pos h1]; simp only [Option.bind_some]; rw [if_neg (by simp; omega)]
      · rw [if_neg h1]; rfl
    have e2 : impl_EmptyBook.f a0 = some ([], false) := e1
    have e3 : laws_eqBook.f 20 [] [] = some true := by decide +kernel
    have e4 : laws_eqBook.f 19 [] [] = some true := by decide +kernel
    have e5 : laws_markBook.f 19 [] 1 = some (1, []) := by rfl
    have e6 : laws_heldBook.f 19 [] 1 = some 1 := by decide +kernel
    have e7 : laws_heldBook.f 18 [] 1 = some 1 := by decide +kernel
    simp [laws_FnExactEmptyBook.f, laws_FnExactEmptyBook.j0, laws_FnExactEmptyBook.j1, e1, e2, e3, e4, e5, e6, e7]

end Go.Proofs.Ythjddhannpdfeaa.Pure
