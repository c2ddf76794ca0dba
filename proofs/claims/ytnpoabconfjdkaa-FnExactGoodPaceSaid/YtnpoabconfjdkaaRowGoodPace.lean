/- The program's GoodPace answers what the reference's answers, for all arguments. No condition. -/
import Derived.Test.YtnpoabconfjdkaaRows
import Derived.Test.YtnpoabconfjdkaaPFnExactGoodPacex1
import Derived.WalkKit
import Derived.ProofKit
import Derived.OpenShut
import Derived.ShutString
import Derived.ChangeOld
import Derived.Below
import Derived.Carry
import Derived.SizedLaws
import Derived.Lib.SmallJoins
namespace Go.Proofs.Ytnpoabconfjdkaa.fnExactGoodPace
open Go.ChangeShapes Go.WideShapes Go.ChangeAt Go.RowKit Go.Joins Go.Proofs.Ytnpoabconfjdkaa.PFnExactGoodPace
set_option linter.unusedVariables false

theorem in_eq (a b c : Int) : impl_within.f a b c = some (decide (b ≤ a ∧ a ≤ c)) := by
  unfold impl_within.f; by_cases h : a ≥ b
  · rw [if_pos h]; simp [h]
  · rw [if_neg h]; simp; omega
theorem in_eq' (a b c : Int) : spec_l1In.f a b c = some (decide (b ≤ a ∧ a ≤ c)) := in_eq a b c
theorem good_eq (a b c d : Int) : spec_GoodPace.f a b c d = some (decide (1 ≤ a ∧ a ≤ 1000000) && decide (1 ≤ b ∧ b ≤ 1000000) && decide (0 ≤ c ∧ c ≤ 100000) && decide (0 ≤ d ∧ d ≤ 100000) && (decide (b < a) || c == 0)) := by
  unfold spec_GoodPace.f
  simp only [in_eq', Option.bind_some]
  cases decide (1 ≤ a ∧ a ≤ 1000000) <;> cases decide (1 ≤ b ∧ b ≤ 1000000) <;> cases decide (0 ≤ c ∧ c ≤ 100000) <;> cases decide (0 ≤ d ∧ d ≤ 100000) <;> simp
  by_cases h : b < a <;> simp [h]
theorem pace_eq (a b c d : Int) : impl_isPace.f a b c d = some (decide (1 ≤ a ∧ a ≤ 1000000) && decide (1 ≤ b ∧ b ≤ 1000000) && decide (0 ≤ c ∧ c ≤ 100000) && decide (0 ≤ d ∧ d ≤ 100000) && (decide (b < a) || c == 0)) := by
  unfold impl_isPace.f
  simp only [in_eq, Option.bind_some]
  cases decide (1 ≤ a ∧ a ≤ 1000000) <;> cases decide (1 ≤ b ∧ b ≤ 1000000) <;> cases decide (0 ≤ c ∧ c ≤ 100000) <;> cases decide (0 ≤ d ∧ d ≤ 100000) <;> simp
  by_cases h : c = 0 <;> simp [h]
theorem law_true (a b c d : Int) : laws_FnExactGoodPace.f a b c d = some true := by
  unfold laws_FnExactGoodPace.f laws_toPace.f impl_GoodPace.f
  simp only [Option.bind_some, good_eq, pace_eq]
  simp

theorem own : ownKnob Try.prog.godebug = none := by kernel_rfl
theorem laidOut : laidOutB Try.prog = true := by kernel_rfl
theorem cells26 : Try.prog.cellsOf 26 = 4 := by kernel_rfl
set_option maxRecDepth 100000 in
theorem lifted (os : Os) (started : os.Started) (H : Type) (enc : TypeId × Value → H) :
    ReturnsInHanded {} Try.checked os 4 .any (Rows.fnExactGoodPaceSpec.pre6 enc Try.prog Try.f4 Rows.fnExactGoodPaceRow.domain false) (Rows.fnExactGoodPaceSpec.post enc Try.prog Try.f4 false true false false) := by
  refine returnsInHanded_of_change_sized (C := Try.checked) own started (by kernel_rfl) Try.func4
    (ChangeSpec.witness6 (enc := enc) (C := Try.checked) false ⟨#[], #[.agg #[.int .i64 0, .int .i64 0, .int .i64 0, .int .i64 0]], []⟩ 8 (by kernel_rfl) (by kernel_rfl) (by kernel_rfl) (by kernel_rfl)) ?_
  intro W base args ds gs before hval0 hW hcnd hsz0 _
  have hval : ∀ (j : Nat) t v, Try.f4.params[j]? = some t → args[j]? = some v → Value.okWide Try.prog W .any base t v := hval0
  have hW' := hW
  obtain ⟨p, q, hA0, hV, rfl, hfz, hnd⟩ := hW
  have hA : DataW.TrodAll enc Try.prog W 0 (fun _ => true) true Try.f4.params.toList args.toList ds p := hA0
  rw [Try.params4] at hA hval
  obtain ⟨v0, vs0, d0, ds0, p0, q0, hargs, rfl, rfl, h0, r0⟩ := trodAll_cons hA
  obtain ⟨rfl, rfl, rfl⟩ := trodAll_nil r0
  obtain rfl : args = #[v0] := by cases args; simp_all
  obtain ⟨rfl, rfl⟩ := trodVars_none hV
  have k0 := h0
  have hlt : ∀ x ∈ p0, x.block < W.heap.size := fun x hx => by simpa using hW'.lt x (by simpa using hx)
  obtain ⟨c0, c1, c2, c3, y0, y1, y2, y3, m, rfl, e0, ep, hy0, hy1, hy2, hy3⟩ := open_agg4 Try.underlying26 (by kernel_rfl) cells26 (hval 0 26 v0 rfl rfl) h0
  obtain ⟨x0, e00, rfl, w0⟩ := DataW.trod_int Try.underlying3 hy0
  obtain ⟨x1, e01, rfl, w1⟩ := DataW.trod_int Try.underlying3 hy1
  obtain ⟨x2, e02, rfl, w2⟩ := DataW.trod_int Try.underlying3 hy2
  obtain ⟨x3, e03, rfl, w3⟩ := DataW.trod_int Try.underlying3 hy3
  simp at e00 e01 e02 e03
  subst e00 e01 e02 e03
  clear hA0 hval0 hsz0 ep
  refine (laws_FnExactGoodPace.calls x0 x1 x2 x3 true W (law_true _ _ _ _)).mono fun e W' ⟨he, bel⟩ => ?_
  subst he
  exact ⟨_, rfl, _, _, _, [], _, [], hW', trodAll_mk1 (shut_bool Try.underlying4 _), (trodAll_cons_mk (Below.trod laidOut (by kernel_rfl) (of_decide_eq_true (by kernel_rfl)) k0 bel hlt) trodAll_mk0), rfl, bel.frame _, fun h => by cases h⟩
theorem over : Rows.fnExactGoodPaceRow.holds Try.pinned (OpenSpec.ofChange Rows.fnExactGoodPaceSpec) :=
  OpenClaim.holds_of_wide 4 Try.f4 rfl rfl rfl rfl rfl rfl rfl ⟨rfl, rfl, rfl, rfl, rfl⟩ rfl rfl rfl rfl rfl (by kernel_rfl) Try.func4 (by kernel_rfl)
    (of_decide_eq_true (by kernel_rfl)) (by unfold Func.isWrapper; first | (rw [if_pos (by decide +kernel)]; kernel_rfl) | (rw [if_neg (by decide +kernel)]; exact ⟨rfl, rfl⟩))
    (fun os started H enc _ => lifted os started H enc)
theorem proved : Rows.FnExactGoodPaceSaid := over
end Go.Proofs.Ytnpoabconfjdkaa.fnExactGoodPace
namespace Go.Proofs.Ytnpoabconfjdkaa
/-- The row, under a short name, for the claim. -/
theorem fnExactGoodPace_holds : Rows.FnExactGoodPaceSaid := fnExactGoodPace.proved
end Go.Proofs.Ytnpoabconfjdkaa
