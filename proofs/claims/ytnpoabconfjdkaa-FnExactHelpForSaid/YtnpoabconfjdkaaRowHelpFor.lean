/- The program's HelpFor answers what the reference's answers, for all arguments. No condition. -/
import Derived.Test.YtnpoabconfjdkaaRows
import Derived.Test.YtnpoabconfjdkaaPFnExactHelpForx1
import Derived.WalkKit
import Derived.ProofKit
import Derived.OpenShut
import Derived.ShutString
import Derived.ChangeOld
import Derived.Below
import Derived.Carry
import Derived.SizedLaws
import Derived.Lib.SmallJoins
namespace Go.Proofs.Ytnpoabconfjdkaa.fnExactHelpFor
open Go.ChangeShapes Go.WideShapes Go.ChangeAt Go.RowKit Go.Joins
set_option linter.unusedVariables false
open Go.Proofs.Ytnpoabconfjdkaa.PFnExactHelpFor
theorem in_eq (a b c : Int) : impl_within.f a b c = some (decide (b ≤ a ∧ a ≤ c)) := by
  unfold impl_within.f; by_cases h : a ≥ b
  · rw [if_pos h]; simp [h]
  · rw [if_neg h]; simp; omega
theorem in_eq' (a b c : Int) : spec_l1In.f a b c = some (decide (b ≤ a ∧ a ≤ c)) := in_eq a b c
theorem good_eq (a b c d : Int) : spec_GoodPace.f a b c d = some (decide (1 ≤ a ∧ a ≤ 1000000) && decide (1 ≤ b ∧ b ≤ 1000000) && decide (0 ≤ c ∧ c ≤ 100000) && decide (0 ≤ d ∧ d ≤ 100000) && (decide (b < a) || c == 0)) := by
  unfold spec_GoodPace.f
  simp only [in_eq', Option.bind_some]
  cases decide (1 ≤ a ∧ a ≤ 1000000) <;> cases decide (1 ≤ b ∧ b ≤ 1000000) <;> cases decide (0 ≤ c ∧ c ≤ 100000) <;> cases decide (0 ≤ d ∧ d ≤ 100000) <;> simp
  by_cases h : b < a <;> simp [h]
theorem pace_eq (a b c d : Int) : impl_isPace.f a b c d = some (decide (1 ≤ a ∧ a ≤ 1000000) && decide (1 ≤ b ∧ b ≤ 1000000) && decide (0 ≤ c ∧ c ≤ 100000) && decide (0 ≤ d ∧ d ≤ 100000) && (decide (b < a) || c == 0)) := by
  unfold impl_isPace.f
  simp only [in_eq, Option.bind_some]
  cases decide (1 ≤ a ∧ a ≤ 1000000) <;> cases decide (1 ≤ b ∧ b ≤ 1000000) <;> cases decide (0 ≤ c ∧ c ≤ 100000) <;> cases decide (0 ≤ d ∧ d ≤ 100000) <;> simp
  by_cases h : c = 0 <;> simp [h]
theorem help_some (a b c d x : Int) (ha : 1 ≤ a ∧ a ≤ 1000000) (hb : 1 ≤ b ∧ b ≤ 1000000) (hx : 1 ≤ x) : ∃ r, spec_l12Help.f a b c d x = some r := by
  unfold spec_l12Help.f
  have e : wrap64 (a - b) = a - b := by unfold wrap64; omega
  rw [e]
  by_cases h : x ≥ a - b
  · exact ⟨_, if_pos h⟩
  · rw [if_neg h, if_neg (by omega)]; exact ⟨_, rfl⟩
theorem law_true (a b c d x : Int) : laws_FnExactHelpFor.f a b c d x = some true := by
  unfold laws_FnExactHelpFor.f laws_toPace.f impl_HelpFor.f spec_HelpFor.f impl_isTake.f
  have he : impl_Pace_help.f a b c d x = spec_l12Help.f a b c d x := rfl
  simp only [Option.bind_some, good_eq, pace_eq, in_eq, in_eq', he]
  cases h1 : (decide (1 ≤ a ∧ a ≤ 1000000) && decide (1 ≤ b ∧ b ≤ 1000000) && decide (0 ≤ c ∧ c ≤ 100000) && decide (0 ≤ d ∧ d ≤ 100000) && (decide (b < a) || c == 0)) with
  | false => simp
  | true =>
    simp only [Bool.and_eq_true, decide_eq_true_eq] at h1
    cases h2 : decide (1 ≤ x ∧ x ≤ 1000) with
    | false => simp
    | true =>
      simp only [decide_eq_true_eq] at h2
      obtain ⟨r, hr⟩ := help_some a b c d x h1.1.1.1.1 h1.1.1.1.2 h2.1
      simp [hr]
theorem own : ownKnob Try.prog.godebug = none := by kernel_rfl
theorem laidOut : laidOutB Try.prog = true := by kernel_rfl
theorem cells26 : Try.prog.cellsOf 26 = 4 := by kernel_rfl
set_option maxRecDepth 100000 in
theorem lifted (os : Os) (started : os.Started) (H : Type) (enc : TypeId × Value → H) :
    ReturnsInHanded {} Try.checked os 7 .any (Rows.fnExactHelpForSpec.pre6 enc Try.prog Try.f7 Rows.fnExactHelpForRow.domain false) (Rows.fnExactHelpForSpec.post enc Try.prog Try.f7 false true false false) := by
  refine returnsInHanded_of_change_sized (C := Try.checked) own started (by kernel_rfl) Try.func7
    (ChangeSpec.witness6 (enc := enc) (C := Try.checked) false ⟨#[], #[.agg #[.int .i64 0, .int .i64 0, .int .i64 0, .int .i64 0], .int .i64 0], []⟩ 8 (by kernel_rfl) (by kernel_rfl) (by kernel_rfl) (by kernel_rfl)) ?_
  intro W base args ds gs before hval0 hW hcnd hsz0 _
  have hsz : (DataW.weightsEach Try.prog (Try.f7.params.toList ++ Rows.fnExactHelpForSpec.plain.varTypes Try.prog) (ds ++ gs)).all (· ≤ reachBytes) = true := hsz0
  have hval : ∀ (j : Nat) t v, Try.f7.params[j]? = some t → args[j]? = some v → Value.okWide Try.prog W .any base t v := hval0
  have hW' := hW
  obtain ⟨p, q, hA0, hV, rfl, hfz, hnd⟩ := hW
  have hA : DataW.TrodAll enc Try.prog W 0 (fun _ => true) true Try.f7.params.toList args.toList ds p := hA0
  rw [Try.params7] at hA hval hsz
  obtain ⟨v0, vs0, d0, ds0, p0, q0, hargs, rfl, rfl, h0, r0⟩ := trodAll_cons hA
  obtain ⟨v1, vs1, d1, ds1, p1, q1, rfl, rfl, rfl, h1, r1⟩ := trodAll_cons r0
  obtain ⟨rfl, rfl, rfl⟩ := trodAll_nil r1
  obtain rfl : args = #[v0, v1] := by cases args; simp_all
  obtain ⟨rfl, rfl⟩ := trodVars_none hV
  have hin : ∀ x ∈ p0 ++ p1, x.block < W.heap.size := fun x hx => hW'.lt x (by simpa using hx)
  have k0 := h0
  have lt0 : ∀ x ∈ p0, x.block < W.heap.size := fun x hx => hin x (by simp [hx])
  have k1 := h1
  have lt1 : ∀ x ∈ p1, x.block < W.heap.size := fun x hx => hin x (by simp [hx])
  obtain ⟨c0_0, c0_1, c0_2, c0_3, y0_0, y0_1, y0_2, y0_3, m0, rfl, e0, ep0, hy0_0, hy0_1, hy0_2, hy0_3⟩ := open_agg4 Try.underlying26 (by kernel_rfl) cells26 (hval 0 26 v0 rfl rfl) h0
  obtain ⟨x0_0, e0_0, rfl, w0_0⟩ := DataW.trod_int Try.underlying3 hy0_0
  obtain ⟨x0_1, e0_1, rfl, w0_1⟩ := DataW.trod_int Try.underlying3 hy0_1
  obtain ⟨x0_2, e0_2, rfl, w0_2⟩ := DataW.trod_int Try.underlying3 hy0_2
  obtain ⟨x0_3, e0_3, rfl, w0_3⟩ := DataW.trod_int Try.underlying3 hy0_3
  simp at e0_0 e0_1 e0_2 e0_3
  subst e0_0 e0_1 e0_2 e0_3
  obtain ⟨x1, rfl, e1, ep1, w1⟩ := open_int Try.underlying3 (hval 1 3 v1 rfl rfl) h1
  clear hA0 hval0 hsz0
  refine (laws_FnExactHelpFor.calls x0_0 x0_1 x0_2 x0_3 x1 true W (law_true _ _ _ _ _)).mono fun e W' ⟨he, bel⟩ => ?_
  subst he
  exact ⟨_, rfl, _, _, _, [], _, [], hW', trodAll_mk1 (shut_bool Try.underlying4 _), (trodAll_cons_mk (Below.trod laidOut (by kernel_rfl) (of_decide_eq_true (by kernel_rfl)) k0 bel lt0) (trodAll_cons_mk (Below.trod laidOut (by kernel_rfl) (of_decide_eq_true (by kernel_rfl)) k1 bel lt1) trodAll_mk0)), rfl, bel.frame _, fun h => by cases h⟩
theorem over : Rows.fnExactHelpForRow.holds Try.pinned (OpenSpec.ofChange Rows.fnExactHelpForSpec) :=
  OpenClaim.holds_of_wide 7 Try.f7 rfl rfl rfl rfl rfl rfl rfl ⟨rfl, rfl, rfl, rfl, rfl⟩ rfl rfl rfl rfl rfl (by kernel_rfl) Try.func7 (by kernel_rfl)
    (of_decide_eq_true (by kernel_rfl)) (by unfold Func.isWrapper; first | (rw [if_pos (by decide +kernel)]; kernel_rfl) | (rw [if_neg (by decide +kernel)]; exact ⟨rfl, rfl⟩))
    (fun os started H enc _ => lifted os started H enc)
theorem proved : Rows.FnExactHelpForSaid := over
end Go.Proofs.Ytnpoabconfjdkaa.fnExactHelpFor
namespace Go.Proofs.Ytnpoabconfjdkaa
theorem fnExactHelpFor_holds : Rows.FnExactHelpForSaid := fnExactHelpFor.proved
end Go.Proofs.Ytnpoabconfjdkaa
