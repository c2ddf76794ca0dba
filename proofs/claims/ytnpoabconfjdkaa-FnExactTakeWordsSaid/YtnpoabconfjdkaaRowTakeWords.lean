/- The program's TakeWords answers what the reference's answers, for all arguments. No condition. -/
import Derived.Test.YtnpoabconfjdkaaRows
import Derived.Test.YtnpoabconfjdkaaPFnExactTakeWordsx2
import Derived.WalkKit
import Derived.ProofKit
import Derived.OpenShut
import Derived.ShutString
import Derived.ChangeOld
import Derived.Below
import Derived.Carry
import Derived.SizedLaws
import Derived.Lib.SmallJoins
namespace Go.Proofs.Ytnpoabconfjdkaa.fnExactTakeWords
open Go.ChangeShapes Go.WideShapes Go.ChangeAt Go.RowKit Go.Joins
set_option linter.unusedVariables false
open Go.Proofs.Ytnpoabconfjdkaa.PFnExactTakeWords Go.Proofs.YtnpoabconfjdkaaW.PrintWords
theorem in_eq (a b c : Int) : impl_within.f a b c = some (decide (b ≤ a ∧ a ≤ c)) := by
  unfold impl_within.f; by_cases h : a ≥ b
  · rw [if_pos h]; simp [h]
  · rw [if_neg h]; simp; omega
theorem in_eq' (a b c : Int) : spec_l1In.f a b c = some (decide (b ≤ a ∧ a ≤ c)) := in_eq a b c
theorem good_eq (a b c d : Int) : spec_GoodPace.f a b c d = some (decide (1 ≤ a ∧ a ≤ 1000000) && decide (1 ≤ b ∧ b ≤ 1000000) && decide (0 ≤ c ∧ c ≤ 100000) && decide (0 ≤ d ∧ d ≤ 100000) && (decide (b < a) || c == 0)) := by
  unfold spec_GoodPace.f
  simp only [in_eq', Option.bind_some]
  cases decide (1 ≤ a ∧ a ≤ 1000000) <;> cases decide (1 ≤ b ∧ b ≤ 1000000) <;> cases decide (0 ≤ c ∧ c ≤ 100000) <;> cases decide (0 ≤ d ∧ d ≤ 100000) <;> simp
  by_cases h : b < a <;> simp [h]
theorem pace_eq (a b c d : Int) : impl_isPace.f a b c d = some (decide (1 ≤ a ∧ a ≤ 1000000) && decide (1 ≤ b ∧ b ≤ 1000000) && decide (0 ≤ c ∧ c ≤ 100000) && decide (0 ≤ d ∧ d ≤ 100000) && (decide (b < a) || c == 0)) := by
  unfold impl_isPace.f
  simp only [in_eq, Option.bind_some]
  cases decide (1 ≤ a ∧ a ≤ 1000000) <;> cases decide (1 ≤ b ∧ b ≤ 1000000) <;> cases decide (0 ≤ c ∧ c ≤ 100000) <;> cases decide (0 ≤ d ∧ d ≤ 100000) <;> simp
  by_cases h : c = 0 <;> simp [h]
theorem wrap_wrap (x : Int) : wrap64 (wrap64 x) = wrap64 x := by unfold wrap64; omega
theorem help_some (a b c d x : Int) (ha : 1 ≤ a ∧ a ≤ 1000000) (hb : 1 ≤ b ∧ b ≤ 1000000) (hc : 0 ≤ c ∧ c ≤ 100000) (hx : 1 ≤ x) : ∃ r, spec_l12Help.f a b c d x = some r ∧ wrap64 r = r := by
  unfold spec_l12Help.f
  have e : wrap64 (a - b) = a - b := by unfold wrap64; omega
  rw [e]
  by_cases h : x ≥ a - b
  · exact ⟨_, if_pos h, by unfold wrap64; omega⟩
  · rw [if_neg h, if_neg (by omega)]; exact ⟨_, rfl, wrap_wrap _⟩
theorem law_true (a b c d x : Int) : laws_FnExactTakeWords.f 3 a b c d x = some true := by
  unfold laws_FnExactTakeWords.f laws_toPace.f impl_TakeWords.f spec_TakeWords.f spec_TakeAll.f impl_isTake.f spec_l1All.f
  have he : ∀ a b c d x, impl_Pace_help.f a b c d x = spec_l12Help.f a b c d x := fun _ _ _ _ _ => rfl
  have hrd : rd [x] 0 = x := rfl
  have hw1 : wrap64 (0 + 1) = 1 := by unfold wrap64; omega
  simp only [Option.bind_some, good_eq, pace_eq, in_eq, List.length_singleton]
  cases h1 : (decide (1 ≤ a ∧ a ≤ 1000000) && decide (1 ≤ b ∧ b ≤ 1000000) && decide (0 ≤ c ∧ c ≤ 100000) && decide (0 ≤ d ∧ d ≤ 100000) && (decide (b < a) || c == 0)) with
  | false => simp [spec_TakeAll.j0, impl_TakeWords.j0, laws_eqPace.f]
  | true =>
    simp only [Bool.and_eq_true, decide_eq_true_eq] at h1
    cases h2 : decide (1 ≤ x ∧ x ≤ 1000) with
    | false =>
      simp [spec_l1All.l0, spec_TakeAll.j0, impl_TakeWords.j0, laws_eqPace.f, in_eq', hrd, h2]
    | true =>
      have h3 := h2
      simp only [decide_eq_true_eq] at h3
      obtain ⟨r, hr, hr0⟩ := help_some a b c d x h1.1.1.1.1 h1.1.1.1.2 h1.1.1.2 h3.1
      simp only [spec_l1All.l0, spec_TakeAll.j0, impl_TakeWords.j0, spec_TakeAll.l0, in_eq', hrd, h2, hw1, he, hr, good_eq, pace_eq, impl_Pace_take.f, Option.bind_some, List.length_singleton]
      generalize (decide (1 ≤ a ∧ a ≤ 1000000) && decide (1 ≤ wrap64 (b + x) ∧ wrap64 (b + x) ≤ 1000000) && decide (0 ≤ wrap64 (c - r) ∧ wrap64 (c - r) ≤ 100000) && decide (0 ≤ wrap64 (d + r) ∧ wrap64 (d + r) ≤ 100000) && (decide (wrap64 (b + x) < a) || wrap64 (c - r) == 0)) = g
      cases g <;> simp [laws_eqPace.f, hr0]
theorem own : ownKnob Try.prog.godebug = none := by kernel_rfl
theorem laidOut : laidOutB Try.prog = true := by kernel_rfl
theorem cells26 : Try.prog.cellsOf 26 = 4 := by kernel_rfl
set_option maxRecDepth 100000 in
theorem lifted (os : Os) (started : os.Started) (H : Type) (enc : TypeId × Value → H) :
    ReturnsInHanded {} Try.checked os 8 .any (Rows.fnExactTakeWordsSpec.pre6 enc Try.prog Try.f8 Rows.fnExactTakeWordsRow.domain false) (Rows.fnExactTakeWordsSpec.post enc Try.prog Try.f8 false true false false) := by
  refine returnsInHanded_of_change_sized (C := Try.checked) own started (by kernel_rfl) Try.func8
    (ChangeSpec.witness6 (enc := enc) (C := Try.checked) false ⟨#[], #[.agg #[.int .i64 0, .int .i64 0, .int .i64 0, .int .i64 0], .int .i64 0], []⟩ 8 (by kernel_rfl) (by kernel_rfl) (by kernel_rfl) (by kernel_rfl)) ?_
  intro W base args ds gs before hval0 hW hcnd hsz0 _
  have hsz : (DataW.weightsEach Try.prog (Try.f8.params.toList ++ Rows.fnExactTakeWordsSpec.plain.varTypes Try.prog) (ds ++ gs)).all (· ≤ reachBytes) = true := hsz0
  have hval : ∀ (j : Nat) t v, Try.f8.params[j]? = some t → args[j]? = some v → Value.okWide Try.prog W .any base t v := hval0
  have hW' := hW
  obtain ⟨p, q, hA0, hV, rfl, hfz, hnd⟩ := hW
  have hA : DataW.TrodAll enc Try.prog W 0 (fun _ => true) true Try.f8.params.toList args.toList ds p := hA0
  rw [Try.params8] at hA hval hsz
  obtain ⟨v0, vs0, d0, ds0, p0, q0, hargs, rfl, rfl, h0, r0⟩ := trodAll_cons hA
  obtain ⟨v1, vs1, d1, ds1, p1, q1, rfl, rfl, rfl, h1, r1⟩ := trodAll_cons r0
  obtain ⟨rfl, rfl, rfl⟩ := trodAll_nil r1
  obtain rfl : args = #[v0, v1] := by cases args; simp_all
  obtain ⟨rfl, rfl⟩ := trodVars_none hV
  have hin : ∀ x ∈ p0 ++ p1, x.block < W.heap.size := fun x hx => hW'.lt x (by simpa using hx)
  have k0 := h0
  have lt0 : ∀ x ∈ p0, x.block < W.heap.size := fun x hx => hin x (by simp [hx])
  have k1 := h1
  have lt1 : ∀ x ∈ p1, x.block < W.heap.size := fun x hx => hin x (by simp [hx])
  obtain ⟨c0_0, c0_1, c0_2, c0_3, y0_0, y0_1, y0_2, y0_3, m0, rfl, e0, ep0, hy0_0, hy0_1, hy0_2, hy0_3⟩ := open_agg4 Try.underlying26 (by kernel_rfl) cells26 (hval 0 26 v0 rfl rfl) h0
  obtain ⟨x0_0, e0_0, rfl, w0_0⟩ := DataW.trod_int Try.underlying3 hy0_0
  obtain ⟨x0_1, e0_1, rfl, w0_1⟩ := DataW.trod_int Try.underlying3 hy0_1
  obtain ⟨x0_2, e0_2, rfl, w0_2⟩ := DataW.trod_int Try.underlying3 hy0_2
  obtain ⟨x0_3, e0_3, rfl, w0_3⟩ := DataW.trod_int Try.underlying3 hy0_3
  simp at e0_0 e0_1 e0_2 e0_3
  subst e0_0 e0_1 e0_2 e0_3
  obtain ⟨x1, rfl, e1, ep1, w1⟩ := open_int Try.underlying3 (hval 1 3 v1 rfl rfl) h1
  clear hA0 hval0 hsz0
  refine (laws_FnExactTakeWords.calls 3 x0_0 x0_1 x0_2 x0_3 x1 true W (law_true _ _ _ _ _)).mono fun e W' ⟨he, bel⟩ => ?_
  subst he
  exact ⟨_, rfl, _, _, _, [], _, [], hW', trodAll_mk1 (shut_bool Try.underlying4 _), (trodAll_cons_mk (Below.trod laidOut (by kernel_rfl) (of_decide_eq_true (by kernel_rfl)) k0 bel lt0) (trodAll_cons_mk (Below.trod laidOut (by kernel_rfl) (of_decide_eq_true (by kernel_rfl)) k1 bel lt1) trodAll_mk0)), rfl, bel.frame _, fun h => by cases h⟩
theorem over : Rows.fnExactTakeWordsRow.holds Try.pinned (OpenSpec.ofChange Rows.fnExactTakeWordsSpec) :=
  OpenClaim.holds_of_wide 8 Try.f8 rfl rfl rfl rfl rfl rfl rfl ⟨rfl, rfl, rfl, rfl, rfl⟩ rfl rfl rfl rfl rfl (by kernel_rfl) Try.func8 (by kernel_rfl)
    (of_decide_eq_true (by kernel_rfl)) (by unfold Func.isWrapper; first | (rw [if_pos (by decide +kernel)]; kernel_rfl) | (rw [if_neg (by decide +kernel)]; exact ⟨rfl, rfl⟩))
    (fun os started H enc _ => lifted os started H enc)
theorem proved : Rows.FnExactTakeWordsSaid := over
end Go.Proofs.Ytnpoabconfjdkaa.fnExactTakeWords
namespace Go.Proofs.Ytnpoabconfjdkaa
theorem fnExactTakeWords_holds : Rows.FnExactTakeWordsSaid := fnExactTakeWords.proved
end Go.Proofs.Ytnpoabconfjdkaa
