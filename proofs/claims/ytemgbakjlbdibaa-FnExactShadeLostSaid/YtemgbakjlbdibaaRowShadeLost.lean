/- - -/
import Derived.Test.YtemgbakjlbdibaaRows
import Derived.Test.YtemgbakjlbdibaaPWS
import Derived.WalkKit
import Derived.ProofKit
import Derived.OpenShut
import Derived.ShutString
import Derived.ChangeOld
import Derived.Below
import Derived.Carry
import Derived.SizedLaws
import Derived.Lib.SmallJoins
namespace Go.Proofs.Ytemgbakjlbdibaa.fnExactShadeLost
open Go.ChangeShapes Go.WideShapes Go.ChangeAt Go.RowKit Go.Joins
set_option linter.unusedVariables false
open Go.Proofs.Ytemgbakjlbdibaa.QB Go.Proofs.YtemgbakjlbdibaaW.PrintWords
theorem own : ownKnob Try.prog.godebug = none := by kernel_rfl
theorem laidOut : laidOutB Try.prog = true := by kernel_rfl
theorem cells26 : Try.prog.cellsOf 26 = 3 := by kernel_rfl
set_option maxRecDepth 100000 in
theorem lifted (os : Os) (started : os.Started) (H : Type) (enc : TypeId × Value → H) :
    ReturnsInHanded {} Try.checked os 13 .any (Rows.fnExactShadeLostSpec.pre6 enc Try.prog Try.f13 Rows.fnExactShadeLostRow.domain false) (Rows.fnExactShadeLostSpec.post enc Try.prog Try.f13 false true false false) := by
  refine returnsInHanded_of_change_sized (C := Try.checked) own started (by kernel_rfl) Try.func13
    (ChangeSpec.witness6 (enc := enc) (C := Try.checked) false ⟨#[], #[.agg #[.slice none 0 0, .slice none 0 0, .slice none 0 0], .slice none 0 0], []⟩ 8 (by kernel_rfl) (by kernel_rfl) (by kernel_rfl) (by kernel_rfl)) ?_
  intro W base args ds gs before hval0 hW hcnd hsz0 _
  have hsz : (DataW.weightsEach Try.prog (Try.f13.params.toList ++ Rows.fnExactShadeLostSpec.plain.varTypes Try.prog) (ds ++ gs)).all (· ≤ reachBytes) = true := hsz0
  have hval : ∀ (j : Nat) t v, Try.f13.params[j]? = some t → args[j]? = some v → Value.okWide Try.prog W .any base t v := hval0
  have hW' := hW
  obtain ⟨p, q, hA0, hV, rfl, hfz, hnd⟩ := hW
  have hA : DataW.TrodAll enc Try.prog W 0 (fun _ => true) true Try.f13.params.toList args.toList ds p := hA0
  rw [Try.params13] at hA hval hsz
  obtain ⟨v0, vs0, d0, ds0, p0, q0, hargs, rfl, rfl, h0, r0⟩ := trodAll_cons hA
  obtain ⟨v1, vs1, d1, ds1, p1, q1, rfl, rfl, rfl, h1, r1⟩ := trodAll_cons r0
  obtain ⟨rfl, rfl, rfl⟩ := trodAll_nil r1
  obtain rfl : args = #[v0, v1] := by cases args; simp_all
  obtain ⟨rfl, rfl⟩ := trodVars_none hV
  have hin : ∀ x ∈ p0 ++ p1, x.block < W.heap.size := fun x hx => hW'.lt x (by simpa using hx)
  have k0 := h0
  have lt0 : ∀ x ∈ p0, x.block < W.heap.size := fun x hx => hin x (by simp [hx])
  have k1 := h1
  have lt1 : ∀ x ∈ p1, x.block < W.heap.size := fun x hx => hin x (by simp [hx])
  obtain ⟨c0_0, c0_1, c0_2, y0_0, y0_1, y0_2, m0, rfl, e0, ep0, hy0_0, hy0_1, hy0_2⟩ := open_agg3 Try.underlying26 (by kernel_rfl) cells26 (hval 0 26 v0 rfl rfl) h0
  obtain ⟨A0_0, x0_0, n0_0, rfl, le0_0, mx0_0, rd0_0, wf0_0⟩ := open_sl_C (Kd.slice 3 (Kd.int .i64)) (fun a : List Int => a.length ≤ 9223372036854775807) Try.underlying22 (by kernel_rfl) hy0_0 one_ints
  obtain ⟨A0_1, x0_1, n0_1, rfl, le0_1, mx0_1, rd0_1, wf0_1⟩ := open_sl_C Kd.bool (fun _ => True) Try.underlying23 (by kernel_rfl) hy0_1 one_bool
  obtain ⟨A0_2, x0_2, n0_2, rfl, le0_2, mx0_2, rd0_2, wf0_2⟩ := open_ints_C Try.underlying24 Try.underlying3 (by kernel_rfl) hy0_2
  obtain ⟨a1, len1, cap1, rfl⟩ := okWide_slice Try.underlying24 (hval 1 24 v1 rfl rfl)
  obtain ⟨fu1, hf1⟩ := h1
  obtain ⟨A1, x1, n1, ev1, le1, mx1, rd1, wf1⟩ := open_ints_C Try.underlying24 Try.underlying3 (by kernel_rfl) (by simpa [Value.cells] using hf1)
  obtain ⟨rfl, rfl, rfl⟩ : A1 = a1 ∧ x1.length = len1 ∧ n1 = cap1 := by injection ev1 with q1 q2 q3; exact ⟨q1.symm, q2.symm, q3.symm⟩
  clear hA0 hval0 hsz0
  refine (QB.ShadeLost_calls A0_0 A0_1 A0_2 n0_0 n0_1 n0_2 x0_0 x0_1 x0_2 A1 n1 x1 W ⟨rd0_0, le0_0, rd0_1, le0_1, rd0_2, le0_2⟩ rd1 le1 ⟨mx0_0, wf0_0, mx0_1, mx0_2⟩ mx1).mono fun e W' ⟨he, bel⟩ => ?_
  subst he
  exact ⟨_, rfl, _, _, _, [], _, [], hW', trodAll_mk1 (shut_bool Try.underlying4 _), (trodAll_cons_mk (Below.trod laidOut (by kernel_rfl) (of_decide_eq_true (by kernel_rfl)) k0 bel lt0) (trodAll_cons_mk (Below.trod laidOut (by kernel_rfl) (of_decide_eq_true (by kernel_rfl)) k1 bel lt1) trodAll_mk0)), rfl, bel.frame _, fun h => by cases h⟩
theorem over : Rows.fnExactShadeLostRow.holds Try.pinned (OpenSpec.ofChange Rows.fnExactShadeLostSpec) :=
  OpenClaim.holds_of_wide 13 Try.f13 rfl rfl rfl rfl rfl rfl rfl ⟨rfl, rfl, rfl, rfl, rfl⟩ rfl rfl rfl rfl rfl (by kernel_rfl) Try.func13 (by kernel_rfl)
    (of_decide_eq_true (by kernel_rfl)) (by unfold Func.isWrapper; first | (rw [if_pos (by decide +kernel)]; kernel_rfl) | (rw [if_neg (by decide +kernel)]; exact ⟨rfl, rfl⟩))
    (fun os started H enc _ => lifted os started H enc)
theorem proved : Rows.FnExactShadeLostSaid := over
end Go.Proofs.Ytemgbakjlbdibaa.fnExactShadeLost
namespace Go.Proofs.Ytemgbakjlbdibaa
theorem fnExactShadeLost_holds : Rows.FnExactShadeLostSaid := fnExactShadeLost.proved
end Go.Proofs.Ytemgbakjlbdibaa
