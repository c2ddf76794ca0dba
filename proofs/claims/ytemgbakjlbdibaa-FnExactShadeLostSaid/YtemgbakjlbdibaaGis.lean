import Derived.Test.YtemgbakjlbdibaaGd
namespace Go.Proofs.Ytemgbakjlbdibaa.G
open Go.RowKit Go.Proofs.YtemgbakjlbdibaaW.PrintWords
set_option linter.unusedVariables false
theorem isHeap_calls (A0 A1 A2 : Option Addr) (c0 c1 c2 : Nat) (F : List (List Int)) (L : List Bool) (R : List Int) (w : World) (hh : HeapAt w A0 A1 A2 c0 c1 c2 F L R) :
    Calls Try.prog 55 #[.agg #[.slice A0 F.length c0, .slice A1 L.length c1, .slice A2 R.length c2]] w fun e w' => e = .returned (.bool (goodHeapB F L R 12)) ∧ Below w.heap.size w w' := by
  have hB := bl_alloc (Below.refl _ w) (.cells #[.slice A0 F.length c0, .slice A1 L.length c1, .slice A2 R.length c2] 30)
  have HC := Lib.hid (isHeapOf_calls A0 A1 A2 c0 c1 c2 F L R 12 _ (hh.below hB))
  have HB := Lib.hid hB
  clear hh hB
  generalize goodHeapB F L R 12 = r at HC ⊢
  go_enter Try.func55, Try.ntmps55
  go_wp2_with (go_at_call 94; refine HC.out.mono ?_; rintro e w' ⟨rfl, hb'⟩)
  go_ret
  exact ⟨rfl, bl_trans HB.out hb'⟩

end Go.Proofs.Ytemgbakjlbdibaa.G
