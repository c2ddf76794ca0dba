import Derived.Test.YtemgbakjlbdibaaGb
namespace Go.Proofs.Ytemgbakjlbdibaa.G
open Go.RowKit Go.Proofs.YtemgbakjlbdibaaW.PrintWords
set_option linter.unusedVariables false
theorem isHeapOf_fn (b : Nat) (A0 A1 A2 : Option Addr) (c0 c1 c2 : Nat) (F : List (List Int)) (L : List Bool) (R : List Int) (x : Int) (w : World) (hh : HeapAt w A0 A1 A2 c0 c1 c2 F L R)
    (hb : Blk w b #[.slice A0 F.length c0, .slice A1 L.length c1, .slice A2 R.length c2] 30) :
    Calls Try.prog 103 (#[.int .i64 x] ++ #[.pointer (some ⟨b, 0, none⟩)]) w fun e w' => e = .returned (.bool (!isRefB L x)) ∧ Below w.heap.size w w' := by
  have k0 := hb.cell 0 rfl
  have k1 := hb.cell 1 rfl
  have k2 := hb.cell 2 rfl
  have HL := Lib.hid (isRef_calls A0 A1 A2 c0 c1 c2 F L R x w hh)
  clear hh hb
  generalize isRefB L x = r at HL ⊢
  go_enter Try.func103, Try.ntmps103
  go_wp2_with (go_at_call 66; refine HL.out.mono ?_; rintro e w' ⟨rfl, hb'⟩)
  go_ret
  exact ⟨rfl, hb'⟩

end Go.Proofs.Ytemgbakjlbdibaa.G
