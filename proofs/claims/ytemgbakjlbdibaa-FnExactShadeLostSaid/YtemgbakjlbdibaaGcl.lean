import Derived.Test.YtemgbakjlbdibaaGis
namespace Go.Proofs.Ytemgbakjlbdibaa.G
open Go.RowKit Go.Proofs.YtemgbakjlbdibaaW.PrintWords
set_option linter.unusedVariables false
/-- Are these colours? -/
def colourB (x : Int) : Bool := decide (0 ≤ x ∧ x ≤ 2)
def colouredB (F : List (List Int)) (L : List Bool) (R : List Int) (l : List Int) : Bool := goodHeapB F L R 12 && (decide (l.length ≤ 12) && !(l.any fun x => !colourB x)) && decide (l.length = F.length)
theorem colour_fn (x : Int) (w : World) : Calls Try.prog 106 (#[.int .i64 x] ++ #[]) w fun e w' => e = .returned (.bool (!colourB x)) ∧ Below w.heap.size w w' := by
  have HW := Lib.hid (within_calls x 0 2 w)
  change Hid (Calls Try.prog _ _ _ fun e w' => e = .returned (.bool (colourB x)) ∧ _) at HW
  generalize colourB x = r at HW ⊢
  go_enter Try.func106, Try.ntmps106
  go_wp2_with (go_at_call 56; refine HW.out.mono ?_; rintro e w' ⟨rfl, hb'⟩)
  go_ret
  first | exact ⟨rfl, hb'⟩ | (obtain ⟨q, rfl⟩ := hb'; exact ⟨rfl, bl_drewN (Below.refl _ w) q⟩)
theorem areColours_calls (A : Option Addr) (c : Nat) (l : List Int) (w : World) (hr : Kd.C (Kd.int .i64) w A l.length l) (hc : l.length ≤ c) :
    Calls Try.prog 102 #[.slice A l.length c] w fun e w' => e = .returned (.bool (decide (l.length ≤ 12) && !(l.any fun x => !colourB x))) ∧ Below w.heap.size w w' := by
  have hll : l.length ≤ 9223372036854775807 := hr.2.1
  by_cases h12 : l.length ≤ 12
  · have HCF := Lib.hid (ContainsFunc_ints 106 #[] (fun x => !colourB x) A c l w (enters_of Try.func106 (by kernel_rfl) rfl) hr
      (fun W2 x hb2 _ => (colour_fn x W2).mono fun e w' ⟨he, hb'⟩ => ⟨he, bl_trans hb2 hb'⟩))
    have h12z : (l.length : Int) ≤ 12 := by omega
    clear hr
    generalize (l.any fun x => !colourB x) = r at HCF ⊢
    rw [decide_eq_true h12, Bool.true_and]
    go_enter Try.func102, Try.ntmps102
    go_wp2_with (go_at_call 64; refine HCF.out.mono ?_; rintro e w' ⟨rfl, hb'⟩)
    go_ret
    exact ⟨by first | rfl | (cases r <;> rfl), hb'⟩
  · have h12z : ¬ (l.length : Int) ≤ 12 := by omega
    rw [decide_eq_false h12, Bool.false_and]
    go_enter Try.func102, Try.ntmps102
    go_wp2
    go_ret
    exact ⟨rfl, Below.refl _ w⟩
theorem areColoured_calls (A0 A1 A2 : Option Addr) (c0 c1 c2 : Nat) (F : List (List Int)) (L : List Bool) (R : List Int) (A : Option Addr) (c : Nat) (l : List Int) (w : World) (hh : HeapAt w A0 A1 A2 c0 c1 c2 F L R) (hr : Kd.C (Kd.int .i64) w A l.length l) (hc : l.length ≤ c) :
    Calls Try.prog 88 #[.agg #[.slice A0 F.length c0, .slice A1 L.length c1, .slice A2 R.length c2], .slice A l.length c] w fun e w' => e = .returned (.bool (colouredB F L R l)) ∧ Below w.heap.size w w' := by
  have hll : l.length ≤ 9223372036854775807 := hr.2.1
  have hB := bl_alloc (Below.refl _ w) (.cells #[.slice A0 F.length c0, .slice A1 L.length c1, .slice A2 R.length c2] 30)
  have KB := Lib.hid (Blk.new w #[.slice A0 F.length c0, .slice A1 L.length c1, .slice A2 R.length c2] 30)
  have HG := Lib.hid (isHeap_calls A0 A1 A2 c0 c1 c2 F L R _ (hh.below hB))
  have HC := Lib.hid (fun (W : World) (hbW : Below w.heap.size w W) => areColours_calls A c l W (Kd.C_below hr hbW) hc)
  have HB := Lib.hid hB
  have k0 := KB.out.cell 0 rfl
  have k1 := KB.out.cell 1 rfl
  have k2 := KB.out.cell 2 rfl
  clear hB hh hr
  unfold colouredB
  generalize goodHeapB F L R 12 = g at HG ⊢
  generalize (decide (l.length ≤ 12) && !(l.any fun x => !colourB x)) = r at HC ⊢
  cases g with
  | false =>
    go_enter Try.func88, Try.ntmps88
    go_wp2_with (go_at_call 55; refine HG.out.mono ?_; rintro e w' ⟨rfl, hb'⟩)
    go_ret
    exact ⟨rfl, bl_trans HB.out hb'⟩
  | true =>
    cases r with
    | false =>
      go_enter Try.func88, Try.ntmps88
      go_wp2_with (first | (go_at_call 102; refine (HC.out _ HB'.out).mono ?_; rintro e w' ⟨rfl, hb2⟩) | (go_at_call 55; refine HG.out.mono ?_; rintro e w' ⟨rfl, hb'⟩; have HB' := Lib.hid (bl_trans HB.out hb'); have KB' := Lib.hid (KB.out.bl hb'); clear hb'))
      go_ret
      exact ⟨rfl, bl_trans HB'.out hb2⟩
    | true =>
      by_cases hl : l.length = F.length
      · rw [decide_eq_true hl]
        have hlb : ((l.length : Int) == (F.length : Int)) = true := by simp [hl]
        have HL := Lib.hid hl
        clear hl
        go_enter Try.func88, Try.ntmps88
        go_wp2_with (first | (go_at_call 102; refine (HC.out _ HB'.out).mono ?_; rintro e w' ⟨rfl, hb2⟩; have KB2 := Lib.hid (KB'.out.bl hb2); have k10 := KB2.out.cell 0 rfl) | (go_at_call 55; refine HG.out.mono ?_; rintro e w' ⟨rfl, hb'⟩; have HB' := Lib.hid (bl_trans HB.out hb'); have KB' := Lib.hid (KB.out.bl hb'); clear hb'))
        go_ret
        exact ⟨rfl, bl_trans HB'.out hb2⟩
      · rw [decide_eq_false hl]
        have hlb : ((l.length : Int) == (F.length : Int)) = false := by simp; omega
        have HL := Lib.hid hl
        clear hl
        go_enter Try.func88, Try.ntmps88
        go_wp2_with (first | (go_at_call 102; refine (HC.out _ HB'.out).mono ?_; rintro e w' ⟨rfl, hb2⟩; have KB2 := Lib.hid (KB'.out.bl hb2); have k10 := KB2.out.cell 0 rfl) | (go_at_call 55; refine HG.out.mono ?_; rintro e w' ⟨rfl, hb'⟩; have HB' := Lib.hid (bl_trans HB.out hb'); have KB' := Lib.hid (KB.out.bl hb'); clear hb'))
        go_ret
        exact ⟨rfl, bl_trans HB'.out hb2⟩

end Go.Proofs.Ytemgbakjlbdibaa.G
