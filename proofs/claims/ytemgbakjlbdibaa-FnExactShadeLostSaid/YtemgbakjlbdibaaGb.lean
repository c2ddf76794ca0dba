import Derived.Test.YtemgbakjlbdibaaGa
namespace Go.Proofs.Ytemgbakjlbdibaa.G
open Go.RowKit Go.Proofs.YtemgbakjlbdibaaW.PrintWords
set_option linter.unusedVariables false
theorem isLive_calls (A0 A1 A2 : Option Addr) (c0 c1 c2 : Nat) (F : List (List Int)) (L : List Bool) (R : List Int) (k : Int) (w : World) (hh : HeapAt w A0 A1 A2 c0 c1 c2 F L R) :
    Calls Try.prog 74 #[.agg #[.slice A0 F.length c0, .slice A1 L.length c1, .slice A2 R.length c2], .int .i64 k] w fun e w' => e = .returned (.bool (decide (0 ≤ k) && L.getD k.toNat false)) ∧ Below w.heap.size w w' := by
  have hl : L.length ≤ 9223372036854775807 := hh.rL.2.1
  have HH := Lib.hid hh
  clear hh
  by_cases h : 0 ≤ k ∧ k ≤ (L.length : Int) - 1
  · obtain ⟨ad, rfl, hc⟩ := Kd.at_bool HH.out.rL k h.1 (by omega)
    have hv : rdOf false L k = L.getD k.toNat false := rfl
    rw [hv] at hc
    have e : (decide (0 ≤ k) && L.getD k.toNat false) = L.getD k.toNat false := by simp [h.1]
    rw [e]
    clear e hv
    generalize L.getD k.toNat false = b at hc ⊢
    have HW := Lib.hid (within_calls k 0 ((L.length : Int) - 1))
    rw [decide_eq_true h] at HW
    obtain ⟨h1, h2⟩ := h
    have hcA := cell_alloc hc
    clear hc
    go_enter Try.func74, Try.ntmps74
    go_wp2_with (go_at_call 56; refine (HW.out _).mono ?_; rintro e w' ⟨rfl, q, rfl⟩)
    go_ret
    exact ⟨rfl, bl_drewN (bl_alloc (Below.refl _ w) _) _⟩
  · have e : (decide (0 ≤ k) && L.getD k.toNat false) = false := by
      by_cases h0 : 0 ≤ k
      · have : L.length ≤ k.toNat := by omega
        rw [List.getD_eq_getElem?_getD, List.getElem?_eq_none this]; simp
      · simp [h0]
    rw [e]
    clear e
    have HW := Lib.hid (within_calls k 0 ((L.length : Int) - 1))
    rw [decide_eq_false h] at HW
    clear h
    go_enter Try.func74, Try.ntmps74
    go_wp2_with (go_at_call 56; refine (HW.out _).mono ?_; rintro e w' ⟨rfl, q, rfl⟩)
    go_ret
    exact ⟨rfl, bl_drewN (bl_alloc (Below.refl _ w) _) _⟩

theorem isRef_calls (A0 A1 A2 : Option Addr) (c0 c1 c2 : Nat) (F : List (List Int)) (L : List Bool) (R : List Int) (k : Int) (w : World) (hh : HeapAt w A0 A1 A2 c0 c1 c2 F L R) :
    Calls Try.prog 66 #[.agg #[.slice A0 F.length c0, .slice A1 L.length c1, .slice A2 R.length c2], .int .i64 k] w fun e w' => e = .returned (.bool (isRefB L k)) ∧ Below w.heap.size w w' := by
  unfold isRefB
  by_cases h : k = -1
  · subst h
    clear hh
    go_enter Try.func66, Try.ntmps66
    go_wp2
    go_ret
    exact ⟨rfl, bl_alloc (Below.refl _ w) _⟩
  · have hb : (k == -1) = false := by simpa using h
    rw [hb, Bool.false_or]
    have HL := Lib.hid (fun (W : World) (hb : Below w.heap.size w W) => isLive_calls A0 A1 A2 c0 c1 c2 F L R k W (hh.below hb))
    clear hh h
    generalize (decide (0 ≤ k) && L.getD k.toNat false) = b at HL ⊢
    go_enter Try.func66, Try.ntmps66
    go_wp2_with (go_at_call 74; refine (HL.out _ (bl_alloc (Below.refl _ w) _)).mono ?_; rintro e w' ⟨rfl, hb'⟩)
    go_ret
    exact ⟨rfl, bl_trans (bl_alloc (Below.refl _ w) _) hb'⟩

end Go.Proofs.Ytemgbakjlbdibaa.G
