import Derived.Test.YtemgbakjlbdibaaGe
import Derived.Lib.SliceRun
namespace Go.Proofs.Ytemgbakjlbdibaa.G
open Go.RowKit Go.Proofs.YtemgbakjlbdibaaW.PrintWords
set_option linter.unusedVariables false
theorem infoI : (Try.prog.info? 3).map (fun i => (i.zero, i.size, i.bytes)) = some (some (.int .i64 0), 1, 8) := by kernel_rfl
theorem R_empty {α : Type} (d : Kd α) (e : Nat) (w : World) (base : Nat) (hb : base ≤ w.heap.size) : d.R e (w.alloc (.cells #[] e)) base (fun _ => True) (.slice (some ⟨w.heap.size, 0, none⟩) 0 0) [] :=
  ⟨fun _ _ => trivial, [], ⟨by simp, .inr ⟨w.heap.size, 0, #[], rfl, hb, heap_alloc_new w _, Nat.zero_le _, by simp [maxLen], by simp, by simp⟩⟩, Reps.none _ _⟩
theorem C_none {α : Type} {d : Kd α} {w : World} {l : List α} (h : Kd.C d w none l.length l) : l = [] := by
  rcases Nat.eq_zero_or_pos l.length with h0 | h0
  · exact List.eq_nil_of_length_eq_zero h0
  · obtain ⟨ad, h, _⟩ := h.2.2 h0
    cases h
set_option maxHeartbeats 400000 in
set_option maxRecDepth 100000 in
theorem Clone_ints (A : Option Addr) (c : Nat) (l : List Int) (w : World) (hr : Kd.C (Kd.int .i64) w A l.length l) (hc : l.length ≤ c) (hm : l.length ≤ 1048576) :
    Calls Try.prog 68 #[.slice A l.length c] w fun e w' => ∃ v, e = .returned v ∧ Kd.R (Kd.int .i64) 3 w' w.heap.size (fun _ => True) v l ∧ Below w.heap.size w w' := by
  rcases A with _ | ad
  · obtain rfl := C_none hr
    clear hr hc hm
    have q22 : ∀ W, (binOp .eql 24 (.slice none ([] : List Int).length c) (.slice none 0 0)).run Try.prog W = .ok (.bool true) W := fun W => Lib.run_eql_slice_nil W _ _ _ _ _ _ _ Try.underlying24
    simp only [List.length_nil] at q22
    go_enter Try.func68, Try.ntmps68
    go_wp2
    go_ret
    exact ⟨_, rfl, Kd.R_nil _ _ _ _ _, Below.refl _ w⟩
  · have HR := Lib.hid (Kd.C_below hr (bl_alloc (Below.refl _ w) (.cells #[] 3)))
    have HE := Lib.hid (R_empty (Kd.int .i64) 3 w w.heap.size (Nat.le_refl _))
    have HB := Lib.hid (bl_alloc (Below.refl _ w) (.cells #[] 3))
    have HL := Lib.hid hm
    clear hr hm
    generalize hn : l.length = n
    have HN := Lib.hid hn
    rw [hn] at HR HL
    clear hn hc
    have q22 : ∀ W, (binOp .eql 24 (.slice (some ad) n c) (.slice none 0 0)).run Try.prog W = .ok (.bool false) W := fun W => Lib.run_eql_slice_nil W _ _ _ _ _ _ _ Try.underlying24
    go_enter Try.func68, Try.ntmps68
    go_wp2_with (at_builtin; go_loud (refine Kd.R_append_rows (Kd.int .i64) (w0 := w) w.heap.size rfl (.tmp 5) (.tmp 6) 24 3 (.int .i64 0) 8 rfl Try.underlying24 infoI rfl (by decide) (by omega) _ [] l _ n c (fun _ => True) (fun _ => False) rfl rfl HE.out HR.out (fun _ _ h => h) (fun _ h => h.elim) (fun _ _ => trivial) HB.out HB.out.size (by have := HL.out; simp; omega) ?_))
    intro v1 w1 ho hb hg hat
    go_wp2
    go_ret
    exact ⟨_, rfl, ho, hb⟩

end Go.Proofs.Ytemgbakjlbdibaa.G
