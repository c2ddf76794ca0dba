import Derived.Test.YtemgbakjlbdibaaPG
import Derived.Test.YtemgbakjlbdibaaLawW
namespace Go.Proofs.Ytemgbakjlbdibaa.QB
open Go.RowKit Go.Joins Go.ChangeShapes Go.WideShapes Go.Proofs.YtemgbakjlbdibaaW.PrintWords
set_option linter.unusedVariables false
/-- What has been marked stands as marked. -/
theorem heldIntS_eq (n : Nat) (hn : n ≤ 1048576) (k : Nat) (hk : n < k) : laws_heldIntS.f k (G.markI n 1) 1 = some (1 + (n : Int)) := by
  unfold laws_heldIntS.f
  have := loop_val (fun k i => laws_heldIntS.l0 k (G.markI n 1) (1 + (i : Int)) i) n 0 (some (1 + (n : Int))) ?_ ?_ k (by omega)
  · simpa using this
  · intro k i _ h
    simp only [laws_heldIntS.l0]
    have e : rd (G.markI n 1) (i : Int) = 1 + (i : Int) := by
      rw [rd_nat]; simp [G.markI, h]
    rw [if_pos (by rw [G.markI_length]; omega), if_pos (by omega), e, if_pos rfl, wrap_in (by omega) (by omega), wrap_in (by omega) (by omega)]
    rw [show 1 + (i : Int) + 1 = 1 + ((i + 1 : Nat) : Int) by omega, show (i : Int) + 1 = ((i + 1 : Nat) : Int) by omega]
  · intro k _
    simp only [laws_heldIntS.l0]
    rw [if_neg (by rw [G.markI_length]; omega)]
noncomputable def guardedByB (F : List (List Int)) (L : List Bool) (R : List Int) (l : List Int) : List Int × Bool := if G.colouredB F L R l = true then (lisB (guardB F l) 0, true) else ([], false)
theorem guardB_len (F : List (List Int)) (l : List Int) : (guardB F l).length = F.length := G.reachB_length _ _ _
theorem spec_GuardedBy_eq (F : List (List Int)) (L : List Bool) (R : List Int) (l : List Int) (hb : BigH F L R) (hl : l.length ≤ 1048576) (k : Nat) (hk : 2097170 < k) : spec_GuardedBy.f k F L R l = some ((guardedByB F L R l).1, (guardedByB F L R l).2) := by
  unfold spec_GuardedBy.f guardedByB
  rw [both_eq F L R l hb k (by omega) hl]; simp only [Option.bind_some]
  cases hg : G.colouredB F L R l with
  | false => simp
  | true =>
    have hF := (coloured_parts hg).2.2
    rw [if_pos rfl, spec_guarded_eq F L R l hg k (by omega)]
    simp only [Option.bind_some]
    rw [spec_l8List_eq _ (by rw [guardB_len]; omega) k (by rw [guardB_len]; omega)]; rfl
theorem impl_GuardedBy_eq (F : List (List Int)) (L : List Bool) (R : List Int) (l : List Int) (k : Nat) (hk : 2000 < k) : impl_GuardedBy.f k F L R l = some ((guardedByB F L R l).1, (guardedByB F L R l).2) := by
  unfold impl_GuardedBy.f guardedByB impl_areColoured.f
  simp only [Option.bind_some]
  cases hg : G.colouredB F L R l with
  | false => simp
  | true =>
    have hF := (coloured_parts hg).2.2
    rw [if_pos rfl, impl_guardedBy_eq F L R l hg k (by omega)]
    simp only [Option.bind_some]
    rw [impl_listed_eq _ (by rw [guardB_len]; omega) k (by rw [guardB_len]; omega)]; rfl
theorem guardedByB_len (F : List (List Int)) (L : List Bool) (R : List Int) (l : List Int) : (guardedByB F L R l).1.length ≤ 1048576 := by
  unfold guardedByB
  split
  · next hg =>
    have hF := (coloured_parts hg).2.2
    have h1 := lisB_len (guardB F l) 0
    rw [guardB_len] at h1
    simp only; omega
  · simp
theorem GuardedBy_calls (A0 A1 A2 : Option Addr) (c0 c1 c2 : Nat) (F : List (List Int)) (L : List Bool) (R : List Int) (AP : Option Addr) (cP : Nat) (l : List Int) (w : World) (hh : G.HeapAt w A0 A1 A2 c0 c1 c2 F L R) (hr : Kd.C (Kd.int .i64) w AP l.length l) (hc : l.length ≤ cP) (hok : OkH F L R) (hl : l.length ≤ 9223372036854775807) :
    Calls Try.prog 11 #[.agg #[.slice A0 F.length c0, .slice A1 L.length c1, .slice A2 R.length c2], .slice AP l.length cP] w fun e w' => e = .returned (.bool true) ∧ Below w.heap.size w w' := by
  by_cases hq : (l.length : Int) > 1048576
  · exact GuardedBy_smallA 2097180 A0 A1 A2 c0 c1 c2 F L R AP cP l w hh hr hc hq
  obtain ⟨r, hr1, hb⟩ := szHeap_eq F L R hok 1048576 (by omega) (by omega) 2097180 (by omega)
  by_cases h : r < 0
  · exact GuardedBy_small0 2097180 A0 A1 A2 c0 c1 c2 F L R AP cP l w hh hr hc hq r (Lib.hid hr1) h
  · obtain ⟨b0, b1⟩ := hb (by omega)
    have hgl := guardedByB_len F L R l
    exact GuardedBy_law 2097180 A0 A1 A2 c0 c1 c2 F L R AP cP l w hh hr hc hq r (Lib.hid hr1) (by omega) _ _ (Lib.hid (toHeap_eq F L R b1 2097180 (by omega))) (Lib.hid (toIntS_eq l (by omega) 2097180 (by omega)))
      (Lib.hid (spec_GuardedBy_eq F L R l b1 (by omega) 2097180 (by omega))) (Lib.hid (impl_GuardedBy_eq F L R l 2097180 (by omega))) (Lib.hid (eqIntS_eq _ hgl 2097180 (by omega))) (Lib.hid (eqHeap_eq F L R b1 2097180 (by omega)))
      (Lib.hid (eqIntS_eq l (by omega) 2097180 (by omega))) (by omega) (Lib.hid (heldIntS_eq _ hgl 2097180 (by omega))) b1.f.1 b1.f.2 b1.l b1.r hgl

end Go.Proofs.Ytemgbakjlbdibaa.QB
