import Derived.Test.YtemgbakjlbdibaaGis
import Derived.Test.YtemgbakjlbdibaaGh
namespace Go.Proofs.Ytemgbakjlbdibaa.G
open Go.RowKit Go.Proofs.YtemgbakjlbdibaaW.PrintWords
set_option linter.unusedVariables false
/-- The names, those of what is not reached struck out. -/
def strikeX (S : List Bool) (x : Int) : Int := if 0 ≤ x ∧ S.getD x.toNat false = false then -1 else x
def strikeB (F : List (List Int)) (L : List Bool) (R : List Int) (l : List Int) : List Int × Bool :=
  if goodHeapB F L R 12 = true ∧ l.length ≤ 10 ∧ (l.any fun x => !isRefB L x) = false then (l.map (strikeX (seenB F R)), true) else ([], false)
def strikeTo (S : List Bool) (l : List Int) (i : Nat) : List Int := (l.take i).map (strikeX S) ++ l.drop i
theorem strikeTo_zero (S : List Bool) (l : List Int) : strikeTo S l 0 = l := by simp [strikeTo]
theorem strikeTo_all (S : List Bool) (l : List Int) : strikeTo S l l.length = l.map (strikeX S) := by simp [strikeTo]
theorem strikeTo_len (S : List Bool) (l : List Int) (i : Nat) : (strikeTo S l i).length = l.length := by simp [strikeTo]; omega
theorem strikeTo_get (S : List Bool) (l : List Int) (i : Nat) (hi : i < l.length) : (strikeTo S l i).getD i 0 = l.getD i 0 := by
  unfold strikeTo
  have hl : ((l.take i).map (strikeX S)).length = i := by simp; omega
  rw [List.getD_eq_getElem?_getD, List.getElem?_append_right (by omega), hl, Nat.sub_self, List.getElem?_drop, List.getD_eq_getElem?_getD]
  rfl
theorem strikeTo_step (S : List Bool) (l : List Int) (i : Nat) (hi : i < l.length) : (strikeTo S l i).set i (strikeX S (l.getD i 0)) = strikeTo S l (i + 1) := by
  have hl : ((l.take i).map (strikeX S)).length = i := by simp; omega
  unfold strikeTo
  rw [List.set_append_right _ _ (by omega), hl, Nat.sub_self, List.take_succ_eq_append_getElem hi, List.map_append, List.append_assoc]
  congr 1
  rw [List.drop_eq_getElem_cons hi, List.set_cons_zero]
  simp [hi]
theorem strikeTo_same (S : List Bool) (l : List Int) (i : Nat) (hi : i < l.length) (h : strikeX S (l.getD i 0) = l.getD i 0) : strikeTo S l i = strikeTo S l (i + 1) := by
  unfold strikeTo
  rw [List.take_succ_eq_append_getElem hi, List.map_append, List.append_assoc, List.drop_eq_getElem_cons hi]
  have e : l.getD i 0 = l[i] := by simp [hi]
  rw [e] at h
  simp [h]
theorem strike_fn (b : Nat) (A0 A1 A2 : Option Addr) (c0 c1 c2 : Nat) (F : List (List Int)) (L : List Bool) (R : List Int) (x : Int) (w : World) (hh : HeapAt w A0 A1 A2 c0 c1 c2 F L R)
    (hb : Blk w b #[.slice A0 F.length c0, .slice A1 L.length c1, .slice A2 R.length c2] 30) :
    Calls Try.prog 65 (#[.int .i64 x] ++ #[.pointer (some ⟨b, 0, none⟩)]) w fun e w' => e = .returned (.bool (!isRefB L x)) ∧ Below w.heap.size w w' := by
  have k0 := hb.cell 0 rfl
  have k1 := hb.cell 1 rfl
  have k2 := hb.cell 2 rfl
  have HL := Lib.hid (isRef_calls A0 A1 A2 c0 c1 c2 F L R x w hh)
  clear hh hb
  generalize isRefB L x = r at HL ⊢
  go_enter Try.func65, Try.ntmps65
  go_wp2_with (go_at_call 66; refine HL.out.mono ?_; rintro e w' ⟨rfl, hb'⟩)
  go_ret
  exact ⟨rfl, hb'⟩
theorem good_okFrom' {F : List (List Int)} {L : List Bool} {R : List Int} (h : goodHeapB F L R 12 = true) : okFrom F R = true ∧ L.length = F.length ∧ F.length ≤ 12 := by
  unfold goodHeapB at h
  simp only [Bool.and_eq_true, decide_eq_true_eq, List.all_eq_true, List.mem_range] at h
  obtain ⟨⟨⟨⟨h1, h2⟩, h3⟩, h4⟩, h5⟩ := h
  have lt : ∀ x, isRefB L x = true → x < (F.length : Int) := by
    intro x hx
    unfold isRefB at hx
    simp only [Bool.or_eq_true, beq_iff_eq, Bool.and_eq_true, decide_eq_true_eq] at hx
    rcases hx with hx | ⟨h0, hx⟩
    · omega
    · by_cases hk : x.toNat < L.length
      · omega
      · rw [List.getD_eq_getElem?_getD, List.getElem?_eq_none (by omega)] at hx; cases hx
  refine ⟨okFrom_iff.2 ⟨⟨by omega, fun x hx => lt x (h5 x hx), fun f hf => ?_⟩, by omega⟩, h2, by omega⟩
  obtain ⟨k, hk, rfl⟩ := List.getElem_of_mem hf
  have := h4 k hk
  simp only [List.getD_eq_getElem?_getD, List.getElem?_eq_getElem hk, Option.getD_some] at this
  exact ⟨this.1.1, fun x hx => lt x (this.2 x hx)⟩
set_option maxHeartbeats 2000000 in
set_option maxRecDepth 100000 in
theorem StrikeOut_calls (A0 A1 A2 : Option Addr) (c0 c1 c2 : Nat) (F : List (List Int)) (L : List Bool) (R : List Int) (A : Option Addr) (c : Nat) (l : List Int) (w : World) (hh : HeapAt w A0 A1 A2 c0 c1 c2 F L R) (hr : Kd.C (Kd.int .i64) w A l.length l) (hc : l.length ≤ c) (hlm : l.length ≤ 1048576) :
    Calls Try.prog 27 #[.agg #[.slice A0 F.length c0, .slice A1 L.length c1, .slice A2 R.length c2], .slice A l.length c] w fun e w' => ∃ v, e = .returned (.tuple #[v, .bool (strikeB F L R l).2]) ∧ Kd.R (Kd.int .i64) 3 w' w.heap.size (fun _ => True) v (strikeB F L R l).1 ∧ Below w.heap.size w w' := by
  have hB := bl_alloc (Below.refl _ w) (.cells #[.slice A0 F.length c0, .slice A1 L.length c1, .slice A2 R.length c2] 30)
  have KB := Lib.hid (Blk.new w #[.slice A0 F.length c0, .slice A1 L.length c1, .slice A2 R.length c2] 30)
  have HG := Lib.hid (isHeap_calls A0 A1 A2 c0 c1 c2 F L R _ (hh.below hB))
  have HB := Lib.hid hB
  have HH := Lib.hid hh
  have HR := Lib.hid hr
  clear hB hh hr
  have k0 := KB.out.cell 0 rfl
  have k1 := KB.out.cell 1 rfl
  have k2 := KB.out.cell 2 rfl
  unfold strikeB
  cases hg : goodHeapB F L R 12 with
  | false =>
    rw [hg] at HG
    rw [if_neg (by simp)]
    go_enter Try.func27, Try.ntmps27
    go_wp2_with (go_at_call 55; refine HG.out.mono ?_; rintro e w' ⟨rfl, hb'⟩)
    go_ret2
    exact ⟨_, rfl, Kd.R_nil _ _ _ _ _, bl_trans HB.out hb'⟩
  | true =>
    rw [hg] at HG
    obtain ⟨hok, hLF, hF12⟩ := good_okFrom' hg
    have HLF := Lib.hid hLF
    clear hLF
    by_cases h10 : l.length ≤ 10
    · have h10z : (l.length : Int) ≤ 10 := by omega
      have HP := Lib.hid (fun (W : World) (hbW : Below w.heap.size w W) (hk : Blk W w.heap.size #[.slice A0 F.length c0, .slice A1 L.length c1, .slice A2 R.length c2] 30) =>
        ContainsFunc_ints 65 #[.pointer (some ⟨w.heap.size, 0, none⟩)] (fun x => !isRefB L x) A c l W (enters_of Try.func65 (by kernel_rfl) rfl) (Kd.C_below HR.out hbW)
          (fun W2 x hb2 _ => (strike_fn w.heap.size A0 A1 A2 c0 c1 c2 F L R x W2 (HH.out.below (bl_trans hbW hb2)) (hk.bl hb2)).mono fun e w' ⟨he, hb'⟩ => ⟨he, bl_trans hb2 hb'⟩))
      cases ha : (l.any fun x => !isRefB L x) with
      | true =>
        rw [ha] at HP
        rw [if_neg (by simp)]
        go_enter Try.func27, Try.ntmps27
        go_wp2_with (first | (go_at_call 64; refine (HP.out _ HB'.out KB'.out).mono ?_; rintro e w' ⟨rfl, hb2⟩) | (go_at_call 55; refine HG.out.mono ?_; rintro e w' ⟨rfl, hb'⟩; have HB' := Lib.hid (bl_trans HB.out hb'); have KB' := Lib.hid (KB.out.bl hb'); clear hb'))
        go_ret2
        exact ⟨_, rfl, Kd.R_nil _ _ _ _ _, bl_trans HB'.out hb2⟩
      | false =>
        rw [ha] at HP
        rw [if_pos ⟨rfl, h10, rfl⟩]
        have HX := Lib.hid (show ∀ x ∈ l, x < (F.length : Int) from fun x hx => by
          rw [List.any_eq_false] at ha
          have hLF := HLF.out
          have h : isRefB L x = true := by simpa using ha x hx
          unfold isRefB at h
          simp only [Bool.or_eq_true, beq_iff_eq, Bool.and_eq_true, decide_eq_true_eq] at h
          rcases h with h | ⟨h0, h⟩
          · omega
          · by_cases hk : x.toNat < L.length
            · omega
            · rw [List.getD_eq_getElem?_getD, List.getElem?_eq_none (by omega)] at h; cases h)
        have HRE := Lib.hid (fun (W : World) (hbW : Below w.heap.size w W) => reached_calls A0 A1 A2 c0 c1 c2 F L R W (HH.out.below hbW) hok)
        have HSL := Lib.hid (seenB_length (okFrom_iff.1 hok).1)
        generalize seenB F R = S at HRE HSL ⊢
        clear hok hg ha
        go_enter Try.func27, Try.ntmps27
        go_wp2_with (first
          | (go_at_call 68; refine (Clone_ints A c l _ (Kd.C_below HR.out HB4.out) hc hlm).mono ?_; rintro e w5 ⟨v7, rfl, ho, hb5⟩; obtain ⟨A7, c7, rfl⟩ := Kd.R_slice ho; have HO5 := Lib.hid (Kd.R_lower ho HB4.out.size); have HV5 := Lib.hid (Kd.R_below HV4.out hb5); have HB5 := Lib.hid (bl_trans HB4.out hb5); clear ho hb5)
          | (go_at_call 67; refine (HRE.out _ HB3.out).mono ?_; rintro e w4 ⟨v6, rfl, ho, hb4⟩; obtain ⟨A6, c6, e6⟩ := Kd.R_slice ho; rw [HSL.out] at e6; subst e6; have HV4 := Lib.hid (Kd.R_lower ho HB3.out.size); have HB4 := Lib.hid (bl_trans HB3.out hb4); clear ho hb4)
          | (go_at_call 64; refine (HP.out _ HB'.out KB'.out).mono ?_; rintro e w3 ⟨rfl, hb2⟩; have HB3 := Lib.hid (bl_trans HB'.out hb2); have KB3 := Lib.hid (KB'.out.bl hb2); have k10 := KB3.out.cell 0 rfl; have k11 := KB3.out.cell 1 rfl; have k12 := KB3.out.cell 2 rfl; clear hb2)
          | (go_at_call 55; refine HG.out.mono ?_; rintro e w' ⟨rfl, hb'⟩; have HB' := Lib.hid (bl_trans HB.out hb'); have KB' := Lib.hid (KB.out.bl hb'); clear hb'))
        have HO6 := Lib.hid (show Kd.R (Kd.int .i64) 3 w5 w.heap.size (fun _ => True) (.slice A7 l.length c7) (strikeTo S l 0) from by rw [strikeTo_zero]; exact HO5.out)
        clear HO5 HB' KB' HB3 KB3 HB4 HP HRE HG k0 k1 k2 k10 k11 k12
        go_loopg [29] l.length (fun gg v29 wr => ∃ i : Nat, i ≤ l.length ∧ l.length - i ≤ gg ∧ v29 = .int .i64 (i : Int) ∧ Hid (Kd.R (Kd.int .i64) 3 wr w.heap.size (fun _ => True) (.slice A7 l.length c7) (strikeTo S l i)) ∧ Hid (Kd.R Kd.bool 4 wr w.heap.size (fun _ => True) (.slice A6 F.length c6) S) ∧ Hid (Below w.heap.size w wr))
        case atStart => exact ⟨0, Nat.zero_le _, by omega, rfl, HO6, HV5, HB5⟩
        case round =>
          obtain ⟨i, hi, hg, rfl, HO, HV, HBr⟩ := hrel
          clear HO6 HV4 HV5 HB5
          by_cases hlt : i < l.length
          · have hltz : (i : Int) < (l.length : Int) := by omega
            obtain ⟨g7, cap7, e7, hb7, hl7, cl7, hg7⟩ := Kd.R_form HO.out (by rw [strikeTo_len]; omega)
            injection e7 with ea en ec
            subst ea ec
            clear en
            obtain ⟨hx, hf⟩ := Kd.R_celln 0 HO.out (i : Int) (by omega) hltz
            have hxv : rdOf 0 (strikeTo S l i) (i : Int) = l.getD i 0 := by rw [← strikeTo_get S l i hlt]; unfold rdOf; simp
            rw [hxv, Int.toNat_natCast] at hx
            rw [Int.toNat_natCast] at hf
            have hxl : l.getD i 0 < (F.length : Int) := HX.out _ (by simp [hlt])
            have hst := strikeTo_step S l i hlt
            have hsm := strikeTo_same S l i hlt
            clear hxv
            generalize l.getD i 0 = x at hx hxl hst hsm
            by_cases hx0 : 0 ≤ x
            · obtain ⟨g6, cap6, e6, hb6, hl6, cl6, hg6⟩ := Kd.R_form HV.out (by rw [HSL.out]; omega)
              injection e6 with ea en ec
              subst ea ec
              clear en
              obtain ⟨hy, hfy⟩ := Kd.R_celln false HV.out x hx0 hxl
              have hyv : rdOf false S x = S.getD x.toNat false := by unfold rdOf; simp
              rw [hyv] at hy
              clear hyv
              cases hs : S.getD x.toNat false with
              | true =>
                rw [hs] at hy
                have HSM := Lib.hid (hsm (by unfold strikeX; rw [if_neg (fun h => by rw [hs] at h; exact absurd h.2 (by simp))]))
                clear hsm hst hs
                go_wp2_with fail
                go_roundg (l.length - (i + 1))
                case measure => omega
                case rel => exact ⟨i + 1, by omega, by omega, by go_num, (show Hid _ from by rw [← HSM.out]; exact HO.out), HV, HBr⟩
              | false =>
                rw [hs] at hy
                rw [show strikeX S x = -1 from by unfold strikeX; rw [if_pos ⟨hx0, hs⟩]] at hst
                have hpp := Kd.R_putg HO.out (i : Int) (-1 : Int)
                rw [Int.toNat_natCast, hst] at hpp
                have HPP := Lib.hid hpp
                clear hpp hst hsm hs
                go_wp2_with ((with_reducible refine gate_store (t := 3) (p := 45) rfl ?_); refine store_event (t := 3) (p := 45) (v := ?vo_w11) (w1 := (wr.setCell ⟨g7, i, none⟩ (.int .i64 (-1)))) ?hg ?ho ?hn ?hr ?_; (case ho => rfl); (case hg => rfl); (case hn => rfl); (case hr => first | (go_simp; done) | (go_simp; rfl)); intro w11 hw; have hg5 : wr.grownBy w11 (some g7) := (by rw [hw]; exact HPP.out.2); have HO8 := Lib.hid (show Kd.R (Kd.int .i64) 3 w11 w.heap.size (fun _ => True) (.slice (some ⟨g7, 0, none⟩) l.length c7) (strikeTo S l (i + 1)) from by rw [hw]; exact HPP.out.1); have HV8 := Lib.hid (Kd.R_over HV.out HO.out (by decide) hg5); have HB8 := Lib.hid (show Below w.heap.size w w11 from by rw [hw]; exact below_set HBr.out hb7); clear hw hg5)
                go_roundg (l.length - (i + 1))
                case measure => omega
                case rel => exact ⟨i + 1, by omega, by omega, by go_num, HO8, HV8, HB8⟩
            · have hxn : x < 0 := by omega
              have HSM := Lib.hid (hsm (by unfold strikeX; rw [if_neg (fun h => hx0 h.1)]))
              clear hsm hst
              go_wp2_with fail
              go_roundg (l.length - (i + 1))
              case measure => omega
              case rel => exact ⟨i + 1, by omega, by omega, by go_num, (show Hid _ from by rw [← HSM.out]; exact HO.out), HV, HBr⟩
          · have : i = l.length := by omega
            have hltz : ¬ (i : Int) < (l.length : Int) := by omega
            have HO9 := Lib.hid (show Kd.R (Kd.int .i64) 3 wr w.heap.size (fun _ => True) (.slice A7 l.length c7) (l.map (strikeX S)) from by have h := HO.out; rw [this, strikeTo_all] at h; exact h)
            go_wp2_with fail
            go_ret2
            exact ⟨_, rfl, HO9.out, HBr.out⟩
    · have h10z : ¬ (l.length : Int) ≤ 10 := by omega
      rw [if_neg (fun h => h10 h.2.1)]
      go_enter Try.func27, Try.ntmps27
      go_wp2_with (go_at_call 55; refine HG.out.mono ?_; rintro e w' ⟨rfl, hb'⟩)
      go_ret2
      exact ⟨_, rfl, Kd.R_nil _ _ _ _ _, bl_trans HB.out hb'⟩

end Go.Proofs.Ytemgbakjlbdibaa.G
