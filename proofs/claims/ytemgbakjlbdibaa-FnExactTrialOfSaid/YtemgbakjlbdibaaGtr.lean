import Derived.Test.YtemgbakjlbdibaaGis
import Derived.Test.YtemgbakjlbdibaaGst
namespace Go.Proofs.Ytemgbakjlbdibaa.G
open Go.RowKit Go.Proofs.YtemgbakjlbdibaaW.PrintWords
set_option linter.unusedVariables false
/-- A new row of one whole number. -/
theorem C_one' (W : World) (y : Int) (e : Nat) : Kd.C (Kd.int .i64) (W.alloc (.cells #[.int .i64 y] e)) (some ⟨W.heap.size, 0, none⟩) 1 [y] := by
  refine ⟨rfl, by decide, fun _ => ⟨_, rfl, fun j p hj => ?_⟩⟩
  cases j with
  | zero =>
    obtain rfl : y = p := by simpa using hj
    refine ⟨[.int .i64 y], rfl, rfl, fun i u hu => ?_⟩
    cases i with
    | zero =>
      obtain rfl : Value.int .i64 y = u := by simpa using hu
      rw [add_at]
      exact (Blk.new W #[.int .i64 y] e).cell 0 rfl
    | succ i => simp at hu
  | succ j => simp at hj
theorem trial_fn (x : Int) (w : World) : Calls Try.prog 76 (#[.int .i64 x] ++ #[]) w fun e w' => e = .returned (.bool (x != 0)) ∧ Below w.heap.size w w' := by
  by_cases h : x = 0
  · subst h
    go_enter Try.func76, Try.ntmps76
    go_wp2
    go_ret
    exact ⟨rfl, Below.refl _ w⟩
  · have hb : (x != 0) = true := by simpa using h
    rw [hb]
    go_enter Try.func76, Try.ntmps76
    go_wp2
    go_ret
    exact ⟨rfl, Below.refl _ w⟩
def liveB (L : List Bool) (k : Int) : Bool := decide (0 ≤ k) && L.getD k.toNat false
/-- What a trial deletion gives: out: the outer counts of a set, lis: its list. -/
def trialB (out : List Bool → List Int) (lis : List Bool → List Int) (F : List (List Int)) (L : List Bool) (R : List Int) (k : Int) : List Int × Bool :=
  if goodHeapB F L R 12 = true ∧ liveB L k = true then (if ((out (seenB F [k])).any fun n => n != 0) = true then [] else lis (seenB F [k]), true) else ([], false)
set_option maxHeartbeats 2000000 in
set_option maxRecDepth 100000 in
theorem TrialOf_calls (out : List Bool → List Int) (lis : List Bool → List Int) (A0 A1 A2 : Option Addr) (c0 c1 c2 : Nat) (F : List (List Int)) (L : List Bool) (R : List Int) (k : Int) (w : World) (hh : HeapAt w A0 A1 A2 c0 c1 c2 F L R)
    (hout : goodHeapB F L R 12 = true → ∀ (A : Option Addr) (c : Nat) (H : List Bool) (W : World), HeapAt W A0 A1 A2 c0 c1 c2 F L R → Kd.C Kd.bool W A H.length H → H.length ≤ c → H.length = F.length → Calls Try.prog 70 #[.agg #[.slice A0 F.length c0, .slice A1 L.length c1, .slice A2 R.length c2], .slice A H.length c] W fun e w' => ∃ v, e = .returned v ∧ Kd.R (Kd.int .i64) 3 w' W.heap.size (fun _ => True) v (out H) ∧ Below W.heap.size W w')
    (hlis : ∀ (A : Option Addr) (c : Nat) (H : List Bool) (W : World), Kd.C Kd.bool W A H.length H → H.length ≤ c → H.length ≤ 12 → Calls Try.prog 77 #[.slice A H.length c] W fun e w' => ∃ v, e = .returned v ∧ Kd.R (Kd.int .i64) 3 w' W.heap.size (fun _ => True) v (lis H) ∧ Below W.heap.size W w') :
    Calls Try.prog 34 #[.agg #[.slice A0 F.length c0, .slice A1 L.length c1, .slice A2 R.length c2], .int .i64 k] w fun e w' => ∃ v, e = .returned (.tuple #[v, .bool (trialB out lis F L R k).2]) ∧ Kd.R (Kd.int .i64) 3 w' w.heap.size (fun _ => True) v (trialB out lis F L R k).1 ∧ Below w.heap.size w w' := by
  have hB := bl_alloc (Below.refl _ w) (.cells #[.slice A0 F.length c0, .slice A1 L.length c1, .slice A2 R.length c2] 30)
  have KB := Lib.hid (Blk.new w #[.slice A0 F.length c0, .slice A1 L.length c1, .slice A2 R.length c2] 30)
  have HG := Lib.hid (isHeap_calls A0 A1 A2 c0 c1 c2 F L R _ (hh.below hB))
  have HB := Lib.hid hB
  have HH := Lib.hid hh
  clear hB hh
  have k0 := KB.out.cell 0 rfl
  have k1 := KB.out.cell 1 rfl
  have k2 := KB.out.cell 2 rfl
  unfold trialB
  cases hg : goodHeapB F L R 12 with
  | false =>
    rw [hg] at HG
    rw [if_neg (by simp)]
    go_enter Try.func34, Try.ntmps34
    go_wp2_with (go_at_call 55; refine HG.out.mono ?_; rintro e w' ⟨rfl, hb'⟩)
    go_ret2
    exact ⟨_, rfl, Kd.R_nil _ _ _ _ _, bl_trans HB.out hb'⟩
  | true =>
    rw [hg] at HG
    obtain ⟨hok, hLF, hF12⟩ := good_okFrom' hg
    have HOUT := Lib.hid (hout hg)
    have HLIS := Lib.hid hlis
    have HLV := Lib.hid (fun (W : World) (hbW : Below w.heap.size w W) => isLive_calls A0 A1 A2 c0 c1 c2 F L R k W (HH.out.below hbW))
    change Hid (∀ W : World, Below w.heap.size w W → Calls Try.prog _ _ W fun e w' => e = .returned (.bool (liveB L k)) ∧ _) at HLV
    clear hout hlis
    cases hv : liveB L k with
    | false =>
      rw [hv] at HLV
      have HLF := Lib.hid hLF
      clear hLF
      rw [if_neg (by simp)]
      go_enter Try.func34, Try.ntmps34
      go_wp2_with (first | (go_at_call 74; refine (HLV.out _ HB'.out).mono ?_; rintro e w' ⟨rfl, hb2⟩) | (go_at_call 55; refine HG.out.mono ?_; rintro e w' ⟨rfl, hb'⟩; have HB' := Lib.hid (bl_trans HB.out hb'); have KB' := Lib.hid (KB.out.bl hb'); have k10 := KB'.out.cell 0 rfl; have k11 := KB'.out.cell 1 rfl; have k12 := KB'.out.cell 2 rfl; clear hb'))
      go_ret2
      exact ⟨_, rfl, Kd.R_nil _ _ _ _ _, bl_trans HB'.out hb2⟩
    | true =>
      rw [hv] at HLV
      rw [if_pos ⟨rfl, rfl⟩]
      have ok := (okFrom_iff.1 hok).1
      have hkF : k < (F.length : Int) := by
        unfold liveB at hv
        simp only [Bool.and_eq_true, decide_eq_true_eq] at hv
        by_cases hk : k.toNat < L.length
        · omega
        · have h2 := hv.2
          rw [List.getD_eq_getElem?_getD, List.getElem?_eq_none (by omega)] at h2; cases h2
      have ok1 : ReachOk F [k] := ⟨ok.n, fun y hy => by simp at hy; omega, ok.rows⟩
      have HOK1 := Lib.hid ok1
      have HSL := Lib.hid (seenB_length ok1)
      have HSE := Lib.hid (seenB_eq ok1)
      have HLF := Lib.hid hLF
      clear hLF hok ok ok1 hkF hv hg
      generalize seenB F [k] = S at HSL HSE ⊢
      have HCF := Lib.hid (fun (A : Option Addr) (c : Nat) (xs : List Int) (W : World) (hx : Kd.C (Kd.int .i64) W A xs.length xs) => ContainsFunc_ints 76 #[] (fun n => n != 0) A c xs W (enters_of Try.func76 (by kernel_rfl) rfl) hx
        (fun W2 x hb2 _ => (trial_fn x W2).mono fun e w' ⟨he, hb'⟩ => ⟨he, bl_trans hb2 hb'⟩))
      cases ha : ((out S).any fun n => n != 0) with
      | true =>
        rw [if_pos rfl]
        go_enter Try.func34, Try.ntmps34
        go_wp2_with (first
          | (go_at_call 64; refine (HCF.out A8 c8 (out S) _ (Kd.R_reads' HN6.out).2.2).mono ?_; rintro e w7 ⟨he, hb7⟩; rw [ha] at he; subst he; have HB7 := Lib.hid (bl_trans HB6.out hb7); have HV7 := Lib.hid (Kd.R_below HV6.out hb7); clear hb7)
          | (go_at_call 70; refine (HOUT.out A6 c6 S _ (HH.out.below HB5.out) (Kd.R_reads' HV5.out).2.2 (Kd.R_reads' HV5.out).2.1 HSL.out).mono ?_; rintro e w6 ⟨v8, rfl, ho, hb6⟩; obtain ⟨A8, c8, rfl⟩ := Kd.R_slice ho; have HN6 := Lib.hid ho; have HB6 := Lib.hid (bl_trans HB5.out hb6); have HV6 := Lib.hid (Kd.R_below HV5.out hb6); clear ho hb6)
          | (go_at_call 75; refine HCR.out.mono ?_; rintro e w5 ⟨v6, rfl, ho, hb5⟩; rw [← HSE.out] at ho; obtain ⟨A6, c6, rfl⟩ := Kd.R_slice ho; have HB5 := Lib.hid (HB4.out.trans (hb5.mono HB4.out.size)); have HV5 := Lib.hid (Kd.R_lower ho HB4.out.size); have KB5 := Lib.hid (KB4.out.bl hb5); have k20 := KB5.out.cell 0 rfl; have k21 := KB5.out.cell 1 rfl; have k22 := KB5.out.cell 2 rfl; clear ho hb5)
          | (go_at_call 74; refine (HLV.out _ HB'.out).mono ?_; rintro e w3 ⟨rfl, hb2⟩; have HB3 := Lib.hid (bl_trans HB'.out hb2); have KB3 := Lib.hid (KB'.out.bl hb2); have k30 := KB3.out.cell 0 rfl; have k31 := KB3.out.cell 1 rfl; have k32 := KB3.out.cell 2 rfl; have hba := bl_alloc (Below.refl w3.heap.size w3) (.cells #[.int .i64 k] 3); have HB4 := Lib.hid (bl_trans HB3.out hba); have KB4 := Lib.hid (KB3.out.bl hba); have HCR := Lib.hid (reach_calls A0 A1 A2 c0 c1 c2 F L R (some ⟨w3.heap.size, 0, none⟩) 1 [k] (w3.alloc (.cells #[.int .i64 k] 3)) (HH.out.below HB4.out) (C_one' _ _ _) (Nat.le_refl _) (by simp) HOK1.out); clear hb2 hba)
          | (go_at_call 55; refine HG.out.mono ?_; rintro e w' ⟨rfl, hb'⟩; have HB' := Lib.hid (bl_trans HB.out hb'); have KB' := Lib.hid (KB.out.bl hb'); have k10 := KB'.out.cell 0 rfl; have k11 := KB'.out.cell 1 rfl; have k12 := KB'.out.cell 2 rfl; clear hb'))
        go_ret2
        exact ⟨_, rfl, Kd.R_nil _ _ _ _ _, HB7.out⟩
      | false =>
        rw [if_neg (by simp)]
        go_enter Try.func34, Try.ntmps34
        go_wp2_with (first
          | (go_at_call 77; refine (HLIS.out A6 c6 S _ (Kd.R_reads' HV7.out).2.2 (Kd.R_reads' HV7.out).2.1 (by rw [HSL.out]; exact hF12)).mono ?_; rintro e w8 ⟨v9, rfl, ho, hb8⟩; have HO8 := Lib.hid (Kd.R_lower ho HB7.out.size); have HB8 := Lib.hid (bl_trans HB7.out hb8); clear ho hb8)
          | (go_at_call 64; refine (HCF.out A8 c8 (out S) _ (Kd.R_reads' HN6.out).2.2).mono ?_; rintro e w7 ⟨he, hb7⟩; rw [ha] at he; subst he; have HB7 := Lib.hid (bl_trans HB6.out hb7); have HV7 := Lib.hid (Kd.R_below HV6.out hb7); clear hb7)
          | (go_at_call 70; refine (HOUT.out A6 c6 S _ (HH.out.below HB5.out) (Kd.R_reads' HV5.out).2.2 (Kd.R_reads' HV5.out).2.1 HSL.out).mono ?_; rintro e w6 ⟨v8, rfl, ho, hb6⟩; obtain ⟨A8, c8, rfl⟩ := Kd.R_slice ho; have HN6 := Lib.hid ho; have HB6 := Lib.hid (bl_trans HB5.out hb6); have HV6 := Lib.hid (Kd.R_below HV5.out hb6); clear ho hb6)
          | (go_at_call 75; refine HCR.out.mono ?_; rintro e w5 ⟨v6, rfl, ho, hb5⟩; rw [← HSE.out] at ho; obtain ⟨A6, c6, rfl⟩ := Kd.R_slice ho; have HB5 := Lib.hid (HB4.out.trans (hb5.mono HB4.out.size)); have HV5 := Lib.hid (Kd.R_lower ho HB4.out.size); have KB5 := Lib.hid (KB4.out.bl hb5); have k20 := KB5.out.cell 0 rfl; have k21 := KB5.out.cell 1 rfl; have k22 := KB5.out.cell 2 rfl; clear ho hb5)
          | (go_at_call 74; refine (HLV.out _ HB'.out).mono ?_; rintro e w3 ⟨rfl, hb2⟩; have HB3 := Lib.hid (bl_trans HB'.out hb2); have KB3 := Lib.hid (KB'.out.bl hb2); have k30 := KB3.out.cell 0 rfl; have k31 := KB3.out.cell 1 rfl; have k32 := KB3.out.cell 2 rfl; have hba := bl_alloc (Below.refl w3.heap.size w3) (.cells #[.int .i64 k] 3); have HB4 := Lib.hid (bl_trans HB3.out hba); have KB4 := Lib.hid (KB3.out.bl hba); have HCR := Lib.hid (reach_calls A0 A1 A2 c0 c1 c2 F L R (some ⟨w3.heap.size, 0, none⟩) 1 [k] (w3.alloc (.cells #[.int .i64 k] 3)) (HH.out.below HB4.out) (C_one' _ _ _) (Nat.le_refl _) (by simp) HOK1.out); clear hb2 hba)
          | (go_at_call 55; refine HG.out.mono ?_; rintro e w' ⟨rfl, hb'⟩; have HB' := Lib.hid (bl_trans HB.out hb'); have KB' := Lib.hid (KB.out.bl hb'); have k10 := KB'.out.cell 0 rfl; have k11 := KB'.out.cell 1 rfl; have k12 := KB'.out.cell 2 rfl; clear hb'))
        go_ret2
        exact ⟨_, rfl, HO8.out, HB8.out⟩

end Go.Proofs.Ytemgbakjlbdibaa.G
