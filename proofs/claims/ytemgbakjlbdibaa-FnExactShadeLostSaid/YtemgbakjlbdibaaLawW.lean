import Derived.Test.YtemgbakjlbdibaaQBx
import Derived.Test.YtemgbakjlbdibaaGm
namespace Go.Proofs.Ytemgbakjlbdibaa.QB
open Go.RowKit Go.Proofs.YtemgbakjlbdibaaW.PrintWords Go.Proofs.YtemgbakjlbdibaaW.PrintLast Go.Proofs.YtemgbakjlbdibaaW.PrintMore Go.Proofs.Ytemgbakjlbdibaa.G
set_option linter.unusedVariables false
set_option linter.unusedSimpArgs false
theorem ShadeLost_smallA (K : Nat) (A0 A1 A2 : Option Addr) (c0 c1 c2 : Nat) (F : List (List Int)) (L : List Bool) (R : List Int) (AP0 : Option Addr) (cP0 : Nat) (l0 : List Int) (w : World) (hh : HeapAt w A0 A1 A2 c0 c1 c2 F L R) (hr0 : Kd.C (Kd.int .i64) w AP0 l0.length l0) (hc0 : l0.length ≤ cP0)  (hq0 : (l0.length : Int) > 1048576) :
    Calls Try.prog 13 #[.agg #[.slice A0 F.length c0, .slice A1 L.length c1, .slice A2 R.length c2], .slice AP0 l0.length cP0] w fun e w' => e = .returned (.bool true) ∧ Below w.heap.size w w' := by
  have HHa := Lib.hid hh
  have HPa0 := Lib.hid hr0
  have HB := Lib.hid (bl_alloc (Below.refl _ w) (.cells #[.slice A0 F.length c0, .slice A1 L.length c1, .slice A2 R.length c2] 26))
  have KB := Lib.hid (Blk.new w #[.slice A0 F.length c0, .slice A1 L.length c1, .slice A2 R.length c2] 26)
  have k00 := KB.out.cell 0 rfl
  have k01 := KB.out.cell 1 rfl
  have k02 := KB.out.cell 2 rfl
  clear hh hr0
  go_enter Try.func13, Try.ntmps13
  go_wp2_with (first
    | fail)
  go_ret
  exact ⟨rfl, HB.out⟩
theorem ShadeLost_small0 (K : Nat) (A0 A1 A2 : Option Addr) (c0 c1 c2 : Nat) (F : List (List Int)) (L : List Bool) (R : List Int) (AP0 : Option Addr) (cP0 : Nat) (l0 : List Int) (w : World) (hh : HeapAt w A0 A1 A2 c0 c1 c2 F L R) (hr0 : Kd.C (Kd.int .i64) w AP0 l0.length l0) (hc0 : l0.length ≤ cP0)  (hq0 : ¬ ((l0.length : Int) > 1048576)) (r0 : Int) (z0 : Hid (laws_szHeap.f K F L R 1048576 = some r0)) (y0 : r0 < 0) :
    Calls Try.prog 13 #[.agg #[.slice A0 F.length c0, .slice A1 L.length c1, .slice A2 R.length c2], .slice AP0 l0.length cP0] w fun e w' => e = .returned (.bool true) ∧ Below w.heap.size w w' := by
  have HHa := Lib.hid hh
  have HPa0 := Lib.hid hr0
  have HB := Lib.hid (bl_alloc (Below.refl _ w) (.cells #[.slice A0 F.length c0, .slice A1 L.length c1, .slice A2 R.length c2] 26))
  have KB := Lib.hid (Blk.new w #[.slice A0 F.length c0, .slice A1 L.length c1, .slice A2 R.length c2] 26)
  have k00 := KB.out.cell 0 rfl
  have k01 := KB.out.cell 1 rfl
  have k02 := KB.out.cell 2 rfl
  clear hh hr0
  go_enter Try.func13, Try.ntmps13
  go_wp2_with (first
    | (go_at_call 14; refine (laws_szHeap.calls K _ _ F _ _ L _ _ R 1048576 r0 _ (Kd.C_below HHa.out.rF HB.out) HHa.out.cF (Kd.C_below HHa.out.rL HB.out) HHa.out.cL (Kd.C_below HHa.out.rR HB.out) HHa.out.cR z0.out).mono ?_; rintro e w1 ⟨rfl, hb⟩; have HB_1 := Lib.hid (bl_trans HB.out (hb)); have KB_2 := Lib.hid (KB.out.bl (hb)); clear hb; have k10 := KB_2.out.cell 0 rfl; have k11 := KB_2.out.cell 1 rfl; have k12 := KB_2.out.cell 2 rfl))
  go_ret
  exact ⟨rfl, HB_1.out⟩
set_option maxHeartbeats 8000000 in
set_option maxRecDepth 100000 in
theorem ShadeLost_law (K : Nat) (A0 A1 A2 : Option Addr) (c0 c1 c2 : Nat) (F : List (List Int)) (L : List Bool) (R : List Int) (AP0 : Option Addr) (cP0 : Nat) (l0 : List Int) (w : World) (hh : HeapAt w A0 A1 A2 c0 c1 c2 F L R) (hr0 : Kd.C (Kd.int .i64) w AP0 l0.length l0) (hc0 : l0.length ≤ cP0)  (hq0 : ¬ ((l0.length : Int) > 1048576)) (r0 : Int) (z0 : Hid (laws_szHeap.f K F L R 1048576 = some r0)) (y0 : 0 ≤ r0) (g : List Int) (s0 : Int) (s1 : Bool) (t1 : Hid (laws_toHeap.f K F L R = some (F, L, R))) (tp0 : Hid (laws_toIntS.f K l0 = some l0)) (sp : Hid (spec_ShadeLost.f K F L R l0 = some (g, s0, s1))) (im : Hid (impl_ShadeLost.f K F L R l0 = some (g, s0, s1))) (q1 : Hid (laws_eqIntS.f K g g = some true)) (q2 : Hid (laws_eqHeap.f K F L R F L R = some true)) (qp0 : Hid (laws_eqIntS.f K l0 l0 = some true)) (hP0 : l0.length ≤ 1048576) (he : Hid (laws_heldIntS.f K (markI g.length 1) 1 = some (1 + (g.length : Int)))) (hF : F.length ≤ 1048576) (hs : ∀ x ∈ F, x.length ≤ 1048576) (hL : L.length ≤ 1048576) (hR : R.length ≤ 1048576) (hg : g.length ≤ 1048576) :
    Calls Try.prog 13 #[.agg #[.slice A0 F.length c0, .slice A1 L.length c1, .slice A2 R.length c2], .slice AP0 l0.length cP0] w fun e w' => e = .returned (.bool true) ∧ Below w.heap.size w w' := by
  have HFS := Lib.hid hs
  have hb0 : (s0 != s0) = false := by simp
  have hb1 : (s1 != s1) = false := by simp
  clear hs
  have HHa := Lib.hid hh
  have HPa0 := Lib.hid hr0
  have HB := Lib.hid (bl_alloc (Below.refl _ w) (.cells #[.slice A0 F.length c0, .slice A1 L.length c1, .slice A2 R.length c2] 26))
  have KB := Lib.hid (Blk.new w #[.slice A0 F.length c0, .slice A1 L.length c1, .slice A2 R.length c2] 26)
  have k00 := KB.out.cell 0 rfl
  have k01 := KB.out.cell 1 rfl
  have k02 := KB.out.cell 2 rfl
  clear hh hr0
  go_enter Try.func13, Try.ntmps13
  go_wp2_with (first
    | (go_at_call 18; refine (laws_eqIntS.calls K _ _ g _ _ g true _ (Kd.R_reads' GX.out).2.2 (Kd.R_reads' GX.out).2.1 (Kd.R_reads' GA_30.out).2.2 (Kd.R_reads' GA_30.out).2.1 q1.out).mono ?_; rintro e w8 ⟨rfl, nd, hw_⟩; have hb := bl_drewN (Below.refl w7.heap.size w7) nd; rw [← hw_] at hb; have HB_36 := Lib.hid (bl_trans HB_28.out (hb)); have KB_37 := Lib.hid (KB_29.out.bl (hb)); have GA_38 := Lib.hid (Kd.R_below GA_30.out (hb)); have SY_39 := Lib.hid (Kd.S_below SY_31.out (hb)); have LY_40 := Lib.hid (Kd.R_below LY_32.out (hb)); have RY_41 := Lib.hid (Kd.R_below RY_33.out (hb)); have KX_42 := Lib.hid (KX_34.out.bl (hb)); have PX0_43 := Lib.hid (Kd.R_below PX0_35.out (hb)); have GX_44 := Lib.hid (Kd.R_below GX.out (hb)); clear hb hw_)
    | (go_at_call 47; refine (impl_ShadeLost.calls K _ _ F _ _ L _ _ R _ _ l0 g s0 s1 _ (Kd.S_reads' SY_24.out).2.2 (Kd.S_reads' SY_24.out).2.1 (Kd.R_reads' LY_25.out).2.2 (Kd.R_reads' LY_25.out).2.1 (Kd.R_reads' RY_26.out).2.2 (Kd.R_reads' RY_26.out).2.1 (Kd.R_reads' PX0.out).2.2 (Kd.R_reads' PX0.out).2.1 im.out).mono ?_; rintro e w7 ⟨g_, rfl, go, hb⟩; have HB_28 := Lib.hid (bl_trans HB_21.out (hb)); have KB_29 := Lib.hid (KB_22.out.bl (hb)); have GA_30 := Lib.hid (Kd.R_below GA_23.out (hb)); have SY_31 := Lib.hid (Kd.S_below SY_24.out (hb)); have LY_32 := Lib.hid (Kd.R_below LY_25.out (hb)); have RY_33 := Lib.hid (Kd.R_below RY_26.out (hb)); have KX_34 := Lib.hid (KX_27.out.bl (hb)); have PX0_35 := Lib.hid (Kd.R_below PX0.out (hb)); have GX := Lib.hid (Kd.R_mono (Kd.R_bound go) (fun _ hk => (hk.2.1 : w6.heap.size ≤ _))); obtain ⟨B10, d10, rfl⟩ := Kd.R_slice go; clear hb go)
    | (go_at_call 26; refine (laws_toIntS.calls K _ _ l0 l0 _ (Kd.C_below HPa0.out HB_15.out) hc0 tp0.out).mono ?_; rintro e w6 ⟨p0, rfl, po, hb⟩; have hsz := hb.size; have HB_21 := Lib.hid (bl_trans HB_15.out (hb)); have KB_22 := Lib.hid (KB_16.out.bl (hb)); have GA_23 := Lib.hid (Kd.R_below GA_17.out (hb)); have SY_24 := Lib.hid (Kd.S_below SY_18.out (hb)); have LY_25 := Lib.hid (Kd.R_below LY_19.out (hb)); have RY_26 := Lib.hid (Kd.R_below RY_20.out (hb)); have KX_27 := Lib.hid (KX.out.bl (hb)); have PX0 := Lib.hid (Kd.R_mono (Kd.R_bound po) (fun _ hk => (⟨Nat.lt_of_lt_of_le (by rw [World.size_alloc]; omega) hk.2.1, hk.2.2.1⟩ : w5.heap.size < _ ∧ _ < w6.heap.size))); obtain ⟨B9, d9, rfl⟩ := Kd.R_slice po; have HZ0 := Lib.hid (show w5.heap.size < w6.heap.size from Nat.lt_of_lt_of_le (by rw [World.size_alloc]; omega) hsz); clear hb po hsz; have k50 := KX_27.out.cell 0 rfl; have k51 := KX_27.out.cell 1 rfl; have k52 := KX_27.out.cell 2 rfl)
    | (go_at_call 16; refine (laws_toHeap.calls K _ _ F _ _ L _ _ R F L R _ (Kd.C_below HHa.out.rF HB_10.out) HHa.out.cF (Kd.C_below HHa.out.rL HB_10.out) HHa.out.cL (Kd.C_below HHa.out.rR HB_10.out) HHa.out.cR t1.out).mono ?_; rintro e w5 ⟨a0, a1, a2, rfl, so, lo, ro, hb⟩; have hsz := hb.size; have HB_12 := Lib.hid (bl_trans HB_10.out (hb)); have KB_13 := Lib.hid (KB_11.out.bl (hb)); have GA_14 := Lib.hid (Kd.R_below GA.out (hb)); have SY := Lib.hid (Kd.S_mono (Kd.S_bound so) (fun _ hk => (⟨hk.1, hk.2.1, hk.2.2.1⟩ : _ ∧ w4.heap.size ≤ _ ∧ _ < w5.heap.size))); have LY := Lib.hid (Kd.R_mono (Kd.R_bound lo) (fun _ hk => (⟨hk.2.1, hk.2.2.1⟩ : w4.heap.size ≤ _ ∧ _ < w5.heap.size))); have RY := Lib.hid (Kd.R_mono (Kd.R_bound ro) (fun _ hk => (⟨hk.2.1, hk.2.2.1⟩ : w4.heap.size ≤ _ ∧ _ < w5.heap.size))); obtain ⟨B6, d6, rfl⟩ := Kd.S_slice so; obtain ⟨B7, d7, rfl⟩ := Kd.R_slice lo; obtain ⟨B8, d8, rfl⟩ := Kd.R_slice ro; clear so lo ro hb; have HZX := Lib.hid hsz; have hb := bl_alloc (Below.refl w5.heap.size w5) (.cells #[.slice B6 F.length d6, .slice B7 L.length d7, .slice B8 R.length d8] 30); have HB_15 := Lib.hid (bl_trans HB_12.out (hb)); have KB_16 := Lib.hid (KB_13.out.bl (hb)); have GA_17 := Lib.hid (Kd.R_below GA_14.out (hb)); have SY_18 := Lib.hid (Kd.S_below SY.out (hb)); have LY_19 := Lib.hid (Kd.R_below LY.out (hb)); have RY_20 := Lib.hid (Kd.R_below RY.out (hb)); have KX := Lib.hid (Blk.new w5 #[.slice B6 F.length d6, .slice B7 L.length d7, .slice B8 R.length d8] 30); clear hb hsz)
    | (go_at_call 46; refine (spec_ShadeLost.calls K _ _ F _ _ L _ _ R _ _ l0 g s0 s1 _ (Kd.S_reads' SA_7.out).2.2 (Kd.S_reads' SA_7.out).2.1 (Kd.R_reads' LA_8.out).2.2 (Kd.R_reads' LA_8.out).2.1 (Kd.R_reads' RA_9.out).2.2 (Kd.R_reads' RA_9.out).2.1 (Kd.R_reads' PA0.out).2.2 (Kd.R_reads' PA0.out).2.1 sp.out).mono ?_; rintro e w4 ⟨g_, rfl, go, hb⟩; have HB_10 := Lib.hid (bl_trans HB_5.out (hb)); have KB_11 := Lib.hid (KB_6.out.bl (hb)); have GA := Lib.hid (Kd.R_mono (Kd.R_bound go) (fun _ hk => (hk.2.2.1 : _ < w4.heap.size))); obtain ⟨B5, d5, rfl⟩ := Kd.R_slice go; have HLT := Lib.hid (show w.heap.size < w4.heap.size from KB_11.out.lt); clear hb go; have k40 := KB_11.out.cell 0 rfl; have k41 := KB_11.out.cell 1 rfl; have k42 := KB_11.out.cell 2 rfl)
    | (go_at_call 26; refine (laws_toIntS.calls K _ _ l0 l0 _ (Kd.C_below HPa0.out HB_3.out) hc0 tp0.out).mono ?_; rintro e w3 ⟨p0, rfl, po, hb⟩; have hsz := hb.size; have HB_5 := Lib.hid (bl_trans HB_3.out (hb)); have KB_6 := Lib.hid (KB_4.out.bl (hb)); have SA_7 := Lib.hid (Kd.S_below SA.out (hb)); have LA_8 := Lib.hid (Kd.R_below LA.out (hb)); have RA_9 := Lib.hid (Kd.R_below RA.out (hb)); have PA0 := Lib.hid (po); obtain ⟨B4, d4, rfl⟩ := Kd.R_slice po; clear hb po hsz; have k30 := KB_6.out.cell 0 rfl; have k31 := KB_6.out.cell 1 rfl; have k32 := KB_6.out.cell 2 rfl)
    | (go_at_call 16; refine (laws_toHeap.calls K _ _ F _ _ L _ _ R F L R _ (Kd.C_below HHa.out.rF HB_1.out) HHa.out.cF (Kd.C_below HHa.out.rL HB_1.out) HHa.out.cL (Kd.C_below HHa.out.rR HB_1.out) HHa.out.cR t1.out).mono ?_; rintro e w2 ⟨a0, a1, a2, rfl, so, lo, ro, hb⟩; have hsz := hb.size; have HB_3 := Lib.hid (bl_trans HB_1.out (hb)); have KB_4 := Lib.hid (KB_2.out.bl (hb)); have SA := Lib.hid (so); have LA := Lib.hid (lo); have RA := Lib.hid (ro); obtain ⟨B1, d1, rfl⟩ := Kd.S_slice so; obtain ⟨B2, d2, rfl⟩ := Kd.R_slice lo; obtain ⟨B3, d3, rfl⟩ := Kd.R_slice ro; clear so lo ro hb; clear hsz; have k20 := KB_4.out.cell 0 rfl; have k21 := KB_4.out.cell 1 rfl; have k22 := KB_4.out.cell 2 rfl)
    | (go_at_call 14; refine (laws_szHeap.calls K _ _ F _ _ L _ _ R 1048576 r0 _ (Kd.C_below HHa.out.rF HB.out) HHa.out.cF (Kd.C_below HHa.out.rL HB.out) HHa.out.cL (Kd.C_below HHa.out.rR HB.out) HHa.out.cR z0.out).mono ?_; rintro e w1 ⟨rfl, hb⟩; have HB_1 := Lib.hid (bl_trans HB.out (hb)); have KB_2 := Lib.hid (KB.out.bl (hb)); clear hb; have k10 := KB_2.out.cell 0 rfl; have k11 := KB_2.out.cell 1 rfl; have k12 := KB_2.out.cell 2 rfl))
  have HB_45 := Lib.hid (bl_trans HB_36.out (bl_drew (Below.refl w8.heap.size w8)))
  have KB_46 := Lib.hid (KB_37.out.bl (bl_drew (Below.refl w8.heap.size w8)))
  have GA_47 := Lib.hid (Kd.R_below GA_38.out (bl_drew (Below.refl w8.heap.size w8)))
  have SY_48 := Lib.hid (Kd.S_below SY_39.out (bl_drew (Below.refl w8.heap.size w8)))
  have LY_49 := Lib.hid (Kd.R_below LY_40.out (bl_drew (Below.refl w8.heap.size w8)))
  have RY_50 := Lib.hid (Kd.R_below RY_41.out (bl_drew (Below.refl w8.heap.size w8)))
  have KX_51 := Lib.hid (KX_42.out.bl (bl_drew (Below.refl w8.heap.size w8)))
  have PX0_52 := Lib.hid (Kd.R_below PX0_43.out (bl_drew (Below.refl w8.heap.size w8)))
  have GX_53 := Lib.hid (Kd.R_below GX_44.out (bl_drew (Below.refl w8.heap.size w8)))
  refine start_ (n := 5) (S := fun w' => w'.cell? ⟨w5.heap.size, 0, none⟩ = some (.slice B6 F.length d6) ∧ w'.cell? ⟨w5.heap.size, 1, none⟩ = some (.slice B7 L.length d7) ∧ w'.cell? ⟨w5.heap.size, 2, none⟩ = some (.slice B8 R.length d8) ∧ w'.cell? ⟨w.heap.size, 0, none⟩ = some (.slice A0 F.length c0) ∧ w'.cell? ⟨w.heap.size, 1, none⟩ = some (.slice A1 L.length c1) ∧ w'.cell? ⟨w.heap.size, 2, none⟩ = some (.slice A2 R.length c2)) (ds := []) #[false, false, false, false, false] (by kernel_rfl) rfl rfl ⟨KX_51.out.cell 0 rfl, KX_51.out.cell 1 rfl, KX_51.out.cell 2 rfl, KB_46.out.cell 0 rfl, KB_46.out.cell 1 rfl, KB_46.out.cell 2 rfl⟩ (fun hHeld => ?_)
  generalize w8.drew = w9 at HB_45 KB_46 GA_47 SY_48 LY_49 RY_50 KX_51 PX0_52 GX_53 hHeld ⊢
  refine take_ (i := 0) (N := some 62) (v := ?_) (a' := ?_) #[true, false, false, false, false] rfl rfl (by kernel_rfl) (fun _ _ _ h => h) (Or.inl ⟨by rfl, ?_⟩) hHeld ?_ ?_
  rotate_left
  · rintro w' ⟨s0_, s1_, s2_, s3_, s4_, s5_⟩
    go_simp
    with_reducible rfl
  rotate_left
  · simp only [Act.put, List.setIfInBounds_toArray, List.set_cons_zero, List.set_cons_succ, i64_w, i32_w]
    rfl
  refine take_ (i := 1) (N := some 63) (v := ?_) (a' := ?_) #[true, true, false, false, false] rfl rfl (by kernel_rfl) (fun _ _ _ h => h) (Or.inl ⟨by rfl, ?_⟩) hHeld ?_ ?_
  rotate_left
  · rintro w' ⟨s0_, s1_, s2_, s3_, s4_, s5_⟩
    go_simp
    with_reducible rfl
  rotate_left
  · simp only [Act.put, List.setIfInBounds_toArray, List.set_cons_zero, List.set_cons_succ, i64_w, i32_w]
    rfl
  refine one_ (i := 2) (N := some 64) #[true, true, true, false, false] rfl rfl (by kernel_rfl) (by decide) (fun K2 hK => ?_)
  refine goes_ Try.func16 (by kernel_rfl) rfl #[.agg #[.slice A0 F.length c0, .slice A1 L.length c1, .slice A2 R.length c2]] (by rfl) rfl rfl (by (try simp only [List.map_toArray, List.map_cons, List.map_nil]); first | done | rfl | (simp only [List.length_drop, List.length_take]; rfl)) ?_
  refine (laws_toHeap.calls K _ _ F _ _ L _ _ R F L R _ (Kd.C_below HHa.out.rF HB_45.out) HHa.out.cF (Kd.C_below HHa.out.rL HB_45.out) HHa.out.cL (Kd.C_below HHa.out.rR HB_45.out) HHa.out.cR t1.out).mono ?_
  rintro e w10 ⟨a0, a1, a2, rfl, so, lo, ro, hb⟩
  refine ⟨_, rfl, ?_⟩
  have hsz := hb.size
  have HB_54 := Lib.hid (bl_trans HB_45.out (hb))
  have KB_55 := Lib.hid (KB_46.out.bl (hb))
  have GA_56 := Lib.hid (Kd.R_below GA_47.out (hb))
  have SY_57 := Lib.hid (Kd.S_below SY_48.out (hb))
  have LY_58 := Lib.hid (Kd.R_below LY_49.out (hb))
  have RY_59 := Lib.hid (Kd.R_below RY_50.out (hb))
  have KX_60 := Lib.hid (KX_51.out.bl (hb))
  have PX0_61 := Lib.hid (Kd.R_below PX0_52.out (hb))
  have GX_62 := Lib.hid (Kd.R_below GX_53.out (hb))
  have SE := Lib.hid (so)
  have LE := Lib.hid (lo)
  have RE := Lib.hid (ro)
  obtain ⟨B11, d11, rfl⟩ := Kd.S_slice so
  obtain ⟨B12, d12, rfl⟩ := Kd.R_slice lo
  obtain ⟨B13, d13, rfl⟩ := Kd.R_slice ro
  clear so lo ro hb
  refine hK.out _ _ ⟨KX_60.out.cell 0 rfl, KX_60.out.cell 1 rfl, KX_60.out.cell 2 rfl, KB_55.out.cell 0 rfl, KB_55.out.cell 1 rfl, KB_55.out.cell 2 rfl⟩ (fun hHeld => ?_)
  clear hK K2
  refine norm_ (a' := ?_) ?_ ?_
  rotate_left
  · show Act.put _ (some 64) _ = _
    simp only [Act.put, List.setIfInBounds_toArray, List.set_cons_zero, List.set_cons_succ, i64_w, i32_w]
    rfl
  refine one_ (i := 3) (N := some 65) #[true, true, true, true, false] rfl rfl (by kernel_rfl) (by decide) (fun K2 hK => ?_)
  refine goes_ Try.func19 (by kernel_rfl) rfl #[.agg #[.slice B6 F.length d6, .slice B7 L.length d7, .slice B8 R.length d8], .agg #[.slice B11 F.length d11, .slice B12 L.length d12, .slice B13 R.length d13]] (by rfl) rfl rfl (by (try simp only [List.map_toArray, List.map_cons, List.map_nil]); first | done | rfl | (simp only [List.length_drop, List.length_take]; rfl)) ?_
  refine (laws_eqHeap.calls K _ _ F _ _ L _ _ R _ _ F _ _ L _ _ R true _ (Kd.S_reads' SY_57.out).2.2 (Kd.S_reads' SY_57.out).2.1 (Kd.R_reads' LY_58.out).2.2 (Kd.R_reads' LY_58.out).2.1 (Kd.R_reads' RY_59.out).2.2 (Kd.R_reads' RY_59.out).2.1 (Kd.S_reads' SE.out).2.2 (Kd.S_reads' SE.out).2.1 (Kd.R_reads' LE.out).2.2 (Kd.R_reads' LE.out).2.1 (Kd.R_reads' RE.out).2.2 (Kd.R_reads' RE.out).2.1 q2.out).mono ?_
  rintro e w11 ⟨rfl, hb⟩
  refine ⟨_, rfl, ?_⟩
  have HB_63 := Lib.hid (bl_trans HB_54.out (hb))
  have KB_64 := Lib.hid (KB_55.out.bl (hb))
  have GA_65 := Lib.hid (Kd.R_below GA_56.out (hb))
  have SY_66 := Lib.hid (Kd.S_below SY_57.out (hb))
  have LY_67 := Lib.hid (Kd.R_below LY_58.out (hb))
  have RY_68 := Lib.hid (Kd.R_below RY_59.out (hb))
  have KX_69 := Lib.hid (KX_60.out.bl (hb))
  have PX0_70 := Lib.hid (Kd.R_below PX0_61.out (hb))
  have GX_71 := Lib.hid (Kd.R_below GX_62.out (hb))
  clear hb
  refine hK.out _ _ ⟨KX_69.out.cell 0 rfl, KX_69.out.cell 1 rfl, KX_69.out.cell 2 rfl, KB_64.out.cell 0 rfl, KB_64.out.cell 1 rfl, KB_64.out.cell 2 rfl⟩ (fun hHeld => ?_)
  clear hK K2
  refine norm_ (a' := ?_) ?_ ?_
  rotate_left
  · show Act.put _ (some 65) _ = _
    simp only [Act.put, List.setIfInBounds_toArray, List.set_cons_zero, List.set_cons_succ, i64_w, i32_w]
    rfl
  refine pure_ (i := 4) (N := some 66) (v := ?_) (a' := ?_) #[true, true, true, true, true] rfl rfl (by kernel_rfl) (fun _ _ _ h => h) (Or.inl ⟨by rfl, ?_⟩) ?_ ?_
  rotate_left
  · intro w'
    go_simp
    with_reducible rfl
  rotate_left
  · simp only [Act.put, List.setIfInBounds_toArray, List.set_cons_zero, List.set_cons_succ, i64_w, i32_w]
    rfl
  refine done_ (by kernel_rfl) ?_
  go_wp2_with (first
    | (go_at_call 22; have hc9 := laws_heldIntS.calls K B10 d10 (markI g.length 1) 1 _ _ (Kd.R_reads' GX_116.out).2.2 (by rw [markI_length]; exact (Kd.R_reads' GX_116.out).2.1) he.out; rw [markI_length] at hc9; refine hc9.mono ?_; rintro e w23 ⟨rfl, nd, hw_⟩; have hb := bl_drewN (Below.refl w22.heap.size w22) nd; rw [← hw_] at hb; have HB_118 := Lib.hid (bl_trans HB_113.out (hb)); have KB_119 := Lib.hid (KB_114.out.bl (hb)); have GA_120 := Lib.hid (Kd.R_below GA_115.out (hb)); have GX_121 := Lib.hid (Kd.R_below GX_116.out (hb)); have GZ_122 := Lib.hid (Kd.R_below GZ_117.out (hb)); clear hb hw_ hc9)
    | (go_at_call 18; refine (laws_eqIntS.calls K _ _ g _ _ g true _ (Kd.R_reads' GZ.out).2.2 (Kd.R_reads' GZ.out).2.1 (Kd.R_reads' GA_111.out).2.2 (Kd.R_reads' GA_111.out).2.1 q1.out).mono ?_; rintro e w22 ⟨rfl, nd, hw_⟩; have hb := bl_drewN (Below.refl w21.heap.size w21) nd; rw [← hw_] at hb; have HB_113 := Lib.hid (bl_trans HB_109.out (hb)); have KB_114 := Lib.hid (KB_110.out.bl (hb)); have GA_115 := Lib.hid (Kd.R_below GA_111.out (hb)); have GX_116 := Lib.hid (Kd.R_below GX_112.out (hb)); have GZ_117 := Lib.hid (Kd.R_below GZ.out (hb)); clear hb hw_)
    | (go_at_call 47; refine (impl_ShadeLost.calls K _ _ F _ _ L _ _ R _ _ l0 g s0 s1 _ (Kd.S_reads' SZ_106.out).2.2 (Kd.S_reads' SZ_106.out).2.1 (Kd.R_reads' LZ_107.out).2.2 (Kd.R_reads' LZ_107.out).2.1 (Kd.R_reads' RZ_108.out).2.2 (Kd.R_reads' RZ_108.out).2.1 (Kd.R_reads' PZ0.out).2.2 (Kd.R_reads' PZ0.out).2.1 im.out).mono ?_; rintro e w21 ⟨g_, rfl, go, hb⟩; have HB_109 := Lib.hid (bl_trans HB_102.out (hb)); have KB_110 := Lib.hid (KB_103.out.bl (hb)); have GA_111 := Lib.hid (Kd.R_below GA_104.out (hb)); have GX_112 := Lib.hid (Kd.R_below GX_105.out (hb)); have GZ := Lib.hid (go); obtain ⟨B19, d19, rfl⟩ := Kd.R_slice go; clear hb go)
    | (go_at_call 26; refine (laws_toIntS.calls K _ _ l0 l0 _ (Kd.C_below HPa0.out HB_98.out) hc0 tp0.out).mono ?_; rintro e w20 ⟨p0, rfl, po, hb⟩; have hsz := hb.size; have HB_102 := Lib.hid (bl_trans HB_98.out (hb)); have KB_103 := Lib.hid (KB_99.out.bl (hb)); have GA_104 := Lib.hid (Kd.R_below GA_100.out (hb)); have GX_105 := Lib.hid (Kd.R_below GX_101.out (hb)); have SZ_106 := Lib.hid (Kd.S_below SZ.out (hb)); have LZ_107 := Lib.hid (Kd.R_below LZ.out (hb)); have RZ_108 := Lib.hid (Kd.R_below RZ.out (hb)); have PZ0 := Lib.hid (po); obtain ⟨B18, d18, rfl⟩ := Kd.R_slice po; clear hb po hsz)
    | (go_at_call 16; refine (laws_toHeap.calls K _ _ F _ _ L _ _ R F L R _ (Kd.C_below HHa.out.rF HB_94.out) HHa.out.cF (Kd.C_below HHa.out.rL HB_94.out) HHa.out.cL (Kd.C_below HHa.out.rR HB_94.out) HHa.out.cR t1.out).mono ?_; rintro e w19 ⟨a0, a1, a2, rfl, so, lo, ro, hb⟩; have hsz := hb.size; have HB_98 := Lib.hid (bl_trans HB_94.out (hb)); have KB_99 := Lib.hid (KB_95.out.bl (hb)); have GA_100 := Lib.hid (Kd.R_below GA_96.out (hb)); have GX_101 := Lib.hid (Kd.R_below GX_97.out (hb)); have SZ := Lib.hid (so); have LZ := Lib.hid (lo); have RZ := Lib.hid (ro); obtain ⟨B15, d15, rfl⟩ := Kd.S_slice so; obtain ⟨B16, d16, rfl⟩ := Kd.R_slice lo; obtain ⟨B17, d17, rfl⟩ := Kd.R_slice ro; clear so lo ro hb; clear hsz)
    | (go_at_call 22; have hc9 := laws_heldIntS.calls K B10 d10 (markI g.length 1) 1 _ _ (Kd.R_reads' GX_e.out).2.2 (by rw [markI_length]; exact (Kd.R_reads' GX_e.out).2.1) he.out; rw [markI_length] at hc9; refine hc9.mono ?_; rintro e w18 ⟨rfl, nd, hw_⟩; have hb := bl_drewN (Below.refl w17.heap.size w17) nd; rw [← hw_] at hb; have HB_94 := Lib.hid (bl_trans HB_e.out (hb)); have KB_95 := Lib.hid (KB_e.out.bl (hb)); have GA_96 := Lib.hid (Kd.R_below GA_e.out (hb)); have GX_97 := Lib.hid (Kd.R_below GX_e.out (hb)); clear hb hw_ hc9; have k70 := KB_95.out.cell 0 rfl; have k71 := KB_95.out.cell 1 rfl; have k72 := KB_95.out.cell 2 rfl)
    | (go_at_call 21; refine (markIntS_calls _ g 1 _ _ _ GX_93.out hg (by omega) (by omega)).mono ?_; rintro e w17 ⟨rfl, gm, hw_⟩; have hp1 := GX_93.out.1; have hh2 := HLT.out; have hh3 := HZX.out; have hh4 := HZ0.out; have HB_e := Lib.hid (HB_90.out.trans (hw_.below HB_90.out.size (fun b hb => by have h1 := hp1 b hb; omega))); have KB_e := Lib.hid (KB_91.out.wrote hw_ (fun hb => by have h1 := hp1 _ hb; omega)); have GA_e := Lib.hid (Kd.R_kept GA_92.out hw_.kept (fun b hb hs => by have h1 := hp1 b hs; omega)); have GX_e := Lib.hid gm)
    | (go_at_call 18; refine (laws_eqIntS.calls K _ _ g _ _ g true _ (Kd.R_reads' GX_b.out).2.2 (Kd.R_reads' GX_b.out).2.1 (Kd.R_reads' GA_b.out).2.2 (Kd.R_reads' GA_b.out).2.1 q1.out).mono ?_; rintro e w16 ⟨rfl, nd, hw_⟩; have hb := bl_drewN (Below.refl w15.heap.size w15) nd; rw [← hw_] at hb; have HB_90 := Lib.hid (bl_trans HB_b.out (hb)); have KB_91 := Lib.hid (KB_b.out.bl (hb)); have GA_92 := Lib.hid (Kd.R_below GA_b.out (hb)); have GX_93 := Lib.hid (Kd.R_below GX_b.out (hb)); clear hb hw_)
    | (go_at_call 21; refine (markIntS_calls _ l0 (rk) _ _ _ PX0_a.out hP0 (by omega) (by omega)).mono ?_; rintro e w15 ⟨rfl, _, hw_⟩; have hp1 := PX0_a.out.1; have hh2 := HLT.out; have hh3 := HZX.out; have hh4 := HZ0.out; have HB_b := Lib.hid (HB_a.out.trans (hw_.below HB_a.out.size (fun b hb => by have h1 := (hp1 b hb).1; omega))); have KB_b := Lib.hid (KB_a.out.wrote hw_ (fun hb => by have h1 := (hp1 _ hb).1; omega)); have GA_b := Lib.hid (Kd.R_kept GA_a.out hw_.kept (fun b hb hs => by have h1 := (hp1 b hs).1; omega)); have GX_b := Lib.hid (Kd.R_kept GX_a.out hw_.kept (fun b hb hs => by have h1 := (hp1 b hs).2; omega)); have hk9 : ¬ (rk + (l0.length : Int) < 0) := by omega)
    | (go_at_call 20; refine (markHeap_calls _ _ _ F L R 1 _ _ _ _ (fun b => w4.heap.size ≤ b ∧ b < w5.heap.size) _ ⟨SY_84.out, LY_85.out, RY_86.out, fun b hb => hb.1⟩ hF HFS.out hL hR (by omega) (by omega) (fun b hb => ⟨hb.2.1, hb.2.2⟩) (fun b hb => hb) (fun b hb => hb)).mono ?_; rintro e w14 ⟨rk, rfl, rk0, rk1, hw_⟩; have HB_a := Lib.hid (HB_81.out.trans (hw_.below HB_81.out.size (fun b hb => Nat.le_trans (Nat.le_of_lt HLT.out) hb.1))); have KB_a := Lib.hid (KB_82.out.wrote hw_ (fun hb => absurd hb.1 (Nat.not_le_of_lt HLT.out))); have GA_a := Lib.hid (Kd.R_kept GA_83.out hw_.kept (fun b hb hs => absurd hs.1 (Nat.not_le_of_lt hb))); have GX_a := Lib.hid (Kd.R_kept GX_89.out hw_.kept (fun b hb hs => absurd hs.2 (Nat.not_lt_of_le (Nat.le_trans (Nat.le_of_lt HZ0.out) hb)))); have PX0_a := Lib.hid (Kd.R_kept PX0_88.out hw_.kept (fun b hb hs => absurd hs.2 (Nat.not_lt_of_le (Nat.le_of_lt hb.1)))))
    | (go_at_call 18; refine (laws_eqIntS.calls K _ _ l0 _ _ l0 true _ (Kd.R_reads' PX0_79.out).2.2 (Kd.R_reads' PX0_79.out).2.1 (Kd.R_reads' PE.out).2.2 (Kd.R_reads' PE.out).2.1 qp0.out).mono ?_; rintro e w13 ⟨rfl, nd, hw_⟩; have hb := bl_drewN (Below.refl w12.heap.size w12) nd; rw [← hw_] at hb; have HB_81 := Lib.hid (bl_trans HB_72.out (hb)); have KB_82 := Lib.hid (KB_73.out.bl (hb)); have GA_83 := Lib.hid (Kd.R_below GA_74.out (hb)); have SY_84 := Lib.hid (Kd.S_below SY_75.out (hb)); have LY_85 := Lib.hid (Kd.R_below LY_76.out (hb)); have RY_86 := Lib.hid (Kd.R_below RY_77.out (hb)); have KX_87 := Lib.hid (KX_78.out.bl (hb)); have PX0_88 := Lib.hid (Kd.R_below PX0_79.out (hb)); have GX_89 := Lib.hid (Kd.R_below GX_80.out (hb)); clear hb hw_; have k60 := KX_87.out.cell 0 rfl; have k61 := KX_87.out.cell 1 rfl; have k62 := KX_87.out.cell 2 rfl)
    | (go_at_call 26; refine (laws_toIntS.calls K _ _ l0 l0 _ (Kd.C_below HPa0.out HB_63.out) hc0 tp0.out).mono ?_; rintro e w12 ⟨p0, rfl, po, hb⟩; have hsz := hb.size; have HB_72 := Lib.hid (bl_trans HB_63.out (hb)); have KB_73 := Lib.hid (KB_64.out.bl (hb)); have GA_74 := Lib.hid (Kd.R_below GA_65.out (hb)); have SY_75 := Lib.hid (Kd.S_below SY_66.out (hb)); have LY_76 := Lib.hid (Kd.R_below LY_67.out (hb)); have RY_77 := Lib.hid (Kd.R_below RY_68.out (hb)); have KX_78 := Lib.hid (KX_69.out.bl (hb)); have PX0_79 := Lib.hid (Kd.R_below PX0_70.out (hb)); have GX_80 := Lib.hid (Kd.R_below GX_71.out (hb)); have PE := Lib.hid (po); obtain ⟨B14, d14, rfl⟩ := Kd.R_slice po; clear hb po hsz))
  go_ret
  exact ⟨rfl, HB_118.out⟩

end Go.Proofs.Ytemgbakjlbdibaa.QB
