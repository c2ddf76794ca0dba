import Derived.Test.YtemgbakjlbdibaaPT
namespace Go.Proofs.Ytemgbakjlbdibaa.QB
open Go.RowKit Go.Proofs.YtemgbakjlbdibaaW.PrintWords Go.Proofs.YtemgbakjlbdibaaW.PrintLast Go.Proofs.YtemgbakjlbdibaaW.PrintMore Go.Proofs.Ytemgbakjlbdibaa.G
set_option linter.unusedVariables false
set_option linter.unusedSimpArgs false
theorem TrialOf_small0 (K : Nat) (A0 A1 A2 : Option Addr) (c0 c1 c2 : Nat) (F : List (List Int)) (L : List Bool) (R : List Int) (a0 : Int) (w : World) (hh : HeapAt w A0 A1 A2 c0 c1 c2 F L R)  (r0 : Int) (z0 : Hid (laws_szHeap.f K F L R 1048576 = some r0)) (y0 : r0 < 0) :
    Calls Try.prog 7 #[.agg #[.slice A0 F.length c0, .slice A1 L.length c1, .slice A2 R.length c2], .int .i64 a0] w fun e w' => e = .returned (.bool true) ∧ Below w.heap.size w w' := by
  have HHa := Lib.hid hh
  have HB := Lib.hid (bl_alloc (Below.refl _ w) (.cells #[.slice A0 F.length c0, .slice A1 L.length c1, .slice A2 R.length c2] 26))
  have KB := Lib.hid (Blk.new w #[.slice A0 F.length c0, .slice A1 L.length c1, .slice A2 R.length c2] 26)
  have k00 := KB.out.cell 0 rfl
  have k01 := KB.out.cell 1 rfl
  have k02 := KB.out.cell 2 rfl
  clear hh 
  go_enter Try.func7, Try.ntmps7
  go_wp2_with (first
    | (go_at_call 14; refine (laws_szHeap.calls K _ _ F _ _ L _ _ R 1048576 r0 _ (Kd.C_below HHa.out.rF HB.out) HHa.out.cF (Kd.C_below HHa.out.rL HB.out) HHa.out.cL (Kd.C_below HHa.out.rR HB.out) HHa.out.cR z0.out).mono ?_; rintro e w1 ⟨rfl, hb⟩; have HB_1 := Lib.hid (bl_trans HB.out (hb)); have KB_2 := Lib.hid (KB.out.bl (hb)); clear hb; have k10 := KB_2.out.cell 0 rfl; have k11 := KB_2.out.cell 1 rfl; have k12 := KB_2.out.cell 2 rfl))
  go_ret
  exact ⟨rfl, HB_1.out⟩
set_option maxHeartbeats 8000000 in
set_option maxRecDepth 100000 in
theorem TrialOf_law (K : Nat) (A0 A1 A2 : Option Addr) (c0 c1 c2 : Nat) (F : List (List Int)) (L : List Bool) (R : List Int) (a0 : Int) (w : World) (hh : HeapAt w A0 A1 A2 c0 c1 c2 F L R)  (r0 : Int) (z0 : Hid (laws_szHeap.f K F L R 1048576 = some r0)) (y0 : 0 ≤ r0) (g : List Int) (s0 : Bool) (t1 : Hid (laws_toHeap.f K F L R = some (F, L, R))) (sp : Hid (spec_TrialOf.f K F L R a0 = some (g, s0))) (im : Hid (impl_TrialOf.f F L R a0 = some (g, s0))) (q1 : Hid (laws_eqIntS.f K g g = some true)) (q2 : Hid (laws_eqHeap.f K F L R F L R = some true)) (he : Hid (laws_heldIntS.f K (markI g.length 1) 1 = some (1 + (g.length : Int)))) (hF : F.length ≤ 1048576) (hs : ∀ x ∈ F, x.length ≤ 1048576) (hL : L.length ≤ 1048576) (hR : R.length ≤ 1048576) (hg : g.length ≤ 1048576) :
    Calls Try.prog 7 #[.agg #[.slice A0 F.length c0, .slice A1 L.length c1, .slice A2 R.length c2], .int .i64 a0] w fun e w' => e = .returned (.bool true) ∧ Below w.heap.size w w' := by
  have HFS := Lib.hid hs
  have hb0 : (s0 != s0) = false := by simp
  clear hs
  have HHa := Lib.hid hh
  have HB := Lib.hid (bl_alloc (Below.refl _ w) (.cells #[.slice A0 F.length c0, .slice A1 L.length c1, .slice A2 R.length c2] 26))
  have KB := Lib.hid (Blk.new w #[.slice A0 F.length c0, .slice A1 L.length c1, .slice A2 R.length c2] 26)
  have k00 := KB.out.cell 0 rfl
  have k01 := KB.out.cell 1 rfl
  have k02 := KB.out.cell 2 rfl
  clear hh 
  go_enter Try.func7, Try.ntmps7
  go_wp2_with (first
    | (go_at_call 18; refine (laws_eqIntS.calls K _ _ g _ _ g true _ (Kd.R_reads' GX.out).2.2 (Kd.R_reads' GX.out).2.1 (Kd.R_reads' GA_18.out).2.2 (Kd.R_reads' GA_18.out).2.1 q1.out).mono ?_; rintro e w6 ⟨rfl, nd, hw_⟩; have hb := bl_drewN (Below.refl w5.heap.size w5) nd; rw [← hw_] at hb; have HB_23 := Lib.hid (bl_trans HB_16.out (hb)); have KB_24 := Lib.hid (KB_17.out.bl (hb)); have GA_25 := Lib.hid (Kd.R_below GA_18.out (hb)); have SY_26 := Lib.hid (Kd.S_below SY_19.out (hb)); have LY_27 := Lib.hid (Kd.R_below LY_20.out (hb)); have RY_28 := Lib.hid (Kd.R_below RY_21.out (hb)); have KX_29 := Lib.hid (KX_22.out.bl (hb)); have GX_30 := Lib.hid (Kd.R_below GX.out (hb)); clear hb hw_)
    | (go_at_call 34; refine (impl_TrialOf.calls _ _ F _ _ L _ _ R a0 g s0 _ (Kd.S_reads' SY_13.out).2.2 (Kd.S_reads' SY_13.out).2.1 (Kd.R_reads' LY_14.out).2.2 (Kd.R_reads' LY_14.out).2.1 (Kd.R_reads' RY_15.out).2.2 (Kd.R_reads' RY_15.out).2.1  im.out).mono ?_; rintro e w5 ⟨g_, rfl, go, hb⟩; have HB_16 := Lib.hid (bl_trans HB_10.out (hb)); have KB_17 := Lib.hid (KB_11.out.bl (hb)); have GA_18 := Lib.hid (Kd.R_below GA_12.out (hb)); have SY_19 := Lib.hid (Kd.S_below SY_13.out (hb)); have LY_20 := Lib.hid (Kd.R_below LY_14.out (hb)); have RY_21 := Lib.hid (Kd.R_below RY_15.out (hb)); have KX_22 := Lib.hid (KX.out.bl (hb)); have GX := Lib.hid (Kd.R_mono (Kd.R_bound go) (fun _ hk => (Nat.le_trans (by rw [World.size_alloc]; omega) hk.2.1 : w4.heap.size ≤ _))); obtain ⟨B8, d8, rfl⟩ := Kd.R_slice go; clear hb go)
    | (go_at_call 16; refine (laws_toHeap.calls K _ _ F _ _ L _ _ R F L R _ (Kd.C_below HHa.out.rF HB_5.out) HHa.out.cF (Kd.C_below HHa.out.rL HB_5.out) HHa.out.cL (Kd.C_below HHa.out.rR HB_5.out) HHa.out.cR t1.out).mono ?_; rintro e w4 ⟨a0, a1, a2, rfl, so, lo, ro, hb⟩; have hsz := hb.size; have HB_7 := Lib.hid (bl_trans HB_5.out (hb)); have KB_8 := Lib.hid (KB_6.out.bl (hb)); have GA_9 := Lib.hid (Kd.R_below GA.out (hb)); have SY := Lib.hid (Kd.S_mono (Kd.S_bound so) (fun _ hk => (⟨hk.1, hk.2.1, hk.2.2.1⟩ : _ ∧ w3.heap.size ≤ _ ∧ _ < w4.heap.size))); have LY := Lib.hid (Kd.R_mono (Kd.R_bound lo) (fun _ hk => (⟨hk.2.1, hk.2.2.1⟩ : w3.heap.size ≤ _ ∧ _ < w4.heap.size))); have RY := Lib.hid (Kd.R_mono (Kd.R_bound ro) (fun _ hk => (⟨hk.2.1, hk.2.2.1⟩ : w3.heap.size ≤ _ ∧ _ < w4.heap.size))); obtain ⟨B5, d5, rfl⟩ := Kd.S_slice so; obtain ⟨B6, d6, rfl⟩ := Kd.R_slice lo; obtain ⟨B7, d7, rfl⟩ := Kd.R_slice ro; clear so lo ro hb; have HZX := Lib.hid hsz; have hb := bl_alloc (Below.refl w4.heap.size w4) (.cells #[.slice B5 F.length d5, .slice B6 L.length d6, .slice B7 R.length d7] 30); have HB_10 := Lib.hid (bl_trans HB_7.out (hb)); have KB_11 := Lib.hid (KB_8.out.bl (hb)); have GA_12 := Lib.hid (Kd.R_below GA_9.out (hb)); have SY_13 := Lib.hid (Kd.S_below SY.out (hb)); have LY_14 := Lib.hid (Kd.R_below LY.out (hb)); have RY_15 := Lib.hid (Kd.R_below RY.out (hb)); have KX := Lib.hid (Blk.new w4 #[.slice B5 F.length d5, .slice B6 L.length d6, .slice B7 R.length d7] 30); clear hb hsz; have k40 := KX.out.cell 0 rfl; have k41 := KX.out.cell 1 rfl; have k42 := KX.out.cell 2 rfl)
    | (go_at_call 33; refine (spec_TrialOf.calls K _ _ F _ _ L _ _ R a0 g s0 _ (Kd.S_reads' SA.out).2.2 (Kd.S_reads' SA.out).2.1 (Kd.R_reads' LA.out).2.2 (Kd.R_reads' LA.out).2.1 (Kd.R_reads' RA.out).2.2 (Kd.R_reads' RA.out).2.1  sp.out).mono ?_; rintro e w3 ⟨g_, rfl, go, hb⟩; have HB_5 := Lib.hid (bl_trans HB_3.out (hb)); have KB_6 := Lib.hid (KB_4.out.bl (hb)); have GA := Lib.hid (Kd.R_mono (Kd.R_bound go) (fun _ hk => (hk.2.2.1 : _ < w3.heap.size))); obtain ⟨B4, d4, rfl⟩ := Kd.R_slice go; have HLT := Lib.hid (show w.heap.size < w3.heap.size from KB_6.out.lt); clear hb go; have k30 := KB_6.out.cell 0 rfl; have k31 := KB_6.out.cell 1 rfl; have k32 := KB_6.out.cell 2 rfl)
    | (go_at_call 16; refine (laws_toHeap.calls K _ _ F _ _ L _ _ R F L R _ (Kd.C_below HHa.out.rF HB_1.out) HHa.out.cF (Kd.C_below HHa.out.rL HB_1.out) HHa.out.cL (Kd.C_below HHa.out.rR HB_1.out) HHa.out.cR t1.out).mono ?_; rintro e w2 ⟨a0, a1, a2, rfl, so, lo, ro, hb⟩; have hsz := hb.size; have HB_3 := Lib.hid (bl_trans HB_1.out (hb)); have KB_4 := Lib.hid (KB_2.out.bl (hb)); have SA := Lib.hid (so); have LA := Lib.hid (lo); have RA := Lib.hid (ro); obtain ⟨B1, d1, rfl⟩ := Kd.S_slice so; obtain ⟨B2, d2, rfl⟩ := Kd.R_slice lo; obtain ⟨B3, d3, rfl⟩ := Kd.R_slice ro; clear so lo ro hb; clear hsz; have k20 := KB_4.out.cell 0 rfl; have k21 := KB_4.out.cell 1 rfl; have k22 := KB_4.out.cell 2 rfl)
    | (go_at_call 14; refine (laws_szHeap.calls K _ _ F _ _ L _ _ R 1048576 r0 _ (Kd.C_below HHa.out.rF HB.out) HHa.out.cF (Kd.C_below HHa.out.rL HB.out) HHa.out.cL (Kd.C_below HHa.out.rR HB.out) HHa.out.cR z0.out).mono ?_; rintro e w1 ⟨rfl, hb⟩; have HB_1 := Lib.hid (bl_trans HB.out (hb)); have KB_2 := Lib.hid (KB.out.bl (hb)); clear hb; have k10 := KB_2.out.cell 0 rfl; have k11 := KB_2.out.cell 1 rfl; have k12 := KB_2.out.cell 2 rfl))
  have HB_31 := Lib.hid (bl_trans HB_23.out (bl_drew (Below.refl w6.heap.size w6)))
  have KB_32 := Lib.hid (KB_24.out.bl (bl_drew (Below.refl w6.heap.size w6)))
  have GA_33 := Lib.hid (Kd.R_below GA_25.out (bl_drew (Below.refl w6.heap.size w6)))
  have SY_34 := Lib.hid (Kd.S_below SY_26.out (bl_drew (Below.refl w6.heap.size w6)))
  have LY_35 := Lib.hid (Kd.R_below LY_27.out (bl_drew (Below.refl w6.heap.size w6)))
  have RY_36 := Lib.hid (Kd.R_below RY_28.out (bl_drew (Below.refl w6.heap.size w6)))
  have KX_37 := Lib.hid (KX_29.out.bl (bl_drew (Below.refl w6.heap.size w6)))
  have GX_38 := Lib.hid (Kd.R_below GX_30.out (bl_drew (Below.refl w6.heap.size w6)))
  refine start_ (n := 5) (S := fun w' => w'.cell? ⟨w4.heap.size, 0, none⟩ = some (.slice B5 F.length d5) ∧ w'.cell? ⟨w4.heap.size, 1, none⟩ = some (.slice B6 L.length d6) ∧ w'.cell? ⟨w4.heap.size, 2, none⟩ = some (.slice B7 R.length d7) ∧ w'.cell? ⟨w.heap.size, 0, none⟩ = some (.slice A0 F.length c0) ∧ w'.cell? ⟨w.heap.size, 1, none⟩ = some (.slice A1 L.length c1) ∧ w'.cell? ⟨w.heap.size, 2, none⟩ = some (.slice A2 R.length c2)) (ds := []) #[false, false, false, false, false] (by kernel_rfl) rfl rfl ⟨KX_37.out.cell 0 rfl, KX_37.out.cell 1 rfl, KX_37.out.cell 2 rfl, KB_32.out.cell 0 rfl, KB_32.out.cell 1 rfl, KB_32.out.cell 2 rfl⟩ (fun hHeld => ?_)
  generalize w6.drew = w7 at HB_31 KB_32 GA_33 SY_34 LY_35 RY_36 KX_37 GX_38 hHeld ⊢
  refine take_ (i := 0) (N := some 45) (v := ?_) (a' := ?_) #[true, false, false, false, false] rfl rfl (by kernel_rfl) (fun _ _ _ h => h) (Or.inl ⟨by rfl, ?_⟩) hHeld ?_ ?_
  rotate_left
  · rintro w' ⟨s0_, s1_, s2_, s3_, s4_, s5_⟩
    go_simp
    with_reducible rfl
  rotate_left
  · simp only [Act.put, List.setIfInBounds_toArray, List.set_cons_zero, List.set_cons_succ, i64_w, i32_w]
    rfl
  refine take_ (i := 1) (N := some 46) (v := ?_) (a' := ?_) #[true, true, false, false, false] rfl rfl (by kernel_rfl) (fun _ _ _ h => h) (Or.inl ⟨by rfl, ?_⟩) hHeld ?_ ?_
  rotate_left
  · rintro w' ⟨s0_, s1_, s2_, s3_, s4_, s5_⟩
    go_simp
    with_reducible rfl
  rotate_left
  · simp only [Act.put, List.setIfInBounds_toArray, List.set_cons_zero, List.set_cons_succ, i64_w, i32_w]
    rfl
  refine one_ (i := 2) (N := some 47) #[true, true, true, false, false] rfl rfl (by kernel_rfl) (by decide) (fun K2 hK => ?_)
  refine goes_ Try.func16 (by kernel_rfl) rfl #[.agg #[.slice A0 F.length c0, .slice A1 L.length c1, .slice A2 R.length c2]] (by rfl) rfl rfl (by (try simp only [List.map_toArray, List.map_cons, List.map_nil]); first | done | rfl | (simp only [List.length_drop, List.length_take]; rfl)) ?_
  refine (laws_toHeap.calls K _ _ F _ _ L _ _ R F L R _ (Kd.C_below HHa.out.rF HB_31.out) HHa.out.cF (Kd.C_below HHa.out.rL HB_31.out) HHa.out.cL (Kd.C_below HHa.out.rR HB_31.out) HHa.out.cR t1.out).mono ?_
  rintro e w8 ⟨a0, a1, a2, rfl, so, lo, ro, hb⟩
  refine ⟨_, rfl, ?_⟩
  have hsz := hb.size
  have HB_39 := Lib.hid (bl_trans HB_31.out (hb))
  have KB_40 := Lib.hid (KB_32.out.bl (hb))
  have GA_41 := Lib.hid (Kd.R_below GA_33.out (hb))
  have SY_42 := Lib.hid (Kd.S_below SY_34.out (hb))
  have LY_43 := Lib.hid (Kd.R_below LY_35.out (hb))
  have RY_44 := Lib.hid (Kd.R_below RY_36.out (hb))
  have KX_45 := Lib.hid (KX_37.out.bl (hb))
  have GX_46 := Lib.hid (Kd.R_below GX_38.out (hb))
  have SE := Lib.hid (so)
  have LE := Lib.hid (lo)
  have RE := Lib.hid (ro)
  obtain ⟨B9, d9, rfl⟩ := Kd.S_slice so
  obtain ⟨B10, d10, rfl⟩ := Kd.R_slice lo
  obtain ⟨B11, d11, rfl⟩ := Kd.R_slice ro
  clear so lo ro hb
  refine hK.out _ _ ⟨KX_45.out.cell 0 rfl, KX_45.out.cell 1 rfl, KX_45.out.cell 2 rfl, KB_40.out.cell 0 rfl, KB_40.out.cell 1 rfl, KB_40.out.cell 2 rfl⟩ (fun hHeld => ?_)
  clear hK K2
  refine norm_ (a' := ?_) ?_ ?_
  rotate_left
  · show Act.put _ (some 47) _ = _
    simp only [Act.put, List.setIfInBounds_toArray, List.set_cons_zero, List.set_cons_succ, i64_w, i32_w]
    rfl
  refine one_ (i := 3) (N := some 48) #[true, true, true, true, false] rfl rfl (by kernel_rfl) (by decide) (fun K2 hK => ?_)
  refine goes_ Try.func19 (by kernel_rfl) rfl #[.agg #[.slice B5 F.length d5, .slice B6 L.length d6, .slice B7 R.length d7], .agg #[.slice B9 F.length d9, .slice B10 L.length d10, .slice B11 R.length d11]] (by rfl) rfl rfl (by (try simp only [List.map_toArray, List.map_cons, List.map_nil]); first | done | rfl | (simp only [List.length_drop, List.length_take]; rfl)) ?_
  refine (laws_eqHeap.calls K _ _ F _ _ L _ _ R _ _ F _ _ L _ _ R true _ (Kd.S_reads' SY_42.out).2.2 (Kd.S_reads' SY_42.out).2.1 (Kd.R_reads' LY_43.out).2.2 (Kd.R_reads' LY_43.out).2.1 (Kd.R_reads' RY_44.out).2.2 (Kd.R_reads' RY_44.out).2.1 (Kd.S_reads' SE.out).2.2 (Kd.S_reads' SE.out).2.1 (Kd.R_reads' LE.out).2.2 (Kd.R_reads' LE.out).2.1 (Kd.R_reads' RE.out).2.2 (Kd.R_reads' RE.out).2.1 q2.out).mono ?_
  rintro e w9 ⟨rfl, hb⟩
  refine ⟨_, rfl, ?_⟩
  have HB_47 := Lib.hid (bl_trans HB_39.out (hb))
  have KB_48 := Lib.hid (KB_40.out.bl (hb))
  have GA_49 := Lib.hid (Kd.R_below GA_41.out (hb))
  have SY_50 := Lib.hid (Kd.S_below SY_42.out (hb))
  have LY_51 := Lib.hid (Kd.R_below LY_43.out (hb))
  have RY_52 := Lib.hid (Kd.R_below RY_44.out (hb))
  have KX_53 := Lib.hid (KX_45.out.bl (hb))
  have GX_54 := Lib.hid (Kd.R_below GX_46.out (hb))
  clear hb
  refine hK.out _ _ ⟨KX_53.out.cell 0 rfl, KX_53.out.cell 1 rfl, KX_53.out.cell 2 rfl, KB_48.out.cell 0 rfl, KB_48.out.cell 1 rfl, KB_48.out.cell 2 rfl⟩ (fun hHeld => ?_)
  clear hK K2
  refine norm_ (a' := ?_) ?_ ?_
  rotate_left
  · show Act.put _ (some 48) _ = _
    simp only [Act.put, List.setIfInBounds_toArray, List.set_cons_zero, List.set_cons_succ, i64_w, i32_w]
    rfl
  refine pure_ (i := 4) (N := some 49) (v := ?_) (a' := ?_) #[true, true, true, true, true] rfl rfl (by kernel_rfl) (fun _ _ _ h => h) (Or.inl ⟨by rfl, ?_⟩) ?_ ?_
  rotate_left
  · intro w'
    go_simp
    with_reducible rfl
  rotate_left
  · simp only [Act.put, List.setIfInBounds_toArray, List.set_cons_zero, List.set_cons_succ, i64_w, i32_w]
    rfl
  refine done_ (by kernel_rfl) ?_
  have k50 := KX_53.out.cell 0 rfl
  have k51 := KX_53.out.cell 1 rfl
  have k52 := KX_53.out.cell 2 rfl
  go_wp2_with (first
    | (go_at_call 22; have hc9 := laws_heldIntS.calls K B8 d8 (markI g.length 1) 1 _ _ (Kd.R_reads' GX_74.out).2.2 (by rw [markI_length]; exact (Kd.R_reads' GX_74.out).2.1) he.out; rw [markI_length] at hc9; refine hc9.mono ?_; rintro e w17 ⟨rfl, nd, hw_⟩; have hb := bl_drewN (Below.refl w16.heap.size w16) nd; rw [← hw_] at hb; have HB_76 := Lib.hid (bl_trans HB_71.out (hb)); have KB_77 := Lib.hid (KB_72.out.bl (hb)); have GA_78 := Lib.hid (Kd.R_below GA_73.out (hb)); have GX_79 := Lib.hid (Kd.R_below GX_74.out (hb)); have GZ_80 := Lib.hid (Kd.R_below GZ_75.out (hb)); clear hb hw_ hc9)
    | (go_at_call 18; refine (laws_eqIntS.calls K _ _ g _ _ g true _ (Kd.R_reads' GZ.out).2.2 (Kd.R_reads' GZ.out).2.1 (Kd.R_reads' GA_69.out).2.2 (Kd.R_reads' GA_69.out).2.1 q1.out).mono ?_; rintro e w16 ⟨rfl, nd, hw_⟩; have hb := bl_drewN (Below.refl w15.heap.size w15) nd; rw [← hw_] at hb; have HB_71 := Lib.hid (bl_trans HB_67.out (hb)); have KB_72 := Lib.hid (KB_68.out.bl (hb)); have GA_73 := Lib.hid (Kd.R_below GA_69.out (hb)); have GX_74 := Lib.hid (Kd.R_below GX_70.out (hb)); have GZ_75 := Lib.hid (Kd.R_below GZ.out (hb)); clear hb hw_)
    | (go_at_call 34; refine (impl_TrialOf.calls _ _ F _ _ L _ _ R a0 g s0 _ (Kd.S_reads' SZ.out).2.2 (Kd.S_reads' SZ.out).2.1 (Kd.R_reads' LZ.out).2.2 (Kd.R_reads' LZ.out).2.1 (Kd.R_reads' RZ.out).2.2 (Kd.R_reads' RZ.out).2.1  im.out).mono ?_; rintro e w15 ⟨g_, rfl, go, hb⟩; have HB_67 := Lib.hid (bl_trans HB_63.out (hb)); have KB_68 := Lib.hid (KB_64.out.bl (hb)); have GA_69 := Lib.hid (Kd.R_below GA_65.out (hb)); have GX_70 := Lib.hid (Kd.R_below GX_66.out (hb)); have GZ := Lib.hid (go); obtain ⟨B15, d15, rfl⟩ := Kd.R_slice go; clear hb go)
    | (go_at_call 16; refine (laws_toHeap.calls K _ _ F _ _ L _ _ R F L R _ (Kd.C_below HHa.out.rF HB_59.out) HHa.out.cF (Kd.C_below HHa.out.rL HB_59.out) HHa.out.cL (Kd.C_below HHa.out.rR HB_59.out) HHa.out.cR t1.out).mono ?_; rintro e w14 ⟨a0, a1, a2, rfl, so, lo, ro, hb⟩; have hsz := hb.size; have HB_63 := Lib.hid (bl_trans HB_59.out (hb)); have KB_64 := Lib.hid (KB_60.out.bl (hb)); have GA_65 := Lib.hid (Kd.R_below GA_61.out (hb)); have GX_66 := Lib.hid (Kd.R_below GX_62.out (hb)); have SZ := Lib.hid (so); have LZ := Lib.hid (lo); have RZ := Lib.hid (ro); obtain ⟨B12, d12, rfl⟩ := Kd.S_slice so; obtain ⟨B13, d13, rfl⟩ := Kd.R_slice lo; obtain ⟨B14, d14, rfl⟩ := Kd.R_slice ro; clear so lo ro hb; clear hsz)
    | (go_at_call 22; have hc9 := laws_heldIntS.calls K B8 d8 (markI g.length 1) 1 _ _ (Kd.R_reads' GX_e.out).2.2 (by rw [markI_length]; exact (Kd.R_reads' GX_e.out).2.1) he.out; rw [markI_length] at hc9; refine hc9.mono ?_; rintro e w13 ⟨rfl, nd, hw_⟩; have hb := bl_drewN (Below.refl w12.heap.size w12) nd; rw [← hw_] at hb; have HB_59 := Lib.hid (bl_trans HB_e.out (hb)); have KB_60 := Lib.hid (KB_e.out.bl (hb)); have GA_61 := Lib.hid (Kd.R_below GA_e.out (hb)); have GX_62 := Lib.hid (Kd.R_below GX_e.out (hb)); clear hb hw_ hc9; have k60 := KB_60.out.cell 0 rfl; have k61 := KB_60.out.cell 1 rfl; have k62 := KB_60.out.cell 2 rfl)
    | (go_at_call 21; refine (markIntS_calls _ g 1 _ _ _ GX_58.out hg (by omega) (by omega)).mono ?_; rintro e w12 ⟨rfl, gm, hw_⟩; have hp1 := GX_58.out.1; have hh2 := HLT.out; have hh3 := HZX.out; have HB_e := Lib.hid (HB_55.out.trans (hw_.below HB_55.out.size (fun b hb => by have h1 := hp1 b hb; omega))); have KB_e := Lib.hid (KB_56.out.wrote hw_ (fun hb => by have h1 := hp1 _ hb; omega)); have GA_e := Lib.hid (Kd.R_kept GA_57.out hw_.kept (fun b hb hs => by have h1 := hp1 b hs; omega)); have GX_e := Lib.hid gm)
    | (go_at_call 18; refine (laws_eqIntS.calls K _ _ g _ _ g true _ (Kd.R_reads' GX_a.out).2.2 (Kd.R_reads' GX_a.out).2.1 (Kd.R_reads' GA_a.out).2.2 (Kd.R_reads' GA_a.out).2.1 q1.out).mono ?_; rintro e w11 ⟨rfl, nd, hw_⟩; have hb := bl_drewN (Below.refl w10.heap.size w10) nd; rw [← hw_] at hb; have HB_55 := Lib.hid (bl_trans HB_a.out (hb)); have KB_56 := Lib.hid (KB_a.out.bl (hb)); have GA_57 := Lib.hid (Kd.R_below GA_a.out (hb)); have GX_58 := Lib.hid (Kd.R_below GX_a.out (hb)); clear hb hw_)
    | (go_at_call 20; refine (markHeap_calls _ _ _ F L R 1 _ _ _ _ (fun b => w3.heap.size ≤ b ∧ b < w4.heap.size) _ ⟨SY_50.out, LY_51.out, RY_52.out, fun b hb => hb.1⟩ hF HFS.out hL hR (by omega) (by omega) (fun b hb => ⟨hb.2.1, hb.2.2⟩) (fun b hb => hb) (fun b hb => hb)).mono ?_; rintro e w10 ⟨rk, rfl, rk0, rk1, hw_⟩; have HB_a := Lib.hid (HB_47.out.trans (hw_.below HB_47.out.size (fun b hb => Nat.le_trans (Nat.le_of_lt HLT.out) hb.1))); have KB_a := Lib.hid (KB_48.out.wrote hw_ (fun hb => absurd hb.1 (Nat.not_le_of_lt HLT.out))); have GA_a := Lib.hid (Kd.R_kept GA_49.out hw_.kept (fun b hb hs => absurd hs.1 (Nat.not_le_of_lt hb))); have GX_a := Lib.hid (Kd.R_kept GX_54.out hw_.kept (fun b hb hs => absurd hs.2 (Nat.not_lt_of_le hb))); have hk9 : ¬ (rk < 0) := by omega))
  go_ret
  exact ⟨rfl, HB_76.out⟩

end Go.Proofs.Ytemgbakjlbdibaa.QB
