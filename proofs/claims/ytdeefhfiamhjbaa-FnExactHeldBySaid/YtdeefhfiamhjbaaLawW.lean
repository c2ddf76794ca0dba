import Derived.Test.YtdeefhfiamhjbaaQBx
import Derived.Test.YtdeefhfiamhjbaaGn
namespace Go.Proofs.Ytdeefhfiamhjbaa.QB
open Go.RowKit Go.Proofs.YtdeefhfiamhjbaaW.PrintWords Go.Proofs.YtdeefhfiamhjbaaW.PrintLast Go.Proofs.YtdeefhfiamhjbaaW.PrintMore Go.Proofs.Ytdeefhfiamhjbaa.G
set_option linter.unusedVariables false
theorem HeldBy_small0 (K : Nat) (A0 A1 A2 : Option Addr) (c0 c1 c2 : Nat) (F : List (List Int)) (L : List Bool) (R : List Int) (AP : Option Addr) (cP : Nat) (l : List S79) (a2 : Int) (w : World) (hh : HeapAt w A0 A1 A2 c0 c1 c2 F L R) (hr : Kd.C k79 w AP l.length l) (hc : l.length ≤ cP) (r1 : Int) (z1 : Hid (laws_szHeap.f K F L R 1048576 = some r1)) (z2 : r1 < 0) :
    Calls Try.prog 7 #[.agg #[.slice A0 F.length c0, .slice A1 L.length c1, .slice A2 R.length c2], .slice AP l.length cP, .int .i64 a2] w fun e w' => e = .returned (.bool true) ∧ Below w.heap.size w w' := by
  have HHa := Lib.hid hh
  have HPa := Lib.hid hr
  have HB := Lib.hid (bl_alloc (Below.refl _ w) (.cells #[.slice A0 F.length c0, .slice A1 L.length c1, .slice A2 R.length c2] 26))
  have KB := Lib.hid (Blk.new w #[.slice A0 F.length c0, .slice A1 L.length c1, .slice A2 R.length c2] 26)
  have k00 := KB.out.cell 0 rfl
  have k01 := KB.out.cell 1 rfl
  have k02 := KB.out.cell 2 rfl
  clear hh hr
  go_enter Try.func7, Try.ntmps7
  go_wp2_with (first
    | (go_at_call 11; refine (laws_szHeap.calls K _ _ F _ _ L _ _ R 1048576 r1 _ (Kd.C_below HHa.out.rF HB.out) HHa.out.cF (Kd.C_below HHa.out.rL HB.out) HHa.out.cL (Kd.C_below HHa.out.rR HB.out) HHa.out.cR z1.out).mono ?_; rintro e w1 ⟨rfl, hb⟩; have HB_1 := Lib.hid (bl_trans HB.out (hb)); have KB_2 := Lib.hid (KB.out.bl (hb)); clear hb; have k10 := KB_2.out.cell 0 rfl; have k11 := KB_2.out.cell 1 rfl; have k12 := KB_2.out.cell 2 rfl))
  go_ret
  exact ⟨rfl, HB_1.out⟩
theorem HeldBy_small1 (K : Nat) (A0 A1 A2 : Option Addr) (c0 c1 c2 : Nat) (F : List (List Int)) (L : List Bool) (R : List Int) (AP : Option Addr) (cP : Nat) (l : List S79) (a2 : Int) (w : World) (hh : HeapAt w A0 A1 A2 c0 c1 c2 F L R) (hr : Kd.C k79 w AP l.length l) (hc : l.length ≤ cP) (r1 r2 : Int) (z1 : Hid (laws_szHeap.f K F L R 1048576 = some r1)) (z2 : 0 ≤ r1) (z3 : Hid (laws_szPairS.f l r1 = some r2)) (z4 : r2 < 0) :
    Calls Try.prog 7 #[.agg #[.slice A0 F.length c0, .slice A1 L.length c1, .slice A2 R.length c2], .slice AP l.length cP, .int .i64 a2] w fun e w' => e = .returned (.bool true) ∧ Below w.heap.size w w' := by
  have HHa := Lib.hid hh
  have HPa := Lib.hid hr
  have HB := Lib.hid (bl_alloc (Below.refl _ w) (.cells #[.slice A0 F.length c0, .slice A1 L.length c1, .slice A2 R.length c2] 26))
  have KB := Lib.hid (Blk.new w #[.slice A0 F.length c0, .slice A1 L.length c1, .slice A2 R.length c2] 26)
  have k00 := KB.out.cell 0 rfl
  have k01 := KB.out.cell 1 rfl
  have k02 := KB.out.cell 2 rfl
  clear hh hr
  go_enter Try.func7, Try.ntmps7
  go_wp2_with (first
    | (go_at_call 12; refine (laws_szPairS.calls _ _ l r1 r2 _ (Kd.C_below HPa.out HB_1.out) hc z3.out).mono ?_; rintro e w2 ⟨rfl, nd, hw2⟩; have hb := bl_drewN (Below.refl w1.heap.size w1) nd; rw [← hw2] at hb; have HB_3 := Lib.hid (bl_trans HB_1.out (hb)); have KB_4 := Lib.hid (KB_2.out.bl (hb)); clear hb hw2; have k20 := KB_4.out.cell 0 rfl; have k21 := KB_4.out.cell 1 rfl; have k22 := KB_4.out.cell 2 rfl)
    | (go_at_call 11; refine (laws_szHeap.calls K _ _ F _ _ L _ _ R 1048576 r1 _ (Kd.C_below HHa.out.rF HB.out) HHa.out.cF (Kd.C_below HHa.out.rL HB.out) HHa.out.cL (Kd.C_below HHa.out.rR HB.out) HHa.out.cR z1.out).mono ?_; rintro e w1 ⟨rfl, hb⟩; have HB_1 := Lib.hid (bl_trans HB.out (hb)); have KB_2 := Lib.hid (KB.out.bl (hb)); clear hb; have k10 := KB_2.out.cell 0 rfl; have k11 := KB_2.out.cell 1 rfl; have k12 := KB_2.out.cell 2 rfl))
  go_ret
  exact ⟨rfl, HB_3.out⟩
set_option linter.unusedSimpArgs false in
set_option maxHeartbeats 8000000 in
set_option maxRecDepth 100000 in
theorem HeldBy_law (K : Nat) (A0 A1 A2 : Option Addr) (c0 c1 c2 : Nat) (F : List (List Int)) (L : List Bool) (R : List Int) (AP : Option Addr) (cP : Nat) (l : List S79) (a2 : Int) (w : World) (hh : HeapAt w A0 A1 A2 c0 c1 c2 F L R) (hr : Kd.C k79 w AP l.length l) (hc : l.length ≤ cP)
    (P : List S74) (g : List Int) (b : Bool) (r1 r2 : Int) (z1 : Hid (laws_szHeap.f K F L R 1048576 = some r1)) (z2 : 0 ≤ r1) (z3 : Hid (laws_szPairS.f l r1 = some r2)) (z4 : 0 ≤ r2)
    (t1 : Hid (laws_toHeap.f K F L R = some (F, L, R))) (t2 : Hid (laws_toPairS.f K l = some P)) (sp : Hid (spec_HeldBy.f K F L R P a2 = some (g, b))) (im : Hid (impl_HeldBy.f K F L R P a2 = some (g, b)))
    (q1 : Hid (laws_eqIntS.f K g g = some true)) (q2 : Hid (laws_eqHeap.f K F L R F L R = some true)) (q3 : Hid (laws_eqPairS.f K P P = some true)) (he : Hid (laws_heldIntS.f K (markI g.length 1) 1 = some (1 + (g.length : Int))))
    (hF : F.length ≤ 1048576) (hs : ∀ x ∈ F, x.length ≤ 1048576) (hL : L.length ≤ 1048576) (hR : R.length ≤ 1048576) (hP : P.length ≤ 1048576) (hg : g.length ≤ 1048576) :
    Calls Try.prog 7 #[.agg #[.slice A0 F.length c0, .slice A1 L.length c1, .slice A2 R.length c2], .slice AP l.length cP, .int .i64 a2] w fun e w' => e = .returned (.bool true) ∧ Below w.heap.size w w' := by
  have HHa := Lib.hid hh
  have HPa := Lib.hid hr
  have HFS := Lib.hid hs
  have hbb : (b != b) = false := by cases b <;> rfl
  have HB := Lib.hid (bl_alloc (Below.refl _ w) (.cells #[.slice A0 F.length c0, .slice A1 L.length c1, .slice A2 R.length c2] 26))
  have KB := Lib.hid (Blk.new w #[.slice A0 F.length c0, .slice A1 L.length c1, .slice A2 R.length c2] 26)
  have k00 := KB.out.cell 0 rfl
  have k01 := KB.out.cell 1 rfl
  have k02 := KB.out.cell 2 rfl
  clear hh hr hs
  go_enter Try.func7, Try.ntmps7
  go_wp2_with (first
    | (go_at_call 33; refine (laws_eqIntS.calls K _ _ g _ _ g true _ (Kd.R_reads' GX.out).2.2 (Kd.R_reads' GX.out).2.1 (Kd.R_reads' GA_32.out).2.2 (Kd.R_reads' GA_32.out).2.1 q1.out).mono ?_; rintro e w9 ⟨rfl, nd, hw9⟩; have hb := bl_drewN (Below.refl w8.heap.size w8) nd; rw [← hw9] at hb; have HB_38 := Lib.hid (bl_trans HB_30.out (hb)); have KB_39 := Lib.hid (KB_31.out.bl (hb)); have GA_40 := Lib.hid (Kd.R_below GA_32.out (hb)); have SY_41 := Lib.hid (Kd.S_below SY_33.out (hb)); have LY_42 := Lib.hid (Kd.R_below LY_34.out (hb)); have RY_43 := Lib.hid (Kd.R_below RY_35.out (hb)); have KX_44 := Lib.hid (KX_36.out.bl (hb)); have PX_45 := Lib.hid (Kd.R_below PX_37.out (hb)); have GX_46 := Lib.hid (Kd.R_below GX.out (hb)); clear hb hw9)
    | (go_at_call 32; refine (impl_HeldBy.calls K _ _ F _ _ L _ _ R _ _ P a2 g b _ (Kd.S_reads' SY_26.out).2.2 (Kd.S_reads' SY_26.out).2.1 (Kd.R_reads' LY_27.out).2.2 (Kd.R_reads' LY_27.out).2.1 (Kd.R_reads' RY_28.out).2.2 (Kd.R_reads' RY_28.out).2.1 (Kd.R_reads' PX.out).2.2 (Kd.R_reads' PX.out).2.1 im.out).mono ?_; rintro e w8 ⟨g10, rfl, go, hb⟩; have HB_30 := Lib.hid (bl_trans HB_23.out (hb)); have KB_31 := Lib.hid (KB_24.out.bl (hb)); have GA_32 := Lib.hid (Kd.R_below GA_25.out (hb)); have SY_33 := Lib.hid (Kd.S_below SY_26.out (hb)); have LY_34 := Lib.hid (Kd.R_below LY_27.out (hb)); have RY_35 := Lib.hid (Kd.R_below RY_28.out (hb)); have KX_36 := Lib.hid (KX_29.out.bl (hb)); have PX_37 := Lib.hid (Kd.R_below PX.out (hb)); have GX := Lib.hid (Kd.R_mono (Kd.R_bound go) (fun _ hk => (hk.2.1 : w7.heap.size ≤ _))); obtain ⟨E6, e6, rfl⟩ := Kd.R_slice go; clear hb go)
    | (go_at_call 15; refine (laws_toPairS.calls K _ _ l P _ (Kd.C_below HPa.out HB_17.out) hc t2.out).mono ?_; rintro e w7 ⟨p0, rfl, po, hb⟩; have hsz := hb.size; have HB_23 := Lib.hid (bl_trans HB_17.out (hb)); have KB_24 := Lib.hid (KB_18.out.bl (hb)); have GA_25 := Lib.hid (Kd.R_below GA_19.out (hb)); have SY_26 := Lib.hid (Kd.S_below SY_20.out (hb)); have LY_27 := Lib.hid (Kd.R_below LY_21.out (hb)); have RY_28 := Lib.hid (Kd.R_below RY_22.out (hb)); have KX_29 := Lib.hid (KX.out.bl (hb)); have PX := Lib.hid (Kd.R_mono (Kd.R_bound po) (fun _ hk => (⟨Nat.lt_of_lt_of_le (by rw [World.size_alloc]; omega) hk.2.1, hk.2.2.1⟩ : w6.heap.size < _ ∧ _ < w7.heap.size))); obtain ⟨E3, e3, rfl⟩ := Kd.R_slice po; have HZ7 := Lib.hid (show w6.heap.size ≤ w7.heap.size from Nat.le_trans (by rw [World.size_alloc]; omega) hsz); clear hb po hsz; have k60 := KX_29.out.cell 0 rfl; have k61 := KX_29.out.cell 1 rfl; have k62 := KX_29.out.cell 2 rfl)
    | (go_at_call 14; refine (laws_toHeap.calls K _ _ F _ _ L _ _ R F L R _ (Kd.C_below HHa.out.rF HB_12.out) HHa.out.cF (Kd.C_below HHa.out.rL HB_12.out) HHa.out.cL (Kd.C_below HHa.out.rR HB_12.out) HHa.out.cR t1.out).mono ?_; rintro e w6 ⟨a0, a1, a2, rfl, so, lo, ro, hb⟩; have hsz := hb.size; have HB_14 := Lib.hid (bl_trans HB_12.out (hb)); have KB_15 := Lib.hid (KB_13.out.bl (hb)); have GA_16 := Lib.hid (Kd.R_below GA.out (hb)); have SY := Lib.hid (Kd.S_mono (Kd.S_bound so) (fun _ hk => (⟨hk.1, hk.2.1, hk.2.2.1⟩ : _ ∧ w5.heap.size ≤ _ ∧ _ < w6.heap.size))); have LY := Lib.hid (Kd.R_mono (Kd.R_bound lo) (fun _ hk => (⟨hk.2.1, hk.2.2.1⟩ : w5.heap.size ≤ _ ∧ _ < w6.heap.size))); have RY := Lib.hid (Kd.R_mono (Kd.R_bound ro) (fun _ hk => (⟨hk.2.1, hk.2.2.1⟩ : w5.heap.size ≤ _ ∧ _ < w6.heap.size))); obtain ⟨E0, e0, rfl⟩ := Kd.S_slice so; obtain ⟨E1, e1, rfl⟩ := Kd.R_slice lo; obtain ⟨E2, e2, rfl⟩ := Kd.R_slice ro; clear so lo ro hb; have hb := bl_alloc (Below.refl w6.heap.size w6) (.cells #[.slice E0 F.length e0, .slice E1 L.length e1, .slice E2 R.length e2] 31); have HB_17 := Lib.hid (bl_trans HB_14.out (hb)); have KB_18 := Lib.hid (KB_15.out.bl (hb)); have GA_19 := Lib.hid (Kd.R_below GA_16.out (hb)); have SY_20 := Lib.hid (Kd.S_below SY.out (hb)); have LY_21 := Lib.hid (Kd.R_below LY.out (hb)); have RY_22 := Lib.hid (Kd.R_below RY.out (hb)); have KX := Lib.hid (Blk.new w6 #[.slice E0 F.length e0, .slice E1 L.length e1, .slice E2 R.length e2] 31); have HZ6 := Lib.hid hsz; clear hb hsz)
    | (go_at_call 31; refine (spec_HeldBy.calls K _ _ F _ _ L _ _ R _ _ P a2 g b _ (Kd.S_reads' SA_9.out).2.2 (Kd.S_reads' SA_9.out).2.1 (Kd.R_reads' LA_10.out).2.2 (Kd.R_reads' LA_10.out).2.1 (Kd.R_reads' RA_11.out).2.2 (Kd.R_reads' RA_11.out).2.1 (Kd.R_reads' PA.out).2.2 (Kd.R_reads' PA.out).2.1 sp.out).mono ?_; rintro e w5 ⟨g6, rfl, go, hb⟩; have hlo := (HB_7.out.size); have HB_12 := Lib.hid (bl_trans HB_7.out (hb)); have KB_13 := Lib.hid (KB_8.out.bl (hb)); have GA := Lib.hid (Kd.R_mono (Kd.R_bound go) (fun _ hk => (hk.2.2.1 : _ < w5.heap.size))); obtain ⟨B6, d6, rfl⟩ := Kd.R_slice go; have HLT := Lib.hid (show w.heap.size < w5.heap.size from Nat.lt_of_lt_of_le KB_13.out.lt (Nat.le_refl _)); clear hb go hlo; have k50 := KB_13.out.cell 0 rfl; have k51 := KB_13.out.cell 1 rfl; have k52 := KB_13.out.cell 2 rfl)
    | (go_at_call 15; refine (laws_toPairS.calls K _ _ l P _ (Kd.C_below HPa.out HB_5.out) hc t2.out).mono ?_; rintro e w4 ⟨p0, rfl, po, hb⟩; have HB_7 := Lib.hid (bl_trans HB_5.out (hb)); have KB_8 := Lib.hid (KB_6.out.bl (hb)); have SA_9 := Lib.hid (Kd.S_below SA.out (hb)); have LA_10 := Lib.hid (Kd.R_below LA.out (hb)); have RA_11 := Lib.hid (Kd.R_below RA.out (hb)); have PA := Lib.hid (po); obtain ⟨B3, d3, rfl⟩ := Kd.R_slice po; clear hb po; have k40 := KB_8.out.cell 0 rfl; have k41 := KB_8.out.cell 1 rfl; have k42 := KB_8.out.cell 2 rfl)
    | (go_at_call 14; refine (laws_toHeap.calls K _ _ F _ _ L _ _ R F L R _ (Kd.C_below HHa.out.rF HB_3.out) HHa.out.cF (Kd.C_below HHa.out.rL HB_3.out) HHa.out.cL (Kd.C_below HHa.out.rR HB_3.out) HHa.out.cR t1.out).mono ?_; rintro e w3 ⟨a0, a1, a2, rfl, so, lo, ro, hb⟩; have HB_5 := Lib.hid (bl_trans HB_3.out (hb)); have KB_6 := Lib.hid (KB_4.out.bl (hb)); have SA := Lib.hid (so); have LA := Lib.hid (lo); have RA := Lib.hid (ro); obtain ⟨B0, d0, rfl⟩ := Kd.S_slice so; obtain ⟨B1, d1, rfl⟩ := Kd.R_slice lo; obtain ⟨B2, d2, rfl⟩ := Kd.R_slice ro; clear hb so lo ro; have k30 := KB_6.out.cell 0 rfl; have k31 := KB_6.out.cell 1 rfl; have k32 := KB_6.out.cell 2 rfl)
    | (go_at_call 12; refine (laws_szPairS.calls _ _ l r1 r2 _ (Kd.C_below HPa.out HB_1.out) hc z3.out).mono ?_; rintro e w2 ⟨rfl, nd, hw2⟩; have hb := bl_drewN (Below.refl w1.heap.size w1) nd; rw [← hw2] at hb; have HB_3 := Lib.hid (bl_trans HB_1.out (hb)); have KB_4 := Lib.hid (KB_2.out.bl (hb)); clear hb hw2; have k20 := KB_4.out.cell 0 rfl; have k21 := KB_4.out.cell 1 rfl; have k22 := KB_4.out.cell 2 rfl)
    | (go_at_call 11; refine (laws_szHeap.calls K _ _ F _ _ L _ _ R 1048576 r1 _ (Kd.C_below HHa.out.rF HB.out) HHa.out.cF (Kd.C_below HHa.out.rL HB.out) HHa.out.cL (Kd.C_below HHa.out.rR HB.out) HHa.out.cR z1.out).mono ?_; rintro e w1 ⟨rfl, hb⟩; have HB_1 := Lib.hid (bl_trans HB.out (hb)); have KB_2 := Lib.hid (KB.out.bl (hb)); clear hb; have k10 := KB_2.out.cell 0 rfl; have k11 := KB_2.out.cell 1 rfl; have k12 := KB_2.out.cell 2 rfl))
  have HB_47 := Lib.hid (bl_trans HB_38.out (bl_drew (Below.refl w9.heap.size w9)))
  have KB_48 := Lib.hid (KB_39.out.bl (bl_drew (Below.refl w9.heap.size w9)))
  have GA_49 := Lib.hid (Kd.R_below GA_40.out (bl_drew (Below.refl w9.heap.size w9)))
  have SY_50 := Lib.hid (Kd.S_below SY_41.out (bl_drew (Below.refl w9.heap.size w9)))
  have LY_51 := Lib.hid (Kd.R_below LY_42.out (bl_drew (Below.refl w9.heap.size w9)))
  have RY_52 := Lib.hid (Kd.R_below RY_43.out (bl_drew (Below.refl w9.heap.size w9)))
  have KX_53 := Lib.hid (KX_44.out.bl (bl_drew (Below.refl w9.heap.size w9)))
  have PX_54 := Lib.hid (Kd.R_below PX_45.out (bl_drew (Below.refl w9.heap.size w9)))
  have GX_55 := Lib.hid (Kd.R_below GX_46.out (bl_drew (Below.refl w9.heap.size w9)))
  refine start_ (n := 5) (S := fun w' => w'.cell? ⟨w6.heap.size, 0, none⟩ = some (.slice E0 F.length e0) ∧ w'.cell? ⟨w6.heap.size, 1, none⟩ = some (.slice E1 L.length e1) ∧ w'.cell? ⟨w6.heap.size, 2, none⟩ = some (.slice E2 R.length e2) ∧ w'.cell? ⟨w.heap.size, 0, none⟩ = some (.slice A0 F.length c0) ∧ w'.cell? ⟨w.heap.size, 1, none⟩ = some (.slice A1 L.length c1) ∧ w'.cell? ⟨w.heap.size, 2, none⟩ = some (.slice A2 R.length c2)) (ds := []) #[false, false, false, false, false] (by kernel_rfl) rfl rfl ⟨KX_53.out.cell 0 rfl, KX_53.out.cell 1 rfl, KX_53.out.cell 2 rfl, KB_48.out.cell 0 rfl, KB_48.out.cell 1 rfl, KB_48.out.cell 2 rfl⟩ (fun hHeld => ?_)
  generalize w9.drew = w10 at HB_47 KB_48 GA_49 SY_50 LY_51 RY_52 KX_53 PX_54 GX_55 hHeld ⊢
  refine take_ (i := 0) (N := some 58) (v := ?_) (a' := ?_) #[true, false, false, false, false] rfl rfl (by kernel_rfl) (fun _ _ _ h => h) (Or.inl ⟨by rfl, ?_⟩) hHeld ?_ ?_
  rotate_left
  · rintro w' ⟨s0, s1, s2, s3, s4, s5⟩
    go_simp
    with_reducible rfl
  rotate_left
  · simp only [Act.put, List.setIfInBounds_toArray, List.set_cons_zero, List.set_cons_succ, i64_w, i32_w]
    rfl
  refine take_ (i := 1) (N := some 59) (v := ?_) (a' := ?_) #[true, true, false, false, false] rfl rfl (by kernel_rfl) (fun _ _ _ h => h) (Or.inl ⟨by rfl, ?_⟩) hHeld ?_ ?_
  rotate_left
  · rintro w' ⟨s0, s1, s2, s3, s4, s5⟩
    go_simp
    with_reducible rfl
  rotate_left
  · simp only [Act.put, List.setIfInBounds_toArray, List.set_cons_zero, List.set_cons_succ, i64_w, i32_w]
    rfl
  refine one_ (i := 2) (N := some 60) #[true, true, true, false, false] rfl rfl (by kernel_rfl) (by decide) (fun K2 hK => ?_)
  refine goes_ Try.func14 (by kernel_rfl) rfl #[.agg #[.slice A0 F.length c0, .slice A1 L.length c1, .slice A2 R.length c2]] (by rfl) rfl rfl (by (try simp only [List.map_toArray, List.map_cons, List.map_nil]); first | done | rfl | (simp only [List.length_drop, List.length_take]; rfl)) ?_
  refine (laws_toHeap.calls K _ _ F _ _ L _ _ R F L R _ (Kd.C_below HHa.out.rF HB_47.out) HHa.out.cF (Kd.C_below HHa.out.rL HB_47.out) HHa.out.cL (Kd.C_below HHa.out.rR HB_47.out) HHa.out.cR t1.out).mono ?_
  rintro e w11 ⟨a0, a1, a2, rfl, so, lo, ro, hb⟩
  refine ⟨_, rfl, ?_⟩
  have HB_56 := Lib.hid (bl_trans HB_47.out (hb))
  have KB_57 := Lib.hid (KB_48.out.bl (hb))
  have GA_58 := Lib.hid (Kd.R_below GA_49.out (hb))
  have SY_59 := Lib.hid (Kd.S_below SY_50.out (hb))
  have LY_60 := Lib.hid (Kd.R_below LY_51.out (hb))
  have RY_61 := Lib.hid (Kd.R_below RY_52.out (hb))
  have KX_62 := Lib.hid (KX_53.out.bl (hb))
  have PX_63 := Lib.hid (Kd.R_below PX_54.out (hb))
  have GX_64 := Lib.hid (Kd.R_below GX_55.out (hb))
  have SE := Lib.hid (so)
  have LE := Lib.hid (lo)
  have RE := Lib.hid (ro)
  obtain ⟨D0, f0, rfl⟩ := Kd.S_slice so
  obtain ⟨D1, f1, rfl⟩ := Kd.R_slice lo
  obtain ⟨D2, f2, rfl⟩ := Kd.R_slice ro
  clear so lo ro hb
  refine hK.out _ _ ⟨KX_62.out.cell 0 rfl, KX_62.out.cell 1 rfl, KX_62.out.cell 2 rfl, KB_57.out.cell 0 rfl, KB_57.out.cell 1 rfl, KB_57.out.cell 2 rfl⟩ (fun hHeld => ?_)
  clear hK K2
  refine norm_ (a' := ?_) ?_ ?_
  rotate_left
  · show Act.put _ (some 60) _ = _
    simp only [Act.put, List.setIfInBounds_toArray, List.set_cons_zero, List.set_cons_succ, i64_w, i32_w]
    rfl
  refine one_ (i := 3) (N := some 61) #[true, true, true, true, false] rfl rfl (by kernel_rfl) (by decide) (fun K2 hK => ?_)
  refine goes_ Try.func17 (by kernel_rfl) rfl #[.agg #[.slice E0 F.length e0, .slice E1 L.length e1, .slice E2 R.length e2], .agg #[.slice D0 F.length f0, .slice D1 L.length f1, .slice D2 R.length f2]] (by rfl) rfl rfl (by (try simp only [List.map_toArray, List.map_cons, List.map_nil]); first | done | rfl | (simp only [List.length_drop, List.length_take]; rfl)) ?_
  refine (laws_eqHeap.calls K _ _ F _ _ L _ _ R _ _ F _ _ L _ _ R true _ (Kd.S_reads' SY_59.out).2.2 (Kd.S_reads' SY_59.out).2.1 (Kd.R_reads' LY_60.out).2.2 (Kd.R_reads' LY_60.out).2.1 (Kd.R_reads' RY_61.out).2.2 (Kd.R_reads' RY_61.out).2.1 (Kd.S_reads' SE.out).2.2 (Kd.S_reads' SE.out).2.1 (Kd.R_reads' LE.out).2.2 (Kd.R_reads' LE.out).2.1 (Kd.R_reads' RE.out).2.2 (Kd.R_reads' RE.out).2.1 q2.out).mono ?_
  rintro e w12 ⟨rfl, hb⟩
  refine ⟨_, rfl, ?_⟩
  have HB_65 := Lib.hid (bl_trans HB_56.out (hb))
  have KB_66 := Lib.hid (KB_57.out.bl (hb))
  have GA_67 := Lib.hid (Kd.R_below GA_58.out (hb))
  have SY_68 := Lib.hid (Kd.S_below SY_59.out (hb))
  have LY_69 := Lib.hid (Kd.R_below LY_60.out (hb))
  have RY_70 := Lib.hid (Kd.R_below RY_61.out (hb))
  have KX_71 := Lib.hid (KX_62.out.bl (hb))
  have PX_72 := Lib.hid (Kd.R_below PX_63.out (hb))
  have GX_73 := Lib.hid (Kd.R_below GX_64.out (hb))
  clear hb
  refine hK.out _ _ ⟨KX_71.out.cell 0 rfl, KX_71.out.cell 1 rfl, KX_71.out.cell 2 rfl, KB_66.out.cell 0 rfl, KB_66.out.cell 1 rfl, KB_66.out.cell 2 rfl⟩ (fun hHeld => ?_)
  clear hK K2
  refine norm_ (a' := ?_) ?_ ?_
  rotate_left
  · show Act.put _ (some 61) _ = _
    simp only [Act.put, List.setIfInBounds_toArray, List.set_cons_zero, List.set_cons_succ, i64_w, i32_w]
    rfl
  refine pure_ (i := 4) (N := some 62) (v := ?_) (a' := ?_) #[true, true, true, true, true] rfl rfl (by kernel_rfl) (fun _ _ _ h => h) (Or.inl ⟨by rfl, ?_⟩) ?_ ?_
  rotate_left
  · intro w'
    go_simp
    with_reducible rfl
  rotate_left
  · simp only [Act.put, List.setIfInBounds_toArray, List.set_cons_zero, List.set_cons_succ, i64_w, i32_w]
    rfl
  refine done_ (by kernel_rfl) ?_
  go_wp2_with (first
    | (go_at_call 35; have hc9 := laws_heldIntS.calls K E6 e6 (markI g.length 1) 1 _ _ (Kd.R_reads' GX_118.out).2.2 (by rw [markI_length]; exact (Kd.R_reads' GX_118.out).2.1) he.out; rw [markI_length] at hc9; refine hc9.mono ?_; rintro e w24 ⟨rfl, nd, hw9⟩; have hb := bl_drewN (Below.refl w23.heap.size w23) nd; rw [← hw9] at hb; have HB_120 := Lib.hid (bl_trans HB_115.out (hb)); have KB_121 := Lib.hid (KB_116.out.bl (hb)); have GA_122 := Lib.hid (Kd.R_below GA_117.out (hb)); have GX_123 := Lib.hid (Kd.R_below GX_118.out (hb)); have GZ_124 := Lib.hid (Kd.R_below GZ_119.out (hb)); clear hb hw9 hc9)
    | (go_at_call 33; refine (laws_eqIntS.calls K _ _ g _ _ g true _ (Kd.R_reads' GZ.out).2.2 (Kd.R_reads' GZ.out).2.1 (Kd.R_reads' GA_113.out).2.2 (Kd.R_reads' GA_113.out).2.1 q1.out).mono ?_; rintro e w23 ⟨rfl, nd, hw9⟩; have hb := bl_drewN (Below.refl w22.heap.size w22) nd; rw [← hw9] at hb; have HB_115 := Lib.hid (bl_trans HB_111.out (hb)); have KB_116 := Lib.hid (KB_112.out.bl (hb)); have GA_117 := Lib.hid (Kd.R_below GA_113.out (hb)); have GX_118 := Lib.hid (Kd.R_below GX_114.out (hb)); have GZ_119 := Lib.hid (Kd.R_below GZ.out (hb)); clear hb hw9)
    | (go_at_call 32; refine (impl_HeldBy.calls K _ _ F _ _ L _ _ R _ _ P a2 g b _ (Kd.S_reads' SZ_108.out).2.2 (Kd.S_reads' SZ_108.out).2.1 (Kd.R_reads' LZ_109.out).2.2 (Kd.R_reads' LZ_109.out).2.1 (Kd.R_reads' RZ_110.out).2.2 (Kd.R_reads' RZ_110.out).2.1 (Kd.R_reads' PZ.out).2.2 (Kd.R_reads' PZ.out).2.1 im.out).mono ?_; rintro e w22 ⟨g15, rfl, go, hb⟩; have HB_111 := Lib.hid (bl_trans HB_104.out (hb)); have KB_112 := Lib.hid (KB_105.out.bl (hb)); have GA_113 := Lib.hid (Kd.R_below GA_106.out (hb)); have GX_114 := Lib.hid (Kd.R_below GX_107.out (hb)); have GZ := Lib.hid (go); obtain ⟨B6, d6, rfl⟩ := Kd.R_slice go; clear hb go)
    | (go_at_call 15; refine (laws_toPairS.calls K _ _ l P _ (Kd.C_below HPa.out HB_100.out) hc t2.out).mono ?_; rintro e w21 ⟨p0, rfl, po, hb⟩; have HB_104 := Lib.hid (bl_trans HB_100.out (hb)); have KB_105 := Lib.hid (KB_101.out.bl (hb)); have GA_106 := Lib.hid (Kd.R_below GA_102.out (hb)); have GX_107 := Lib.hid (Kd.R_below GX_103.out (hb)); have SZ_108 := Lib.hid (Kd.S_below SZ.out (hb)); have LZ_109 := Lib.hid (Kd.R_below LZ.out (hb)); have RZ_110 := Lib.hid (Kd.R_below RZ.out (hb)); have PZ := Lib.hid (po); obtain ⟨B3, d3, rfl⟩ := Kd.R_slice po; clear hb po)
    | (go_at_call 14; refine (laws_toHeap.calls K _ _ F _ _ L _ _ R F L R _ (Kd.C_below HHa.out.rF HB_96.out) HHa.out.cF (Kd.C_below HHa.out.rL HB_96.out) HHa.out.cL (Kd.C_below HHa.out.rR HB_96.out) HHa.out.cR t1.out).mono ?_; rintro e w20 ⟨a0, a1, a2, rfl, so, lo, ro, hb⟩; have HB_100 := Lib.hid (bl_trans HB_96.out (hb)); have KB_101 := Lib.hid (KB_97.out.bl (hb)); have GA_102 := Lib.hid (Kd.R_below GA_98.out (hb)); have GX_103 := Lib.hid (Kd.R_below GX_99.out (hb)); have SZ := Lib.hid (so); have LZ := Lib.hid (lo); have RZ := Lib.hid (ro); obtain ⟨B0, d0, rfl⟩ := Kd.S_slice so; obtain ⟨B1, d1, rfl⟩ := Kd.R_slice lo; obtain ⟨B2, d2, rfl⟩ := Kd.R_slice ro; clear hb so lo ro)
    | (go_at_call 35; have hc9 := laws_heldIntS.calls K E6 e6 (markI g.length 1) 1 _ _ (Kd.R_reads' GX_c.out).2.2 (by rw [markI_length]; exact (Kd.R_reads' GX_c.out).2.1) he.out; rw [markI_length] at hc9; refine hc9.mono ?_; rintro e w19 ⟨rfl, nd, hw9⟩; have hb := bl_drewN (Below.refl w18.heap.size w18) nd; rw [← hw9] at hb; have HB_96 := Lib.hid (bl_trans HB_c.out (hb)); have KB_97 := Lib.hid (KB_c.out.bl (hb)); have GA_98 := Lib.hid (Kd.R_below GA_c.out (hb)); have GX_99 := Lib.hid (Kd.R_below GX_c.out (hb)); clear hb hw9 hc9; have k80 := KB_97.out.cell 0 rfl; have k81 := KB_97.out.cell 1 rfl; have k82 := KB_97.out.cell 2 rfl)
    | (go_at_call 34; refine (markIntS_calls _ g 1 _ _ _ GX_95.out hg (by omega) (by omega)).mono ?_; rintro e w18 ⟨rfl, gm, hw⟩; have hp1 := GX_95.out.1; have HB_c := Lib.hid (HB_92.out.trans (hw.below HB_92.out.size (fun b hb => by have h1 := hp1 b hb; have h2 := HLT.out; have h3 := HZ6.out; have h4 := HZ7.out; omega))); have KB_c := Lib.hid (KB_93.out.wrote hw (fun hb => by have h1 := hp1 _ hb; have h2 := HLT.out; have h3 := HZ6.out; have h4 := HZ7.out; omega)); have GA_c := Lib.hid (Kd.R_kept GA_94.out hw.kept (fun b hb hs => by have h1 := hp1 b hs; have h3 := HZ6.out; have h4 := HZ7.out; omega)); have GX_c := Lib.hid gm; clear hw hp1 gm)
    | (go_at_call 33; refine (laws_eqIntS.calls K _ _ g _ _ g true _ (Kd.R_reads' GX_b.out).2.2 (Kd.R_reads' GX_b.out).2.1 (Kd.R_reads' GA_b.out).2.2 (Kd.R_reads' GA_b.out).2.1 q1.out).mono ?_; rintro e w17 ⟨rfl, nd, hw9⟩; have hb := bl_drewN (Below.refl w16.heap.size w16) nd; rw [← hw9] at hb; have HB_92 := Lib.hid (bl_trans HB_b.out (hb)); have KB_93 := Lib.hid (KB_b.out.bl (hb)); have GA_94 := Lib.hid (Kd.R_below GA_b.out (hb)); have GX_95 := Lib.hid (Kd.R_below GX_b.out (hb)); clear hb hw9)
    | (go_at_call 28; refine (BK.markPairS_calls _ P rk _ _ _ PX_a.out hP rk0 (by omega)).mono ?_; rintro e w16 ⟨rfl, hw⟩; have hp1 := PX_a.out.1; have HB_b := Lib.hid (HB_a.out.trans (hw.below HB_a.out.size (fun b hb => by have h1 := (hp1 b hb).1; have h2 := HLT.out; have h3 := HZ6.out; omega))); have KB_b := Lib.hid (KB_a.out.wrote hw (fun hb => by have h1 := (hp1 _ hb).1; have h2 := HLT.out; have h3 := HZ6.out; omega)); have GA_b := Lib.hid (Kd.R_kept GA_a.out hw.kept (fun b hb hs => by have h1 := (hp1 b hs).1; have h3 := HZ6.out; omega)); have GX_b := Lib.hid (Kd.R_kept GX_a.out hw.kept (fun b hb hs => by have h1 := (hp1 b hs).2; omega)); have hk9 : ¬ (rk + 2 * (P.length : Int) < 0) := by omega)
    | (go_at_call 27; refine (markHeap_calls _ _ _ F L R 1 _ _ _ _ (fun b => w5.heap.size ≤ b ∧ b < w6.heap.size) _ ⟨SY_86.out, LY_87.out, RY_88.out, fun b hb => hb.1⟩ hF HFS.out hL hR (by omega) (by omega) (fun b hb => ⟨hb.2.1, hb.2.2⟩) (fun b hb => hb) (fun b hb => hb)).mono ?_; rintro e w15 ⟨rk, rfl, rk0, rk1, hw⟩; have HB_a := Lib.hid (HB_83.out.trans (hw.below HB_83.out.size (fun b hb => Nat.le_trans (Nat.le_of_lt HLT.out) hb.1))); have KB_a := Lib.hid (KB_84.out.wrote hw (fun hb => absurd hb.1 (Nat.not_le_of_lt HLT.out))); have GA_a := Lib.hid (Kd.R_kept GA_85.out hw.kept (fun b hb hs => absurd hs.1 (Nat.not_le_of_lt hb))); have GX_a := Lib.hid (Kd.R_kept GX_91.out hw.kept (fun b hb hs => absurd hs.2 (Nat.not_lt_of_le (Nat.le_trans HZ7.out hb)))); have PX_a := Lib.hid (Kd.R_kept PX_90.out hw.kept (fun b hb hs => absurd hs.2 (Nat.not_lt_of_le (Nat.le_of_lt hb.1)))); clear hw)
    | (go_at_call 18; refine (laws_eqPairS.calls K _ _ P _ _ P true _ (Kd.R_reads' PX_81.out).2.2 (Kd.R_reads' PX_81.out).2.1 (Kd.R_reads' PE.out).2.2 (Kd.R_reads' PE.out).2.1 q3.out).mono ?_; rintro e w14 ⟨rfl, hb⟩; have HB_83 := Lib.hid (bl_trans HB_74.out (hb)); have KB_84 := Lib.hid (KB_75.out.bl (hb)); have GA_85 := Lib.hid (Kd.R_below GA_76.out (hb)); have SY_86 := Lib.hid (Kd.S_below SY_77.out (hb)); have LY_87 := Lib.hid (Kd.R_below LY_78.out (hb)); have RY_88 := Lib.hid (Kd.R_below RY_79.out (hb)); have KX_89 := Lib.hid (KX_80.out.bl (hb)); have PX_90 := Lib.hid (Kd.R_below PX_81.out (hb)); have GX_91 := Lib.hid (Kd.R_below GX_82.out (hb)); clear hb; have k70 := KX_89.out.cell 0 rfl; have k71 := KX_89.out.cell 1 rfl; have k72 := KX_89.out.cell 2 rfl)
    | (go_at_call 15; refine (laws_toPairS.calls K _ _ l P _ (Kd.C_below HPa.out HB_65.out) hc t2.out).mono ?_; rintro e w13 ⟨p0, rfl, po, hb⟩; have HB_74 := Lib.hid (bl_trans HB_65.out (hb)); have KB_75 := Lib.hid (KB_66.out.bl (hb)); have GA_76 := Lib.hid (Kd.R_below GA_67.out (hb)); have SY_77 := Lib.hid (Kd.S_below SY_68.out (hb)); have LY_78 := Lib.hid (Kd.R_below LY_69.out (hb)); have RY_79 := Lib.hid (Kd.R_below RY_70.out (hb)); have KX_80 := Lib.hid (KX_71.out.bl (hb)); have PX_81 := Lib.hid (Kd.R_below PX_72.out (hb)); have GX_82 := Lib.hid (Kd.R_below GX_73.out (hb)); have PE := Lib.hid (po); obtain ⟨D3, f3, rfl⟩ := Kd.R_slice po; clear hb po))
  go_ret
  exact ⟨rfl, HB_120.out⟩

end Go.Proofs.Ytdeefhfiamhjbaa.QB
