import Derived.Test.YtemgbakjlbdibaaGc
namespace Go.Proofs.Ytemgbakjlbdibaa.G
open Go.RowKit Go.Proofs.YtemgbakjlbdibaaW.PrintWords
set_option linter.unusedVariables false
/-- One object's fields. -/
def okRow (L : List Bool) (live : Bool) (f : List Int) : Bool := decide (f.length ≤ 3) && (live || f.isEmpty) && f.all (isRefB L)

set_option maxHeartbeats 1000000 in
theorem isHeapOf_calls (A0 A1 A2 : Option Addr) (c0 c1 c2 : Nat) (F : List (List Int)) (L : List Bool) (R : List Int) (m : Int) (w : World) (hh : HeapAt w A0 A1 A2 c0 c1 c2 F L R) :
    Calls Try.prog 94 #[.agg #[.slice A0 F.length c0, .slice A1 L.length c1, .slice A2 R.length c2], .int .i64 m] w fun e w' => e = .returned (.bool (goodHeapB F L R m)) ∧ Below w.heap.size w w' := by
  have hlF : F.length ≤ 9223372036854775807 := hh.rF.2.1
  have hlL : L.length ≤ 9223372036854775807 := hh.rL.2.1
  have hlR : R.length ≤ 9223372036854775807 := hh.rR.2.1
  have HH := Lib.hid hh
  clear hh
  have hB := bl_alloc (Below.refl _ w) (.cells #[.slice A0 F.length c0, .slice A1 L.length c1, .slice A2 R.length c2] 30)
  by_cases h1 : m < (F.length : Int)
  · have hg : goodHeapB F L R m = false := by unfold goodHeapB; rw [decide_eq_false (by omega)]; simp
    rw [hg]
    clear hg
    have HB := Lib.hid hB
    clear hB
    go_enter Try.func94, Try.ntmps94
    go_wp2
    go_ret
    exact ⟨rfl, HB.out⟩
  · by_cases h2 : L.length = F.length
    · by_cases h3 : R.length ≤ 4
      · have hne : ((L.length : Int) != (F.length : Int)) = false := by simp [h2]
        have h3' : (R.length : Int) ≤ 4 := by omega
        have HLF := Lib.hid h2
        clear h2
        have HB := Lib.hid hB
        have KB := Blk.new w #[.slice A0 F.length c0, .slice A1 L.length c1, .slice A2 R.length c2] 30
        clear hB
        go_enter Try.func94, Try.ntmps94
        go_wp2_with fail
        go_loopg [32] F.length (fun gg i wr => ∃ kk : Nat, kk ≤ F.length ∧ F.length - kk ≤ gg ∧ i = .int .i64 kk ∧ Hid (Below w.heap.size w wr) ∧ Blk wr w.heap.size #[.slice A0 F.length c0, .slice A1 L.length c1, .slice A2 R.length c2] 30 ∧
          Hid (∀ j, j < kk → okRow L (L.getD j false) (F.getD j []) = true))
        case atStart => exact ⟨0, Nat.zero_le _, by omega, rfl, HB.out, KB, fun j hj => absurd hj (Nat.not_lt_zero _)⟩
        case round =>
          obtain ⟨kk, hkk, hg, rfl, HBr, KBr, HA⟩ := hrel
          have k0 := KBr.cell 0 rfl
          have k1 := KBr.cell 1 rfl
          have k2 := KBr.cell 2 rfl
          by_cases hlt : kk < F.length
          · have hltz : (kk : Int) < (F.length : Int) := by omega
            obtain ⟨ad, Ak, ck, rfl, hcell, hle, hr⟩ := at_rows HH.out.rF kk hlt
            obtain ⟨ad1, rfl, hcL⟩ := Kd.at_bool HH.out.rL (kk : Int) (by omega) (by have := HLF.out; omega)
            rw [Int.toNat_natCast] at hcL
            have hL1 : (kk : Int) < (L.length : Int) := by have := HLF.out; omega
            have hcell' := cell_bl HBr.out hcell
            have hcL' := cell_bl HBr.out hcL
            clear hcell hcL
            have hv : rdOf false L (kk : Int) = L.getD kk false := by unfold rdOf; simp
            rw [hv] at hcL'
            have hrow : F[kk] = F.getD kk [] := by simp [hlt]
            rw [hrow] at hcell' hle hr
            clear hv hrow
            generalize hlv : L.getD kk false = live at hcL'
            generalize hro : F.getD kk [] = row at hcell' hle hr
            have HLV := Lib.hid hlv
            have HRO := Lib.hid hro
            clear hlv hro
            have hbad : okRow L live row = false → goodHeapB F L R m = false := by
              intro hr0
              unfold goodHeapB
              have : (List.range F.length).all (fun k => decide ((F.getD k []).length ≤ 3) && (L.getD k false || (F.getD k []).isEmpty) && (F.getD k []).all (isRefB L)) = false := by
                rw [List.all_eq_false]
                refine ⟨kk, List.mem_range.2 hlt, ?_⟩
                rw [HRO.out, HLV.out]
                simpa [okRow] using hr0
              rw [this]; simp
            have HBAD := Lib.hid hbad
            clear hbad
            by_cases g1 : row.length ≤ 3
            · by_cases g2 : live = true ∨ row.length = 0
              · have hok : okRow L live row = row.all (isRefB L) := by
                  unfold okRow; rw [decide_eq_true g1]
                  rcases g2 with rfl | g2
                  · simp
                  · have : row = [] := List.length_eq_zero_iff.1 g2
                    subst this; simp
                have HOK := Lib.hid hok
                have g1' : (row.length : Int) ≤ 3 := by omega
                have HR := Lib.hid hr
                clear hok hr hle g1
                have hz2 : live = false → ¬ 0 < row.length := fun h => by rcases g2 with g2 | g2 <;> simp_all
                clear g2
                cases live
                · have hz3 := hz2 rfl
                  clear hz2
                  obtain ⟨wo, rfl⟩ : ∃ wo : World, wo = wr := ⟨_, rfl⟩
                  obtain ⟨gko, rfl⟩ : ∃ gko : Nat, gko = gk := ⟨_, rfl⟩
                  go_wp2_with fail
                  clear k0 k1 k2
                  go_loopg [55] row.length (fun gg i wr2 => ∃ jj : Nat, jj ≤ row.length ∧ row.length - jj ≤ gg ∧ i = .int .i64 jj ∧ Hid (Below w.heap.size w wr2) ∧ Blk wr2 w.heap.size #[.slice (some ad) F.length c0, .slice (some ad1) L.length c1, .slice A2 R.length c2] 30 ∧
                    Hid (∀ j, j < jj → isRefB L (row.getD j 0) = true))
                  case atStart => exact ⟨0, Nat.zero_le _, by omega, rfl, HBr.out, KBr, fun j hj => absurd hj (Nat.not_lt_zero _)⟩
                  case round =>
                    obtain ⟨jj, hjj, hg2, rfl, HB2, KB2, HA2⟩ := hrel
                    have k0 := KB2.cell 0 rfl
                    have k1 := KB2.cell 1 rfl
                    have k2 := KB2.cell 2 rfl
                    by_cases hlt2 : jj < row.length
                    · have hltz2 : (jj : Int) < (row.length : Int) := by omega
                      obtain ⟨adk, rfl, hx⟩ := Kd.at_int HR.out (jj : Int) (by omega) (by omega)
                      rw [Int.toNat_natCast] at hx
                      replace hx := cell_bl HB2.out hx
                      have hxv : rd row (jj : Int) = row.getD jj 0 := by unfold rd; simp
                      rw [hxv] at hx
                      clear hxv
                      generalize hxx : row.getD jj 0 = x at hx
                      have HX := Lib.hid hxx
                      clear hxx
                      have hcl := isRef_calls (some ad) (some ad1) A2 c0 c1 c2 F L R x wr (HH.out.below HB2.out)
                      generalize hrr : isRefB L x = r at hcl
                      have HRR := Lib.hid hrr
                      have HCL := Lib.hid hcl
                      clear hrr hcl
                      cases r with
                      | false =>
                        go_wp2_with (go_at_call 66; refine HCL.out.mono ?_; rintro e w' ⟨rfl, hb'⟩)
                        go_ret
                        refine ⟨?_, bl_trans HB2.out hb'⟩
                        rw [HBAD.out (by rw [HOK.out, List.all_eq_false]; exact ⟨row.getD jj 0, by simp [hlt2], by rw [HX.out, HRR.out]; simp⟩)]
                        rfl
                      | true =>
                        go_wp2_with (go_at_call 66; refine HCL.out.mono ?_; rintro e w' ⟨rfl, hb'⟩)
                        go_roundg (row.length - (jj + 1))
                        case measure => omega
                        case rel =>
                          refine ⟨jj + 1, by omega, by omega, by go_num, (show Hid _ from bl_trans HB2.out hb'), KB2.bl hb', (show Hid _ from fun j hj => ?_)⟩
                          by_cases e : j = jj
                          · subst e; rw [HX.out]; exact HRR.out
                          · exact HA2.out j (by omega)
                    · have : jj = row.length := by omega
                      subst this
                      have hrowok : okRow L (L.getD kk false) (F.getD kk []) = true := by
                        rw [HLV.out, HRO.out, HOK.out, List.all_eq_true]
                        intro x hx
                        obtain ⟨j, hj, rfl⟩ := List.getElem_of_mem hx
                        have := HA2.out j hj
                        simpa [hj] using this
                      have HRW := Lib.hid hrowok
                      clear hrowok
                      go_wp2_with fail
                      go_roundg (F.length - (kk + 1))
                      case measure => omega
                      case rel =>
                        refine ⟨kk + 1, by omega, by omega, by go_num, HB2, KB2, (show Hid _ from fun j hj => ?_)⟩
                        by_cases e : j = kk
                        · subst e; exact HRW.out
                        · exact HA.out j (by omega)
                · clear hz2
                  obtain ⟨wo, rfl⟩ : ∃ wo : World, wo = wr := ⟨_, rfl⟩
                  obtain ⟨gko, rfl⟩ : ∃ gko : Nat, gko = gk := ⟨_, rfl⟩
                  go_wp2_with fail
                  clear k0 k1 k2
                  go_loopg [55] row.length (fun gg i wr2 => ∃ jj : Nat, jj ≤ row.length ∧ row.length - jj ≤ gg ∧ i = .int .i64 jj ∧ Hid (Below w.heap.size w wr2) ∧ Blk wr2 w.heap.size #[.slice (some ad) F.length c0, .slice (some ad1) L.length c1, .slice A2 R.length c2] 30 ∧
                    Hid (∀ j, j < jj → isRefB L (row.getD j 0) = true))
                  case atStart => exact ⟨0, Nat.zero_le _, by omega, rfl, HBr.out, KBr, fun j hj => absurd hj (Nat.not_lt_zero _)⟩
                  case round =>
                    obtain ⟨jj, hjj, hg2, rfl, HB2, KB2, HA2⟩ := hrel
                    have k0 := KB2.cell 0 rfl
                    have k1 := KB2.cell 1 rfl
                    have k2 := KB2.cell 2 rfl
                    by_cases hlt2 : jj < row.length
                    · have hltz2 : (jj : Int) < (row.length : Int) := by omega
                      obtain ⟨adk, rfl, hx⟩ := Kd.at_int HR.out (jj : Int) (by omega) (by omega)
                      rw [Int.toNat_natCast] at hx
                      replace hx := cell_bl HB2.out hx
                      have hxv : rd row (jj : Int) = row.getD jj 0 := by unfold rd; simp
                      rw [hxv] at hx
                      clear hxv
                      generalize hxx : row.getD jj 0 = x at hx
                      have HX := Lib.hid hxx
                      clear hxx
                      have hcl := isRef_calls (some ad) (some ad1) A2 c0 c1 c2 F L R x wr (HH.out.below HB2.out)
                      generalize hrr : isRefB L x = r at hcl
                      have HRR := Lib.hid hrr
                      have HCL := Lib.hid hcl
                      clear hrr hcl
                      cases r with
                      | false =>
                        go_wp2_with (go_at_call 66; refine HCL.out.mono ?_; rintro e w' ⟨rfl, hb'⟩)
                        go_ret
                        refine ⟨?_, bl_trans HB2.out hb'⟩
                        rw [HBAD.out (by rw [HOK.out, List.all_eq_false]; exact ⟨row.getD jj 0, by simp [hlt2], by rw [HX.out, HRR.out]; simp⟩)]
                        rfl
                      | true =>
                        go_wp2_with (go_at_call 66; refine HCL.out.mono ?_; rintro e w' ⟨rfl, hb'⟩)
                        go_roundg (row.length - (jj + 1))
                        case measure => omega
                        case rel =>
                          refine ⟨jj + 1, by omega, by omega, by go_num, (show Hid _ from bl_trans HB2.out hb'), KB2.bl hb', (show Hid _ from fun j hj => ?_)⟩
                          by_cases e : j = jj
                          · subst e; rw [HX.out]; exact HRR.out
                          · exact HA2.out j (by omega)
                    · have : jj = row.length := by omega
                      subst this
                      have hrowok : okRow L (L.getD kk false) (F.getD kk []) = true := by
                        rw [HLV.out, HRO.out, HOK.out, List.all_eq_true]
                        intro x hx
                        obtain ⟨j, hj, rfl⟩ := List.getElem_of_mem hx
                        have := HA2.out j hj
                        simpa [hj] using this
                      have HRW := Lib.hid hrowok
                      clear hrowok
                      go_wp2_with fail
                      go_roundg (F.length - (kk + 1))
                      case measure => omega
                      case rel =>
                        refine ⟨kk + 1, by omega, by omega, by go_num, HB2, KB2, (show Hid _ from fun j hj => ?_)⟩
                        by_cases e : j = kk
                        · subst e; exact HRW.out
                        · exact HA.out j (by omega)
              · have hlv : live = false := by cases live <;> simp_all
                have hl0 : 0 < row.length := by omega
                have hl0' : 0 < (row.length : Int) := by omega
                have g1' : (row.length : Int) ≤ 3 := by omega
                subst hlv
                have hbad2 := HBAD.out (by
                  unfold okRow
                  have : row.isEmpty = false := by cases row with
                    | nil => simp at hl0
                    | cons => rfl
                  rw [this]; simp)
                have HBAD2 := Lib.hid hbad2
                clear hbad2 g2 hr
                go_wp2_with fail
                go_ret
                exact ⟨by rw [HBAD2.out]; rfl, HBr.out⟩
            · have g1' : 3 < (row.length : Int) := by omega
              have hbad2 := HBAD.out (by unfold okRow; rw [decide_eq_false g1]; simp)
              have HBAD2 := Lib.hid hbad2
              clear hbad2 hr g1
              go_wp2_with fail
              go_ret
              exact ⟨by rw [HBAD2.out]; rfl, HBr.out⟩
          · have : kk = F.length := by omega
            subst this
            have hall : goodHeapB F L R m = R.all (isRefB L) := by
              unfold goodHeapB
              rw [decide_eq_true (by omega), decide_eq_true HLF.out, decide_eq_true h3]
              have : (List.range F.length).all (fun k => decide ((F.getD k []).length ≤ 3) && (L.getD k false || (F.getD k []).isEmpty) && (F.getD k []).all (isRefB L)) = true := by
                rw [List.all_eq_true]
                intro k hk
                have := HA.out k (List.mem_range.1 hk)
                simpa [okRow] using this
              rw [this]; simp
            have hany : R.all (isRefB L) = !(R.any fun x => !isRefB L x) := by rw [List.not_any_eq_all_not]; simp
            rw [hany] at hall
            clear hany
            have hcf := ContainsFunc_ints 103 #[.pointer (some ⟨w.heap.size, 0, none⟩)] (fun x => !isRefB L x) A2 c2 R wr (enters_of Try.func103 (by kernel_rfl) rfl) (Kd.C_below HH.out.rR HBr.out)
              (fun W x hbW _ => (isHeapOf_fn w.heap.size A0 A1 A2 c0 c1 c2 F L R x W (HH.out.below (bl_trans HBr.out hbW)) (KBr.bl hbW)).mono fun e w' ⟨he, hb'⟩ => ⟨he, bl_trans hbW hb'⟩)
            have HCF := Lib.hid hcf
            clear hcf
            generalize (R.any fun x => !isRefB L x) = r at HCF hall
            have HALL := Lib.hid hall
            clear hall
            go_wp2_with (go_at_call 64; refine HCF.out.mono ?_; rintro e w' ⟨rfl, hb'⟩)
            go_ret
            exact ⟨by rw [HALL.out]; rfl, bl_trans HBr.out hb'⟩
      · have hg : goodHeapB F L R m = false := by unfold goodHeapB; rw [decide_eq_false (p := R.length ≤ 4) h3]; simp
        rw [hg]
        clear hg
        have hne : ((L.length : Int) != (F.length : Int)) = false := by simp [h2]
        have h3' : 4 < (R.length : Int) := by omega
        have HB := Lib.hid hB
        clear hB h2
        go_enter Try.func94, Try.ntmps94
        go_wp2
        go_ret
        exact ⟨rfl, HB.out⟩
    · have hg : goodHeapB F L R m = false := by unfold goodHeapB; rw [decide_eq_false (p := L.length = F.length) h2]; simp
      rw [hg]
      clear hg
      have hne : ((L.length : Int) != (F.length : Int)) = true := by simp; omega
      have HB := Lib.hid hB
      clear hB h2
      go_enter Try.func94, Try.ntmps94
      go_wp2
      go_ret
      exact ⟨rfl, HB.out⟩

end Go.Proofs.Ytemgbakjlbdibaa.G
