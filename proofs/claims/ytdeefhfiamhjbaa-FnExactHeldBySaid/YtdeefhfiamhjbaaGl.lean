import Derived.Test.YtdeefhfiamhjbaaGk
namespace Go.Proofs.Ytdeefhfiamhjbaa.QB.BK
open Go.RowKit Go.Proofs.YtdeefhfiamhjbaaW.PrintWords Go.Proofs.Ytdeefhfiamhjbaa.G
set_option linter.unusedVariables false
/-- A new row of one whole number. -/
theorem C_one (W : World) (y : Int) (e : Nat) : Kd.C (Kd.int .i64) (W.alloc (.cells #[.int .i64 y] e)) (some ⟨W.heap.size, 0, none⟩) 1 [y] := by
  refine ⟨rfl, by decide, fun _ => ⟨_, rfl, fun j p hj => ?_⟩⟩
  cases j with
  | zero =>
    obtain rfl : y = p := by simpa using hj
    refine ⟨[.int .i64 y], rfl, rfl, fun i u hu => ?_⟩
    cases i with
    | zero =>
      obtain rfl : Value.int .i64 y = u := by simpa using hu
      rw [add_at]
      exact (Blk.new W #[.int .i64 y] e).cell 0 rfl
    | succ i => simp at hu
  | succ j => simp at hj
set_option maxHeartbeats 4000000 in
set_option maxRecDepth 100000 in
theorem heldWith_calls (A0 A1 A2 : Option Addr) (c0 c1 c2 : Nat) (F : List (List Int)) (L : List Bool) (R : List Int) (A : Option Addr) (c : Nat) (l : List S74) (w : World) (hh : HeapAt w A0 A1 A2 c0 c1 c2 F L R)
    (hr : Kd.C k74 w A l.length l) (hc : l.length ≤ c) (hok0 : okFrom F R = true) (hP : PairsIn F.length l) :
    Calls Try.prog 67 #[.agg #[.slice A0 F.length c0, .slice A1 L.length c1, .slice A2 R.length c2], .slice A l.length c] w fun e w' => ∃ v, e = .returned (.tuple #[v, .int .i64 ((heldB F R l).2 : Nat)]) ∧ Kd.R Kd.bool 4 w' w.heap.size (fun _ => True) v (heldB F R l).1 ∧ Below w.heap.size w w' := by
  obtain ⟨ok, hm⟩ := okFrom_iff.1 hok0
  have hlF : F.length ≤ 1048576 := ok.n
  have hll : l.length ≤ 9223372036854775807 := hr.2.1
  have hsl := seenB_length ok
  have hB0 := bl_alloc (Below.refl _ w) (.cells #[.slice A0 F.length c0, .slice A1 L.length c1, .slice A2 R.length c2] 31)
  have KB0 := Lib.hid (Blk.new w #[.slice A0 F.length c0, .slice A1 L.length c1, .slice A2 R.length c2] 31)
  have HC := Lib.hid (reached_calls A0 A1 A2 c0 c1 c2 F L R _ (hh.below hB0) hok0)
  have HB := Lib.hid hB0
  have HH := Lib.hid hh
  have HR := Lib.hid hr
  have HP := Lib.hid hP
  have HOK := Lib.hid ok
  have HU := Lib.hid (show unm (seenB F R) < F.length + 1 from by have := unm_le (seenB F R); omega)
  have HSL := Lib.hid hsl
  unfold heldB
  generalize hres : heldGo F l (F.length + 1) (seenB F R) 0 = res
  have HRES := Lib.hid hres
  generalize seenB F R = S at HC HU HSL HRES
  clear hh hr hP hB0 hok0 ok hm hsl hres
  go_enter Try.func67, Try.ntmps67
  go_wp2_with (go_at_call 81; refine HC.out.mono ?_; rintro e w5 ⟨v6, rfl, ho, hb⟩; have hsl := Kd.R_slice ho; have HO := Lib.hid (Kd.R_lower ho HB.out.size); have HB5 := Lib.hid (bl_trans HB.out hb); have KB5 := Lib.hid (KB0.out.bl hb); clear ho hb)
  clear HC KB0 HB
  have hn0 : unm S + 0 ≤ F.length := by have := unm_le S; have := HSL.out; omega
  go_loopg [7] (F.length + 1) (fun gg v7 wr => ∃ (out : List Bool) (n : Nat), v7 = .int .i64 (n : Int) ∧ Hid (out.length = F.length) ∧ Hid (unm out < gg) ∧ Hid (unm out + n ≤ F.length) ∧ Hid (heldGo F l gg out n = res) ∧ Hid (Kd.R Kd.bool 4 wr w.heap.size (fun _ => True) v6 out) ∧ Hid (Below w.heap.size w wr) ∧
    Hid (Blk wr w.heap.size #[.slice A0 F.length c0, .slice A1 L.length c1, .slice A2 R.length c2] 31))
  case atStart => exact ⟨S, 0, rfl, HSL.out, HU.out, hn0, HRES.out, HO.out, HB5.out, KB5.out⟩
  case round =>
    obtain ⟨out, n, rfl, HL, HM, HN, HG, HO, HB, KB⟩ := hrel
    clear HB5 KB5 hn0
    obtain ⟨gp, hgp⟩ : ∃ gp, gk = gp + 1 := ⟨gk - 1, by have := HM.out; omega⟩
    subst hgp
    have HPL := Lib.hid (pass_len HOK.out l out false HP.out HL.out)
    have HPU := Lib.hid ((pass_unm HOK.out l out false HP.out HL.out).2 rfl)
    generalize hpr : passB F l out false = pr at HPL HPU
    have HPR := Lib.hid hpr
    have HG2 := Lib.hid (show (if pr.2 = true then heldGo F l gp pr.1 (n + 1) else (pr.1, n)) = res from by rw [← hpr]; exact HG.out)
    clear hpr HG
    obtain ⟨wo, rfl⟩ : ∃ wo : World, wo = wr := ⟨_, rfl⟩
    go_wp2_with fail
    go_loopg [8, 19] l.length (fun gg v8 v19 wr => ∃ (o2 : List Bool) (m2 : Bool) (jj : Nat), jj ≤ l.length ∧ l.length - jj ≤ gg ∧ v8 = .bool m2 ∧ v19 = .int .i64 jj ∧ Hid (o2.length = F.length) ∧ Hid (passB F (l.drop jj) o2 m2 = pr) ∧ Hid (Kd.R Kd.bool 4 wr w.heap.size (fun _ => True) v6 o2) ∧ Hid (Below w.heap.size w wr) ∧
      Hid (Blk wr w.heap.size #[.slice A0 F.length c0, .slice A1 L.length c1, .slice A2 R.length c2] 31))
    case atStart => exact ⟨out, false, 0, Nat.zero_le _, by omega, rfl, rfl, HL.out, HPR.out, HO.out, HB.out, KB.out⟩
    case round =>
      obtain ⟨o2, m2, jj, hjj, hg2, rfl, rfl, HL2, HPR2, HO2, HB2, KB2⟩ := hrel
      clear HO HB KB HPR
      by_cases hlt : jj < l.length
      · have hltz : (jj : Int) < (l.length : Int) := by omega
        obtain ⟨ad, rfl, q0, q1⟩ := at_T74 HR.out (jj : Int) (by omega) (by omega)
        simp only [Int.toNat_natCast] at q0 q1
        replace q0 := cell_bl HB2.out q0
        replace q1 := cell_bl HB2.out q1
        have hv : rd_T74 l (jj : Int) = l[jj] := by unfold rd_T74; simp [hlt]
        rw [hv] at q0 q1
        have hin := HP.out l[jj] (List.getElem_mem hlt)
        have hdr : l.drop jj = l[jj] :: l.drop (jj + 1) := List.drop_eq_getElem_cons hlt
        have HPS := Lib.hid (show (if o2.getD l[jj].f0.toNat false = true ∧ o2.getD l[jj].f1.toNat false = false then passB F (l.drop (jj + 1)) (orB o2 (seenB F [l[jj].f1])) true else passB F (l.drop (jj + 1)) o2 m2) = pr from by rw [← HPR2.out, hdr]; rfl)
        clear hdr hv HPR2
        generalize l[jj] = y at q0 q1 hin HPS
        obtain ⟨y0, y1⟩ := y
        simp only at q0 q1 hin HPS
        obtain ⟨h00, h01, h10, h11⟩ := hin
        obtain ⟨g6, c6, e6, hb6, hl6, cl6, hg6⟩ := Kd.R_form HO2.out (by rw [HL2.out]; omega)
        rw [HL2.out] at e6
        subst e6
        obtain ⟨hx0, hf0⟩ := Kd.R_celln false HO2.out y0 h00 h01
        obtain ⟨hx1, hf1⟩ := Kd.R_celln false HO2.out y1 h10 h11
        have hv0 : rdOf false o2 y0 = o2.getD y0.toNat false := by unfold rdOf; simp
        have hv1 : rdOf false o2 y1 = o2.getD y1.toNat false := by unfold rdOf; simp
        rw [hv0] at hx0
        rw [hv1] at hx1
        clear hv0 hv1
        generalize hs0 : o2.getD y0.toNat false = s0 at hx0 HPS
        generalize hs1 : o2.getD y1.toNat false = s1 at hx1 HPS
        have HS0 := Lib.hid hs0
        have HS1 := Lib.hid hs1
        clear hs0 hs1
        have hBa := bl_alloc (Below.refl wr.heap.size wr) (.cells #[.int .i64 y0, .int .i64 y1] 74)
        have HB3 := Lib.hid (bl_trans HB2.out hBa)
        have KB3 := Lib.hid (KB2.out.bl hBa)
        have HO3 := Lib.hid (Kd.R_below HO2.out hBa)
        cases s0 with
        | false =>
          go_wp2_with fail
          go_roundg (l.length - (jj + 1))
          case measure => omega
          case rel =>
            refine ⟨o2, m2, jj + 1, by omega, by omega, rfl, by go_num, HL2, (show Hid _ from ?_), HO3, HB3, KB3⟩
            have := HPS.out
            rwa [if_neg (by simp)] at this
        | true =>
          cases s1 with
          | true =>
            go_wp2_with fail
            go_roundg (l.length - (jj + 1))
            case measure => omega
            case rel =>
              refine ⟨o2, m2, jj + 1, by omega, by omega, rfl, by go_num, HL2, (show Hid _ from ?_), HO3, HB3, KB3⟩
              have := HPS.out
              rwa [if_neg (by simp)] at this
          | false =>
            have HPT := Lib.hid (show passB F (l.drop (jj + 1)) (orB o2 (seenB F [y1])) true = pr from by have := HPS.out; rwa [if_pos (by simp)] at this)
            have ok1 := ok_one HOK.out h11
            have HSL1 := Lib.hid (seenB_length ok1)
            have hBb := bl_alloc hBa (.cells #[.int .i64 y1] 3)
            have HB4 := Lib.hid (bl_trans HB2.out hBb)
            have KB4 := Lib.hid (KB2.out.bl hBb)
            have HO4 := Lib.hid (Kd.R_below HO2.out hBb)
            have hszp : (wr.alloc (.cells #[.int .i64 y0, .int .i64 y1] 74)).heap.size = wr.heap.size + 1 := World.size_alloc _ _
            have hcr := reach_calls A0 A1 A2 c0 c1 c2 F L R (some ⟨wr.heap.size + 1, 0, none⟩) 1 [y1] ((wr.alloc (.cells #[.int .i64 y0, .int .i64 y1] 74)).alloc (.cells #[.int .i64 y1] 3)) (HH.out.below HB4.out) (by rw [← hszp]; exact C_one _ _ _) (Nat.le_refl _) (by simp) ok1
            rw [← seenB_eq ok1] at hcr
            have HCR := Lib.hid hcr
            have HSZ := Lib.hid (show g6 < ((wr.alloc (.cells #[.int .i64 y0, .int .i64 y1] 74)).alloc (.cells #[.int .i64 y1] 3)).heap.size from by rw [World.size_alloc, World.size_alloc]; omega)
            clear hcr hszp hBa hBb ok1 HPS HB3 HO3 HO2 HB2 KB2
            generalize seenB F [y1] = sv at HCR HSL1 HPT
            have k2 := KB3.out.cell 0 rfl
            have k21 := KB3.out.cell 1 rfl
            have k22 := KB3.out.cell 2 rfl
            clear KB3
            go_wp2_with (go_at_call 93; refine HCR.out.mono ?_; rintro e w7 ⟨v40, rfl, ho, hb⟩; obtain ⟨A40, c40, e40⟩ := Kd.R_slice ho; rw [HSL1.out] at e40; subst e40; have HV := Lib.hid ho; have HO5 := Lib.hid (Kd.R_below HO4.out hb); have HB5 := Lib.hid (HB4.out.trans (hb.mono HB4.out.size)); have KB5 := Lib.hid (KB4.out.bl hb); clear ho hb k2 k21 k22)
            clear HO4 HB4 KB4 HCR hx0 hx1 hf0 hf1 q0 q1 hg6 hl6
            have hlo : o2.length = sv.length := by rw [HL2.out, HSL1.out]
            have HOS := Lib.hid (show Kd.R Kd.bool 4 w7 w.heap.size (fun _ => True) (.slice (some ⟨g6, 0, none⟩) F.length c6) (orTo o2 sv 0) from by rw [orTo_zero]; exact HO5.out)
            obtain ⟨wo2, rfl⟩ : ∃ wo2 : World, wo2 = wr := ⟨_, rfl⟩
            obtain ⟨gko, rfl⟩ : ∃ gko : Nat, gko = gk := ⟨_, rfl⟩
            generalize hbs : ((wo2.alloc (.cells #[.int .i64 y0, .int .i64 y1] 74)).alloc (.cells #[.int .i64 y1] 3)).heap.size = base2 at HV HSZ
            have HBS := Lib.hid hbs
            clear hbs HO5
            go_loopg [42] F.length (fun gg i wr => ∃ kk : Nat, kk ≤ F.length ∧ F.length - kk ≤ gg ∧ i = .int .i64 kk ∧ Hid (Kd.R Kd.bool 4 wr w.heap.size (fun _ => True) (.slice (some ⟨g6, 0, none⟩) F.length c6) (orTo o2 sv kk)) ∧ Hid (Kd.R Kd.bool 4 wr base2 (fun _ => True) (.slice A40 F.length c40) sv) ∧ Hid (Below w.heap.size w wr) ∧
              Hid (Blk wr w.heap.size #[.slice A0 F.length c0, .slice A1 L.length c1, .slice A2 R.length c2] 31))
            case atStart => exact ⟨0, Nat.zero_le _, by omega, rfl, HOS.out, HV.out, HB5.out, KB5.out⟩
            case round =>
              obtain ⟨kk, hkk, hg3, rfl, HOS2, HV2, HB6, KB6⟩ := hrel
              clear HOS HV HB5 KB5
              by_cases hlt3 : kk < F.length
              · have hltz3 : (kk : Int) < (F.length : Int) := by omega
                obtain ⟨g40, cap40, e40, hb40, hl40, cl40, hg40⟩ := Kd.R_form HV2.out (by rw [HSL1.out]; omega)
                injection e40 with ea en ec
                subst ea ec
                obtain ⟨hx40, hf40⟩ := Kd.R_celln false HV2.out (kk : Int) (by omega) hltz3
                obtain ⟨hx6, hf6⟩ := Kd.R_celln false HOS2.out (kk : Int) (by omega) hltz3
                have hkl : kk < o2.length := by rw [HL2.out]; exact hlt3
                have e6 : rdOf false (orTo o2 sv kk) (kk : Int) = o2.getD kk false := by
                  have := orTo_get o2 sv kk hlo hkl
                  unfold rdOf; simpa using this
                have e40 : rdOf false sv (kk : Int) = sv.getD kk false := by unfold rdOf; simp
                rw [e6, Int.toNat_natCast] at hx6
                rw [e40, Int.toNat_natCast] at hx40
                rw [Int.toNat_natCast] at hf6 hf40
                have hst := orTo_step o2 sv kk hlo hkl
                clear e6 e40 en
                have hne : some g6 ≠ (Value.slice (some ⟨g40, 0, none⟩) F.length c40).ownBlock := fun e => by
                  have h1 := HSZ.out
                  have : some g6 = some g40 := e
                  injection this with this
                  omega
                obtain ⟨z, hz⟩ : ∃ z, z = (o2.getD kk false || sv.getD kk false) := ⟨_, rfl⟩
                rw [← hz] at hst
                have HST := Lib.hid hst
                have hpp := Kd.R_putg HOS2.out (kk : Int) z
                rw [Int.toNat_natCast] at hpp
                have HPP := Lib.hid hpp
                clear hpp hst hkl
                generalize o2.getD kk false = a at hx6 hz
                generalize sv.getD kk false = b at hx40 hz
                cases a with
                | true =>
                  have HZ := Lib.hid (show z = true from by rw [hz]; rfl)
                  clear hz
                  go_wp2_with ((with_reducible refine gate_store (t := 4) (p := 56) rfl ?_); refine store_event (t := 4) (p := 56) (v := ?vo_w11) (w1 := (wr.setCell ⟨g6, kk, none⟩ (.bool z))) ?hg ?ho ?hn ?hr ?_; (case ho => rfl); (case hg => rfl); (case hn => rfl); (case hr => first | (go_simp; done) | (go_simp; rfl) | (go_simp; rw [HZ.out]; done) | (go_simp; rw [HZ.out]; rfl)); intro w11 hw; have hg : wr.grownBy w11 (some g6) := (by rw [hw]; exact HPP.out.2); have HO6 := Lib.hid (show Kd.R Kd.bool 4 w11 w.heap.size (fun _ => True) (.slice (some ⟨g6, 0, none⟩) F.length c6) (orTo o2 sv (kk + 1)) from by rw [hw, ← HST.out]; exact HPP.out.1); have HV6 := Lib.hid (Kd.R_grown1 HV2.out rfl hg hne); have KB6 := Lib.hid (⟨blk_grown KB6.out.out hg (Kd.R_ne HOS2.out KB6.out.out (by decide))⟩ : Blk w11 _ _ _); have HB7 := Lib.hid (show Below w.heap.size w w11 from by rw [hw]; exact below_set HB6.out hb6); clear hw hg)
                  go_roundg (F.length - (kk + 1))
                  case measure => omega
                  case rel => exact ⟨kk + 1, by omega, by omega, by go_num, HO6, HV6, HB7, KB6⟩
                | false =>
                  have HZ := Lib.hid (show z = b from by rw [hz]; rfl)
                  clear hz
                  go_wp2_with ((with_reducible refine gate_store (t := 4) (p := 56) rfl ?_); refine store_event (t := 4) (p := 56) (v := ?vo_w11) (w1 := (wr.setCell ⟨g6, kk, none⟩ (.bool z))) ?hg ?ho ?hn ?hr ?_; (case ho => rfl); (case hg => rfl); (case hn => rfl); (case hr => first | (go_simp; done) | (go_simp; rfl) | (go_simp; rw [HZ.out]; done) | (go_simp; rw [HZ.out]; rfl)); intro w11 hw; have hg : wr.grownBy w11 (some g6) := (by rw [hw]; exact HPP.out.2); have HO6 := Lib.hid (show Kd.R Kd.bool 4 w11 w.heap.size (fun _ => True) (.slice (some ⟨g6, 0, none⟩) F.length c6) (orTo o2 sv (kk + 1)) from by rw [hw, ← HST.out]; exact HPP.out.1); have HV6 := Lib.hid (Kd.R_grown1 HV2.out rfl hg hne); have KB6 := Lib.hid (⟨blk_grown KB6.out.out hg (Kd.R_ne HOS2.out KB6.out.out (by decide))⟩ : Blk w11 _ _ _); have HB7 := Lib.hid (show Below w.heap.size w w11 from by rw [hw]; exact below_set HB6.out hb6); clear hw hg)
                  go_roundg (F.length - (kk + 1))
                  case measure => omega
                  case rel => exact ⟨kk + 1, by omega, by omega, by go_num, HO6, HV6, HB7, KB6⟩
              · have : kk = F.length := by omega
                have hltz3 : ¬ (kk : Int) < (F.length : Int) := by omega
                subst this
                have HO7 := Lib.hid (show Kd.R Kd.bool 4 wr w.heap.size (fun _ => True) (.slice (some ⟨g6, 0, none⟩) F.length c6) (orB o2 sv) from by rw [← orTo_all o2 sv hlo, HL2.out]; exact HOS2.out)
                have HL7 := Lib.hid (show (orB o2 sv).length = F.length from by rw [orB_length _ _ hlo, HL2.out])
                go_wp2_with fail
                go_roundg (l.length - (jj + 1))
                case measure => omega
                case rel => exact ⟨orB o2 sv, true, jj + 1, by omega, by omega, rfl, by go_num, HL7, HPT, HO7, HB6, KB6⟩
      · have : jj = l.length := by omega
        have hltz : ¬ (jj : Int) < (l.length : Int) := by omega
        subst this
        have hpr2 := HPR2.out
        rw [List.drop_length] at hpr2
        have HPR3 := Lib.hid (show (o2, m2) = pr from hpr2)
        clear hpr2 HPR2
        cases m2 with
        | true =>
          have hpr := HPR3.out
          have h1 := HPU.out (by rw [← hpr])
          have h2 := HG2.out
          have h3 := HPL.out
          rw [← hpr] at h1 h2 h3
          rw [if_pos rfl] at h2
          have h4 := HM.out
          have h5 := HN.out
          have HM3 := Lib.hid (show unm o2 < gp from by simp only at h1; omega)
          have HN3 := Lib.hid (show unm o2 + (n + 1) ≤ F.length from by simp only at h1; omega)
          have HG3 := Lib.hid h2
          clear hpr h1 h2 h3 h4 h5
          have hnF : n ≤ F.length := by have := HN.out; omega
          go_wp2_with fail
          go_roundg gp
          case measure => omega
          case rel => exact ⟨o2, n + 1, by go_num, HL2, HM3, HN3, HG3, HO2, HB2, KB2⟩
        | false =>
          have h2 := HG2.out
          rw [← HPR3.out, if_neg (by simp)] at h2
          have HG3 := Lib.hid h2
          clear h2
          go_wp2_with fail
          go_ret2
          rw [← HG3.out]
          exact ⟨_, rfl, HO2.out, HB2.out⟩

end Go.Proofs.Ytdeefhfiamhjbaa.QB.BK
