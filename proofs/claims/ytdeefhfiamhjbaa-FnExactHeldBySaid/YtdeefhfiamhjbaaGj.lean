import Derived.Test.YtdeefhfiamhjbaaGi
import Derived.Test.YtdeefhfiamhjbaaBA
namespace Go.Proofs.Ytdeefhfiamhjbaa.QB.BK
open Go.RowKit Go.Proofs.YtdeefhfiamhjbaaW.PrintWords Go.Proofs.Ytdeefhfiamhjbaa.G
set_option linter.unusedVariables false
/-- Is a set closed: the reached, the fields, the pairs. -/
def clA (r H : List Bool) : Bool := (List.range r.length).all fun k => !(r.getD k false && !H.getD k false)
def clR (H : List Bool) (k : Nat) (f : List Int) : Bool := f.all fun x => !(H.getD k false && decide (0 ≤ x) && !H.getD x.toNat false)
def clB (F : List (List Int)) (H : List Bool) : Bool := (List.range F.length).all fun k => clR H k (F.getD k [])
def clC (H : List Bool) (p : S74) : Bool := H.getD p.f0.toNat false && !H.getD p.f1.toNat false
def closedB (F : List (List Int)) (R : List Int) (l : List S74) (H : List Bool) : Bool := clA (seenB F R) H && clB F H && !(l.any (clC H))
theorem all_range_false {n : Nat} {f : Nat → Bool} (k : Nat) (hk : k < n) (h : f k = false) : (List.range n).all f = false := by
  rw [List.all_eq_false]; exact ⟨k, List.mem_range.2 hk, by simp [h]⟩
theorem all_range_true {n : Nat} {f : Nat → Bool} (h : ∀ k, k < n → f k = true) : (List.range n).all f = true := by
  rw [List.all_eq_true]; intro k hk; exact h k (List.mem_range.1 hk)
theorem isClosed_fn (b : Nat) (A : Option Addr) (c : Nat) (H : List Bool) (n : Nat) (x : S74) (w : World) (hr : Kd.C Kd.bool w A H.length H) (hn : H.length = n) (hx : 0 ≤ x.f0 ∧ x.f0 < n ∧ 0 ≤ x.f1 ∧ x.f1 < n)
    (hb : Blk w b #[.slice A n c] 23) :
    Calls Try.prog 92 (#[.agg #[.int .i64 x.f0, .int .i64 x.f1]] ++ #[.pointer (some ⟨b, 0, none⟩)]) w fun e w' => e = .returned (.bool (clC H x)) ∧ Below w.heap.size w w' := by
  obtain ⟨h0, h0', h1, h1'⟩ := hx
  obtain ⟨ad, rfl, q0⟩ := Kd.at_bool hr x.f0 h0 (by omega)
  obtain ⟨ad', e, q1⟩ := Kd.at_bool hr x.f1 h1 (by omega)
  injection e with e
  subst e
  have hB := bl_alloc (Below.refl _ w) (.cells #[.int .i64 x.f0, .int .i64 x.f1] 74)
  have k0 := cell_alloc (hb.cell 0 rfl) (.cells #[.int .i64 x.f0, .int .i64 x.f1] 74)
  replace q0 := cell_alloc q0 (.cells #[.int .i64 x.f0, .int .i64 x.f1] 74)
  replace q1 := cell_alloc q1 (.cells #[.int .i64 x.f0, .int .i64 x.f1] 74)
  have hlt := hb.lt
  have KN := Lib.hid (Blk.new w #[.int .i64 x.f0, .int .i64 x.f1] 74)
  have HB := Lib.hid hB
  have v0 : rdOf false H x.f0 = H.getD x.f0.toNat false := by unfold rdOf; simp
  have v1 : rdOf false H x.f1 = H.getD x.f1.toNat false := by unfold rdOf; simp
  rw [v0] at q0
  rw [v1] at q1
  unfold clC
  clear hr hb hB v0 v1
  generalize H.getD x.f0.toNat false = r0 at *
  generalize H.getD x.f1.toNat false = r1 at *
  clear hn
  cases r0 with
  | false =>
    go_enter Try.func92, Try.ntmps92
    go_wp2
    go_ret
    exact ⟨rfl, HB.out⟩
  | true =>
    go_enter Try.func92, Try.ntmps92
    go_wp2
    go_ret
    exact ⟨by cases r1 <;> rfl, HB.out⟩

set_option maxHeartbeats 2000000 in
set_option maxRecDepth 100000 in
theorem isClosed_calls (A0 A1 A2 : Option Addr) (c0 c1 c2 : Nat) (F : List (List Int)) (L : List Bool) (R : List Int) (A : Option Addr) (c : Nat) (l : List S74) (AH : Option Addr) (cH : Nat) (H : List Bool) (w : World) (hh : HeapAt w A0 A1 A2 c0 c1 c2 F L R)
    (hr : Kd.C k74 w A l.length l) (hc : l.length ≤ c) (hH : Kd.C Kd.bool w AH H.length H) (hcH : H.length ≤ cH) (hok : okFrom F R = true) (hHl : H.length = F.length) (hP : ∀ p ∈ l, 0 ≤ p.f0 ∧ p.f0 < F.length ∧ 0 ≤ p.f1 ∧ p.f1 < F.length) :
    Calls Try.prog 65 #[.agg #[.slice A0 F.length c0, .slice A1 L.length c1, .slice A2 R.length c2], .slice A l.length c, .slice AH H.length cH] w fun e w' => e = .returned (.bool (closedB F R l H)) ∧ Below w.heap.size w w' := by
  obtain ⟨ok, hm⟩ := okFrom_iff.1 hok
  have hlF : F.length ≤ 1048576 := ok.n
  have HOK := Lib.hid ok
  have hsl := seenB_length ok
  have hB0 := bl_alloc (Below.refl _ w) (.cells #[.slice A0 F.length c0, .slice A1 L.length c1, .slice A2 R.length c2] 31)
  have hB1 := bl_alloc hB0 (.cells #[.slice AH F.length cH] 23)
  have KB0 := Lib.hid ((Blk.new w #[.slice A0 F.length c0, .slice A1 L.length c1, .slice A2 R.length c2] 31).bl (bl_alloc (Below.refl _ _) (.cells #[.slice AH F.length cH] 23)))
  have KB1 := Lib.hid (Blk.new (w.alloc (.cells #[.slice A0 F.length c0, .slice A1 L.length c1, .slice A2 R.length c2] 31)) #[.slice AH F.length cH] 23)
  have HC := Lib.hid (reached_calls A0 A1 A2 c0 c1 c2 F L R _ (hh.below hB1) hok)
  have HB := Lib.hid hB1
  have HH := Lib.hid hh
  have HR := Lib.hid hr
  have HP := Lib.hid hP
  rw [hHl] at hcH ⊢
  have HHH := Lib.hid hH
  have HHL := Lib.hid hHl
  unfold closedB
  generalize hS : seenB F R = S at HC hsl ⊢
  clear hh hr hH hP hB0 hB1 hok ok hm hHl hS
  go_enter Try.func65, Try.ntmps65
  go_wp2_with (go_at_call 81; refine HC.out.mono ?_; rintro e w5 ⟨v14, rfl, ho, hb⟩; obtain ⟨A14, c14, rfl⟩ := Kd.R_slice ho; have HO := Lib.hid (Kd.R_reads' ho).2.2; have HB5 := Lib.hid (bl_trans HB.out hb); have KB5 := KB0.out.bl hb; have KC5 := KB1.out.bl hb; clear ho hb)
  have hsz : (w.alloc (.cells #[.slice A0 F.length c0, .slice A1 L.length c1, .slice A2 R.length c2] 31)).heap.size = w.heap.size + 1 := World.size_alloc _ _
  rw [hsz] at KC5
  clear hsz
  have kc := KC5.cell 0 rfl
  have kb := KB5.cell 0 rfl
  clear HB HC KB0 KB1
  go_loopg [16] F.length (fun gg i wr => ∃ kk : Nat, kk ≤ F.length ∧ F.length - kk ≤ gg ∧ i = .int .i64 kk ∧ w5 = wr ∧ Hid (∀ j, j < kk → (!(S.getD j false && !H.getD j false)) = true))
  case atStart => exact ⟨0, Nat.zero_le _, by omega, rfl, rfl, fun j hj => absurd hj (Nat.not_lt_zero _)⟩
  case round =>
    obtain ⟨kk, hkk, hg, rfl, rfl, HA⟩ := hrel
    by_cases hlt : kk < F.length
    · have hltz : (kk : Int) < (F.length : Int) := by omega
      obtain ⟨ad, rfl, hc1⟩ := Kd.at_bool HO.out (kk : Int) (by omega) (by omega)
      obtain ⟨ad1, rfl, hc2⟩ := Kd.at_bool (Kd.C_below HHH.out HB5.out) (kk : Int) (by omega) (by have := HHL.out; omega)
      rw [Int.toNat_natCast] at hc1 hc2
      have v1 : rdOf false S (kk : Int) = S.getD kk false := by unfold rdOf; simp
      have v2 : rdOf false H (kk : Int) = H.getD kk false := by unfold rdOf; simp
      rw [v1] at hc1
      rw [v2] at hc2
      clear v1 v2
      generalize hs1 : S.getD kk false = s1 at hc1
      generalize hs2 : H.getD kk false = s2 at hc2
      have HS1 := Lib.hid hs1
      have HS2 := Lib.hid hs2
      clear hs1 hs2
      cases s1 with
      | true =>
        cases s2 with
        | true =>
          go_wp2
          go_roundg (F.length - (kk + 1))
          case measure => omega
          case rel =>
            refine ⟨kk + 1, by omega, by omega, by go_num, rfl, (show Hid _ from fun j hj => ?_)⟩
            by_cases e : j = kk
            · subst e; rw [HS1.out, HS2.out]; rfl
            · exact HA.out j (by omega)
        | false =>
          go_wp2
          go_ret
          refine ⟨?_, HB5.out⟩
          rw [show clA S H = false from all_range_false kk (by rw [hsl]; exact hlt) (by rw [HS1.out, HS2.out]; rfl)]
          rfl
      | false =>
        go_wp2
        go_roundg (F.length - (kk + 1))
        case measure => omega
        case rel =>
          refine ⟨kk + 1, by omega, by omega, by go_num, rfl, (show Hid _ from fun j hj => ?_)⟩
          by_cases e : j = kk
          · subst e; rw [HS1.out]; rfl
          · exact HA.out j (by omega)
    · have hltz : ¬ (kk : Int) < (F.length : Int) := by omega
      have : kk = F.length := by omega
      subst this
      have HA1 := Lib.hid (show clA S H = true from all_range_true (by rw [hsl]; exact HA.out))
      obtain ⟨gko, rfl⟩ : ∃ gko : Nat, gko = gk := ⟨_, rfl⟩
      go_wp2_with fail
      clear hkk hg hlt hltz HA
      go_loopg [33] F.length (fun gg i wr => ∃ kk : Nat, kk ≤ F.length ∧ F.length - kk ≤ gg ∧ i = .int .i64 kk ∧ w5 = wr ∧ Hid (∀ j, j < kk → clR H j (F.getD j []) = true))
      case atStart => exact ⟨0, Nat.zero_le _, by omega, rfl, rfl, fun j hj => absurd hj (Nat.not_lt_zero _)⟩
      case round =>
        obtain ⟨kk, hkk, hg, rfl, rfl, HA⟩ := hrel
        by_cases hlt : kk < F.length
        · have hltz : (kk : Int) < (F.length : Int) := by omega
          obtain ⟨ad0, Ak, ck, rfl, hcell, hle, hrk⟩ := at_rows (Kd.C_below HH.out.rF HB5.out) kk hlt
          obtain ⟨adh, rfl, hch⟩ := Kd.at_bool (Kd.C_below HHH.out HB5.out) (kk : Int) (by omega) (by have := HHL.out; omega)
          rw [Int.toNat_natCast] at hch
          have v2 : rdOf false H (kk : Int) = H.getD kk false := by unfold rdOf; simp
          rw [v2] at hch
          have hrow : F[kk] = F.getD kk [] := by simp [hlt]
          have hfx := HOK.out.rows F[kk] (List.getElem_mem hlt)
          rw [hrow] at hcell hle hrk hfx
          clear v2 hrow
          generalize hro : F.getD kk [] = row at hcell hle hrk hfx
          generalize hs2 : H.getD kk false = s2 at hch
          have HRO := Lib.hid hro
          have HS2 := Lib.hid hs2
          have HRK := Lib.hid hrk
          have HFX := Lib.hid hfx.2
          have hrl : row.length ≤ 3 := hfx.1
          clear hro hs2 hrk hfx
          obtain ⟨gko2, rfl⟩ : ∃ gko2 : Nat, gko2 = gk := ⟨_, rfl⟩
          go_wp2_with fail
          go_loopg [40] row.length (fun gg i wr2 => ∃ jj : Nat, jj ≤ row.length ∧ row.length - jj ≤ gg ∧ i = .int .i64 jj ∧ w5 = wr2 ∧ Hid (∀ j, j < jj → (!(H.getD kk false && decide (0 ≤ row.getD j 0) && !H.getD (row.getD j 0).toNat false)) = true))
          case atStart => exact ⟨0, Nat.zero_le _, by omega, rfl, rfl, fun j hj => absurd hj (Nat.not_lt_zero _)⟩
          case round =>
            obtain ⟨jj, hjj, hg2, rfl, rfl, HA2⟩ := hrel
            by_cases hlt2 : jj < row.length
            · have hltz2 : (jj : Int) < (row.length : Int) := by omega
              obtain ⟨adk, rfl, hx⟩ := Kd.at_int HRK.out (jj : Int) (by omega) (by omega)
              rw [Int.toNat_natCast] at hx
              have hxv : rd row (jj : Int) = row.getD jj 0 := by unfold rd; simp
              rw [hxv] at hx
              clear hxv
              have hxF : row.getD jj 0 < (F.length : Int) := HFX.out _ (by simp [hlt2])
              generalize hxx : row.getD jj 0 = x at hx hxF
              have HX := Lib.hid hxx
              clear hxx
              cases s2 with
              | false =>
                go_wp2
                go_roundg (row.length - (jj + 1))
                case measure => omega
                case rel =>
                  refine ⟨jj + 1, by omega, by omega, by go_num, rfl, (show Hid _ from fun j hj => ?_)⟩
                  by_cases e : j = jj
                  · subst e; rw [HS2.out]; rfl
                  · exact HA2.out j (by omega)
              | true =>
                by_cases hx0 : 0 ≤ x
                · obtain ⟨adh', e, hcx⟩ := Kd.at_bool (Kd.C_below HHH.out HB5.out) x hx0 (by have := HHL.out; omega)
                  injection e with e
                  subst e
                  have v3 : rdOf false H x = H.getD x.toNat false := by unfold rdOf; simp
                  rw [v3] at hcx
                  clear v3
                  generalize hs3 : H.getD x.toNat false = s3 at hcx
                  have HS3 := Lib.hid hs3
                  clear hs3
                  cases s3 with
                  | true =>
                    go_wp2
                    go_roundg (row.length - (jj + 1))
                    case measure => omega
                    case rel =>
                      refine ⟨jj + 1, by omega, by omega, by go_num, rfl, (show Hid _ from fun j hj => ?_)⟩
                      by_cases e : j = jj
                      · subst e; rw [HX.out, HS3.out]; simp
                      · exact HA2.out j (by omega)
                  | false =>
                    go_wp2
                    go_ret
                    refine ⟨?_, HB5.out⟩
                    rw [HA1.out, show clB F H = false from all_range_false kk hlt (by rw [HRO.out]; unfold clR; rw [List.all_eq_false]; exact ⟨row.getD jj 0, by simp [hlt2], by rw [HX.out, HS2.out, HS3.out, decide_eq_true hx0]; simp⟩)]
                    rfl
                · have hx0' : x < 0 := by omega
                  go_wp2
                  go_roundg (row.length - (jj + 1))
                  case measure => omega
                  case rel =>
                    refine ⟨jj + 1, by omega, by omega, by go_num, rfl, (show Hid _ from fun j hj => ?_)⟩
                    by_cases e : j = jj
                    · subst e; rw [HX.out, decide_eq_false (p := 0 ≤ x) (by omega)]; simp
                    · exact HA2.out j (by omega)
            · have : jj = row.length := by omega
              have hltz2 : ¬ (jj : Int) < (row.length : Int) := by omega
              have HRW := Lib.hid (show clR H kk (F.getD kk []) = true from by
                rw [HRO.out]
                unfold clR
                rw [List.all_eq_true]
                intro x hx
                obtain ⟨j, hj, rfl⟩ := List.getElem_of_mem hx
                have := HA2.out j (by omega)
                simpa [hj] using this)
              subst this
              go_wp2_with fail
              go_roundg (F.length - (kk + 1))
              case measure => omega
              case rel =>
                refine ⟨kk + 1, by omega, by omega, by go_num, rfl, (show Hid _ from fun j hj => ?_)⟩
                by_cases e : j = kk
                · subst e; exact HRW.out
                · exact HA.out j (by omega)
        · have hltz : ¬ (kk : Int) < (F.length : Int) := by omega
          have : kk = F.length := by omega
          subst this
          have HA2 := Lib.hid (show clB F H = true from all_range_true HA.out)
          have HP2 := Lib.hid (ContainsFunc_pairs 92 #[.pointer (some ⟨w.heap.size + 1, 0, none⟩)] (clC H) A c l w5 (enters_of Try.func92 (by kernel_rfl) rfl) (Kd.C_below HR.out HB5.out)
            (fun W2 x hb2 hx => (isClosed_fn (w.heap.size + 1) AH cH H F.length x W2 (Kd.C_below HHH.out (bl_trans HB5.out hb2)) HHL.out (HP.out x hx) (KC5.bl hb2)).mono fun e w' ⟨he, hb'⟩ => ⟨he, bl_trans hb2 hb'⟩))
          clear HA HP HHH HH HR HO
          obtain ⟨r, hrr⟩ : ∃ r, r = l.any (clC H) := ⟨_, rfl⟩
          rw [← hrr] at HP2
          have HRR := Lib.hid hrr
          clear hrr
          go_wp2_with (go_at_call 89; refine HP2.out.mono ?_; rintro e w' ⟨rfl, hb2⟩)
          go_ret
          refine ⟨?_, bl_trans HB5.out hb2⟩
          rw [HA1.out, HA2.out, ← HRR.out]
          cases r <;> rfl

end Go.Proofs.Ytdeefhfiamhjbaa.QB.BK
