import Derived.Test.YtdkembicgbffnaaBB
import Derived.Deep.RegionWith
import Derived.IntWalk
namespace Go.Proofs.Ytdkembicgbffnaa.QB.BK
open Go.RowKit Go.Proofs.YtdkembicgbffnaaW.PrintWords Go.Proofs.Ytdkembicgbffnaa.G
set_option linter.unusedVariables false
set_option maxRecDepth 100000 in
set_option maxHeartbeats 2000000 in
theorem GoodBlocks_calls (A : Option Addr) (c : Nat) (l : List S49) (w : World) (hx : Kd.C k49 w A l.length l) (hc : l.length ≤ c) :
    Calls Try.prog 13 #[.slice A l.length c] w fun e w' => e = .returned (.bool (goodB l)) ∧ Below w.heap.size w w' := by
  have hl : l.length ≤ 9223372036854775807 := hx.2.1
  have HX := Lib.hid hx
  clear hx
  go_enter Try.func13, Try.ntmps13
  go_wp2_with fail
  go_loopg [12] l.length (fun gg i wr => ∃ kk : Nat, kk ≤ l.length ∧ l.length - kk ≤ gg ∧ i = .int .i64 kk ∧ 0 ≤ endOf l kk ∧ endOf l kk ≤ 60 ∧ Hid (Below w.heap.size w wr) ∧
    Hid (∀ j, j < kk → rowOk (endOf l j) (l.getD j z49) = true))
  case atStart => exact ⟨0, Nat.zero_le _, by omega, rfl, by simp [endOf], by simp [endOf], Below.refl _ w, fun j hj => absurd hj (Nat.not_lt_zero _)⟩
  case round =>
    obtain ⟨kk, hkk, hg, rfl, he0, he1, HB, HA⟩ := hrel
    by_cases hlt : kk < l.length
    · have hltz : (kk : Int) < (l.length : Int) := by omega
      obtain ⟨ad, A3, c3, rfl, q0, q1, q2, q3, hle, hr⟩ := at_block HX.out HB.out kk hlt
      have hnext : endOf l (kk + 1) = (l.getD kk z49).f0 + (l.getD kk z49).f1 := by simp [endOf]
      have hnot := rowsB_not hlt
      have hiff := rowOk_iff (endOf l kk) (l.getD kk z49)
      have hprev : 0 < kk → ∃ p0 p1 : Int, wr.cell? (ad.add ((kk - 1) * 4)) = some (.int .i64 p0) ∧ wr.cell? ⟨(ad.add ((kk - 1) * 4)).block, (ad.add ((kk - 1) * 4)).off + 1, none⟩ = some (.int .i64 p1) ∧ endOf l kk = p0 + p1 ∧ 1 ≤ p1 ∧ p1 ≤ 60 := by
        intro hp
        obtain ⟨ad', A3', c3', ead, t0, t1, _, _, _, _⟩ := at_block HX.out HB.out (kk - 1) (by omega)
        injection ead with ead
        subst ead
        have hro := (rowOk_iff _ _).1 (HA.out (kk - 1) (by omega))
        exact ⟨_, _, t0, t1, by unfold endOf; rw [if_neg (by omega)], hro.1.1, hro.1.2⟩
      have he00 : kk = 0 → endOf l kk = 0 := fun h => by rw [h]; rfl
      generalize hy : l.getD kk z49 = y at q0 q1 q2 q3 hle hr hnext hnot hiff
      generalize hen : endOf l kk = en at he0 he1 hnot hiff hprev he00
      obtain ⟨yat, ylong, yalive, ynames⟩ := y
      simp only at q0 q1 q2 q3 hle hr hnext hiff
      have HY := Lib.hid hy
      have HEN := Lib.hid hen
      have HNOT := Lib.hid hnot
      have HNX := Lib.hid hnext
      have HIFF := Lib.hid hiff
      have HR := Lib.hid hr
      have hln := hr.2.1
      clear hy hen hnot hnext hiff hr
      have W1 := Lib.hid (l1In_calls yat 0 59)
      have W2 := Lib.hid (l1In_calls ylong 1 (60 - yat))
      by_cases g1 : 0 ≤ yat ∧ yat ≤ 59
      · rw [decide_eq_true g1] at W1
        have g1a := g1.1
        have g1b := g1.2
        have HS1 := Lib.hid (show IntKind.i64.wrap (60 - yat) = 60 - yat from IntWalk.i64_in _ (by omega))
        by_cases g2 : 1 ≤ ylong ∧ ylong ≤ 60 - yat
        · rw [decide_eq_true g2] at W2
          have g2a := g2.1
          have g2b := g2.2
          by_cases k0 : kk = 0
          · have hen0 := he00 k0
            have hkz : decide ((0 : Int) < (kk : Int)) = false := by rw [decide_eq_false_iff_not]; omega
            have hkz2 : decide (0 < kk) = false := by rw [decide_eq_false_iff_not]; omega
            subst hen0
            clear hprev he00 k0
            by_cases g3 : ynames.length ≤ 3
            · have g3' : (ynames.length : Int) ≤ 3 := by omega
              by_cases g4 : yalive = true ∨ ynames.length = 0
              · have HOK := Lib.hid (HIFF.out.2 ⟨by omega, by omega, g3, g4⟩)
                have hz2 : yalive = false → ¬ 0 < ynames.length := fun h => by
                  rcases g4 with g4 | g4
                  · rw [h] at g4; cases g4
                  · omega
                clear g1 g2 g3 g4
                cases yalive
                · have hz3 := hz2 rfl
                  clear hz2
                  go_wp2_with fail
                  try have hs1 := HS1.out
                  try have hs2 := HS2.out
                  try have hs3 := HS3.out
                  try have hs4 := HS4.out
                  refine wp_region_quiet_lit (by kernel_rfl) (by kernel_rfl) ?_
                  repeat (any_goals (first | go_big_quiet_step (((go_at_call 41; first | (with_reducible exact Calls.quiet_of (W1.out _)) | (with_reducible exact Calls.quiet_of (W2.out _))))) | quiet_step (((go_at_call 41; first | (with_reducible exact Calls.quiet_of (W1.out _)) | (with_reducible exact Calls.quiet_of (W2.out _)))))))
                  refine wpQuiet_nil ?_
                  intro _ hw'
                  obtain ⟨nq, hw''⟩ := hw'
                  subst hw''
                  try clear hs1
                  try clear hs2
                  try clear hs3
                  try clear hs4
                  go_wp2_with fail
                  go_roundg (l.length - (kk + 1))
                  case measure => omega
                  case rel =>
                    refine ⟨kk + 1, by omega, by omega, by go_num, by rw [HNX.out]; omega, by rw [HNX.out]; omega, (show Hid _ from by first | exact bl_drewN (bl_alloc HB.out _) _ | exact bl_drewN (bl_drewN (bl_alloc HB.out _) _) _ | exact bl_alloc HB.out _), (show Hid _ from fun j hj => ?_)⟩
                    by_cases e : j = kk
                    · subst e; rw [HY.out, HEN.out]; exact HOK.out
                    · exact HA.out j (by omega)
                · clear hz2
                  go_wp2_with fail
                  try have hs1 := HS1.out
                  try have hs2 := HS2.out
                  try have hs3 := HS3.out
                  try have hs4 := HS4.out
                  refine wp_region_quiet_lit (by kernel_rfl) (by kernel_rfl) ?_
                  repeat (any_goals (first | go_big_quiet_step (((go_at_call 41; first | (with_reducible exact Calls.quiet_of (W1.out _)) | (with_reducible exact Calls.quiet_of (W2.out _))))) | quiet_step (((go_at_call 41; first | (with_reducible exact Calls.quiet_of (W1.out _)) | (with_reducible exact Calls.quiet_of (W2.out _)))))))
                  refine wpQuiet_nil ?_
                  intro _ hw'
                  obtain ⟨nq, hw''⟩ := hw'
                  subst hw''
                  try clear hs1
                  try clear hs2
                  try clear hs3
                  try clear hs4
                  go_wp2_with fail
                  go_roundg (l.length - (kk + 1))
                  case measure => omega
                  case rel =>
                    refine ⟨kk + 1, by omega, by omega, by go_num, by rw [HNX.out]; omega, by rw [HNX.out]; omega, (show Hid _ from by first | exact bl_drewN (bl_alloc HB.out _) _ | exact bl_drewN (bl_drewN (bl_alloc HB.out _) _) _ | exact bl_alloc HB.out _), (show Hid _ from fun j hj => ?_)⟩
                    by_cases e : j = kk
                    · subst e; rw [HY.out, HEN.out]; exact HOK.out
                    · exact HA.out j (by omega)
              · have hbad := HNOT.out (Bool.eq_false_iff.2 fun h => g4 (HIFF.out.1 h).2.2.2)
                have hlv : yalive = false := by
                  cases hy0 : yalive
                  · rfl
                  · exact absurd (Or.inl hy0) g4
                have hl0 : 0 < ynames.length := by omega
                subst hlv
                clear g1 g2 g3 g4
                have HBD := Lib.hid hbad
                clear hbad
                go_wp2_with fail
                try have hs1 := HS1.out
                try have hs2 := HS2.out
                try have hs3 := HS3.out
                try have hs4 := HS4.out
                refine wp_region_quiet_lit (by kernel_rfl) (by kernel_rfl) ?_
                repeat (any_goals (first | go_big_quiet_step (((go_at_call 41; first | (with_reducible exact Calls.quiet_of (W1.out _)) | (with_reducible exact Calls.quiet_of (W2.out _))))) | quiet_step (((go_at_call 41; first | (with_reducible exact Calls.quiet_of (W1.out _)) | (with_reducible exact Calls.quiet_of (W2.out _)))))))
                refine wpQuiet_nil ?_
                intro _ hw'
                obtain ⟨nq, hw''⟩ := hw'
                subst hw''
                try clear hs1
                try clear hs2
                try clear hs3
                try clear hs4
                go_wp2_with fail
                go_ret
                exact ⟨by rw [HBD.out]; rfl, by first | exact bl_drewN (bl_alloc HB.out _) _ | exact bl_drewN (bl_drewN (bl_alloc HB.out _) _) _ | exact bl_alloc HB.out _⟩
            · have hbad := HNOT.out (Bool.eq_false_iff.2 fun h => g3 (HIFF.out.1 h).2.2.1)
              have g3' : 3 < (ynames.length : Int) := by omega
              clear g1 g2 g3
              have HBD := Lib.hid hbad
              clear hbad
              go_wp2_with fail
              try have hs1 := HS1.out
              try have hs2 := HS2.out
              try have hs3 := HS3.out
              try have hs4 := HS4.out
              refine wp_region_quiet_lit (by kernel_rfl) (by kernel_rfl) ?_
              repeat (any_goals (first | go_big_quiet_step (((go_at_call 41; first | (with_reducible exact Calls.quiet_of (W1.out _)) | (with_reducible exact Calls.quiet_of (W2.out _))))) | quiet_step (((go_at_call 41; first | (with_reducible exact Calls.quiet_of (W1.out _)) | (with_reducible exact Calls.quiet_of (W2.out _)))))))
              refine wpQuiet_nil ?_
              intro _ hw'
              obtain ⟨nq, hw''⟩ := hw'
              subst hw''
              try clear hs1
              try clear hs2
              try clear hs3
              try clear hs4
              go_wp2_with fail
              go_ret
              exact ⟨by rw [HBD.out]; rfl, by first | exact bl_drewN (bl_alloc HB.out _) _ | exact bl_drewN (bl_drewN (bl_alloc HB.out _) _) _ | exact bl_alloc HB.out _⟩
          · obtain ⟨m, rfl⟩ : ∃ m, kk = m + 1 := ⟨kk - 1, by omega⟩
            obtain ⟨p0, p1, t0, t1, hpe, hp1, hp2⟩ := hprev (by omega)
            clear hprev he00 k0
            have hm : m + 1 - 1 = m := by omega
            rw [hm] at t0 t1
            have t0' := cell_alloc t0
            have t1' := cell_alloc t1
            clear hm t0 t1
            subst hpe
            have HS2 := Lib.hid (show IntKind.i64.wrap (m : Int) = (m : Int) from IntWalk.i64_in _ (by omega))
            have HS3 := Lib.hid (show IntKind.i64.wrap (p0 + p1) = p0 + p1 from IntWalk.i64_in _ (by omega))
            have HS4 := Lib.hid (show ((m : Int) + 1 - 1) = (m : Int) by omega)
            have hm1 : (m : Int) < (l.length : Int) := by omega
            have hkp : decide ((0 : Int) < (m : Int) + 1) = true := by rw [decide_eq_true_eq]; omega
            by_cases g5 : p0 + p1 ≤ yat
            · have g5t := trivial
              by_cases g3 : ynames.length ≤ 3
              · have g3' : (ynames.length : Int) ≤ 3 := by omega
                by_cases g4 : yalive = true ∨ ynames.length = 0
                · have HOK := Lib.hid (HIFF.out.2 ⟨by omega, by omega, g3, g4⟩)
                  have hz2 : yalive = false → ¬ 0 < ynames.length := fun h => by
                    rcases g4 with g4 | g4
                    · rw [h] at g4; cases g4
                    · omega
                  clear g1 g2 g3 g4
                  cases yalive
                  · have hz3 := hz2 rfl
                    clear hz2
                    go_wp2_with fail
                    try have hs1 := HS1.out
                    try have hs2 := HS2.out
                    try have hs3 := HS3.out
                    try have hs4 := HS4.out
                    refine wp_region_quiet_lit (by kernel_rfl) (by kernel_rfl) ?_
                    repeat (any_goals (first | go_big_quiet_step (((go_at_call 41; first | (with_reducible exact Calls.quiet_of (W1.out _)) | (with_reducible exact Calls.quiet_of (W2.out _))))) | quiet_step (((go_at_call 41; first | (with_reducible exact Calls.quiet_of (W1.out _)) | (with_reducible exact Calls.quiet_of (W2.out _)))))))
                    refine wpQuiet_nil ?_
                    intro _ hw'
                    obtain ⟨nq, hw''⟩ := hw'
                    subst hw''
                    try clear hs1
                    try clear hs2
                    try clear hs3
                    try clear hs4
                    go_wp2_with fail
                    go_roundg (l.length - ((m + 1) + 1))
                    case measure => omega
                    case rel =>
                      refine ⟨(m + 1) + 1, by omega, by omega, by go_num, by rw [HNX.out]; omega, by rw [HNX.out]; omega, (show Hid _ from by first | exact bl_drewN (bl_alloc HB.out _) _ | exact bl_drewN (bl_drewN (bl_alloc HB.out _) _) _ | exact bl_alloc HB.out _), (show Hid _ from fun j hj => ?_)⟩
                      by_cases e : j = m + 1
                      · subst e; rw [HY.out, HEN.out]; exact HOK.out
                      · exact HA.out j (by omega)
                  · clear hz2
                    go_wp2_with fail
                    try have hs1 := HS1.out
                    try have hs2 := HS2.out
                    try have hs3 := HS3.out
                    try have hs4 := HS4.out
                    refine wp_region_quiet_lit (by kernel_rfl) (by kernel_rfl) ?_
                    repeat (any_goals (first | go_big_quiet_step (((go_at_call 41; first | (with_reducible exact Calls.quiet_of (W1.out _)) | (with_reducible exact Calls.quiet_of (W2.out _))))) | quiet_step (((go_at_call 41; first | (with_reducible exact Calls.quiet_of (W1.out _)) | (with_reducible exact Calls.quiet_of (W2.out _)))))))
                    refine wpQuiet_nil ?_
                    intro _ hw'
                    obtain ⟨nq, hw''⟩ := hw'
                    subst hw''
                    try clear hs1
                    try clear hs2
                    try clear hs3
                    try clear hs4
                    go_wp2_with fail
                    go_roundg (l.length - ((m + 1) + 1))
                    case measure => omega
                    case rel =>
                      refine ⟨(m + 1) + 1, by omega, by omega, by go_num, by rw [HNX.out]; omega, by rw [HNX.out]; omega, (show Hid _ from by first | exact bl_drewN (bl_alloc HB.out _) _ | exact bl_drewN (bl_drewN (bl_alloc HB.out _) _) _ | exact bl_alloc HB.out _), (show Hid _ from fun j hj => ?_)⟩
                      by_cases e : j = m + 1
                      · subst e; rw [HY.out, HEN.out]; exact HOK.out
                      · exact HA.out j (by omega)
                · have hbad := HNOT.out (Bool.eq_false_iff.2 fun h => g4 (HIFF.out.1 h).2.2.2)
                  have hlv : yalive = false := by
                    cases hy0 : yalive
                    · rfl
                    · exact absurd (Or.inl hy0) g4
                  have hl0 : 0 < ynames.length := by omega
                  subst hlv
                  clear g1 g2 g3 g4
                  have HBD := Lib.hid hbad
                  clear hbad
                  go_wp2_with fail
                  try have hs1 := HS1.out
                  try have hs2 := HS2.out
                  try have hs3 := HS3.out
                  try have hs4 := HS4.out
                  refine wp_region_quiet_lit (by kernel_rfl) (by kernel_rfl) ?_
                  repeat (any_goals (first | go_big_quiet_step (((go_at_call 41; first | (with_reducible exact Calls.quiet_of (W1.out _)) | (with_reducible exact Calls.quiet_of (W2.out _))))) | quiet_step (((go_at_call 41; first | (with_reducible exact Calls.quiet_of (W1.out _)) | (with_reducible exact Calls.quiet_of (W2.out _)))))))
                  refine wpQuiet_nil ?_
                  intro _ hw'
                  obtain ⟨nq, hw''⟩ := hw'
                  subst hw''
                  try clear hs1
                  try clear hs2
                  try clear hs3
                  try clear hs4
                  go_wp2_with fail
                  go_ret
                  exact ⟨by rw [HBD.out]; rfl, by first | exact bl_drewN (bl_alloc HB.out _) _ | exact bl_drewN (bl_drewN (bl_alloc HB.out _) _) _ | exact bl_alloc HB.out _⟩
              · have hbad := HNOT.out (Bool.eq_false_iff.2 fun h => g3 (HIFF.out.1 h).2.2.1)
                have g3' : 3 < (ynames.length : Int) := by omega
                clear g1 g2 g3
                have HBD := Lib.hid hbad
                clear hbad
                go_wp2_with fail
                try have hs1 := HS1.out
                try have hs2 := HS2.out
                try have hs3 := HS3.out
                try have hs4 := HS4.out
                refine wp_region_quiet_lit (by kernel_rfl) (by kernel_rfl) ?_
                repeat (any_goals (first | go_big_quiet_step (((go_at_call 41; first | (with_reducible exact Calls.quiet_of (W1.out _)) | (with_reducible exact Calls.quiet_of (W2.out _))))) | quiet_step (((go_at_call 41; first | (with_reducible exact Calls.quiet_of (W1.out _)) | (with_reducible exact Calls.quiet_of (W2.out _)))))))
                refine wpQuiet_nil ?_
                intro _ hw'
                obtain ⟨nq, hw''⟩ := hw'
                subst hw''
                try clear hs1
                try clear hs2
                try clear hs3
                try clear hs4
                go_wp2_with fail
                go_ret
                exact ⟨by rw [HBD.out]; rfl, by first | exact bl_drewN (bl_alloc HB.out _) _ | exact bl_drewN (bl_drewN (bl_alloc HB.out _) _) _ | exact bl_alloc HB.out _⟩
            · have hbad := HNOT.out (Bool.eq_false_iff.2 fun h => g5 (HIFF.out.1 h).2.1.1)
              have g5' : yat < p0 + p1 := by omega
              clear g1 g2 g5
              have HBD := Lib.hid hbad
              clear hbad
              go_wp2_with fail
              try have hs1 := HS1.out
              try have hs2 := HS2.out
              try have hs3 := HS3.out
              try have hs4 := HS4.out
              refine wp_region_quiet_lit (by kernel_rfl) (by kernel_rfl) ?_
              repeat (any_goals (first | go_big_quiet_step (((go_at_call 41; first | (with_reducible exact Calls.quiet_of (W1.out _)) | (with_reducible exact Calls.quiet_of (W2.out _))))) | quiet_step (((go_at_call 41; first | (with_reducible exact Calls.quiet_of (W1.out _)) | (with_reducible exact Calls.quiet_of (W2.out _)))))))
              refine wpQuiet_nil ?_
              intro _ hw'
              obtain ⟨nq, hw''⟩ := hw'
              subst hw''
              try clear hs1
              try clear hs2
              try clear hs3
              try clear hs4
              go_wp2_with fail
              go_ret
              exact ⟨by rw [HBD.out]; rfl, by first | exact bl_drewN (bl_alloc HB.out _) _ | exact bl_drewN (bl_drewN (bl_alloc HB.out _) _) _ | exact bl_alloc HB.out _⟩
        · rw [decide_eq_false g2] at W2
          have hbad := HNOT.out (Bool.eq_false_iff.2 fun h => g2 (by have := (HIFF.out.1 h).1; have := (HIFF.out.1 h).2.1; omega))
          clear g1 g2 hprev he00
          have HBD := Lib.hid hbad
          clear hbad
          go_wp2_with fail
          try have hs1 := HS1.out
          try have hs2 := HS2.out
          try have hs3 := HS3.out
          try have hs4 := HS4.out
          refine wp_region_quiet_lit (by kernel_rfl) (by kernel_rfl) ?_
          repeat (any_goals (first | go_big_quiet_step (((go_at_call 41; first | (with_reducible exact Calls.quiet_of (W1.out _)) | (with_reducible exact Calls.quiet_of (W2.out _))))) | quiet_step (((go_at_call 41; first | (with_reducible exact Calls.quiet_of (W1.out _)) | (with_reducible exact Calls.quiet_of (W2.out _)))))))
          refine wpQuiet_nil ?_
          intro _ hw'
          obtain ⟨nq, hw''⟩ := hw'
          subst hw''
          try clear hs1
          try clear hs2
          try clear hs3
          try clear hs4
          go_wp2_with fail
          go_ret
          exact ⟨by rw [HBD.out]; rfl, by first | exact bl_drewN (bl_alloc HB.out _) _ | exact bl_drewN (bl_drewN (bl_alloc HB.out _) _) _ | exact bl_alloc HB.out _⟩
      · rw [decide_eq_false g1] at W1
        have hbad := HNOT.out (Bool.eq_false_iff.2 fun h => g1 (by have := (HIFF.out.1 h).1; have := (HIFF.out.1 h).2.1; omega))
        clear g1 hprev he00
        have HBD := Lib.hid hbad
        clear hbad
        go_wp2_with fail
        try have hs1 := HS1.out
        try have hs2 := HS2.out
        try have hs3 := HS3.out
        try have hs4 := HS4.out
        refine wp_region_quiet_lit (by kernel_rfl) (by kernel_rfl) ?_
        repeat (any_goals (first | go_big_quiet_step (((go_at_call 41; first | (with_reducible exact Calls.quiet_of (W1.out _)) | (with_reducible exact Calls.quiet_of (W2.out _))))) | quiet_step (((go_at_call 41; first | (with_reducible exact Calls.quiet_of (W1.out _)) | (with_reducible exact Calls.quiet_of (W2.out _)))))))
        refine wpQuiet_nil ?_
        intro _ hw'
        obtain ⟨nq, hw''⟩ := hw'
        subst hw''
        try clear hs1
        try clear hs2
        try clear hs3
        try clear hs4
        go_wp2_with fail
        go_ret
        exact ⟨by rw [HBD.out]; rfl, by first | exact bl_drewN (bl_alloc HB.out _) _ | exact bl_drewN (bl_drewN (bl_alloc HB.out _) _) _ | exact bl_alloc HB.out _⟩
    · have : kk = l.length := by omega
      subst this
      have HROWS := Lib.hid (rowsB_all HA.out)
      have HBs := HB
      clear HB HA
      obtain ⟨ws, rfl⟩ : ∃ ws : World, ws = wr := ⟨_, rfl⟩
      obtain ⟨gks, rfl⟩ : ∃ gks : Nat, gks = gk := ⟨_, rfl⟩
      go_wp2_with fail
      go_loopg [72] l.length (fun gg i wr => ∃ kk : Nat, kk ≤ l.length ∧ l.length - kk ≤ gg ∧ i = .int .i64 kk ∧ Hid (Below w.heap.size w wr) ∧ Hid (∀ j, j < kk → (l.getD j z49).f3.all (nameOk l) = true))
      case atStart => exact ⟨0, Nat.zero_le _, by omega, rfl, HBs, fun j hj => absurd hj (Nat.not_lt_zero _)⟩
      case round =>
        obtain ⟨kk, hkk, hg, rfl, HB, HA⟩ := hrel
        by_cases hlt : kk < l.length
        · have hltz : (kk : Int) < (l.length : Int) := by omega
          obtain ⟨ad, A3, c3, rfl, q0, q1, q2, q3, hle, hr⟩ := at_block HX.out HB.out kk hlt
          generalize hy : l.getD kk z49 = y at q0 q1 q2 q3 hle hr
          obtain ⟨yat, ylong, yalive, ynames⟩ := y
          simp only at q0 q1 q2 q3 hle hr
          have HY := Lib.hid hy
          have HR := Lib.hid hr
          have hln := hr.2.1
          clear hy hr
          obtain ⟨wo, rfl⟩ : ∃ wo : World, wo = wr := ⟨_, rfl⟩
          obtain ⟨gko, rfl⟩ : ∃ gko : Nat, gko = gk := ⟨_, rfl⟩
          have HBo := Lib.hid (bl_alloc HB.out (.cells #[.int .i64 yat, .int .i64 ylong, .bool yalive, .slice A3 ynames.length c3] 49))
          go_wp2_with fail
          clear q0 q1 q2 q3
          go_loopg [79] ynames.length (fun gg i wr => ∃ jj : Nat, jj ≤ ynames.length ∧ ynames.length - jj ≤ gg ∧ i = .int .i64 jj ∧ Hid (Below w.heap.size w wr) ∧ Hid (Below wo.heap.size wo wr) ∧ Hid (∀ j, j < jj → nameOk l (ynames.getD j 0) = true))
          case atStart => exact ⟨0, Nat.zero_le _, by omega, rfl, HBo.out, bl_alloc (Below.refl _ wo) _, fun j hj => absurd hj (Nat.not_lt_zero _)⟩
          case round =>
            obtain ⟨jj, hjj, hg2, rfl, HB2, HB3, HA2⟩ := hrel
            by_cases hlt2 : jj < ynames.length
            · have hltz2 : (jj : Int) < (ynames.length : Int) := by omega
              obtain ⟨adk, rfl, hx⟩ := Kd.at_int HR.out (jj : Int) (by omega) (by omega)
              rw [Int.toNat_natCast] at hx
              replace hx := cell_bl HB3.out hx
              have hxv : rd ynames (jj : Int) = ynames.getD jj 0 := by unfold rd; simp
              rw [hxv] at hx
              clear hxv
              have hnot := namesB_not (l := l) hlt (j := jj) (by rw [HY.out]; exact hlt2)
              rw [HY.out] at hnot
              simp only at hnot
              generalize hxx : ynames.getD jj 0 = x at hx hnot
              have HX2 := Lib.hid hxx
              have HNOT2 := Lib.hid hnot
              have HBI := Lib.hid (l13At_calls (some ad) c l x wr (Kd.C_below HX.out HB2.out) hc)
              have hil := blockIdx_lt l x
              have HNO := Lib.hid (show nameOk l x = (x == -1 || (decide (0 ≤ blockIdx l x) && (l.getD (blockIdx l x).toNat z49).f2)) from rfl)
              clear hxx hnot
              generalize blockIdx l x = ix at HBI hil HNO
              obtain ⟨hi1, hi2⟩ := hil
              by_cases n1 : x = -1
              · have HOKN := Lib.hid (show nameOk l x = true by rw [HNO.out, n1]; rfl)
                have n1b : (x == -1) = true := by simp [n1]
                have HN1 := Lib.hid n1
                clear n1
                go_wp2_with fail
                go_roundg (ynames.length - (jj + 1))
                case measure => omega
                case rel =>
                  refine ⟨jj + 1, by omega, by omega, by go_num, HB2, HB3, (show Hid _ from fun j hj => ?_)⟩
                  by_cases e : j = jj
                  · subst e; rw [HX2.out]; exact HOKN.out
                  · exact HA2.out j (by omega)
              · have n1c : (x == -1) = false := by simpa using n1
                have N1C := Lib.hid n1c
                by_cases n2 : ix < 0
                · have HBAD2 := Lib.hid (HNOT2.out (by rw [HNO.out, N1C.out, decide_eq_false (by omega)]; rfl))
                  clear n1
                  go_wp2_with (go_at_call 42; refine HBI.out.mono ?_; rintro e w' ⟨rfl, hb'⟩)
                  go_ret
                  exact ⟨by rw [HBAD2.out]; rfl, bl_trans HB2.out hb'⟩
                · have n2a : 0 ≤ ix := by omega
                  have HAL := Lib.hid (fun (W : World) (hb : Below wr.heap.size wr W) => at_block HX.out (bl_trans HB2.out hb) ix.toNat (by omega))
                  generalize hav : (l.getD ix.toNat z49) = z at HNO HAL
                  obtain ⟨zat, zlong, zalive, znames⟩ := z
                  have HAV := Lib.hid hav
                  clear hav
                  cases zalive with
                  | true =>
                    have HOKN := Lib.hid (show nameOk l x = true by rw [HNO.out, N1C.out, decide_eq_true n2a]; rfl)
                    clear n1
                    go_wp2_with (go_at_call 42; refine HBI.out.mono ?_; rintro e w' ⟨rfl, hb'⟩; obtain ⟨ad', A3', c3', ead, t0, t1, t2, t3, _, _⟩ := HAL.out w' hb'; injection ead with ead; subst ead)
                    go_roundg (ynames.length - (jj + 1))
                    case measure => omega
                    case rel =>
                      refine ⟨jj + 1, by omega, by omega, by go_num, (show Hid _ from bl_trans HB2.out hb'), (show Hid _ from bl_trans HB3.out hb'), (show Hid _ from fun j hj => ?_)⟩
                      by_cases e : j = jj
                      · subst e; rw [HX2.out]; exact HOKN.out
                      · exact HA2.out j (by omega)
                  | false =>
                    have HBAD2 := Lib.hid (HNOT2.out (by rw [HNO.out, N1C.out, decide_eq_true n2a]; rfl))
                    clear n1
                    go_wp2_with (go_at_call 42; refine HBI.out.mono ?_; rintro e w' ⟨rfl, hb'⟩; obtain ⟨ad', A3', c3', ead, t0, t1, t2, t3, _, _⟩ := HAL.out w' hb'; injection ead with ead; subst ead)
                    go_ret
                    exact ⟨by rw [HBAD2.out]; rfl, bl_trans HB2.out hb'⟩
            · have : jj = ynames.length := by omega
              subst this
              have HNM := Lib.hid (show (l.getD kk z49).f3.all (nameOk l) = true by
                rw [HY.out, List.all_eq_true]
                intro x hx
                obtain ⟨j, hj, rfl⟩ := List.getElem_of_mem hx
                have := HA2.out j hj
                rw [List.getD_eq_getElem?_getD, List.getElem?_eq_getElem hj] at this
                exact this)
              go_wp2_with fail
              go_roundg (l.length - (kk + 1))
              case measure => omega
              case rel =>
                refine ⟨kk + 1, by omega, by omega, by go_num, HB2, (show Hid _ from fun j hj => ?_)⟩
                by_cases e : j = kk
                · subst e; exact HNM.out
                · exact HA.out j (by omega)
        · have : kk = l.length := by omega
          subst this
          have HGOOD := Lib.hid (show goodB l = decide ((l.length : Int) ≤ 12) by unfold goodB; rw [HROWS.out, namesB_all HA.out, Bool.and_true, Bool.and_true, decide_eq_decide]; omega)
          go_wp2_with fail
          go_ret
          exact ⟨by rw [HGOOD.out]; rfl, HB.out⟩

end Go.Proofs.Ytdkembicgbffnaa.QB.BK
