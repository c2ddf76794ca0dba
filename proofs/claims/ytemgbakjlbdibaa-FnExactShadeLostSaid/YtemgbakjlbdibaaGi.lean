import Derived.Test.YtemgbakjlbdibaaGh
namespace Go.Proofs.Ytemgbakjlbdibaa.G
open Go.RowKit Go.Proofs.YtemgbakjlbdibaaW.PrintWords
set_option linter.unusedVariables false
set_option maxHeartbeats 2000000 in
set_option maxRecDepth 100000 in
theorem from_calls (A0 A1 A2 : Option Addr) (c0 c1 c2 : Nat) (F : List (List Int)) (L : List Bool) (R : List Int) (A : Option Addr) (c : Nat) (fr : List Int) (w : World) (hh : HeapAt w A0 A1 A2 c0 c1 c2 F L R)
    (hr : Kd.C (Kd.int .i64) w A fr.length fr) (hc : fr.length ≤ c) (hok0 : okFrom F fr = true) :
    Calls Try.prog 72 #[.agg #[.slice A0 F.length c0, .slice A1 L.length c1, .slice A2 R.length c2], .slice A fr.length c] w fun e w' => ∃ v, e = .returned v ∧ Kd.R Kd.bool 4 w' w.heap.size (fun _ => True) v (seenB F fr) ∧ Below w.heap.size w w' := by
  obtain ⟨hok, hm⟩ := okFrom_iff.1 hok0
  rw [seenB_eq hok]
  have hlF : F.length ≤ 1048576 := hok.n
  have HH := Lib.hid hh
  have HOK := Lib.hid hok
  have HM := Lib.hid hm
  have HR := Lib.hid hr
  have HB0 := Lib.hid (bl_alloc (Below.refl _ w) (.cells #[.slice A0 F.length c0, .slice A1 L.length c1, .slice A2 R.length c2] 30))
  have KB0 := Lib.hid (Blk.new w #[.slice A0 F.length c0, .slice A1 L.length c1, .slice A2 R.length c2] 30)
  clear hh hok hok0 hm hr
  go_enter Try.func72, Try.ntmps72
  go_wp2_with (first
    | (at_builtin; go_loud (refine Kd.R_append_rows (Kd.int .i64) (w0 := w) w.heap.size rfl (.tmp 12) (.tmp 13) 24 3 (.int .i64 0) 8 rfl Try.underlying24 infoI rfl (by decide) (by omega) _ [] fr A fr.length c (fun _ => True) (fun _ => False) rfl rfl HE.out HR5.out (fun _ _ h => h) (fun _ h => h.elim) (fun _ _ => trivial) HB5.out HB5.out.size (by have := HM.out; simp; omega) ?_); intro v8 w5 ho hb hg hat; have HO7' := Lib.hid (Kd.R_over HO5.out HE.out (by decide) hg); have HO8 := Lib.hid ho; have HB8 := Lib.hid hb; have KB8 := Lib.hid (⟨blk_grown KB5.out.out hg (Kd.R_ne HE.out KB5.out.out (by decide))⟩ : Blk w5 _ _ _); clear ho hb hg hat)
    | ((with_reducible refine gate_dst (N := 11) rfl ?_); refine Kd.R_make (w0 := w) Kd.bool w.heap.size 4 rfl (N := 11) rfl 23 _ _ rfl (F.length : Int) rfl rfl Try.underlying23 (.bool false) 1 infoB rfl (by decide) (by omega) false (ok := fun _ => True) (okp := fun _ => True) rfl (fun _ hk => hk) trivial (by omega) (by omega) HB0.out HB0.out.size ?_; intro v7 w4 ho7 hb7 hg7 _; have HB4 := Lib.hid hb7; have HE := Lib.hid (R_empty (Kd.int .i64) 3 w4 w.heap.size HB4.out.size); have hb47 := bl_alloc (Below.refl _ w4) (.cells #[] 3); have HB5 := Lib.hid (HB4.out.trans (hb47.mono HB4.out.size)); have HO5 := Lib.hid (Kd.R_below ho7 hb47); have KB5 := Lib.hid ((KB0.out.bl (Below.grown (Below.refl _ _) hg7 (Nat.le_refl _) (fun k hk => by cases hk))).bl hb47); have HR5 := Lib.hid (Kd.C_below HR.out HB5.out); clear ho7 hb7 hg7 hb47))
  have HO7s := Lib.hid (show Kd.R Kd.bool 4 w5 w.heap.size (fun _ => True) v7 (List.replicate F.length false) from by simpa using HO7'.out)
  have HQ8 := Lib.hid (show Kd.Q (Kd.int .i64) 3 w5 w.heap.size (fun _ => True) v8 fr from Kd.Q_of_R (by simpa using HO8.out))
  clear HO7' HO8 HO5 HE HB5 HB4 KB5 HR5 HB0 KB0 HR
  go_loopg [6] (4 * F.length + fr.length) (fun gg v8 wr => ∃ (out : List Bool) (q : List Int), Hid (SInv F fr (fun _ => true) out q) ∧ Hid (todo out q ≤ gg) ∧ Hid (todo out q ≤ 4 * F.length + fr.length) ∧ Hid (Kd.R Kd.bool 4 wr w.heap.size (fun _ => True) v7 out) ∧ Hid (Kd.Q (Kd.int .i64) 3 wr w.heap.size (fun _ => True) v8 q) ∧ Hid (Below w.heap.size w wr) ∧
    Blk wr w.heap.size #[.slice A0 F.length c0, .slice A1 L.length c1, .slice A2 R.length c2] 30)
  case atStart => exact ⟨_, fr, SInv.start F fr _ HOK.out.fr, Nat.le_of_eq (todo_start F fr), Nat.le_of_eq (todo_start F fr), HO7s.out, HQ8.out, HB8.out, KB8.out⟩
  case round =>
    obtain ⟨out, q, HS, HG, HT, HO, HQ, HB, KB⟩ := hrel
    clear HO7s HQ8 HB8 KB8
    cases q with
    | nil =>
      obtain ⟨A8, c8, rfl, _⟩ := Kd.Q_slice HQ.out
      go_wp2
      go_ret
      exact ⟨_, rfl, by rw [← HS.out.stop]; exact HO.out, HB.out⟩
    | cons x rest =>
      have HMEM := Lib.hid (show ∀ y, y ∈ x :: rest ↔ y = x ∨ y ∈ rest from fun y => by simp)
      have hlr : todo out (x :: rest) = todo out rest + 1 := by unfold todo; simp; omega
      have HLE := Lib.hid (show todo out rest ≤ 4 * F.length + fr.length from by have h1 := HT.out; omega)
      have HLG := Lib.hid (show todo out rest < gk from by have h1 := HG.out; omega)
      clear hlr
      obtain ⟨g8, o8, c8, e8, hb8, hl8, cl8, hg8⟩ := Kd.Q_form HQ.out (by simp)
      subst e8
      have hnc := (Kd.Q_reads' HQ.out).2.1
      obtain ⟨hx, hf⟩ := Kd.Q_cell 0 HQ.out 0 (by omega) (by simp)
      simp only [Int.toNat_zero, Nat.add_zero] at hx hf
      have hxv : rdOf 0 (x :: rest) 0 = x := rfl
      rw [hxv] at hx
      clear hxv
      obtain ⟨i0, hi0, _, hsz, _⟩ := info_parts infoI
      have hcut := cut_from (P := Try.prog) 24 3 .i64 Try.underlying24 hi0 1 hsz (some ⟨g8, o8, none⟩) (x :: rest).length c8 1 (by omega) (by rw [List.length_cons]; omega)
      have hqd := Kd.Q_drop (k := 1) HQ.out (by simp)
      obtain ⟨A9, hA9⟩ : ∃ A1, A1 = (if c8 = 1 then some ⟨g8, o8, none⟩ else (some (⟨g8, o8, none⟩ : Addr)).map (·.add (1 * 1))) := ⟨_, rfl⟩
      obtain ⟨c9, hc9⟩ : ∃ c1, c1 = c8 - 1 := ⟨_, rfl⟩
      have hn9 : (x :: rest).length - 1 = rest.length := by simp
      replace hcut : ∀ W : World, (Instr.slice 24 (.slice (some ⟨g8, o8, none⟩) (x :: rest).length c8) (some (.int .i64 1)) none none).run Try.prog W = .ok (.slice A9 rest.length c9) W := by rw [hA9, hc9, ← hn9]; exact hcut
      have HQ2 := Lib.hid (show Kd.Q (Kd.int .i64) 3 wr w.heap.size (fun _ => True) (.slice A9 rest.length c9) rest from by rw [hA9, hc9, ← hn9]; exact hqd)
      clear hqd hA9 hc9 hn9 hi0 hsz
      have h1n : 0 < (((x :: rest).length : Nat) : Int) := by rw [List.length_cons]; omega
      generalize hqn : (x :: rest).length = n at *
      have HQN := Lib.hid hqn
      clear hqn
      have hnpos : 0 < n := by omega
      by_cases h0 : x < 0
      · go_wp2_with fail
        go_roundg (todo out rest)
        case measure => exact HLG.out
        case rel => exact ⟨out, rest, (show Hid _ from SInv.skip HS.out HMEM.out (.inl h0)), (show Hid _ from Nat.le_refl _), HLE, HO, (show Hid _ from HQ2.out), HB, KB⟩
      · have h0' : 0 ≤ x := by omega
        have hxl : x < (F.length : Int) := HS.out.inq x ((HMEM.out x).2 (.inl rfl))
        have HOL := Lib.hid HS.out.len
        obtain ⟨g7, cap7, e7, hb7, hl7, cl7, hg7⟩ := Kd.R_form HO.out (by rw [HOL.out]; omega)
        rw [HOL.out] at e7
        subst e7
        obtain ⟨hx7, hf7⟩ := Kd.R_celln false HO.out x h0' hxl
        have hov : rdOf false out x = out.getD x.toNat false := by unfold rdOf; simp
        rw [hov] at hx7
        clear hov
        by_cases ho : out.getD x.toNat false = true
        · rw [ho] at hx7
          go_wp2_with fail
          go_roundg (todo out rest)
          case measure => exact HLG.out
          case rel => exact ⟨out, rest, (show Hid _ from SInv.skip HS.out HMEM.out (.inr (.inl ho))), (show Hid _ from Nat.le_refl _), HLE, HO, (show Hid _ from HQ2.out), HB, KB⟩
        · have ho' : out.getD x.toNat false = false := by simpa using ho
          rw [ho'] at hx7
          clear ho
          obtain ⟨k, rfl⟩ := Int.eq_ofNat_of_zero_le h0'
          rw [Int.toNat_natCast] at hx7 hf7 ho'
          have hkF : k < F.length := by omega
          obtain ⟨ad, Ak, ck, rfl, hck, hle, hrk⟩ := at_rows HH.out.rF k hkF
          have hfe : F.getD k [] = F[k] := by simp [hkF]
          have hf3 := (HOK.out.row k).1
          have HFL := Lib.hid (HOK.out.row k).2
          rw [hfe] at hf3
          have HFE := Lib.hid hfe
          clear hfe
          generalize F[k] = f at *
          have HRK0 := Lib.hid hrk
          have HCK0 := Lib.hid hck
          have HBD := Lib.hid (show (rest.length + f.length) * 8 ≤ 140737488355328 from by
            have h1 := HLE.out; have h2 := HM.out
            have h3 : rest.length ≤ 4 * F.length + fr.length := by unfold todo at h1; omega
            omega)
          have HF3 := Lib.hid hf3
          have HP := Kd.R_putg HO.out (k : Int) true
          rw [Int.toNat_natCast] at HP
          have HPP := Lib.hid HP
          have HO' := Lib.hid ho'
          clear HP hrk hf3 ho'
          go_wp2_with (first
            | (at_builtin; go_loud (refine Qint_append (w0 := w) w.heap.size rfl (.tmp 34) (.tmp 39) 24 3 rfl Try.underlying24 infoI _ rest f _ f.length ck rfl rfl HQ3.out HRK.out HB3.out HB3.out.size HBD.out ?_); intro v1 w1 ho hb hg; have HO4 := Lib.hid (Kd.R_over' HO2.out (Kd.Q_typed HQ3.out) (by decide) hg); have HQ4 := Lib.hid ho; have HB4 := Lib.hid hb; have KB4 := Lib.hid (⟨blk_grown KB3.out hg (Kd.Q_ne HQ3.out KB3.out (by decide))⟩ : Blk w1 _ _ _); clear ho hb hg)
            | ((with_reducible refine gate_store (t := 4) (p := 33) rfl ?_); refine store_event (t := 4) (p := 33) (v := ?vo_w11) (w1 := (wr.setCell ⟨g7, k, none⟩ (.bool true))) ?hg ?ho ?hn ?hr ?_; (case ho => rfl); (case hg => rfl); (case hn => rfl); (case hr => first | (go_simp; done) | (go_simp; rfl)); intro w11 hw; have hg : wr.grownBy w11 (some g7) := (by rw [hw]; exact HPP.out.2); have HO2 := Lib.hid (show Kd.R Kd.bool 4 w11 w.heap.size (fun _ => True) (.slice (some ⟨g7, 0, none⟩) F.length cap7) (out.set k true) from by rw [hw]; exact HPP.out.1); have HQ3 := Lib.hid (Kd.Q_over' HQ2.out (Kd.R_typed HO.out) (by decide) hg); have KB3 := (⟨blk_grown KB.out hg (Kd.R_ne HO.out KB.out (by decide))⟩ : Blk w11 _ _ _); have HB3 := Lib.hid (show Below w.heap.size w w11 from by rw [hw]; exact below_set HB.out hb7); have HRK := Lib.hid (Kd.C_below HRK0.out HB3.out); have hcc := KB3.cell 0 rfl; have hck2 := cell_bl HB3.out HCK0.out; clear hw hg hx hx7 hf7 hf hg7 hg8 KB hl7 hl8))
          have HMK := SInv.mark (from_ := fr) (may := fun _ => true) HS.out HMEM.out rfl HFL.out
          have HTM := todo_mark (out := out) (n := k) (by rw [HOL.out]; exact hkF) HO'.out rest f HF3.out
          rw [HFE.out] at HMK
          go_roundg (todo (out.set k true) (rest ++ f))
          case measure => have := HLG.out; omega
          case rel => exact ⟨out.set k true, rest ++ f, (show Hid _ from HMK), (show Hid _ from Nat.le_refl _), (show Hid _ from Nat.le_trans (Nat.le_of_lt_succ HTM) HLE.out), HO4, HQ4, HB4, KB4.out⟩

end Go.Proofs.Ytemgbakjlbdibaa.G
