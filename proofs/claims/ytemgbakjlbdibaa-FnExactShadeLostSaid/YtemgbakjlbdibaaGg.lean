import Derived.Test.YtemgbakjlbdibaaGf
import Derived.Lib.SliceRun
namespace Go.Proofs.Ytemgbakjlbdibaa.G
open Go.RowKit Go.Proofs.YtemgbakjlbdibaaW.PrintWords
set_option linter.unusedVariables false
/-- What a search asks of its heap and its start. -/
structure ReachOk (F : List (List Int)) (fr : List Int) : Prop where
  n : F.length ≤ 1048576
  fr : ∀ x ∈ fr, x < (F.length : Int)
  rows : ∀ f ∈ F, f.length ≤ 3 ∧ ∀ x ∈ f, x < (F.length : Int)
theorem ReachOk.row {F : List (List Int)} {fr : List Int} (h : ReachOk F fr) (k : Nat) : (F.getD k []).length ≤ 3 ∧ ∀ x ∈ F.getD k [], x < (F.length : Int) := by
  by_cases hk : k < F.length
  · have : F.getD k [] = F[k] := by simp [hk]
    rw [this]; exact h.rows _ (List.getElem_mem hk)
  · have : F.getD k [] = [] := by rw [List.getD_eq_getElem?_getD, List.getElem?_eq_none (by omega)]; rfl
    rw [this]; exact ⟨by simp, fun x hx => by cases hx⟩
theorem infoB : (Try.prog.info? 4).map (fun i => (i.zero, i.size, i.bytes)) = some (some (.bool false), 1, 1) := by kernel_rfl
theorem todo_start (F : List (List Int)) (fr : List Int) : todo (List.replicate F.length false) fr = 4 * F.length + fr.length := by
  unfold todo; rw [List.countP_replicate]; simp
set_option maxHeartbeats 2000000 in
set_option maxRecDepth 100000 in
theorem reach_calls (A0 A1 A2 : Option Addr) (c0 c1 c2 : Nat) (F : List (List Int)) (L : List Bool) (R : List Int) (A : Option Addr) (c : Nat) (fr : List Int) (w : World) (hh : HeapAt w A0 A1 A2 c0 c1 c2 F L R)
    (hr : Kd.C (Kd.int .i64) w A fr.length fr) (hc : fr.length ≤ c) (hm : fr.length ≤ 1048576) (hok : ReachOk F fr) :
    Calls Try.prog 75 #[.agg #[.slice A0 F.length c0, .slice A1 L.length c1, .slice A2 R.length c2], .slice A fr.length c, .slice none 0 0] w fun e w' => ∃ v, e = .returned v ∧ Kd.R Kd.bool 4 w' w.heap.size (fun _ => True) v (reachB F fr (fun _ => true)) ∧ Below w.heap.size w w' := by
  have hlF : F.length ≤ 1048576 := hok.n
  have HH := Lib.hid hh
  have HOK := Lib.hid hok
  have HM := Lib.hid hm
  have HC := Lib.hid hc
  have HR := Lib.hid hr
  have HB0 := Lib.hid (bl_alloc (Below.refl _ w) (.cells #[.slice A0 F.length c0, .slice A1 L.length c1, .slice A2 R.length c2] 30))
  have KB0 := Lib.hid (Blk.new w #[.slice A0 F.length c0, .slice A1 L.length c1, .slice A2 R.length c2] 30)
  clear hh hok hm hc hr
  go_enter Try.func75, Try.ntmps75
  go_wp2_with (first
    | ((with_reducible refine gate_dst (N := 13) rfl ?_); refine Kd.R_make (w0 := w) Kd.bool w.heap.size 4 rfl (N := 13) rfl 23 _ _ rfl (F.length : Int) rfl rfl Try.underlying23 (.bool false) 1 infoB rfl (by decide) (by omega) false (ok := fun _ => True) (okp := fun _ => True) rfl (fun _ hk => hk) trivial (by omega) (by omega) HB0.out HB0.out.size ?_; intro v7 w4 ho7 hb7 hg7 _; have HO7 := Lib.hid ho7; have HB7 := Lib.hid hb7; have KB7 := Lib.hid (KB0.out.bl (Below.grown (Below.refl _ _) hg7 (Nat.le_refl _) (fun k hk => by cases hk))); clear ho7 hb7 hg7)
    | (go_at_call 68; refine (Clone_ints A c fr _ (Kd.C_below HR.out HB7.out) HC.out HM.out).mono ?_; rintro e w5 ⟨v8, rfl, ho8, hb8⟩; have HO7' := Lib.hid (Kd.R_below HO7.out hb8); have HO8 := Lib.hid (Kd.R_lower ho8 HB7.out.size); have HB8 := Lib.hid (bl_trans HB7.out hb8); have KB8 := Lib.hid (KB7.out.bl hb8); clear ho8 hb8))
  have HO7s := Lib.hid (show Kd.R Kd.bool 4 w5 w.heap.size (fun _ => True) v7 (List.replicate F.length false) from by simpa using HO7'.out)
  have hq22 : ∀ W, (binOp .neq 23 (.slice none 0 0) (.slice none 0 0)).run Try.prog W = .ok (.bool false) W := fun W => run_neq_slice_nil_any W _ _ _ _ _ _ _ Try.underlying23
  clear HO7' HO7 HB7 KB7 HB0 KB0 HR HC
  go_loopg [8] (4 * F.length + fr.length) (fun gg v8 wr => ∃ (out : List Bool) (q : List Int), Hid (SInv F fr (fun _ => true) out q) ∧ Hid (todo out q ≤ gg) ∧ Hid (todo out q ≤ 4 * F.length + fr.length) ∧ Hid (Kd.R Kd.bool 4 wr w.heap.size (fun _ => True) v7 out) ∧ Hid (Kd.R (Kd.int .i64) 3 wr w.heap.size (fun _ => True) v8 q) ∧ Hid (Below w.heap.size w wr) ∧
    Blk wr w.heap.size #[.slice A0 F.length c0, .slice A1 L.length c1, .slice A2 R.length c2] 30)
  case atStart => exact ⟨_, fr, SInv.start F fr _ HOK.out.fr, Nat.le_of_eq (todo_start F fr), Nat.le_of_eq (todo_start F fr), HO7s.out, HO8.out, HB8.out, KB8.out⟩
  case round =>
    obtain ⟨out, q, HS, HG, HT, HO, HQ, HB, KB⟩ := hrel
    clear HO7s HO8 HB8 KB8
    have hqe := Kd.R_slice HQ.out
    obtain ⟨A8, c8, rfl⟩ := hqe
    by_cases hz : q.length = 0
    · obtain rfl := List.eq_nil_of_length_eq_zero hz
      clear hz
      go_wp2
      go_ret
      exact ⟨_, rfl, by rw [← HS.out.stop]; exact HO.out, HB.out⟩
    · obtain ⟨m, hq⟩ : ∃ m, q.length = m + 1 := ⟨q.length - 1, by omega⟩
      clear hz
      have hme : q = q.take m ++ [q.getD m 0] := by
        have hlt : m < q.length := by omega
        have h1 : q = q.take (m + 1) := by rw [List.take_of_length_le (by omega)]
        rw [List.take_succ_eq_append_getElem hlt] at h1
        simpa [hlt] using h1
      have HMEM := Lib.hid (show ∀ y, y ∈ q ↔ y = q.getD m 0 ∨ y ∈ q.take m from fun y => by
        constructor
        · intro hy; rw [hme] at hy; rcases List.mem_append.1 hy with h | h
          · exact .inr h
          · left; simpa using h
        · rintro (rfl | h)
          · have hlt : m < q.length := by omega
            have := List.getElem_mem hlt
            rwa [show q[m] = q.getD m 0 by simp [hlt]] at this
          · exact List.mem_of_mem_take h)
      have HTD := Lib.hid (show todo out (q.take m) + 1 = todo out q from by unfold todo; rw [List.length_take, hq]; omega)
      obtain ⟨g8, cap8, e8, hb8, hl8, cl8, hg8⟩ := Kd.R_form HQ.out (by omega)
      injection e8 with ea en ec
      subst ea ec
      clear hme en
      obtain ⟨hx, hf⟩ := Kd.R_celln 0 HQ.out (m : Int) (by omega) (by omega)
      have HQ2 := Lib.hid (Kd.R_take HQ.out (show m ≤ q.length by omega))
      have hxv : rdOf 0 q (m : Int) = q.getD m 0 := by unfold rdOf; simp
      rw [hxv, Int.toNat_natCast] at hx
      rw [Int.toNat_natCast] at hf
      clear hxv
      generalize hxx : q.getD m 0 = x at hx HMEM
      have HXX := Lib.hid hxx
      clear hxx
      have HQL := Lib.hid hq
      have hn : m < q.length := by omega
      have hn8 : q.length ≤ c8 := by
        obtain ⟨A', c', e1, e2, _⟩ := Kd.R_reads HQ.out
        injection e1 with _ _ e3
        omega
      have hw1 : IntKind.i64.wrap ((q.length : Int) - 1) = (m : Int) := by
        have h1 := HT.out; have h2 := HTD.out; have h3 := HM.out
        have h5 : q.length ≤ 4 * F.length + fr.length := by unfold todo at h1; omega
        rw [IntWalk.i64_in _ (by omega)]; omega
      clear hq
      have h1n : 0 < (q.length : Int) := by omega
      have h2n : (m : Int) < (q.length : Int) := by omega
      generalize hqn : q.length = n at *
      have HQN := Lib.hid hqn
      clear hqn
      have HLE := Lib.hid (show todo out (q.take m) ≤ 4 * F.length + fr.length from by have h1 := HT.out; have h2 := HTD.out; omega)
      have HLG := Lib.hid (show todo out (q.take m) < gk from by have h1 := HG.out; have h2 := HTD.out; omega)
      by_cases h0 : x < 0
      · go_wp2_with fail
        go_roundg (todo out (q.take m))
        case measure => exact HLG.out
        case rel => exact ⟨out, q.take m, (show Hid _ from SInv.skip HS.out HMEM.out (.inl h0)), (show Hid _ from Nat.le_refl _), HLE, HO, (show Hid _ from HQ2.out), HB, KB⟩
      · have h0' : 0 ≤ x := by omega
        have hxl : x < (F.length : Int) := HS.out.inq x ((HMEM.out x).2 (.inl rfl))
        have HOL := Lib.hid HS.out.len
        obtain ⟨g7, cap7, e7, hb7, hl7, cl7, hg7⟩ := Kd.R_form HO.out (by rw [HOL.out]; omega)
        rw [HOL.out] at e7
        subst e7
        obtain ⟨hx7, hf7⟩ := Kd.R_celln false HO.out x h0' hxl
        have hov : rdOf false out x = out.getD x.toNat false := by unfold rdOf; simp
        rw [hov] at hx7
        clear hov
        by_cases ho : out.getD x.toNat false = true
        · rw [ho] at hx7
          go_wp2_with fail
          go_roundg (todo out (q.take m))
          case measure => exact HLG.out
          case rel => exact ⟨out, q.take m, (show Hid _ from SInv.skip HS.out HMEM.out (.inr (.inl ho))), (show Hid _ from Nat.le_refl _), HLE, HO, (show Hid _ from HQ2.out), HB, KB⟩
        · have ho' : out.getD x.toNat false = false := by simpa using ho
          rw [ho'] at hx7
          clear ho
          obtain ⟨k, rfl⟩ := Int.eq_ofNat_of_zero_le h0'
          rw [Int.toNat_natCast] at hx7 hf7 ho'
          have hkF : k < F.length := by omega
          obtain ⟨ad, Ak, ck, rfl, hck, hle, hrk⟩ := at_rows HH.out.rF k hkF
          have hfe : F.getD k [] = F[k] := by simp [hkF]
          have hf3 := (HOK.out.row k).1
          have HFL := Lib.hid (HOK.out.row k).2
          rw [hfe] at hf3
          have HFE := Lib.hid hfe
          clear hfe
          generalize F[k] = f at *
          have HRK0 := Lib.hid hrk
          have HCK0 := Lib.hid hck
          have HBD := Lib.hid (show ((q.take m).length + f.length) * 8 ≤ 140737488355328 from by
            have h1 := HLE.out; have h2 := HM.out
            have h3 : (q.take m).length ≤ 4 * F.length + fr.length := by unfold todo at h1; omega
            omega)
          have HF3 := Lib.hid hf3
          have HP := Kd.R_putg HO.out (k : Int) true
          rw [Int.toNat_natCast] at HP
          have HPP := Lib.hid HP
          have HO' := Lib.hid ho'
          clear HP hrk hf3 ho'
          go_wp2_with (first
            | (at_builtin; go_loud (refine Kd.R_append_rows (Kd.int .i64) (w0 := w) w.heap.size rfl (.tmp 52) (.tmp 57) 24 3 (.int .i64 0) 8 rfl Try.underlying24 infoI rfl (by decide) (by omega) _ (q.take m) f _ f.length ck (fun _ => True) (fun _ => False) rfl rfl HQ3.out HRK.out (fun _ _ h => h) (fun _ h => h.elim) (fun _ _ => trivial) HB3.out HB3.out.size HBD.out ?_); intro v1 w1 ho hb hg hat; have HO4 := Lib.hid (Kd.R_over HO2.out HQ3.out (by decide) hg); have HQ4 := Lib.hid ho; have HB4 := Lib.hid hb; have KB4 := Lib.hid (⟨blk_grown KB3.out hg (Kd.R_ne HQ3.out KB3.out (by decide))⟩ : Blk w1 _ _ _); clear ho hb hg hat)
            | ((with_reducible refine gate_store (t := 4) (p := 51) rfl ?_); refine store_event (t := 4) (p := 51) (v := ?vo_w11) (w1 := (wr.setCell ⟨g7, k, none⟩ (.bool true))) ?hg ?ho ?hn ?hr ?_; (case ho => rfl); (case hg => rfl); (case hn => rfl); (case hr => first | (go_simp; done) | (go_simp; rfl)); intro w11 hw; have hg : wr.grownBy w11 (some g7) := (by rw [hw]; exact HPP.out.2); have HO2 := Lib.hid (show Kd.R Kd.bool 4 w11 w.heap.size (fun _ => True) (.slice (some ⟨g7, 0, none⟩) F.length cap7) (out.set k true) from by rw [hw]; exact HPP.out.1); have HQ3 := Lib.hid (Kd.R_over HQ2.out HO.out (by decide) hg); have KB3 := (⟨blk_grown KB.out hg (Kd.R_ne HO.out KB.out (by decide))⟩ : Blk w11 _ _ _); have HB3 := Lib.hid (show Below w.heap.size w w11 from by rw [hw]; exact below_set HB.out hb7); have HRK := Lib.hid (Kd.C_below HRK0.out HB3.out); have hcc := KB3.cell 0 rfl; have hck2 := cell_bl HB3.out HCK0.out; clear hw hg hx hx7 hf7 hf hg7 hg8 KB hl7 hl8))
          have HMK := SInv.mark (from_ := fr) (may := fun _ => true) HS.out HMEM.out rfl HFL.out
          have HTM := todo_mark (out := out) (n := k) (by rw [HOL.out]; exact hkF) HO'.out (q.take m) f HF3.out
          rw [HFE.out] at HMK
          go_roundg (todo (out.set k true) (q.take m ++ f))
          case measure => have := HLG.out; omega
          case rel => exact ⟨out.set k true, q.take m ++ f, (show Hid _ from HMK), (show Hid _ from Nat.le_refl _), (show Hid _ from Nat.le_trans (Nat.le_of_lt_succ HTM) HLE.out), HO4, HQ4, HB4, KB4.out⟩

end Go.Proofs.Ytemgbakjlbdibaa.G
