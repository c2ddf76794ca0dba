import Derived.Test.YtdeefhfiamhjbaaGm
import Derived.Test.YtdeefhfiamhjbaaBA
namespace Go.Proofs.Ytdeefhfiamhjbaa.QB.BK
open Go.RowKit Go.Proofs.YtdeefhfiamhjbaaW.PrintWords Go.Proofs.Ytdeefhfiamhjbaa.G
set_option linter.unusedVariables false
/-- One field of a pair is written. -/
theorem pair_put {g n cap base : Nat} {ok : Nat → Prop} {W : World} {ys : List S74} (h : Kd.R k74 74 W base ok (.slice (some ⟨g, 0, none⟩) n cap) ys) (i : Nat) (hi : i < n) (k : Int) :
    (∃ ys', ys'.length = ys.length ∧ Kd.R k74 74 (W.setCell ⟨g, i * 2, none⟩ (.int .i64 k)) base ok (.slice (some ⟨g, 0, none⟩) n cap) ys' ∧ W.grownBy (W.setCell ⟨g, i * 2, none⟩ (.int .i64 k)) (some g)) ∧
    (∃ ys', ys'.length = ys.length ∧ Kd.R k74 74 (W.setCell ⟨g, i * 2 + 1, none⟩ (.int .i64 k)) base ok (.slice (some ⟨g, 0, none⟩) n cap) ys' ∧ W.grownBy (W.setCell ⟨g, i * 2 + 1, none⟩ (.int .i64 k)) (some g)) ∧
    (∃ u, W.cell? ⟨g, i * 2, none⟩ = some u) ∧ (∃ u, W.cell? ⟨g, i * 2 + 1, none⟩ = some u) ∧ W.frozen? ⟨g, i * 2, none⟩ = false ∧ W.frozen? ⟨g, i * 2 + 1, none⟩ = false := by
  obtain ⟨cs, hcl, hM, hcell, hfr⟩ := Kd.R_elem h z74 (i : Int) (by omega) (by omega)
  have hcs := k74_openM hM
  subst hcs
  have e : (i : Int).toNat = i := Int.toNat_natCast i
  have sz : k74.sz = 2 := rfl
  have p0 := Kd.R_seg h (i : Int) (by omega) (by omega) (j := 0) (seg := [.int .i64 k]) hcl hcell (by rw [sz]; simp) (x' := ⟨k, (ys.getD (i : Int).toNat z74).f1⟩) (okp := fun _ => False) (k74_mkM _ _ _ _) (fun _ hf => hf.elim)
  have p1 := Kd.R_seg h (i : Int) (by omega) (by omega) (j := 1) (seg := [.int .i64 k]) hcl hcell (by rw [sz]; simp) (x' := ⟨(ys.getD (i : Int).toNat z74).f0, k⟩) (okp := fun _ => False) (k74_mkM _ _ _ _) (fun _ hf => hf.elim)
  have c0 := hcell 0 _ rfl
  have c1 := hcell 1 _ rfl
  have f0 := hfr 0
  have f1 := hfr 1
  rw [e, sz] at c0 c1 f0 f1 p0 p1
  exact ⟨⟨_, by rw [List.length_set], p0.1, p0.2⟩, ⟨_, by rw [List.length_set], p1.1, p1.2⟩, ⟨_, c0⟩, ⟨_, c1⟩, f0, f1⟩
set_option maxHeartbeats 1000000 in
theorem markPairS_calls (v : Value) (xs : List S74) (k : Int) (base : Nat) (ok : Nat → Prop) (w : World) (h : Kd.R k74 74 w base ok v xs) (hl : xs.length ≤ 1048576) (hk0 : 0 ≤ k) (hk1 : k ≤ 1152921504606846976) :
    Calls Try.prog 28 #[v, .int .i64 k] w fun e w' => e = .returned (.int .i64 (k + 2 * (xs.length : Int))) ∧ Wrote w w' (fun b => v.ownBlock = some b) := by
  have hlen := Kd.R_slice h
  obtain ⟨A, c, rfl⟩ := hlen
  have HR := Lib.hid h
  clear h
  generalize hn : xs.length = n at *
  have HN := Lib.hid hn
  clear hn
  go_enter Try.func28, Try.ntmps28
  go_wp2
  go_loopg [1, 5] n (fun gg v1 v5 wr => ∃ (i : Nat) (ys : List S74), i ≤ n ∧ n - i ≤ gg ∧ v5 = .int .i64 (i : Int) ∧ v1 = .int .i64 (k + 2 * (i : Int)) ∧ Hid (ys.length = n) ∧ Hid (Kd.R k74 74 wr base ok (.slice A n c) ys) ∧ Hid (Wrote w wr (fun b => (Value.slice A n c).ownBlock = some b)))
  case atStart => exact ⟨0, xs, Nat.zero_le _, by omega, rfl, by simp, HN.out, HR.out, Wrote.refl _ _⟩
  case round =>
    obtain ⟨i, ys, hi, hg, rfl, rfl, HL, HO, HW⟩ := hrel
    by_cases hlt : i < n
    · have hltz : (i : Int) < (n : Int) := by omega
      obtain ⟨g, cap, e, hb, hl2, cl, hgb⟩ := Kd.R_form HO.out (by rw [HL.out]; omega)
      injection e with ea en ec
      subst ea ec
      clear en hgb hl2
      obtain ⟨⟨ys1, hl1, hp1, hg1⟩, _, ⟨u0, hu0⟩, _, hf0, _⟩ := pair_put HO.out i hlt (k + 2 * (i : Int))
      obtain ⟨_, ⟨ys2, hl2, hp2, hg2⟩, _, ⟨u1, hu1⟩, _, hf1⟩ := pair_put hp1 i hlt (k + 2 * (i : Int) + 1)
      have HL2 := Lib.hid (hl2.trans (hl1.trans HL.out))
      have HP2 := Lib.hid hp2
      have HW2 := Lib.hid ((HW.out.step hg1 (b := g) rfl).step hg2 (b := g) rfl)
      clear hp1 hp2 hg1 hg2 hl1 hl2
      go_wp2_with fail
      go_roundg (n - (i + 1))
      case measure => omega
      case rel => exact ⟨i + 1, ys2, by omega, by omega, by go_num, by go_num, HL2, HP2, HW2⟩
    · have : i = n := by omega
      have hltz : ¬ (i : Int) < (n : Int) := by omega
      subst this
      go_wp2
      go_ret
      exact ⟨rfl, HW.out⟩

end Go.Proofs.Ytdeefhfiamhjbaa.QB.BK
