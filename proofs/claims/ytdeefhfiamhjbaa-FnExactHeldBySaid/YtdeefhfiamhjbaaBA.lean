import Derived.Test.YtdeefhfiamhjbaaGd
import Derived.Test.YtdeefhfiamhjbaaQBx0
namespace Go.Proofs.Ytdeefhfiamhjbaa.QB.BK
open Go.RowKit Go.Proofs.YtdeefhfiamhjbaaW.PrintWords Go.Proofs.Ytdeefhfiamhjbaa.G
set_option linter.unusedVariables false
/-- slices.IndexFunc over pairs, for whatever predicate: what the closure owes is a premise. -/
theorem IndexFunc_pairs (g : Nat) (lb : Array Value) (p : S74 → Bool) (A : Option Addr) (c : Nat) (xs : List S74) (w : World)
    (eg : ∀ args w, (callFunc g args).run Try.prog w = .ok (.enter g args) w)
    (hx : Kd.C k74 w A xs.length xs)
    (hp : ∀ (W : World) (x : S74), Below w.heap.size w W → x ∈ xs → Calls Try.prog g (#[.agg #[.int .i64 x.f0, .int .i64 x.f1]] ++ lb) W fun e w' => e = .returned (.bool (p x)) ∧ Below w.heap.size w w') :
    Calls Try.prog 103 #[.slice A xs.length c, .func (.func g) #[] lb] w fun e w' => e = .returned (.int .i64 (idxOf p xs)) ∧ Below w.heap.size w w' := by
  have hl : xs.length ≤ 9223372036854775807 := hx.2.1
  have HX := Lib.hid hx
  have HP := Lib.hid hp
  clear hx hp
  generalize hn : xs.length = n at hl
  have HN := Lib.hid hn
  clear hn
  go_enter Try.func103, Try.ntmps103
  go_wp2
  go_loopg [5, 8] n (fun gg _ i wr => ∃ kk : Nat, kk ≤ n ∧ n - kk ≤ gg ∧ i = .int .i64 kk ∧ Hid (Below w.heap.size w wr) ∧ Hid (∀ j (hj : j < xs.length), j < kk → p xs[j] = false))
  case atStart => exact ⟨0, Nat.zero_le _, by omega, rfl, Below.refl _ w, fun j _ hj => absurd hj (Nat.not_lt_zero _)⟩
  case round =>
    obtain ⟨kk, hkk, hg, rfl, HB, HA⟩ := hrel
    by_cases hlt : kk < n
    · have hltz : (kk : Int) < (n : Int) := by omega
      have hkx : kk < xs.length := by rw [HN.out]; exact hlt
      obtain ⟨ad, rfl, q0, q1⟩ := at_T74 HX.out (kk : Int) (by omega) (by omega)
      simp only [Int.toNat_natCast] at q0 q1
      replace q0 := cell_bl HB.out q0
      replace q1 := cell_bl HB.out q1
      have hv : rd_T74 xs (kk : Int) = xs[kk] := by unfold rd_T74; simp [hkx]
      rw [hv] at q0 q1
      have hcall := HP.out wr xs[kk] HB.out (List.getElem_mem hkx)
      generalize hy : xs[kk] = y at q0 q1 hcall
      have HY := Lib.hid hy
      clear hy hv
      cases hq : p y with
      | true =>
        rw [hq] at hcall
        have HC := Lib.hid hcall
        clear hcall
        go_wp2_with (go_at_fn g; refine HC.out.mono ?_; rintro e w' ⟨rfl, hb'⟩)
        go_ret
        refine ⟨?_, hb'⟩
        rw [idxOf_hit p xs kk hkx (by rw [HY.out]; exact hq) (fun j hj => HA.out j _ hj)]
        rfl
      | false =>
        rw [hq] at hcall
        have HC := Lib.hid hcall
        clear hcall
        go_wp2_with (go_at_fn g; refine HC.out.mono ?_; rintro e w' ⟨rfl, hb'⟩)
        go_roundg (n - (kk + 1))
        case measure => omega
        case rel =>
          refine ⟨kk + 1, by omega, by omega, by go_num, hb', (show Hid _ from fun j hjx hj => ?_)⟩
          by_cases e : j = kk
          · subst e
            rw [HY.out]; exact hq
          · exact HA.out j hjx (by omega)
    · have hltz : ¬ (kk : Int) < (n : Int) := by omega
      have : kk = n := by omega
      subst this
      go_wp2
      go_ret
      refine ⟨?_, HB.out⟩
      rw [idxOf_miss p xs (fun j hj => HA.out j hj (by rw [HN.out] at hj; exact hj))]
      rfl

/-- slices.ContainsFunc over pairs. -/
theorem ContainsFunc_pairs (g : Nat) (lb : Array Value) (p : S74 → Bool) (A : Option Addr) (c : Nat) (xs : List S74) (w : World)
    (eg : ∀ args w, (callFunc g args).run Try.prog w = .ok (.enter g args) w)
    (hx : Kd.C k74 w A xs.length xs)
    (hp : ∀ (W : World) (x : S74), Below w.heap.size w W → x ∈ xs → Calls Try.prog g (#[.agg #[.int .i64 x.f0, .int .i64 x.f1]] ++ lb) W fun e w' => e = .returned (.bool (p x)) ∧ Below w.heap.size w w') :
    Calls Try.prog 89 #[.slice A xs.length c, .func (.func g) #[] lb] w fun e w' => e = .returned (.bool (xs.any p)) ∧ Below w.heap.size w w' := by
  have HC := Lib.hid (IndexFunc_pairs g lb p A c xs w eg hx hp)
  clear hx hp
  have HI := Lib.hid (idxOf_any p xs)
  generalize idxOf p xs = i at HC HI
  go_enter Try.func89, Try.ntmps89
  go_wp2_with (go_at_call 103; refine HC.out.mono ?_; rintro e w' ⟨rfl, hb'⟩)
  go_ret
  refine ⟨?_, hb'⟩
  rw [← HI.out]
  rfl
/-- Is an object live? -/
def isLiveB (L : List Bool) (k : Int) : Bool := decide (0 ≤ k) && L.getD k.toNat false
/-- Are a heap and a list of pairs valid? -/
def goodPairsB (F : List (List Int)) (L : List Bool) (R : List Int) (l : List S74) : Bool :=
  goodHeapB F L R 12 && decide ((l.length : Int) ≤ 10) && l.all fun p => isLiveB L p.f0 && isLiveB L p.f1

theorem isHeap_calls (A0 A1 A2 : Option Addr) (c0 c1 c2 : Nat) (F : List (List Int)) (L : List Bool) (R : List Int) (w : World) (hh : HeapAt w A0 A1 A2 c0 c1 c2 F L R) :
    Calls Try.prog 79 #[.agg #[.slice A0 F.length c0, .slice A1 L.length c1, .slice A2 R.length c2]] w fun e w' => e = .returned (.bool (goodHeapB F L R 12)) ∧ Below w.heap.size w w' := by
  have hB := bl_alloc (Below.refl _ w) (.cells #[.slice A0 F.length c0, .slice A1 L.length c1, .slice A2 R.length c2] 31)
  have HC := Lib.hid (isHeapOf_calls A0 A1 A2 c0 c1 c2 F L R 12 _ (hh.below hB))
  have HB := Lib.hid hB
  clear hh hB
  generalize goodHeapB F L R 12 = r at HC ⊢
  go_enter Try.func79, Try.ntmps79
  go_wp2_with (go_at_call 97; refine HC.out.mono ?_; rintro e w' ⟨rfl, hb'⟩)
  go_ret
  exact ⟨rfl, bl_trans HB.out hb'⟩

theorem arePairs_fn (b : Nat) (A0 A1 A2 : Option Addr) (c0 c1 c2 : Nat) (F : List (List Int)) (L : List Bool) (R : List Int) (x : S74) (w : World) (hh : HeapAt w A0 A1 A2 c0 c1 c2 F L R)
    (hb : Blk w b #[.slice A0 F.length c0, .slice A1 L.length c1, .slice A2 R.length c2] 31) :
    Calls Try.prog 90 (#[.agg #[.int .i64 x.f0, .int .i64 x.f1]] ++ #[.pointer (some ⟨b, 0, none⟩)]) w fun e w' => e = .returned (.bool (!(isLiveB L x.f0 && isLiveB L x.f1))) ∧ Below w.heap.size w w' := by
  have hB := bl_alloc (Below.refl _ w) (.cells #[.int .i64 x.f0, .int .i64 x.f1] 74)
  have k0 := cell_alloc (hb.cell 0 rfl) (.cells #[.int .i64 x.f0, .int .i64 x.f1] 74)
  have k1 := cell_alloc (hb.cell 1 rfl) (.cells #[.int .i64 x.f0, .int .i64 x.f1] 74)
  have k2 := cell_alloc (hb.cell 2 rfl) (.cells #[.int .i64 x.f0, .int .i64 x.f1] 74)
  have hlt := hb.lt
  have HL0 := Lib.hid (isLive_calls A0 A1 A2 c0 c1 c2 F L R x.f0 _ (hh.below hB))
  have HL1 := Lib.hid (fun (W : World) (hbW : Below w.heap.size w W) => isLive_calls A0 A1 A2 c0 c1 c2 F L R x.f1 W (hh.below hbW))
  have K := Lib.hid (show Blk (w.alloc (.cells #[.int .i64 x.f0, .int .i64 x.f1] 74)) b #[.slice A0 F.length c0, .slice A1 L.length c1, .slice A2 R.length c2] 31 from hb.bl hB)
  have KN := Lib.hid (Blk.new w #[.int .i64 x.f0, .int .i64 x.f1] 74)
  have HB := Lib.hid hB
  clear hh hb hB
  change Hid (Calls Try.prog _ _ _ fun e w' => e = .returned (.bool (isLiveB L x.f0)) ∧ _) at HL0
  change Hid (∀ W : World, Below w.heap.size w W → Calls Try.prog _ _ W fun e w' => e = .returned (.bool (isLiveB L x.f1)) ∧ _) at HL1
  generalize isLiveB L x.f1 = r1 at HL1 ⊢
  generalize hr0 : isLiveB L x.f0 = r0 at HL0 ⊢
  clear hr0
  cases r0 with
  | false =>
    go_enter Try.func90, Try.ntmps90
    go_wp2_with (go_at_call 69; refine HL0.out.mono ?_; rintro e w' ⟨rfl, hb'⟩)
    go_ret
    exact ⟨rfl, bl_trans HB.out hb'⟩
  | true =>
    go_enter Try.func90, Try.ntmps90
    go_wp2_with (go_at_call 69; first | (refine (HL1.out _ HB'.out).mono ?_; rintro e w' ⟨rfl, hb2⟩) | (refine HL0.out.mono ?_; rintro e w' ⟨rfl, hb'⟩; have k0' := (K.out.bl hb').cell 0 rfl; have k1' := (K.out.bl hb').cell 1 rfl; have k2' := (K.out.bl hb').cell 2 rfl; have k3' := (KN.out.bl hb').cell 1 rfl; have HB' := Lib.hid (bl_trans HB.out hb'); clear hb'))
    go_ret
    exact ⟨rfl, bl_trans HB'.out hb2⟩

theorem arePairs_calls (A0 A1 A2 : Option Addr) (c0 c1 c2 : Nat) (F : List (List Int)) (L : List Bool) (R : List Int) (A : Option Addr) (c : Nat) (l : List S74) (w : World) (hh : HeapAt w A0 A1 A2 c0 c1 c2 F L R) (hr : Kd.C k74 w A l.length l) (hc : l.length ≤ c) :
    Calls Try.prog 61 #[.agg #[.slice A0 F.length c0, .slice A1 L.length c1, .slice A2 R.length c2], .slice A l.length c] w fun e w' => e = .returned (.bool (goodPairsB F L R l)) ∧ Below w.heap.size w w' := by
  have hll : l.length ≤ 9223372036854775807 := hr.2.1
  have hB := bl_alloc (Below.refl _ w) (.cells #[.slice A0 F.length c0, .slice A1 L.length c1, .slice A2 R.length c2] 31)
  have HG := Lib.hid (isHeap_calls A0 A1 A2 c0 c1 c2 F L R _ (hh.below hB))
  have KN := Lib.hid (Blk.new w #[.slice A0 F.length c0, .slice A1 L.length c1, .slice A2 R.length c2] 31)
  have HP := Lib.hid (fun (W : World) (hbW : Below w.heap.size w W) (hk : Blk W w.heap.size #[.slice A0 F.length c0, .slice A1 L.length c1, .slice A2 R.length c2] 31) =>
    ContainsFunc_pairs 90 #[.pointer (some ⟨w.heap.size, 0, none⟩)] (fun x => !(isLiveB L x.f0 && isLiveB L x.f1)) A c l W (enters_of Try.func90 (by kernel_rfl) rfl) (Kd.C_below hr hbW)
      (fun W2 x hb2 _ => (arePairs_fn w.heap.size A0 A1 A2 c0 c1 c2 F L R x W2 (hh.below (bl_trans hbW hb2)) (hk.bl hb2)).mono fun e w' ⟨he, hb'⟩ => ⟨he, bl_trans hb2 hb'⟩))
  have hany : (l.all fun p => isLiveB L p.f0 && isLiveB L p.f1) = !(l.any fun x => !(isLiveB L x.f0 && isLiveB L x.f1)) := by rw [List.not_any_eq_all_not]; simp
  unfold goodPairsB
  rw [hany]
  clear hany
  have HB := Lib.hid hB
  clear hB hh hr
  generalize (l.any fun x => !(isLiveB L x.f0 && isLiveB L x.f1)) = r at HP ⊢
  generalize goodHeapB F L R 12 = g at HG ⊢
  cases g with
  | false =>
    go_enter Try.func61, Try.ntmps61
    go_wp2_with (go_at_call 79; refine HG.out.mono ?_; rintro e w' ⟨rfl, hb'⟩)
    go_ret
    exact ⟨rfl, bl_trans HB.out hb'⟩
  | true =>
    by_cases h : (l.length : Int) ≤ 10
    · rw [decide_eq_true h, Bool.true_and, Bool.true_and]
      go_enter Try.func61, Try.ntmps61
      go_wp2_with (first | (go_at_call 79; refine HG.out.mono ?_; rintro e w' ⟨rfl, hb'⟩; have HB' := Lib.hid (bl_trans HB.out hb'); have KN' := Lib.hid (KN.out.bl hb'); clear hb') | (go_at_call 89; refine (HP.out _ HB'.out KN'.out).mono ?_; rintro e w' ⟨rfl, hb2⟩))
      go_ret
      exact ⟨rfl, bl_trans HB'.out hb2⟩
    · rw [decide_eq_false h]
      go_enter Try.func61, Try.ntmps61
      go_wp2_with (go_at_call 79; refine HG.out.mono ?_; rintro e w' ⟨rfl, hb'⟩)
      go_ret
      exact ⟨by simp, bl_trans HB.out hb'⟩

end Go.Proofs.Ytdeefhfiamhjbaa.QB.BK
