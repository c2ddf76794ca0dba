import Derived.Test.YtemgbakjlbdibaaGco
import Derived.Test.YtemgbakjlbdibaaGh
namespace Go.Proofs.Ytemgbakjlbdibaa.G
open Go.RowKit Go.Proofs.YtemgbakjlbdibaaW.PrintWords Go.Proofs.YtemgbakjlbdibaaW.PrintLast
set_option linter.unusedVariables false
set_option linter.unusedSimpArgs false
/-- How often each object is named in a list. -/
def countsB (n : Nat) (xs : List Int) : List Int := (List.range n).map fun k : Nat => ((xs.countP (fun x => x == (k : Int)) : Nat) : Int)
theorem countsB_length (n : Nat) (xs : List Int) : (countsB n xs).length = n := by simp [countsB]
theorem countsB_nil (n : Nat) : countsB n [] = List.replicate n 0 := by
  apply List.ext_getElem
  · simp [countsB]
  · intro k h1 h2; simp [countsB]
theorem countsB_get (n : Nat) (xs : List Int) (k : Nat) (hk : k < n) : (countsB n xs).getD k 0 = ((xs.countP (fun x => x == (k : Int)) : Nat) : Int) := by simp [countsB, hk]
theorem countsB_le (n : Nat) (xs : List Int) (k : Nat) : 0 ≤ (countsB n xs).getD k 0 ∧ (countsB n xs).getD k 0 ≤ xs.length := by
  by_cases hk : k < n
  · rw [countsB_get n xs k hk]
    have := List.countP_le_length (p := fun x => x == (k : Int)) (l := xs)
    omega
  · rw [List.getD_eq_getElem?_getD, List.getElem?_eq_none (by rw [countsB_length]; omega)]
    simp
theorem countsB_neg (n : Nat) (xs : List Int) (x : Int) (hx : x < 0) : countsB n (xs ++ [x]) = countsB n xs := by
  unfold countsB
  apply List.map_congr_left
  intro k _
  rw [List.countP_append, List.countP_singleton, if_neg (by simp; omega)]
  rfl
theorem countsB_snoc (n : Nat) (xs : List Int) (k : Nat) (hk : k < n) : countsB n (xs ++ [(k : Int)]) = (countsB n xs).set k ((countsB n xs).getD k 0 + 1) := by
  apply List.ext_getElem
  · simp [countsB]
  · intro j h1 h2
    have hj : j < n := by rw [countsB_length] at h1; exact h1
    rw [List.getElem_set]
    by_cases e : k = j
    · subst e
      rw [if_pos rfl, countsB_get n xs k hk]
      simp only [countsB, List.getElem_map, List.getElem_range]
      rw [List.countP_append, List.countP_singleton, if_pos (by simp)]
      omega
    · rw [if_neg e]
      simp only [countsB, List.getElem_map, List.getElem_range]
      rw [List.countP_append, List.countP_singleton, if_neg (by simp; omega)]
      omega
/-- A new row of two rows. -/
theorem C_two (W : World) (e : Nat) (B1 B2 : Option Addr) (c1 c2 : Nat) (xs ys : List Int) (h1 : Kd.C (Kd.int .i64) W B1 xs.length xs) (l1 : xs.length ≤ c1) (h2 : Kd.C (Kd.int .i64) W B2 ys.length ys) (l2 : ys.length ≤ c2) :
    Kd.C (Kd.slice 3 (Kd.int .i64)) (W.alloc (.cells #[.slice B1 xs.length c1, .slice B2 ys.length c2] e)) (some ⟨W.heap.size, 0, none⟩) 2 [xs, ys] := by
  have hb := bl_alloc (Below.refl W.heap.size W) (.cells #[.slice B1 xs.length c1, .slice B2 ys.length c2] e)
  refine ⟨rfl, by decide, fun _ => ⟨_, rfl, fun j p hj => ?_⟩⟩
  match j, hj with
  | 0, hj =>
    obtain rfl : xs = p := by simpa using hj
    refine ⟨[.slice B1 xs.length c1], rfl, ⟨B1, c1, rfl, l1, Kd.C_below h1 hb⟩, fun i u hu => ?_⟩
    cases i with
    | zero =>
      obtain rfl : Value.slice B1 xs.length c1 = u := by simpa using hu
      rw [add_at]
      exact (Blk.new W #[.slice B1 xs.length c1, .slice B2 ys.length c2] e).cell 0 rfl
    | succ i => simp at hu
  | 1, hj =>
    obtain rfl : ys = p := by simpa using hj
    refine ⟨[.slice B2 ys.length c2], rfl, ⟨B2, c2, rfl, l2, Kd.C_below h2 hb⟩, fun i u hu => ?_⟩
    cases i with
    | zero =>
      obtain rfl : Value.slice B2 ys.length c2 = u := by simpa using hu
      rw [add_at]
      exact (Blk.new W #[.slice B1 xs.length c1, .slice B2 ys.length c2] e).cell 1 rfl
    | succ i => simp at hu
  | j + 2, hj => simp at hj
theorem flatten_len (F : List (List Int)) (h : ∀ f ∈ F, f.length ≤ 3) : F.flatten.length ≤ 3 * F.length := by
  induction F with
  | nil => simp
  | cons f F ih =>
    have h1 := h f (by simp)
    have h2 := ih (fun g hg => h g (List.mem_cons_of_mem _ hg))
    simp only [List.flatten_cons, List.length_append, List.length_cons]; omega
set_option maxHeartbeats 2000000 in
set_option maxRecDepth 100000 in
theorem counts_calls (A0 A1 A2 : Option Addr) (c0 c1 c2 : Nat) (F : List (List Int)) (L : List Bool) (R : List Int) (w : World) (hh : HeapAt w A0 A1 A2 c0 c1 c2 F L R) (hok : okFrom F R = true) (hLF : L.length = F.length) (hF12 : F.length ≤ 12) (hR4 : R.length ≤ 4) :
    Calls Try.prog 61 #[.agg #[.slice A0 F.length c0, .slice A1 L.length c1, .slice A2 R.length c2]] w fun e w' => ∃ v, e = .returned v ∧ Kd.R (Kd.int .i64) 3 w' w.heap.size (fun _ => True) v (countsB F.length (F.flatten ++ R)) ∧ Below w.heap.size w w' := by
  obtain ⟨ok, hm⟩ := okFrom_iff.1 hok
  have hfl := flatten_len F (fun f hf => (ok.rows f hf).1)
  have HH := Lib.hid hh
  obtain ⟨fl, hfl0⟩ : ∃ fl, fl = F.flatten := ⟨_, rfl⟩
  have HFLT := Lib.hid hfl0
  have HX := Lib.hid (show ∀ x ∈ fl ++ R, x < (F.length : Int) from fun x hx => (List.mem_append.1 hx).elim (fun h => by rw [hfl0] at h; obtain ⟨f, hf, hx⟩ := List.mem_flatten.1 h; exact (ok.rows f hf).2 x hx) (ok.fr x))
  have HB0 := Lib.hid (bl_alloc (Below.refl _ w) (.cells #[.slice A0 F.length c0, .slice A1 L.length c1, .slice A2 R.length c2] 30))
  have KB0 := Lib.hid (Blk.new w #[.slice A0 F.length c0, .slice A1 L.length c1, .slice A2 R.length c2] 30)
  have HFL := Lib.hid (show fl.length ≤ 36 from by rw [hfl0]; omega)
  have HFB := Lib.hid hh.cF
  rw [hLF] at HB0 KB0 ⊢
  have hL1 : L.length ≤ c1 := hh.cL
  clear hh hok ok hm hfl hL1 hfl0
  have k0 := KB0.out.cell 1 rfl
  go_enter Try.func61, Try.ntmps61
  go_wp2_with ((with_reducible refine gate_dst (N := 9) rfl ?_); refine Kd.R_make (w0 := w) (Kd.int .i64) w.heap.size 3 rfl (N := 9) rfl 24 _ _ rfl (F.length : Int) rfl rfl Try.underlying24 (.int .i64 0) 8 infoI rfl (by decide) (by omega) 0 (ok := fun _ => True) (okp := fun _ => True) rfl (fun _ hk => hk) trivial (by omega) (by omega) HB0.out HB0.out.size ?_; intro v3 w4 ho7 hb7 hg7 _; have HO4 := Lib.hid ho7; have HB4 := Lib.hid hb7; have KB4 := Lib.hid (KB0.out.bl (Below.grown (Below.refl _ _) hg7 (Nat.le_refl _) (fun k hk => by cases hk))); clear ho7 hb7 hg7)
  have hbd := bl_drew (Below.refl w4.heap.size w4)
  have HO5 := Lib.hid (Kd.R_below HO4.out hbd)
  have HB5 := Lib.hid (bl_trans HB4.out hbd)
  have KB5 := Lib.hid (KB4.out.bl hbd)
  clear hbd
  refine start_ (n := 9) (S := fun w' => w'.cell? ⟨w.heap.size, 0, none⟩ = some (.slice A0 F.length c0) ∧ w'.cell? ⟨w.heap.size, 2, none⟩ = some (.slice A2 R.length c2)) (ds := []) #[false, false, false, false, false, false, false, false, false] (by kernel_rfl) rfl rfl ⟨KB5.out.cell 0 rfl, KB5.out.cell 2 rfl⟩ (fun hHeld => ?_)
  generalize w4.drew = w5 at HO5 HB5 KB5 hHeld ⊢
  refine pure_ (i := 0) (N := some 10) (v := ?_) (a' := ?_) #[true, false, false, false, false, false, false, false, false] rfl rfl (by kernel_rfl) (fun _ _ _ h => h) (Or.inl ⟨by rfl, ?_⟩) ?_ ?_
  rotate_left
  · intro w'
    go_simp
    with_reducible rfl
  rotate_left
  · simp only [Act.put, List.setIfInBounds_toArray, List.set_cons_zero, List.set_cons_succ, i64_w, i32_w]
    rfl
  refine take_ (i := 1) (N := some 11) (v := ?_) (a' := ?_) #[true, true, false, false, false, false, false, false, false] rfl rfl (by kernel_rfl) (fun _ _ _ h => h) (Or.inl ⟨by rfl, ?_⟩) hHeld ?_ ?_
  rotate_left
  · rintro w' ⟨s0, s1⟩
    go_simp
    with_reducible rfl
  rotate_left
  · simp only [Act.put, List.setIfInBounds_toArray, List.set_cons_zero, List.set_cons_succ, i64_w, i32_w]
    rfl
  refine pure_ (i := 3) (N := some 13) (v := ?_) (a' := ?_) #[true, true, false, true, false, false, false, false, false] rfl rfl (by kernel_rfl) (fun _ _ _ h => h) (Or.inl ⟨by rfl, ?_⟩) ?_ ?_
  rotate_left
  · intro w'
    go_simp
    with_reducible rfl
  rotate_left
  · simp only [Act.put, List.setIfInBounds_toArray, List.set_cons_zero, List.set_cons_succ, i64_w, i32_w]
    rfl
  refine take_ (i := 4) (N := some 14) (v := ?_) (a' := ?_) #[true, true, false, true, true, false, false, false, false] rfl rfl (by kernel_rfl) (fun _ _ _ h => h) (Or.inl ⟨by rfl, ?_⟩) hHeld ?_ ?_
  rotate_left
  · rintro w' ⟨s0, s1⟩
    go_simp
    with_reducible rfl
  rotate_left
  · simp only [Act.put, List.setIfInBounds_toArray, List.set_cons_zero, List.set_cons_succ, i64_w, i32_w]
    rfl
  refine pure_ (i := 8) (N := some 18) (v := ?_) (a' := ?_) #[true, true, false, true, true, false, false, false, true] rfl rfl (by kernel_rfl) (fun _ _ _ h => h) (Or.inl ⟨by rfl, ?_⟩) ?_ ?_
  rotate_left
  · intro w'
    go_simp
    with_reducible rfl
  rotate_left
  · simp only [Act.put, List.setIfInBounds_toArray, List.set_cons_zero, List.set_cons_succ, i64_w, i32_w]
    rfl
  refine one_ (i := 2) (N := some 12) #[true, true, true, true, true, false, false, false, true] rfl rfl (by kernel_rfl) (by decide) (fun K2 hK => ?_)
  refine goes_ Try.func96 (by kernel_rfl) rfl #[.slice A0 F.length c0] (by rfl) rfl rfl (by (try simp only [List.map_toArray, List.map_cons, List.map_nil]); first | done | rfl | (simp only [List.length_drop, List.length_take]; rfl)) ?_
  refine (Concat_calls A0 c0 F _ (Kd.C_below HH.out.rF HB5.out) (by omega) (by rw [← HFLT.out]; have := HFL.out; omega)).mono ?_
  rintro e w6 ⟨v12, rfl, ho, hb⟩
  rw [← HFLT.out] at ho
  refine ⟨_, rfl, ?_⟩
  obtain ⟨A12, c12, rfl⟩ := Kd.R_slice ho
  have HO6 := Lib.hid (Kd.R_below HO5.out hb)
  have HB6 := Lib.hid (bl_trans HB5.out hb)
  have KB6 := Lib.hid (KB5.out.bl hb)
  have HR6 := Lib.hid (Kd.R_reads' ho)
  clear ho hb
  refine hK.out _ _ ⟨KB6.out.cell 0 rfl, KB6.out.cell 2 rfl⟩ (fun hHeld => ?_)
  clear hK K2
  refine norm_ (a' := ?_) ?_ ?_
  rotate_left
  · show Act.put _ (some 12) _ = _
    simp only [Act.put, List.setIfInBounds_toArray, List.set_cons_zero, List.set_cons_succ, i64_w, i32_w]
    rfl
  have h2R := Kd.C_below HH.out.rR HB6.out
  have C2 := Lib.hid (C_two w6 24 A12 A2 c12 c2 fl R HR6.out.2.2 HR6.out.2.1 h2R HH.out.cR)
  have hba := bl_alloc (Below.refl w6.heap.size w6) (.cells #[.slice A12 fl.length c12, .slice A2 R.length c2] 24)
  have HO7 := Lib.hid (Kd.R_below HO6.out hba)
  have HB7 := Lib.hid (bl_trans HB6.out hba)
  have KB7 := Lib.hid (KB6.out.bl hba)
  clear hba h2R
  refine one_ (i := 5) (N := some 15) #[true, true, true, true, true, true, false, false, true] rfl rfl (by kernel_rfl) (by decide) (fun K2 hK => ?_)
  refine event_step (v := .slice (some ⟨w6.heap.size, 0, none⟩) 2 2) (w1 := w6.alloc (.cells #[.slice A12 fl.length c12, .slice A2 R.length c2] 24)) rfl (by go_simp) ?_
  generalize hw7 : w6.alloc (.cells #[.slice A12 fl.length c12, .slice A2 R.length c2] 24) = w7 at C2 HO7 HB7 KB7 ⊢
  refine hK.out _ _ ⟨KB7.out.cell 0 rfl, KB7.out.cell 2 rfl⟩ (fun hHeld => ?_)
  clear hK K2
  refine norm_ (a' := ?_) ?_ ?_
  rotate_left
  · show Act.put _ (some 15) _ = _
    simp only [Act.put, List.setIfInBounds_toArray, List.set_cons_zero, List.set_cons_succ, i64_w, i32_w]
    rfl
  refine one_ (i := 6) (N := some 16) #[true, true, true, true, true, true, true, false, true] rfl rfl (by kernel_rfl) (by decide) (fun K2 hK => ?_)
  refine goes_ Try.func96 (by kernel_rfl) rfl #[.slice (some ⟨w6.heap.size, 0, none⟩) 2 2] (by rfl) rfl rfl (by (try simp only [List.map_toArray, List.map_cons, List.map_nil]); first | done | rfl | (simp only [List.length_drop, List.length_take]; rfl)) ?_
  refine (Concat_calls (some ⟨w6.heap.size, 0, none⟩) 2 [fl, R] _ C2.out (by simp) (by rw [show [fl, R].flatten = fl ++ R by simp, List.length_append]; have := HFL.out; omega)).mono ?_
  rintro e w8 ⟨v16, rfl, ho, hb⟩
  refine ⟨_, rfl, ?_⟩
  rw [show [fl, R].flatten = fl ++ R by simp] at ho
  obtain ⟨xs, hxs⟩ : ∃ xs, xs = fl ++ R := ⟨_, rfl⟩
  have hn40 : xs.length ≤ 40 := by rw [hxs, List.length_append]; have := HFL.out; omega
  rw [← hxs] at ho HX
  have HXS := Lib.hid hxs
  clear hxs
  obtain ⟨A16, c16, rfl⟩ := Kd.R_slice ho
  have HO8 := Lib.hid (show Kd.R (Kd.int .i64) 3 w8 w.heap.size (fun _ => True) v3 (countsB F.length []) from by have h := Kd.R_below HO7.out hb; rw [countsB_nil]; simpa using h)
  have HB8 := Lib.hid (bl_trans HB7.out hb)
  have KB8 := Lib.hid (KB7.out.bl hb)
  have HV8 := Lib.hid ho
  have HSZ := Lib.hid (Kd.R_lt HO7.out)
  clear ho hb hw7
  refine hK.out _ _ ⟨KB8.out.cell 0 rfl, KB8.out.cell 2 rfl⟩ (fun hHeld => ?_)
  clear hK K2
  refine norm_ (a' := ?_) ?_ ?_
  rotate_left
  · show Act.put _ (some 16) _ = _
    simp only [Act.put, List.setIfInBounds_toArray, List.set_cons_zero, List.set_cons_succ, i64_w, i32_w]
    rfl
  refine pure_ (i := 7) (N := some 17) (v := ?_) (a' := ?_) #[true, true, true, true, true, true, true, true, true] rfl rfl (by kernel_rfl) (fun _ _ _ h => h) (Or.inl ⟨by rfl, ?_⟩) ?_ ?_
  rotate_left
  · intro w'
    go_simp
    with_reducible rfl
  rotate_left
  · simp only [Act.put, List.setIfInBounds_toArray, List.set_cons_zero, List.set_cons_succ, i64_w, i32_w]
    rfl
  refine done_ (by kernel_rfl) ?_
  clear HO4 HB4 KB4 HO5 HB5 KB5 HO6 HB6 KB6 HO7 HB7 KB7 C2 HR6 hHeld KB8
  go_wp2_with fail
  go_loopg [18] xs.length (fun gg v18 wr => ∃ i : Nat, i ≤ xs.length ∧ xs.length - i ≤ gg ∧ v18 = .int .i64 (i : Int) ∧ Hid (Kd.R (Kd.int .i64) 3 wr w.heap.size (fun _ => True) v3 (countsB F.length (xs.take i))) ∧ Hid (Kd.R (Kd.int .i64) 3 wr w7.heap.size (fun _ => True) (.slice A16 xs.length c16) xs) ∧ Hid (Below w.heap.size w wr))
  case atStart => exact ⟨0, Nat.zero_le _, by omega, rfl, HO8, HV8, HB8⟩
  case round =>
    obtain ⟨i, hi, hg, rfl, HO, HV, HB⟩ := hrel
    clear HO8 HV8 HB8
    by_cases hlt : i < xs.length
    · have hltz : (i : Int) < (xs.length : Int) := by omega
      obtain ⟨g16, cap16, e16, hb16, hl16, cl16, hg16⟩ := Kd.R_form HV.out (by omega)
      injection e16 with ea en ec
      subst ea ec
      clear en
      obtain ⟨hx, hf⟩ := Kd.R_celln 0 HV.out (i : Int) (by omega) hltz
      have hxv : rdOf 0 xs (i : Int) = xs.getD i 0 := by unfold rdOf; simp
      rw [hxv, Int.toNat_natCast] at hx
      rw [Int.toNat_natCast] at hf
      have hxl : xs.getD i 0 < (F.length : Int) := HX.out _ (by simp [hlt])
      have htk : xs.take (i + 1) = xs.take i ++ [xs.getD i 0] := by rw [List.take_succ_eq_append_getElem hlt]; simp [hlt]
      have HTK := Lib.hid htk
      clear hxv htk
      generalize xs.getD i 0 = x at hx hxl HTK
      by_cases hx0 : 0 ≤ x
      · obtain ⟨k, rfl⟩ := Int.eq_ofNat_of_zero_le hx0
        have hk : k < F.length := by omega
        obtain ⟨g3, cap3, e3, hb3, hl3, cl3, hg3⟩ := Kd.R_form HO.out (by rw [countsB_length]; omega)
        rw [countsB_length] at e3
        subst e3
        obtain ⟨hy, hfy⟩ := Kd.R_celln 0 HO.out (k : Int) (by omega) hxl
        have hyv : rdOf 0 (countsB F.length (xs.take i)) (k : Int) = (countsB F.length (xs.take i)).getD k 0 := by unfold rdOf; simp
        rw [hyv, Int.toNat_natCast] at hy
        rw [Int.toNat_natCast] at hfy
        have hle := countsB_le F.length (xs.take i) k
        have hlt2 : (xs.take i).length ≤ 40 := by rw [List.length_take]; omega
        have hsn := countsB_snoc F.length (xs.take i) k hk
        rw [← HTK.out] at hsn
        have hpp := Kd.R_putg HO.out (k : Int) ((countsB F.length (xs.take i)).getD k 0 + 1)
        rw [Int.toNat_natCast, ← hsn] at hpp
        have HPP := Lib.hid hpp
        clear hpp hsn hyv
        generalize (countsB F.length (xs.take i)).getD k 0 = y at hy hle HPP
        have hy0 := hle.1
        have hy1 : y ≤ 40 := by omega
        have hne : some g3 ≠ (Value.slice (some ⟨g16, 0, none⟩) xs.length c16).ownBlock := fun e => by
          have h1 := HSZ.out g3 rfl
          have : some g3 = some g16 := e
          injection this with this
          omega
        clear hle hlt2
        go_wp2_with ((with_reducible refine gate_store (t := 3) (p := 29) rfl ?_); refine store_event (t := 3) (p := 29) (v := ?vo_w11) (w1 := (wr.setCell ⟨g3, k, none⟩ (.int .i64 (y + 1)))) ?hg ?ho ?hn ?hr ?_; (case ho => rfl); (case hg => rfl); (case hn => rfl); (case hr => first | (go_simp; done) | (go_simp; rfl)); intro w11 hw; have hg5 : wr.grownBy w11 (some g3) := (by rw [hw]; exact HPP.out.2); have HO6 := Lib.hid (show Kd.R (Kd.int .i64) 3 w11 w.heap.size (fun _ => True) (.slice (some ⟨g3, 0, none⟩) F.length cap3) (countsB F.length (xs.take (i + 1))) from by rw [hw]; exact HPP.out.1); have HV6 := Lib.hid (Kd.R_grown1 HV.out rfl hg5 hne); have HB6 := Lib.hid (show Below w.heap.size w w11 from by rw [hw]; exact below_set HB.out hb3); clear hw hg5)
        go_roundg (xs.length - (i + 1))
        case measure => omega
        case rel => exact ⟨i + 1, by omega, by omega, by go_num, HO6, HV6, HB6⟩
      · have hxn : x < 0 := by omega
        have hsn := countsB_neg F.length (xs.take i) x hxn
        rw [← HTK.out] at hsn
        have HO6 := Lib.hid (show Kd.R (Kd.int .i64) 3 wr w.heap.size (fun _ => True) v3 (countsB F.length (xs.take (i + 1))) from by rw [hsn]; exact HO.out)
        clear hsn
        go_wp2_with fail
        go_roundg (xs.length - (i + 1))
        case measure => omega
        case rel => exact ⟨i + 1, by omega, by omega, by go_num, HO6, HV, HB⟩
    · have : i = xs.length := by omega
      have hltz : ¬ (i : Int) < (xs.length : Int) := by omega
      have HO9 := Lib.hid (show Kd.R (Kd.int .i64) 3 wr w.heap.size (fun _ => True) v3 (countsB F.length (F.flatten ++ R)) from by rw [← HFLT.out, ← HXS.out]; have h := HO.out; rw [this, List.take_of_length_le (Nat.le_refl _)] at h; exact h)
      go_wp2_with fail
      go_ret
      exact ⟨_, rfl, HO9.out, HB.out⟩

end Go.Proofs.Ytemgbakjlbdibaa.G
